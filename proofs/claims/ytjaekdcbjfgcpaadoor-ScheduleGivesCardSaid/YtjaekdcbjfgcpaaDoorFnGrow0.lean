/- What slices.Grow computes on nil, with the proof; printed by a program. -/
import Derived.Test.YtjaekdcbjfgcpaaDoorProg
import Derived.Test.YtjaekdcbjfgcpaaDoorEv4
import Derived.Test.YtjaekdcbjfgcpaaDoorFnWords
namespace Go.Proofs.YtjaekdcbjfgcpaaDoor.fn
open Go Go.Proofs Go.Ev

/-! ### Tryd.f47: Grow0 -/
namespace Grow0
def an : Anns := ⟨fun i => findA i [], fun i => findA i [], true, fun _ => none, []⟩
noncomputable def g : Gi := giD Tryd.prog (gtL []) (fun _ => an) 0 [] (ovL []) 1
noncomputable def m {R : Type} (_N : Nat) (n : Int) (kr0 : Bool → (List Int) → Option R) (kr1 : Option R) : Option R :=
  cond (decide (n < 0))
   none
   (cond (decide (IntKind.i64.wrap (n - 0) > 0))
    (cond (decide (0 ≤ IntKind.i64.wrap (IntKind.i64.wrap (n - 0))))
     (cond (decide ((List.replicate (IntKind.i64.wrap (IntKind.i64.wrap (n - 0))).toNat (0 : Int)).length * 1 ≤ 140737488355328))
      (cond (decide ((List.replicate (IntKind.i64.wrap (IntKind.i64.wrap (n - 0))).toNat (0 : Int)).length ≤ 140737488355328))
       (kr0 ((List.replicate (IntKind.i64.wrap (IntKind.i64.wrap (n - 0))).toNat (0 : Int)).isEmpty) (List.replicate (IntKind.i64.wrap (IntKind.i64.wrap (n - 0))).toNat (0 : Int)))
       none)
      none)
     none)
    kr1)
theorem tree {R : Type} (N : Nat) (κ : AV → List Blk → Option R) (n : Int) : evF g an N Tryd.f47 [AV.nils, AV.int IntKind.i64 n] [] κ =
  cond (decide (n < 0))
   none
   (cond (decide (IntKind.i64.wrap (n - 0) > 0))
    (cond (decide (0 ≤ IntKind.i64.wrap (IntKind.i64.wrap (n - 0))))
     (cond (decide ((List.replicate (IntKind.i64.wrap (IntKind.i64.wrap (n - 0))).toNat (0 : Int)).length * 1 ≤ 140737488355328))
      (cond (decide ((List.replicate (IntKind.i64.wrap (IntKind.i64.wrap (n - 0))).toNat (0 : Int)).length ≤ 140737488355328))
       (κ (AV.own 0 [] 0 (some 0)) ([Blk.row IntKind.u8 (List.replicate (IntKind.i64.wrap (IntKind.i64.wrap (n - 0))).toNat (0 : Int)).isEmpty (List.replicate (IntKind.i64.wrap (IntKind.i64.wrap (n - 0))).toNat (0 : Int))]))
       none)
      none)
     none)
    (κ AV.nils [])) := by kernel_rfl
theorem eq {R : Type} (N : Nat) (κ : AV → List Blk → Option R) (n : Int) : evF g an N Tryd.f47 [AV.nils, AV.int IntKind.i64 n] [] κ =
  m N n (fun b b_1 => κ (AV.own 0 [] 0 (some 0)) ([Blk.row IntKind.u8 b b_1])) (κ AV.nils []) := by
  rw [tree]
  kernel_rfl
abbrev Ty : Type 1 := ∀ R : Type, Int → (Bool → (List Int) → Option R) → Option R → Option R
def con (f : Ty) : Con := fun R args bs κ => match args, bs with
  | [AV.nils, AV.int IntKind.i64 n], [] => f R n (fun b b_1 => κ (AV.own 0 [] 0 (some 0)) ([Blk.row IntKind.u8 b b_1])) (κ AV.nils [])
  | _, _ => none
theorem con_eq (f : Ty) (R : Type) (κ : AV → List Blk → Option R) (n : Int) : con f R [AV.nils, AV.int IntKind.i64 n] [] κ = f R n (fun b b_1 => κ (AV.own 0 [] 0 (some 0)) ([Blk.row IntKind.u8 b b_1])) (κ AV.nils []) := rfl
noncomputable def M (N : Nat) : Ty := fun R n kr0 kr1 => m (R := R) N n kr0 kr1
def gts : List (Nat × AV) := []
theorem gok (_N : Nat) : GOk g := giD_ok hm (by intro p hp; cases hp) (gtL_ok (by decide)) (ovL_ok (by intro p hp; cases hp)) 1
theorem ok (N : Nat) : SoundC Tryd.prog (gtL gts) 47 (con (M N)) := by
  refine SoundC.mono (evF_ok (gok N) hm an N Tryd.func47) fun R args bs κ r h => ?_
  unfold con at h
  split at h
  · exact (eq N κ _).trans h
  · cases h
end Grow0

end Go.Proofs.YtjaekdcbjfgcpaaDoor.fn
