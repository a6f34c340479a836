/- What the derivations' laws have in common, with the proof; printed by a program. -/
import Derived.Test.YtildbbihjaaloaaDoorProg
import Derived.Test.YtildbbihjaaloaaDoorEv4
import Derived.Test.YtildbbihjaaloaaDoorFnDer
import Derived.Test.YtildbbihjaaloaaDoorFnDerR
import Derived.Test.YtildbbihjaaloaaDoorFnRows
import Derived.Test.YtildbbihjaaloaaDoorFnNum
namespace Go.Proofs.YtildbbihjaaloaaDoor.fn
open Go Go.Proofs Go.Ev

/-! ### Tryd.f34: alive05 -/
namespace alive05
def an : Anns := ⟨fun i => findA i [], fun i => findA i [], false, fun _ => none, []⟩
noncomputable def g (mdInfo : dInfo.Ty) : Gi := giD Tryd.prog (gtL [(0, .err 1), (2, .err 3)]) (fun _ => an) 0 [] (ovL [(35, dInfo.con mdInfo)]) 1
noncomputable def m (mdInfo : dInfo.Ty) {R : Type} (_N : Nat) (kr0 : Bool → Option R) : Option R :=
  mdInfo R ([120]) (some true) [] 32
   (fun _v_c3 v_1_c4 v_2_c5 => cond (v_2_c5.beq 0)
    (kr0 (toStr v_1_c4 == [0, 32, 12, 102, 101, 108, 108, 111, 119, 115, 104, 105, 112, 32, 120, 0, 0]))
    (kr0 false))
theorem tree (mdInfo : dInfo.Ty) {R : Type} (N : Nat) (κ : AV → List Blk → Option R) : evF (g mdInfo) an N Tryd.f34 [] [] κ =
  mdInfo R ([120]) (some true) [] 32
   (fun _v_c3 v_1_c4 v_2_c5 => cond (v_2_c5.beq 0)
    (κ (AV.bool (toStr v_1_c4 == [0, 32, 12, 102, 101, 108, 108, 111, 119, 115, 104, 105, 112, 32, 120, 0, 0])) [])
    (κ (AV.bool false) [])) := by kernel_rfl
theorem eq (mdInfo : dInfo.Ty) {R : Type} (N : Nat) (κ : AV → List Blk → Option R) : evF (g mdInfo) an N Tryd.f34 [] [] κ =
  m mdInfo N (fun v => κ (AV.bool v) []) := by
  rw [tree]
  kernel_rfl
abbrev Ty : Type 1 := ∀ R : Type, (Bool → Option R) → Option R
def con (f : Ty) : Con := fun R args bs κ => match args, bs with
  | [], [] => f R (fun v => κ (AV.bool v) [])
  | _, _ => none
theorem con_eq (f : Ty) (R : Type) (κ : AV → List Blk → Option R) : con f R [] [] κ = f R (fun v => κ (AV.bool v) []) := rfl
noncomputable def M (N : Nat) : Ty := fun R kr0 => m (dInfo.M N) (R := R) N kr0
def gts : List (Nat × AV) := [(0, .err 1), (2, .err 3)]
theorem gok (N : Nat) : GOk (g (dInfo.M N)) := giD_ok hm (by intro p hp; cases hp) (gtL_ok (by decide)) (ovL_ok (by
    intro p hp
    simp only [List.mem_cons, List.not_mem_nil, or_false] at hp
    rcases hp with rfl
    · exact ⟨(dInfo.ok N).gt (gtL_sub (by repeat (first | exact subG_nil _ | refine subG_cons (by kernel_rfl) ?_))) (gtL_ok (by decide)), _, Tryd.func35, by kernel_rfl, by kernel_rfl⟩
)) 1
theorem ok (N : Nat) : SoundC Tryd.prog (gtL gts) 34 (con (M N)) := by
  refine SoundC.mono (evF_ok (gok N) hm an N Tryd.func34) fun R args bs κ r h => ?_
  unfold con at h
  split at h
  · exact (eq (dInfo.M N) N κ).trans h
  · cases h
end alive05

end Go.Proofs.YtildbbihjaaloaaDoor.fn
