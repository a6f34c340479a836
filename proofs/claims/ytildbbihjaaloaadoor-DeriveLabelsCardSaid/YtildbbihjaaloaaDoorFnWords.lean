/- What the words' functions compute, with the proof; printed by a program. -/
import Derived.Test.YtildbbihjaaloaaDoorProg
import Derived.Test.YtildbbihjaaloaaDoorEv4
namespace Go.Proofs.YtildbbihjaaloaaDoor.fn
open Go Go.Proofs Go.Ev

theorem hm : Tryd.prog.follows .mixedOrders = true := by kernel_rfl

/-! ### Tryd.f62: Right -/
namespace Right
def an : Anns := ⟨fun i => findA i [], fun i => findA i [], false, fun _ => none, []⟩
noncomputable def g : Gi := giD Tryd.prog (gtL []) (fun _ => an) 0 [] (ovL []) 1
noncomputable def m {R : Type} (_N : Nat) (x1 : Int) (n2 : Int) (kr0 : Int → Option R) : Option R :=
  kr0 (ior IntKind.u32 (ishr IntKind.u32 x1 ((IntKind.u64.wrap n2).tmod 32)) (ishl IntKind.u32 x1 (IntKind.u64.wrap (32 - (IntKind.u64.wrap n2).tmod 32))))
theorem tree {R : Type} (N : Nat) (κ : AV → List Blk → Option R) (x1 : Int) (n2 : Int) : evF (g) an N Tryd.f62 [AV.int IntKind.u32 x1, AV.int IntKind.i64 n2] [] κ =
  κ (AV.int IntKind.u32 (ior IntKind.u32 (ishr IntKind.u32 x1 ((IntKind.u64.wrap n2).tmod 32)) (ishl IntKind.u32 x1 (IntKind.u64.wrap (32 - (IntKind.u64.wrap n2).tmod 32))))) [] := by kernel_rfl
theorem eq {R : Type} (N : Nat) (κ : AV → List Blk → Option R) (x1 : Int) (n2 : Int) : evF (g) an N Tryd.f62 [AV.int IntKind.u32 x1, AV.int IntKind.i64 n2] [] κ =
  m N x1 n2 (fun v => κ (AV.int IntKind.u32 v) []) := by
  rw [tree]
  kernel_rfl
abbrev Ty : Type 1 := ∀ R : Type, Int → Int → (Int → Option R) → Option R
def con (f : Ty) : Con := fun R args bs κ => match args, bs with
  | [AV.int IntKind.u32 x1, AV.int IntKind.i64 n2], [] => f R x1 n2 (fun v => κ (AV.int IntKind.u32 v) [])
  | _, _ => none
theorem con_eq (f : Ty) (R : Type) (κ : AV → List Blk → Option R) (x1 : Int) (n2 : Int) : con f R [AV.int IntKind.u32 x1, AV.int IntKind.i64 n2] [] κ = f R x1 n2 (fun v => κ (AV.int IntKind.u32 v) []) := rfl
noncomputable def M (N : Nat) : Ty := fun R x1 n2 kr0 => m (R := R) N x1 n2 kr0
def gts : List (Nat × AV) := []
theorem gok (_N : Nat) : GOk (g) := giD_ok hm (by intro p hp; cases hp) (gtL_ok (by decide)) (ovL_ok (by intro p hp; cases hp)) 1
theorem ok (N : Nat) : SoundC Tryd.prog (gtL gts) 62 (con (M N)) := by
  refine SoundC.mono (evF_ok (gok N) hm an N Tryd.func62) fun R args bs κ r h => ?_
  unfold con at h
  split at h
  · exact (eq N κ _ _).trans h
  · cases h
end Right


/-! ### Tryd.f59: wEqual -/
namespace wEqual
def an : Anns := ⟨fun i => findA i [(5, ⟨[0, 1, 5, 13, 14], [], 0, []⟩)], fun i => findA i [], false, fun _ => none, []⟩
noncomputable def g : Gi := giD Tryd.prog (gtL []) (fun _ => an) 0 [] (ovL []) 1
noncomputable def c_L5 : Code := loopOf Tryd.f59 0
def s_L5 (a0 : Option Bool) (a0_1 : List Int) (b1 : Option Bool) (b1_3 : List Int) (parts5 : Int) (t13 : Int) (t14 : Int) : St := ⟨[AV.isl IntKind.u8 a0 a0_1, AV.isl IntKind.u8 b1 b1_3, AV.dead, AV.dead, AV.dead, AV.int IntKind.u8 parts5] ++ List.replicate 7 .dead ++ [AV.int IntKind.i64 t13, AV.int IntKind.i64 t14] ++ List.replicate 16 .dead, []⟩
def x_L5_0 (a0 : Option Bool) (a0_1 : List Int) (b1 : Option Bool) (b1_3 : List Int) (parts5 : Int) (t13 : Int) (t14 : Int) : St := ⟨[AV.isl IntKind.u8 a0 a0_1, AV.isl IntKind.u8 b1 b1_3, AV.dead, AV.dead, AV.dead, AV.int IntKind.u8 parts5] ++ List.replicate 7 .dead ++ [AV.int IntKind.i64 t13, AV.int IntKind.i64 t14, AV.bool (decide (t14 < t13))] ++ List.replicate 15 .dead, []⟩
noncomputable def L5 {R : Type} (N : Nat) (ke0 : (Option Bool) → (List Int) → (Option Bool) → (List Int) → Int → Int → Int → Option R) : Nat → (Option Bool) → (List Int) → (Option Bool) → (List Int) → Int → Int → Int → Option R
  | 0, _, _, _, _, _, _, _ => none
  | m + 1, a0, a0_1, b1, b1_3, parts5, t13, t14 =>
    cond (decide (t14 < t13))
     (cond (decide (0 ≤ t14))
      (cond (decide (t14 < (↑a0_1.length : Int)))
       (cond (decide (0 ≤ t14))
        (cond (decide (t14 < (↑b1_3.length : Int)))
         (L5 N ke0 m a0 a0_1 b1 b1_3 (ior IntKind.u8 parts5 (ixor IntKind.u8 (a0_1.getD t14.toNat 0) (b1_3.getD t14.toNat 0))) t13 (IntKind.i64.wrap (t14 + 1)))
         (none))
        (none))
       (none))
      (none))
     (ke0 a0 a0_1 b1 b1_3 parts5 t13 t14)
theorem round_L5 {R : Type} (N : Nat) (Rn : St → Option R) (k : K R) (a0 : Option Bool) (a0_1 : List Int) (b1 : Option Bool) (b1_3 : List Int) (parts5 : Int) (t13 : Int) (t14 : Int) : evC (g) an 0 N c_L5 none (roundK (nmOf 0 (an.loop 5)) Rn k) (s_L5 a0 a0_1 b1 b1_3 parts5 t13 t14) =
  cond (decide (t14 < t13))
   (cond (decide (0 ≤ t14))
    (cond (decide (t14 < (↑a0_1.length : Int)))
     (cond (decide (0 ≤ t14))
      (cond (decide (t14 < (↑b1_3.length : Int)))
       (Rn (s_L5 a0 a0_1 b1 b1_3 (ior IntKind.u8 parts5 (ixor IntKind.u8 (a0_1.getD t14.toNat 0) (b1_3.getD t14.toNat 0))) t13 (IntKind.i64.wrap (t14 + 1))))
       (none))
      (none))
     (none))
    (none))
   (k.ext 0 (x_L5_0 a0 a0_1 b1 b1_3 parts5 t13 t14)) := by kernel_rfl
theorem run_L5 {R : Type} (N : Nat) (k : K R) : ∀ (m : Nat) (a0 : Option Bool) (a0_1 : List Int) (b1 : Option Bool) (b1_3 : List Int) (parts5 : Int) (t13 : Int) (t14 : Int), loopN (evC (g) an 0 N c_L5 none) k (nmOf 0 (an.loop 5)) m (s_L5 a0 a0_1 b1 b1_3 parts5 t13 t14) =
    L5 N (fun a0 a0_1 b1 b1_3 parts5 t13 t14 => (k).ext 0 (x_L5_0 a0 a0_1 b1 b1_3 parts5 t13 t14)) m a0 a0_1 b1 b1_3 parts5 t13 t14 := by
  intro m
  induction m with
  | zero => intros; rfl
  | succ m ih =>
    intros
    rw [loopN_succ, round_L5]
    simp only [ih]
    kernel_rfl
noncomputable def m {R : Type} (N : Nat) (aN1 : Option Bool) (a2 : List Int) (bN3 : Option Bool) (b4 : List Int) (kr0 : Bool → Option R) : Option R :=
  cond ((↑a2.length : Int) != (↑b4.length : Int))
   (kr0 false)
   (L5 N
    (fun _a0_c7 _a0_1_c8 _b1_c9 _b1_3_c10 parts5_c11 _t13_c12 _t14_c13 => kr0 (parts5_c11 == 0)) N aN1 a2 bN3 b4 0 ((↑a2.length : Int)) 0)
theorem tree {R : Type} (N : Nat) (κ : AV → List Blk → Option R) (aN1 : Option Bool) (a2 : List Int) (bN3 : Option Bool) (b4 : List Int) : evF (g) an N Tryd.f59 [AV.isl IntKind.u8 aN1 a2, AV.isl IntKind.u8 bN3 b4] [] κ =
  cond ((↑a2.length : Int) != (↑b4.length : Int))
   (κ (AV.bool false) [])
   (loopN (evC (g) an 0 N c_L5 none) (ctx (g) an 0 N (bodyOf Tryd.f59) [1, 1, 1, 0, 1, 0] (endK (g) an Tryd.f59 [] κ)) (nmOf 0 (an.loop 5)) N (s_L5 aN1 a2 bN3 b4 0 ((↑a2.length : Int)) 0)) := by kernel_rfl
theorem eq {R : Type} (N : Nat) (κ : AV → List Blk → Option R) (aN1 : Option Bool) (a2 : List Int) (bN3 : Option Bool) (b4 : List Int) : evF (g) an N Tryd.f59 [AV.isl IntKind.u8 aN1 a2, AV.isl IntKind.u8 bN3 b4] [] κ =
  m N aN1 a2 bN3 b4 (fun v => κ (AV.bool v) []) := by
  rw [tree]
  simp only [run_L5]
  kernel_rfl
abbrev Ty : Type 1 := ∀ R : Type, (Option Bool) → (List Int) → (Option Bool) → (List Int) → (Bool → Option R) → Option R
def con (f : Ty) : Con := fun R args bs κ => match args, bs with
  | [AV.isl IntKind.u8 aN1 a2, AV.isl IntKind.u8 bN3 b4], [] => f R aN1 a2 bN3 b4 (fun v => κ (AV.bool v) [])
  | _, _ => none
theorem con_eq (f : Ty) (R : Type) (κ : AV → List Blk → Option R) (aN1 : Option Bool) (a2 : List Int) (bN3 : Option Bool) (b4 : List Int) : con f R [AV.isl IntKind.u8 aN1 a2, AV.isl IntKind.u8 bN3 b4] [] κ = f R aN1 a2 bN3 b4 (fun v => κ (AV.bool v) []) := rfl
noncomputable def M (N : Nat) : Ty := fun R aN1 a2 bN3 b4 kr0 => m (R := R) N aN1 a2 bN3 b4 kr0
def gts : List (Nat × AV) := []
theorem gok (_N : Nat) : GOk (g) := giD_ok hm (by intro p hp; cases hp) (gtL_ok (by decide)) (ovL_ok (by intro p hp; cases hp)) 1
theorem ok (N : Nat) : SoundC Tryd.prog (gtL gts) 59 (con (M N)) := by
  refine SoundC.mono (evF_ok (gok N) hm an N Tryd.func59) fun R args bs κ r h => ?_
  unfold con at h
  split at h
  · exact (eq N κ _ _ _ _).trans h
  · cases h
end wEqual

end Go.Proofs.YtildbbihjaaloaaDoor.fn
