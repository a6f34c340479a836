/- What slices.Concat computes, with the proof; printed by a program. -/
import Derived.Test.YtjaekdcbjfgcpaaDoorProg
import Derived.Test.YtjaekdcbjfgcpaaDoorEv4
import Derived.Test.YtjaekdcbjfgcpaaDoorFnWords
import Derived.Test.YtjaekdcbjfgcpaaDoorGrow
namespace Go.Proofs.YtjaekdcbjfgcpaaDoor.fn
open Go Go.Proofs Go.Ev

/-! ### Tryd.f32: Concat -/
namespace Concat
def an : Anns := ⟨fun i => findA i [(3, ⟨[0, 3, 9, 10, 11], [], 0, []⟩), (11, ⟨[6, 25, 26, 27], [⟨6, 0, T.int IntKind.u8, none⟩], 1, []⟩)], fun i => findA i [], true, fun _ => none, []⟩
noncomputable def g (mGrow : Grow.Ty) : Gi := giD Tryd.prog (gtL []) (fun _ => an) 0 [] (ovL [(47, Grow.con mGrow)]) 1
noncomputable def c_L3 : Code := loopOf Tryd.f32 0
noncomputable def c_L11 : Code := loopOf Tryd.f32 1
def s_L3 (slices0 : List (List Int)) (size3 : Int) (t9 : List (List Int)) (t10 : Int) (t11 : Int) : St := ⟨[AV.rsl IntKind.u8 slices0, AV.dead, AV.dead, AV.int IntKind.i64 size3] ++ List.replicate 5 .dead ++ [AV.rsl IntKind.u8 t9, AV.int IntKind.i64 t10, AV.int IntKind.i64 t11] ++ List.replicate 24 .dead, []⟩
def s_L11 (newslice6 : Option Nat) (t25 : List (List Int)) (t26 : Int) (t27 : Int) (h0 : Bool) (h0_5 : List Int) : St := ⟨List.replicate 6 .dead ++ [AV.own 0 [] 0 newslice6] ++ List.replicate 18 .dead ++ [AV.rsl IntKind.u8 t25, AV.int IntKind.i64 t26, AV.int IntKind.i64 t27] ++ List.replicate 8 .dead, [Blk.row IntKind.u8 h0 h0_5]⟩
def x_L3_0 (slices0 : List (List Int)) (size3 : Int) (t9 : List (List Int)) (t10 : Int) (t11 : Int) : St := ⟨[AV.rsl IntKind.u8 slices0, AV.dead, AV.dead, AV.int IntKind.i64 size3] ++ List.replicate 5 .dead ++ [AV.rsl IntKind.u8 t9, AV.int IntKind.i64 t10, AV.int IntKind.i64 t11, AV.bool (decide (t11 < t10))] ++ List.replicate 23 .dead, []⟩
def x_L11_0 (newslice6 : Option Nat) (t25 : List (List Int)) (t26 : Int) (t27 : Int) (h0 : Bool) (h0_5 : List Int) : St := ⟨List.replicate 6 .dead ++ [AV.own 0 [] 0 newslice6] ++ List.replicate 18 .dead ++ [AV.rsl IntKind.u8 t25, AV.int IntKind.i64 t26, AV.int IntKind.i64 t27, AV.bool (decide (t27 < t26))] ++ List.replicate 7 .dead, [Blk.row IntKind.u8 h0 h0_5]⟩
noncomputable def L3 (mGrow : Grow.Ty) {R : Type} (N : Nat) (ke0 : (List (List Int)) → Int → (List (List Int)) → Int → Int → Option R) : Nat → (List (List Int)) → Int → (List (List Int)) → Int → Int → Option R
  | 0, _, _, _, _, _ => none
  | m + 1, slices0, size3, t9, t10, t11 =>
    cond (decide (t11 < t10))
     (cond (decide (0 ≤ t11))
      (cond (decide (t11 < (↑t9.length : Int)))
       (cond (decide (IntKind.i64.wrap (size3 + (↑(t9.getD t11.toNat []).length : Int)) < 0))
        none
        (L3 mGrow N ke0 m slices0 (IntKind.i64.wrap (size3 + (↑(t9.getD t11.toNat []).length : Int))) t9 t10 (IntKind.i64.wrap (t11 + 1))))
       none)
      none)
     (ke0 slices0 size3 t9 t10 t11)
theorem round_L3 (mGrow : Grow.Ty) {R : Type} (N : Nat) (Rn : St → Option R) (k : K R) (slices0 : List (List Int)) (size3 : Int) (t9 : List (List Int)) (t10 : Int) (t11 : Int) : evC (g mGrow) an 0 N c_L3 none (roundK (nmOf 0 (an.loop 3)) Rn k) (s_L3 slices0 size3 t9 t10 t11) =
  cond (decide (t11 < t10))
   (cond (decide (0 ≤ t11))
    (cond (decide (t11 < (↑t9.length : Int)))
     (cond (decide (IntKind.i64.wrap (size3 + (↑(t9.getD t11.toNat []).length : Int)) < 0))
      none
      (Rn (s_L3 slices0 (IntKind.i64.wrap (size3 + (↑(t9.getD t11.toNat []).length : Int))) t9 t10 (IntKind.i64.wrap (t11 + 1)))))
     none)
    none)
   (k.ext 0 (x_L3_0 slices0 size3 t9 t10 t11)) := by kernel_rfl
theorem run_L3 (mGrow : Grow.Ty) {R : Type} (N : Nat) (k : K R) : ∀ (m : Nat) (slices0 : List (List Int)) (size3 : Int) (t9 : List (List Int)) (t10 : Int) (t11 : Int), loopN (evC (g mGrow) an 0 N c_L3 none) k (nmOf 0 (an.loop 3)) m (s_L3 slices0 size3 t9 t10 t11) =
    L3 mGrow N (fun slices0 size3 t9 t10 t11 => (k).ext 0 (x_L3_0 slices0 size3 t9 t10 t11)) m slices0 size3 t9 t10 t11 := by
  intro m
  induction m with
  | zero => intros; rfl
  | succ m ih =>
    intros
    rw [loopN_succ, round_L3]
    simp only [ih]
    kernel_rfl
noncomputable def L11 (mGrow : Grow.Ty) {R : Type} (N : Nat) (ke0 : (Option Nat) → (List (List Int)) → Int → Int → Bool → (List Int) → Option R) : Nat → (Option Nat) → (List (List Int)) → Int → Int → Bool → (List Int) → Option R
  | 0, _, _, _, _, _, _ => none
  | m + 1, newslice6, t25, t26, t27, h0, h0_5 =>
    cond (decide (t27 < t26))
     (cond (decide (0 ≤ t27))
      (cond (decide (t27 < (↑t25.length : Int)))
       (cond (decide (((cut newslice6 0 h0_5).length + (t25.getD t27.toNat []).length) * 1 ≤ 140737488355328))
        (cond (decide ((cut newslice6 0 h0_5).length + (t25.getD t27.toNat []).length ≤ 140737488355328))
         (L11 mGrow N ke0 m none t25 t26 (IntKind.i64.wrap (t27 + 1)) ((t25.getD t27.toNat []).isEmpty && h0) (cut newslice6 0 h0_5 ++ t25.getD t27.toNat []))
         none)
        none)
       none)
      none)
     (ke0 newslice6 t25 t26 t27 h0 h0_5)
theorem round_L11 (mGrow : Grow.Ty) {R : Type} (N : Nat) (Rn : St → Option R) (k : K R) (newslice6 : Option Nat) (t25 : List (List Int)) (t26 : Int) (t27 : Int) (h0 : Bool) (h0_5 : List Int) : evC (g mGrow) an 0 N c_L11 none (roundK (nmOf 0 (an.loop 11)) Rn k) (s_L11 newslice6 t25 t26 t27 h0 h0_5) =
  cond (decide (t27 < t26))
   (cond (decide (0 ≤ t27))
    (cond (decide (t27 < (↑t25.length : Int)))
     (cond (decide (((cut newslice6 0 h0_5).length + (t25.getD t27.toNat []).length) * 1 ≤ 140737488355328))
      (cond (decide ((cut newslice6 0 h0_5).length + (t25.getD t27.toNat []).length ≤ 140737488355328))
       (Rn (s_L11 none t25 t26 (IntKind.i64.wrap (t27 + 1)) ((t25.getD t27.toNat []).isEmpty && h0) (cut newslice6 0 h0_5 ++ t25.getD t27.toNat [])))
       none)
      none)
     none)
    none)
   (k.ext 2 (x_L11_0 newslice6 t25 t26 t27 h0 h0_5)) := by kernel_rfl
theorem run_L11 (mGrow : Grow.Ty) {R : Type} (N : Nat) (k : K R) : ∀ (m : Nat) (newslice6 : Option Nat) (t25 : List (List Int)) (t26 : Int) (t27 : Int) (h0 : Bool) (h0_5 : List Int), loopN (evC (g mGrow) an 0 N c_L11 none) k (nmOf 0 (an.loop 11)) m (s_L11 newslice6 t25 t26 t27 h0 h0_5) =
    L11 mGrow N (fun newslice6 t25 t26 t27 h0 h0_5 => (k).ext 2 (x_L11_0 newslice6 t25 t26 t27 h0 h0_5)) m newslice6 t25 t26 t27 h0 h0_5 := by
  intro m
  induction m with
  | zero => intros; rfl
  | succ m ih =>
    intros
    rw [loopN_succ, round_L11]
    simp only [ih]
    kernel_rfl
noncomputable def m (mGrow : Grow.Ty) {R : Type} (N : Nat) (slices1 : List (List Int)) (kr0 : (Option Nat) → Bool → (List Int) → Option R) : Option R :=
  L3 mGrow N
   (fun slices0_c36 size3_c37 _t9_c38 _t10_c39 _t11_c40 => mGrow R size3_c37
    (L11 mGrow N
     (fun newslice6_c41 _t25_c42 _t26_c43 _t27_c44 h0_c45 h0_5_c46 => kr0 newslice6_c41 h0_c45 h0_5_c46) N none slices0_c36 ((↑slices0_c36.length : Int)) 0 true [])
    (L11 mGrow N
     (fun newslice6_c47 _t25_c48 _t26_c49 _t27_c50 h0_c51 h0_5_c52 => kr0 newslice6_c47 h0_c51 h0_5_c52) N (some 0) slices0_c36 ((↑slices0_c36.length : Int)) 0 false (List.replicate size3_c37.toNat (0 : Int)))) N slices1 0 slices1 ((↑slices1.length : Int)) 0
theorem tree (mGrow : Grow.Ty) {R : Type} (N : Nat) (κ : AV → List Blk → Option R) (slices1 : List (List Int)) : evF (g mGrow) an N Tryd.f32 [AV.rsl IntKind.u8 slices1] [] κ =
  loopN (evC (g mGrow) an 0 N c_L3 none) (ctx (g mGrow) an 0 N (bodyOf Tryd.f32) [1, 1, 0, 1, 0] (endK (g mGrow) an Tryd.f32 [] κ)) (nmOf 0 (an.loop 3)) N (s_L3 slices1 0 slices1 ((↑slices1.length : Int)) 0) := by kernel_rfl
theorem tree_e0 (mGrow : Grow.Ty) {R : Type} (N : Nat) (κ : AV → List Blk → Option R) (slices0_c36 : List (List Int)) (size3_c37 : Int) (t9_c38 : List (List Int)) (t10_c39 : Int) (t11_c40 : Int) : (ctx (g mGrow) an 0 N (bodyOf Tryd.f32) [1, 1, 0, 1, 0] (endK (g mGrow) an Tryd.f32 [] κ)).ext 0 (x_L3_0 slices0_c36 size3_c37 t9_c38 t10_c39 t11_c40) =
  mGrow R size3_c37
   (loopN (evC (g mGrow) an 0 N c_L11 none) (ctx (g mGrow) an 0 N (bodyOf Tryd.f32) [1, 1, 1, 1, 0, 1, 0] (endK (g mGrow) an Tryd.f32 [] κ)) (nmOf 0 (an.loop 11)) N (s_L11 none slices0_c36 ((↑slices0_c36.length : Int)) 0 true []))
   (loopN (evC (g mGrow) an 0 N c_L11 none) (ctx (g mGrow) an 0 N (bodyOf Tryd.f32) [1, 1, 1, 1, 0, 1, 0] (endK (g mGrow) an Tryd.f32 [] κ)) (nmOf 0 (an.loop 11)) N (s_L11 (some 0) slices0_c36 ((↑slices0_c36.length : Int)) 0 false (List.replicate size3_c37.toNat (0 : Int)))) := by kernel_rfl
theorem eq (mGrow : Grow.Ty) {R : Type} (N : Nat) (κ : AV → List Blk → Option R) (slices1 : List (List Int)) : evF (g mGrow) an N Tryd.f32 [AV.rsl IntKind.u8 slices1] [] κ =
  m mGrow N slices1 (fun v b b_2 => κ (AV.own 0 [] 0 v) ([Blk.row IntKind.u8 b b_2])) := by
  rw [tree]
  simp only [run_L3, run_L11, tree_e0]
  kernel_rfl
abbrev Ty : Type 1 := ∀ R : Type, (List (List Int)) → ((Option Nat) → Bool → (List Int) → Option R) → Option R
def con (f : Ty) : Con := fun R args bs κ => match args, bs with
  | [AV.rsl IntKind.u8 slices1], [] => f R slices1 (fun v b b_2 => κ (AV.own 0 [] 0 v) ([Blk.row IntKind.u8 b b_2]))
  | _, _ => none
theorem con_eq (f : Ty) (R : Type) (κ : AV → List Blk → Option R) (slices1 : List (List Int)) : con f R [AV.rsl IntKind.u8 slices1] [] κ = f R slices1 (fun v b b_2 => κ (AV.own 0 [] 0 v) ([Blk.row IntKind.u8 b b_2])) := rfl
noncomputable def M (N : Nat) : Ty := fun R slices1 kr0 => m (Grow.M N) (R := R) N slices1 kr0
def gts : List (Nat × AV) := []
theorem gok (N : Nat) : GOk (g (Grow.M N)) := giD_ok hm (by intro p hp; cases hp) (gtL_ok (by decide)) (ovL_ok (by
    intro p hp
    simp only [List.mem_cons, List.not_mem_nil, or_false] at hp
    rcases hp with rfl
    · exact ⟨(Grow.ok N).gt (gtL_sub (by repeat (first | exact subG_nil _ | refine subG_cons (by kernel_rfl) ?_))) (gtL_ok (by decide)), _, Tryd.func47, by kernel_rfl, by kernel_rfl⟩
)) 1
theorem ok (N : Nat) : SoundC Tryd.prog (gtL gts) 32 (con (M N)) := by
  refine SoundC.mono (evF_ok (gok N) hm an N Tryd.func32) fun R args bs κ r h => ?_
  unfold con at h
  split at h
  · exact (eq (Grow.M N) N κ _).trans h
  · cases h
end Concat

end Go.Proofs.YtjaekdcbjfgcpaaDoor.fn
