/- What the digests' functions compute, with the proof; printed by a program. -/
import Derived.Test.YthajoenmfppenaaDoorProg
import Derived.Test.YthajoenmfppenaaDoorEv4
import Derived.Test.YthajoenmfppenaaDoorFnBytes
import Derived.Test.YthajoenmfppenaaDoorClone
namespace Go.Proofs.YthajoenmfppenaaDoor.fn
open Go Go.Proofs Go.Ev
/-! ### Tryd.f105: sbegin -/
namespace sbegin
def an : Anns := ⟨fun i => findA i [], fun i => findA i [], false, fun _ => none, []⟩
noncomputable def g : Gi := giD Tryd.prog (gtL []) (fun _ => an) 0 [] (ovL []) 1
noncomputable def m {R : Type} (_N : Nat) (kr0 : Option R) : Option R :=
  kr0
theorem tree {R : Type} (N : Nat) (κ : AV → List Blk → Option R) : evF g an N Tryd.f105 [] [] κ =
  κ (AV.ints IntKind.u32 8 [1779033703, 3144134277, 1013904242, 2773480762, 1359893119, 2600822924, 528734635, 1541459225]) [] := by kernel_rfl
theorem eq {R : Type} (N : Nat) (κ : AV → List Blk → Option R) : evF g an N Tryd.f105 [] [] κ =
  m N (κ (AV.ints IntKind.u32 8 [1779033703, 3144134277, 1013904242, 2773480762, 1359893119, 2600822924, 528734635, 1541459225]) []) := by
  rw [tree]
  kernel_rfl
abbrev Ty : Type 1 := ∀ R : Type, Option R → Option R
def con (f : Ty) : Con := fun R args bs κ => match args, bs with
  | [], [] => f R (κ (AV.ints IntKind.u32 8 [1779033703, 3144134277, 1013904242, 2773480762, 1359893119, 2600822924, 528734635, 1541459225]) [])
  | _, _ => none
theorem con_eq (f : Ty) (R : Type) (κ : AV → List Blk → Option R) : con f R [] [] κ = f R (κ (AV.ints IntKind.u32 8 [1779033703, 3144134277, 1013904242, 2773480762, 1359893119, 2600822924, 528734635, 1541459225]) []) := rfl
noncomputable def M (N : Nat) : Ty := fun R kr0 => m (R := R) N kr0
def gts : List (Nat × AV) := []
theorem gok (_N : Nat) : GOk g := giD_ok hm (by intro p hp; cases hp) (gtL_ok (by decide)) (ovL_ok (by intro p hp; cases hp)) 1
theorem ok (N : Nat) : SoundC Tryd.prog (gtL gts) 105 (con (M N)) := by
  refine SoundC.mono (evF_ok (gok N) hm an N Tryd.func105) fun R args bs κ r h => ?_
  unfold con at h
  split at h
  · exact (eq N κ).trans h
  · cases h
end sbegin

/-! ### Tryd.f116: schedule -/
namespace schedule
def an : Anns := ⟨fun i => findA i [(3, ⟨[0, 2, 3, 10], [⟨2, 0, T.int IntKind.u8, none⟩, ⟨3, 1, T.int IntKind.u8, none⟩], 2, []⟩), (8, ⟨[2, 3, 5], [⟨2, 0, T.int IntKind.u8, none⟩, ⟨3, 1, T.int IntKind.u8, none⟩], 2, []⟩)], fun i => findA i [], false, fun _ => none, []⟩
noncomputable def g (mRight : Right.Ty) : Gi := giD Tryd.prog (gtL []) (fun _ => an) 0 [] (ovL [(117, Right.con mRight)]) 1
noncomputable def c_L3 : Code := loopOf Tryd.f116 0
noncomputable def c_L8 : Code := loopOf Tryd.f116 1
def s_L3 (b0 : Option Bool) (b0_1 : List Int) (t10 : Int) (h1 : List Int) : St := ⟨[AV.isl IntKind.u8 b0 b0_1, AV.dead, AV.ptr 0 [], AV.ptr 1 []] ++ List.replicate 6 .dead ++ [AV.int IntKind.i64 t10] ++ List.replicate 82 .dead, [Blk.var (AV.ints IntKind.u32 64 [0, 0, 0, 0, 0, 0, 0, 0, 0, 0, 0, 0, 0, 0, 0, 0, 0, 0, 0, 0, 0, 0, 0, 0, 0, 0, 0, 0, 0, 0, 0, 0, 0, 0, 0, 0, 0, 0, 0, 0, 0, 0, 0, 0, 0, 0, 0, 0, 0, 0, 0, 0, 0, 0, 0, 0, 0, 0, 0, 0, 0, 0, 0, 0]), Blk.var (AV.ints IntKind.u32 64 h1)]⟩
def s_L8 (i5 : Int) (h1v1 : List Int) : St := ⟨[AV.dead, AV.dead, AV.ptr 0 [], AV.ptr 1 [], AV.dead, AV.int IntKind.i64 i5] ++ List.replicate 87 .dead, [Blk.var (AV.ints IntKind.u32 64 [0, 0, 0, 0, 0, 0, 0, 0, 0, 0, 0, 0, 0, 0, 0, 0, 0, 0, 0, 0, 0, 0, 0, 0, 0, 0, 0, 0, 0, 0, 0, 0, 0, 0, 0, 0, 0, 0, 0, 0, 0, 0, 0, 0, 0, 0, 0, 0, 0, 0, 0, 0, 0, 0, 0, 0, 0, 0, 0, 0, 0, 0, 0, 0]), Blk.var (AV.ints IntKind.u32 64 h1v1)]⟩
def x_L3_0 (b0 : Option Bool) (b0_1 : List Int) (t10 : Int) (h1 : List Int) : St := ⟨[AV.isl IntKind.u8 b0 b0_1, AV.dead, AV.ptr 0 [], AV.ptr 1 []] ++ List.replicate 6 .dead ++ [AV.int IntKind.i64 t10, AV.bool (decide (t10 < 16))] ++ List.replicate 81 .dead, [Blk.var (AV.ints IntKind.u32 64 [0, 0, 0, 0, 0, 0, 0, 0, 0, 0, 0, 0, 0, 0, 0, 0, 0, 0, 0, 0, 0, 0, 0, 0, 0, 0, 0, 0, 0, 0, 0, 0, 0, 0, 0, 0, 0, 0, 0, 0, 0, 0, 0, 0, 0, 0, 0, 0, 0, 0, 0, 0, 0, 0, 0, 0, 0, 0, 0, 0, 0, 0, 0, 0]), Blk.var (AV.ints IntKind.u32 64 h1)]⟩
def x_L8_0 (i5 : Int) (h1v1 : List Int) : St := ⟨[AV.dead, AV.dead, AV.ptr 0 [], AV.ptr 1 [], AV.dead, AV.int IntKind.i64 i5] ++ List.replicate 43 .dead ++ [AV.int IntKind.i64 i5, AV.bool (decide (i5 < 64))] ++ List.replicate 42 .dead, [Blk.var (AV.ints IntKind.u32 64 [0, 0, 0, 0, 0, 0, 0, 0, 0, 0, 0, 0, 0, 0, 0, 0, 0, 0, 0, 0, 0, 0, 0, 0, 0, 0, 0, 0, 0, 0, 0, 0, 0, 0, 0, 0, 0, 0, 0, 0, 0, 0, 0, 0, 0, 0, 0, 0, 0, 0, 0, 0, 0, 0, 0, 0, 0, 0, 0, 0, 0, 0, 0, 0]), Blk.var (AV.ints IntKind.u32 64 h1v1)]⟩
noncomputable def L3 (mRight : Right.Ty) {R : Type} (N : Nat) (ke0 : (Option Bool) → (List Int) → Int → (List Int) → Option R) : Nat → (Option Bool) → (List Int) → Int → (List Int) → Option R
  | 0, _, _, _, _ => none
  | m + 1, b0, b0_1, t10, h1 =>
    cond (decide (t10 < 16))
     (cond (decide (0 ≤ IntKind.i64.wrap (4 * t10)))
      (cond (decide (IntKind.i64.wrap (4 * t10) < (↑b0_1.length : Int)))
       (cond (decide (0 ≤ IntKind.i64.wrap (IntKind.i64.wrap (4 * t10) + 1)))
        (cond (decide (IntKind.i64.wrap (IntKind.i64.wrap (4 * t10) + 1) < (↑b0_1.length : Int)))
         (cond (decide (0 ≤ IntKind.i64.wrap (IntKind.i64.wrap (4 * t10) + 2)))
          (cond (decide (IntKind.i64.wrap (IntKind.i64.wrap (4 * t10) + 2) < (↑b0_1.length : Int)))
           (cond (decide (0 ≤ IntKind.i64.wrap (IntKind.i64.wrap (4 * t10) + 3)))
            (cond (decide (IntKind.i64.wrap (IntKind.i64.wrap (4 * t10) + 3) < (↑b0_1.length : Int)))
             (cond (decide (0 ≤ t10))
              (cond (decide (t10 < 64))
               (L3 mRight N ke0 m b0 b0_1 (IntKind.i64.wrap (t10 + 1)) (h1.set t10.toNat (ior IntKind.u32 (ior IntKind.u32 (ior IntKind.u32 (ishl IntKind.u32 (IntKind.u32.wrap (b0_1.getD (IntKind.i64.wrap (4 * t10)).toNat 0)) 24) (ishl IntKind.u32 (IntKind.u32.wrap (b0_1.getD (IntKind.i64.wrap (IntKind.i64.wrap (4 * t10) + 1)).toNat 0)) 16)) (ishl IntKind.u32 (IntKind.u32.wrap (b0_1.getD (IntKind.i64.wrap (IntKind.i64.wrap (4 * t10) + 2)).toNat 0)) 8)) (IntKind.u32.wrap (b0_1.getD (IntKind.i64.wrap (IntKind.i64.wrap (4 * t10) + 3)).toNat 0)))))
               none)
              none)
             none)
            none)
           none)
          none)
         none)
        none)
       none)
      none)
     (ke0 b0 b0_1 t10 h1)
theorem round_L3 (mRight : Right.Ty) {R : Type} (N : Nat) (Rn : St → Option R) (k : K R) (b0 : Option Bool) (b0_1 : List Int) (t10 : Int) (h1 : List Int) : evC (g mRight) an 0 N c_L3 none (roundK (nmOf 0 (an.loop 3)) Rn k) (s_L3 b0 b0_1 t10 h1) =
  cond (decide (t10 < 16))
   (cond (decide (0 ≤ IntKind.i64.wrap (4 * t10)))
    (cond (decide (IntKind.i64.wrap (4 * t10) < (↑b0_1.length : Int)))
     (cond (decide (0 ≤ IntKind.i64.wrap (IntKind.i64.wrap (4 * t10) + 1)))
      (cond (decide (IntKind.i64.wrap (IntKind.i64.wrap (4 * t10) + 1) < (↑b0_1.length : Int)))
       (cond (decide (0 ≤ IntKind.i64.wrap (IntKind.i64.wrap (4 * t10) + 2)))
        (cond (decide (IntKind.i64.wrap (IntKind.i64.wrap (4 * t10) + 2) < (↑b0_1.length : Int)))
         (cond (decide (0 ≤ IntKind.i64.wrap (IntKind.i64.wrap (4 * t10) + 3)))
          (cond (decide (IntKind.i64.wrap (IntKind.i64.wrap (4 * t10) + 3) < (↑b0_1.length : Int)))
           (cond (decide (0 ≤ t10))
            (cond (decide (t10 < 64))
             (Rn (s_L3 b0 b0_1 (IntKind.i64.wrap (t10 + 1)) (h1.set t10.toNat (ior IntKind.u32 (ior IntKind.u32 (ior IntKind.u32 (ishl IntKind.u32 (IntKind.u32.wrap (b0_1.getD (IntKind.i64.wrap (4 * t10)).toNat 0)) 24) (ishl IntKind.u32 (IntKind.u32.wrap (b0_1.getD (IntKind.i64.wrap (IntKind.i64.wrap (4 * t10) + 1)).toNat 0)) 16)) (ishl IntKind.u32 (IntKind.u32.wrap (b0_1.getD (IntKind.i64.wrap (IntKind.i64.wrap (4 * t10) + 2)).toNat 0)) 8)) (IntKind.u32.wrap (b0_1.getD (IntKind.i64.wrap (IntKind.i64.wrap (4 * t10) + 3)).toNat 0))))))
             none)
            none)
           none)
          none)
         none)
        none)
       none)
      none)
     none)
    none)
   (k.ext 0 (x_L3_0 b0 b0_1 t10 h1)) := by kernel_rfl
theorem run_L3 (mRight : Right.Ty) {R : Type} (N : Nat) (k : K R) : ∀ (m : Nat) (b0 : Option Bool) (b0_1 : List Int) (t10 : Int) (h1 : List Int), loopN (evC (g mRight) an 0 N c_L3 none) k (nmOf 0 (an.loop 3)) m (s_L3 b0 b0_1 t10 h1) =
    L3 mRight N (fun b0 b0_1 t10 h1 => (k).ext 0 (x_L3_0 b0 b0_1 t10 h1)) m b0 b0_1 t10 h1 := by
  intro m
  induction m with
  | zero => intros; rfl
  | succ m ih =>
    intros
    rw [loopN_succ, round_L3]
    simp only [ih]
    kernel_rfl
noncomputable def L8 (mRight : Right.Ty) {R : Type} (N : Nat) (ke0 : Int → (List Int) → Option R) : Nat → Int → (List Int) → Option R
  | 0, _, _ => none
  | m + 1, i5, h1v1 =>
    cond (decide (i5 < 64))
     (cond (decide (0 ≤ IntKind.i64.wrap (i5 - 15)))
      (cond (decide (IntKind.i64.wrap (i5 - 15) < 64))
       (cond (decide (0 ≤ IntKind.i64.wrap (i5 - 2)))
        (cond (decide (IntKind.i64.wrap (i5 - 2) < 64))
         (mRight R (h1v1.getD (IntKind.i64.wrap (i5 - 15)).toNat 0) 7
          (fun v_c22 => mRight R (h1v1.getD (IntKind.i64.wrap (i5 - 15)).toNat 0) 18
           (fun v_c23 => mRight R (h1v1.getD (IntKind.i64.wrap (i5 - 2)).toNat 0) 17
            (fun v_c24 => mRight R (h1v1.getD (IntKind.i64.wrap (i5 - 2)).toNat 0) 19
             (fun v_c25 => cond (decide (0 ≤ IntKind.i64.wrap (i5 - 16)))
              (cond (decide (IntKind.i64.wrap (i5 - 16) < 64))
               (cond (decide (0 ≤ IntKind.i64.wrap (i5 - 7)))
                (cond (decide (IntKind.i64.wrap (i5 - 7) < 64))
                 (cond (decide (0 ≤ i5))
                  (cond (decide (i5 < 64))
                   (L8 mRight N ke0 m (IntKind.i64.wrap (i5 + 1)) (h1v1.set i5.toNat (IntKind.u32.wrap (IntKind.u32.wrap (IntKind.u32.wrap (h1v1.getD (IntKind.i64.wrap (i5 - 16)).toNat 0 + ixor IntKind.u32 (ixor IntKind.u32 v_c22 v_c23) (ishr IntKind.u32 (h1v1.getD (IntKind.i64.wrap (i5 - 15)).toNat 0) 3)) + h1v1.getD (IntKind.i64.wrap (i5 - 7)).toNat 0) + ixor IntKind.u32 (ixor IntKind.u32 v_c24 v_c25) (ishr IntKind.u32 (h1v1.getD (IntKind.i64.wrap (i5 - 2)).toNat 0) 10)))))
                   none)
                  none)
                 none)
                none)
               none)
              none)))))
         none)
        none)
       none)
      none)
     (ke0 i5 h1v1)
theorem round_L8 (mRight : Right.Ty) {R : Type} (N : Nat) (Rn : St → Option R) (k : K R) (i5 : Int) (h1v1 : List Int) : evC (g mRight) an 0 N c_L8 none (roundK (nmOf 0 (an.loop 8)) Rn k) (s_L8 i5 h1v1) =
  cond (decide (i5 < 64))
   (cond (decide (0 ≤ IntKind.i64.wrap (i5 - 15)))
    (cond (decide (IntKind.i64.wrap (i5 - 15) < 64))
     (cond (decide (0 ≤ IntKind.i64.wrap (i5 - 2)))
      (cond (decide (IntKind.i64.wrap (i5 - 2) < 64))
       (mRight R (h1v1.getD (IntKind.i64.wrap (i5 - 15)).toNat 0) 7
        (fun v_c22 => mRight R (h1v1.getD (IntKind.i64.wrap (i5 - 15)).toNat 0) 18
         (fun v_c23 => mRight R (h1v1.getD (IntKind.i64.wrap (i5 - 2)).toNat 0) 17
          (fun v_c24 => mRight R (h1v1.getD (IntKind.i64.wrap (i5 - 2)).toNat 0) 19
           (fun v_c25 => cond (decide (0 ≤ IntKind.i64.wrap (i5 - 16)))
            (cond (decide (IntKind.i64.wrap (i5 - 16) < 64))
             (cond (decide (0 ≤ IntKind.i64.wrap (i5 - 7)))
              (cond (decide (IntKind.i64.wrap (i5 - 7) < 64))
               (cond (decide (0 ≤ i5))
                (cond (decide (i5 < 64))
                 (Rn (s_L8 (IntKind.i64.wrap (i5 + 1)) (h1v1.set i5.toNat (IntKind.u32.wrap (IntKind.u32.wrap (IntKind.u32.wrap (h1v1.getD (IntKind.i64.wrap (i5 - 16)).toNat 0 + ixor IntKind.u32 (ixor IntKind.u32 v_c22 v_c23) (ishr IntKind.u32 (h1v1.getD (IntKind.i64.wrap (i5 - 15)).toNat 0) 3)) + h1v1.getD (IntKind.i64.wrap (i5 - 7)).toNat 0) + ixor IntKind.u32 (ixor IntKind.u32 v_c24 v_c25) (ishr IntKind.u32 (h1v1.getD (IntKind.i64.wrap (i5 - 2)).toNat 0) 10))))))
                 none)
                none)
               none)
              none)
             none)
            none)))))
       none)
      none)
     none)
    none)
   (k.ext 2 (x_L8_0 i5 h1v1)) := by kernel_rfl
theorem run_L8 (mRight : Right.Ty) {R : Type} (N : Nat) (k : K R) : ∀ (m : Nat) (i5 : Int) (h1v1 : List Int), loopN (evC (g mRight) an 0 N c_L8 none) k (nmOf 0 (an.loop 8)) m (s_L8 i5 h1v1) =
    L8 mRight N (fun i5 h1v1 => (k).ext 2 (x_L8_0 i5 h1v1)) m i5 h1v1 := by
  intro m
  induction m with
  | zero => intros; rfl
  | succ m ih =>
    intros
    rw [loopN_succ, round_L8]
    simp only [ih]
    kernel_rfl
noncomputable def m (mRight : Right.Ty) {R : Type} (N : Nat) (bN1 : Option Bool) (b2 : List Int) (kr0 : (List Int) → Option R) : Option R :=
  L3 mRight N
   (fun _b0_c18 _b0_1_c19 _t10_c20 h1_c21 => L8 mRight N
    (fun _i5_c26 h1_c27 => kr0 h1_c27) N 16 h1_c21) N bN1 b2 0 ([0, 0, 0, 0, 0, 0, 0, 0, 0, 0, 0, 0, 0, 0, 0, 0, 0, 0, 0, 0, 0, 0, 0, 0, 0, 0, 0, 0, 0, 0, 0, 0, 0, 0, 0, 0, 0, 0, 0, 0, 0, 0, 0, 0, 0, 0, 0, 0, 0, 0, 0, 0, 0, 0, 0, 0, 0, 0, 0, 0, 0, 0, 0, 0])
theorem tree (mRight : Right.Ty) {R : Type} (N : Nat) (κ : AV → List Blk → Option R) (bN1 : Option Bool) (b2 : List Int) : evF (g mRight) an N Tryd.f116 [AV.isl IntKind.u8 bN1 b2] [] κ =
  loopN (evC (g mRight) an 0 N c_L3 none) (ctx (g mRight) an 0 N (bodyOf Tryd.f116) [1, 1, 0, 1, 0] (endK (g mRight) an Tryd.f116 [] κ)) (nmOf 0 (an.loop 3)) N (s_L3 bN1 b2 0 ([0, 0, 0, 0, 0, 0, 0, 0, 0, 0, 0, 0, 0, 0, 0, 0, 0, 0, 0, 0, 0, 0, 0, 0, 0, 0, 0, 0, 0, 0, 0, 0, 0, 0, 0, 0, 0, 0, 0, 0, 0, 0, 0, 0, 0, 0, 0, 0, 0, 0, 0, 0, 0, 0, 0, 0, 0, 0, 0, 0, 0, 0, 0, 0])) := by kernel_rfl
theorem tree_e0 (mRight : Right.Ty) {R : Type} (N : Nat) (κ : AV → List Blk → Option R) (b0_c18 : Option Bool) (b0_1_c19 : List Int) (t10_c20 : Int) (h1_c21 : List Int) : (ctx (g mRight) an 0 N (bodyOf Tryd.f116) [1, 1, 0, 1, 0] (endK (g mRight) an Tryd.f116 [] κ)).ext 0 (x_L3_0 b0_c18 b0_1_c19 t10_c20 h1_c21) =
  loopN (evC (g mRight) an 0 N c_L8 none) (ctx (g mRight) an 0 N (bodyOf Tryd.f116) [1, 1, 1, 0, 1, 0] (endK (g mRight) an Tryd.f116 [] κ)) (nmOf 0 (an.loop 8)) N (s_L8 16 h1_c21) := by kernel_rfl
theorem eq (mRight : Right.Ty) {R : Type} (N : Nat) (κ : AV → List Blk → Option R) (bN1 : Option Bool) (b2 : List Int) : evF (g mRight) an N Tryd.f116 [AV.isl IntKind.u8 bN1 b2] [] κ =
  m mRight N bN1 b2 (fun v => κ (AV.ints IntKind.u32 64 v) []) := by
  rw [tree]
  simp only [run_L3, run_L8, tree_e0]
  kernel_rfl
abbrev Ty : Type 1 := ∀ R : Type, (Option Bool) → (List Int) → ((List Int) → Option R) → Option R
def con (f : Ty) : Con := fun R args bs κ => match args, bs with
  | [AV.isl IntKind.u8 bN1 b2], [] => f R bN1 b2 (fun v => κ (AV.ints IntKind.u32 64 v) [])
  | _, _ => none
theorem con_eq (f : Ty) (R : Type) (κ : AV → List Blk → Option R) (bN1 : Option Bool) (b2 : List Int) : con f R [AV.isl IntKind.u8 bN1 b2] [] κ = f R bN1 b2 (fun v => κ (AV.ints IntKind.u32 64 v) []) := rfl
noncomputable def M (N : Nat) : Ty := fun R bN1 b2 kr0 => m (Right.M N) (R := R) N bN1 b2 kr0
def gts : List (Nat × AV) := []
theorem gok (N : Nat) : GOk (g (Right.M N)) := giD_ok hm (by intro p hp; cases hp) (gtL_ok (by decide)) (ovL_ok (by
    intro p hp
    simp only [List.mem_cons, List.not_mem_nil, or_false] at hp
    rcases hp with rfl
    · exact ⟨(Right.ok N).gt (gtL_sub (by repeat (first | exact subG_nil _ | refine subG_cons (by kernel_rfl) ?_))) (gtL_ok (by decide)), _, Tryd.func117, by kernel_rfl, by kernel_rfl⟩
)) 1
theorem ok (N : Nat) : SoundC Tryd.prog (gtL gts) 116 (con (M N)) := by
  refine SoundC.mono (evF_ok (gok N) hm an N Tryd.func116) fun R args bs κ r h => ?_
  unfold con at h
  split at h
  · exact (eq (Right.M N) N κ _ _).trans h
  · cases h
end schedule

/-! ### Tryd.f106: take -/
namespace take
def an : Anns := ⟨fun i => findA i [(3, ⟨[0, 4, 5, 20, 21], [⟨4, 1, T.int IntKind.u8, none⟩, ⟨5, 2, T.int IntKind.u8, none⟩], 3, []⟩), (15, ⟨[0, 5, 96], [⟨5, 1, T.int IntKind.u8, none⟩], 2, []⟩)], fun i => findA i [], false, fun _ => none, []⟩
noncomputable def g (mschedule : schedule.Ty) (mRight : Right.Ty) : Gi := giD Tryd.prog (gtL [(19, .ints .u32 64 K256)]) (fun _ => an) 0 [] (ovL [(116, schedule.con mschedule), (117, Right.con mRight)]) 1
noncomputable def c_L3 : Code := loopOf Tryd.f106 0
noncomputable def c_L15 : Code := loopOf Tryd.f106 1
def s_L3 (t21 : Int) (h0 : List Int) (h1 : List Int) (h2 : List Int) : St := ⟨[AV.ptr 0 [], AV.dead, AV.dead, AV.dead, AV.ptr 1 [], AV.ptr 2 []] ++ List.replicate 14 .dead ++ [AV.ints IntKind.u32 64 K256, AV.int IntKind.i64 t21] ++ List.replicate 89 .dead, [Blk.var (AV.ints IntKind.u32 8 h0), Blk.var (AV.ints IntKind.u32 64 h1), Blk.var (AV.ints IntKind.u32 8 h2)]⟩
def s_L15 (t96 : Int) (h0v1 : List Int) (h1v1 : List Int) : St := ⟨[AV.ptr 0 []] ++ List.replicate 4 .dead ++ [AV.ptr 1 []] ++ List.replicate 90 .dead ++ [AV.int IntKind.i64 t96] ++ List.replicate 14 .dead, [Blk.var (AV.ints IntKind.u32 8 h0v1), Blk.var (AV.ints IntKind.u32 8 h1v1)]⟩
def x_L3_0 (t21 : Int) (h0 : List Int) (h1 : List Int) (h2 : List Int) : St := ⟨[AV.ptr 0 [], AV.dead, AV.dead, AV.dead, AV.ptr 1 [], AV.ptr 2 []] ++ List.replicate 14 .dead ++ [AV.ints IntKind.u32 64 K256, AV.int IntKind.i64 t21, AV.bool (decide (t21 < 64))] ++ List.replicate 88 .dead, [Blk.var (AV.ints IntKind.u32 8 h0), Blk.var (AV.ints IntKind.u32 64 h1), Blk.var (AV.ints IntKind.u32 8 h2)]⟩
def x_L15_0 (t96 : Int) (h0v1 : List Int) (h1v1 : List Int) : St := ⟨[AV.ptr 0 []] ++ List.replicate 4 .dead ++ [AV.ptr 1 []] ++ List.replicate 90 .dead ++ [AV.int IntKind.i64 t96, AV.bool (decide (t96 < 8))] ++ List.replicate 13 .dead, [Blk.var (AV.ints IntKind.u32 8 h0v1), Blk.var (AV.ints IntKind.u32 8 h1v1)]⟩
noncomputable def L3 (mschedule : schedule.Ty) (mRight : Right.Ty) {R : Type} (N : Nat) (ke0 : Int → (List Int) → (List Int) → (List Int) → Option R) : Nat → Int → (List Int) → (List Int) → (List Int) → Option R
  | 0, _, _, _, _ => none
  | m + 1, t21, h0, h1, h2 =>
    cond (decide (t21 < 64))
     (cond (decide (0 ≤ t21))
      (cond (decide (t21 < 64))
       (mRight R (h2.getD 4 0) 6
        (fun v_c33 => mRight R (h2.getD 4 0) 11
         (fun v_c34 => mRight R (h2.getD 4 0) 25
          (fun v_c35 => cond (decide (0 ≤ t21))
           (cond (decide (t21 < 64))
            (mRight R (h2.getD 0 0) 2
             (fun v_c36 => mRight R (h2.getD 0 0) 13
              (fun v_c37 => mRight R (h2.getD 0 0) 22
               (fun v_c38 => L3 mschedule mRight N ke0 m (IntKind.i64.wrap (t21 + 1)) h0 h1 (((List.take 1 h2 ++ (List.take (min (cut (some 7) 0 h2).length 7) (cut (some 7) 0 h2) ++ List.drop (1 + min (cut (some 7) 0 h2).length 7) h2)).set 4 (IntKind.u32.wrap ((List.take 1 h2 ++ (List.take (min (cut (some 7) 0 h2).length 7) (cut (some 7) 0 h2) ++ List.drop (1 + min (cut (some 7) 0 h2).length 7) h2)).getD 4 0 + IntKind.u32.wrap (IntKind.u32.wrap (IntKind.u32.wrap (IntKind.u32.wrap (h2.getD 7 0 + ixor IntKind.u32 (ixor IntKind.u32 v_c33 v_c34) v_c35) + ixor IntKind.u32 (iand IntKind.u32 (h2.getD 4 0) (h2.getD 5 0)) (iand IntKind.u32 (inot IntKind.u32 (h2.getD 4 0)) (h2.getD 6 0))) + K256.getD t21.toNat 0) + h1.getD t21.toNat 0)))).set 0 (IntKind.u32.wrap (IntKind.u32.wrap (IntKind.u32.wrap (IntKind.u32.wrap (IntKind.u32.wrap (h2.getD 7 0 + ixor IntKind.u32 (ixor IntKind.u32 v_c33 v_c34) v_c35) + ixor IntKind.u32 (iand IntKind.u32 (h2.getD 4 0) (h2.getD 5 0)) (iand IntKind.u32 (inot IntKind.u32 (h2.getD 4 0)) (h2.getD 6 0))) + K256.getD t21.toNat 0) + h1.getD t21.toNat 0) + IntKind.u32.wrap (ixor IntKind.u32 (ixor IntKind.u32 v_c36 v_c37) v_c38 + ixor IntKind.u32 (ixor IntKind.u32 (iand IntKind.u32 (h2.getD 0 0) (h2.getD 1 0)) (iand IntKind.u32 (h2.getD 0 0) (h2.getD 2 0))) (iand IntKind.u32 (h2.getD 1 0) (h2.getD 2 0))))))))))
            none)
           none))))
       none)
      none)
     (ke0 t21 h0 h1 h2)
theorem round_L3 (mschedule : schedule.Ty) (mRight : Right.Ty) {R : Type} (N : Nat) (Rn : St → Option R) (k : K R) (t21 : Int) (h0 : List Int) (h1 : List Int) (h2 : List Int) : evC (g mschedule mRight) an 1 N c_L3 none (roundK (nmOf 1 (an.loop 3)) Rn k) (s_L3 t21 h0 h1 h2) =
  cond (decide (t21 < 64))
   (cond (decide (0 ≤ t21))
    (cond (decide (t21 < 64))
     (mRight R (h2.getD 4 0) 6
      (fun v_c33 => mRight R (h2.getD 4 0) 11
       (fun v_c34 => mRight R (h2.getD 4 0) 25
        (fun v_c35 => cond (decide (0 ≤ t21))
         (cond (decide (t21 < 64))
          (mRight R (h2.getD 0 0) 2
           (fun v_c36 => mRight R (h2.getD 0 0) 13
            (fun v_c37 => mRight R (h2.getD 0 0) 22
             (fun v_c38 => Rn (s_L3 (IntKind.i64.wrap (t21 + 1)) h0 h1 (((List.take 1 h2 ++ (List.take (min (cut (some 7) 0 h2).length 7) (cut (some 7) 0 h2) ++ List.drop (1 + min (cut (some 7) 0 h2).length 7) h2)).set 4 (IntKind.u32.wrap ((List.take 1 h2 ++ (List.take (min (cut (some 7) 0 h2).length 7) (cut (some 7) 0 h2) ++ List.drop (1 + min (cut (some 7) 0 h2).length 7) h2)).getD 4 0 + IntKind.u32.wrap (IntKind.u32.wrap (IntKind.u32.wrap (IntKind.u32.wrap (h2.getD 7 0 + ixor IntKind.u32 (ixor IntKind.u32 v_c33 v_c34) v_c35) + ixor IntKind.u32 (iand IntKind.u32 (h2.getD 4 0) (h2.getD 5 0)) (iand IntKind.u32 (inot IntKind.u32 (h2.getD 4 0)) (h2.getD 6 0))) + K256.getD t21.toNat 0) + h1.getD t21.toNat 0)))).set 0 (IntKind.u32.wrap (IntKind.u32.wrap (IntKind.u32.wrap (IntKind.u32.wrap (IntKind.u32.wrap (h2.getD 7 0 + ixor IntKind.u32 (ixor IntKind.u32 v_c33 v_c34) v_c35) + ixor IntKind.u32 (iand IntKind.u32 (h2.getD 4 0) (h2.getD 5 0)) (iand IntKind.u32 (inot IntKind.u32 (h2.getD 4 0)) (h2.getD 6 0))) + K256.getD t21.toNat 0) + h1.getD t21.toNat 0) + IntKind.u32.wrap (ixor IntKind.u32 (ixor IntKind.u32 v_c36 v_c37) v_c38 + ixor IntKind.u32 (ixor IntKind.u32 (iand IntKind.u32 (h2.getD 0 0) (h2.getD 1 0)) (iand IntKind.u32 (h2.getD 0 0) (h2.getD 2 0))) (iand IntKind.u32 (h2.getD 1 0) (h2.getD 2 0)))))))))))
          none)
         none))))
     none)
    none)
   (k.ext 0 (x_L3_0 t21 h0 h1 h2)) := by kernel_rfl
theorem run_L3 (mschedule : schedule.Ty) (mRight : Right.Ty) {R : Type} (N : Nat) (k : K R) : ∀ (m : Nat) (t21 : Int) (h0 : List Int) (h1 : List Int) (h2 : List Int), loopN (evC (g mschedule mRight) an 1 N c_L3 none) k (nmOf 1 (an.loop 3)) m (s_L3 t21 h0 h1 h2) =
    L3 mschedule mRight N (fun t21 h0 h1 h2 => (k).ext 0 (x_L3_0 t21 h0 h1 h2)) m t21 h0 h1 h2 := by
  intro m
  induction m with
  | zero => intros; rfl
  | succ m ih =>
    intros
    rw [loopN_succ, round_L3]
    simp only [ih]
    kernel_rfl
noncomputable def L15 (mschedule : schedule.Ty) (mRight : Right.Ty) {R : Type} (N : Nat) (ke0 : Int → (List Int) → (List Int) → Option R) : Nat → Int → (List Int) → (List Int) → Option R
  | 0, _, _, _ => none
  | m + 1, t96, h0v1, h1v1 =>
    cond (decide (t96 < 8))
     (cond (decide (0 ≤ t96))
      (cond (decide (t96 < 8))
       (cond (decide (0 ≤ t96))
        (cond (decide (t96 < 8))
         (cond (decide (0 ≤ t96))
          (cond (decide (t96 < 8))
           (L15 mschedule mRight N ke0 m (IntKind.i64.wrap (t96 + 1)) (h0v1.set t96.toNat (IntKind.u32.wrap (h0v1.getD t96.toNat 0 + h1v1.getD t96.toNat 0))) h1v1)
           none)
          none)
         none)
        none)
       none)
      none)
     (ke0 t96 h0v1 h1v1)
theorem round_L15 (mschedule : schedule.Ty) (mRight : Right.Ty) {R : Type} (N : Nat) (Rn : St → Option R) (k : K R) (t96 : Int) (h0v1 : List Int) (h1v1 : List Int) : evC (g mschedule mRight) an 1 N c_L15 none (roundK (nmOf 1 (an.loop 15)) Rn k) (s_L15 t96 h0v1 h1v1) =
  cond (decide (t96 < 8))
   (cond (decide (0 ≤ t96))
    (cond (decide (t96 < 8))
     (cond (decide (0 ≤ t96))
      (cond (decide (t96 < 8))
       (cond (decide (0 ≤ t96))
        (cond (decide (t96 < 8))
         (Rn (s_L15 (IntKind.i64.wrap (t96 + 1)) (h0v1.set t96.toNat (IntKind.u32.wrap (h0v1.getD t96.toNat 0 + h1v1.getD t96.toNat 0))) h1v1))
         none)
        none)
       none)
      none)
     none)
    none)
   (k.ext 2 (x_L15_0 t96 h0v1 h1v1)) := by kernel_rfl
theorem run_L15 (mschedule : schedule.Ty) (mRight : Right.Ty) {R : Type} (N : Nat) (k : K R) : ∀ (m : Nat) (t96 : Int) (h0v1 : List Int) (h1v1 : List Int), loopN (evC (g mschedule mRight) an 1 N c_L15 none) k (nmOf 1 (an.loop 15)) m (s_L15 t96 h0v1 h1v1) =
    L15 mschedule mRight N (fun t96 h0v1 h1v1 => (k).ext 2 (x_L15_0 t96 h0v1 h1v1)) m t96 h0v1 h1v1 := by
  intro m
  induction m with
  | zero => intros; rfl
  | succ m ih =>
    intros
    rw [loopN_succ, round_L15]
    simp only [ih]
    kernel_rfl
noncomputable def m (mschedule : schedule.Ty) (mRight : Right.Ty) {R : Type} (N : Nat) (s1 : List Int) (bN2 : Option Bool) (b3 : List Int) (kr0 : (List Int) → Option R) : Option R :=
  mschedule R bN2 b3
   (fun v_c32 => L3 mschedule mRight N
    (fun _t21_c39 h0_c40 _h1_c41 h2_c42 => L15 mschedule mRight N
     (fun _t96_c43 h0_c44 _h1_c45 => kr0 h0_c44) N 0 h0_c40 h2_c42) N 0 s1 v_c32 s1)
theorem tree (mschedule : schedule.Ty) (mRight : Right.Ty) {R : Type} (N : Nat) (κ : AV → List Blk → Option R) (s1 : List Int) (bN2 : Option Bool) (b3 : List Int) : evF (g mschedule mRight) an N Tryd.f106 [AV.ptr 0 [], AV.isl IntKind.u8 bN2 b3] [Blk.var (AV.ints IntKind.u32 8 s1)] κ =
  mschedule R bN2 b3
   (fun v_c32 => loopN (evC (g mschedule mRight) an 1 N c_L3 none) (ctx (g mschedule mRight) an 1 N (bodyOf Tryd.f106) [1, 1, 0, 1, 0] (endK (g mschedule mRight) an Tryd.f106 [Blk.var (AV.ints IntKind.u32 8 s1)] κ)) (nmOf 1 (an.loop 3)) N (s_L3 0 s1 v_c32 s1)) := by kernel_rfl
theorem tree_e0 (mschedule : schedule.Ty) (mRight : Right.Ty) {R : Type} (N : Nat) (κ : AV → List Blk → Option R) (s1 : List Int) (t21_c39 : Int) (h0_c40 : List Int) (h1_c41 : List Int) (h2_c42 : List Int) : (ctx (g mschedule mRight) an 1 N (bodyOf Tryd.f106) [1, 1, 0, 1, 0] (endK (g mschedule mRight) an Tryd.f106 [Blk.var (AV.ints IntKind.u32 8 s1)] κ)).ext 0 (x_L3_0 t21_c39 h0_c40 h1_c41 h2_c42) =
  loopN (evC (g mschedule mRight) an 1 N c_L15 none) (ctx (g mschedule mRight) an 1 N (bodyOf Tryd.f106) [1, 1, 1, 1, 0] (endK (g mschedule mRight) an Tryd.f106 [Blk.var (AV.ints IntKind.u32 8 s1)] κ)) (nmOf 1 (an.loop 15)) N (s_L15 0 h0_c40 h2_c42) := by kernel_rfl
theorem eq (mschedule : schedule.Ty) (mRight : Right.Ty) {R : Type} (N : Nat) (κ : AV → List Blk → Option R) (s1 : List Int) (bN2 : Option Bool) (b3 : List Int) : evF (g mschedule mRight) an N Tryd.f106 [AV.ptr 0 [], AV.isl IntKind.u8 bN2 b3] [Blk.var (AV.ints IntKind.u32 8 s1)] κ =
  m mschedule mRight N s1 bN2 b3 (fun b => κ (AV.tup []) ([Blk.var (AV.ints IntKind.u32 8 b)])) := by
  rw [tree]
  simp only [run_L3, run_L15, tree_e0]
  kernel_rfl
abbrev Ty : Type 1 := ∀ R : Type, (List Int) → (Option Bool) → (List Int) → ((List Int) → Option R) → Option R
def con (f : Ty) : Con := fun R args bs κ => match args, bs with
  | [AV.ptr 0 [], AV.isl IntKind.u8 bN2 b3], [Blk.var (AV.ints IntKind.u32 8 s1)] => f R s1 bN2 b3 (fun b => κ (AV.tup []) ([Blk.var (AV.ints IntKind.u32 8 b)]))
  | _, _ => none
theorem con_eq (f : Ty) (R : Type) (κ : AV → List Blk → Option R) (s1 : List Int) (bN2 : Option Bool) (b3 : List Int) : con f R [AV.ptr 0 [], AV.isl IntKind.u8 bN2 b3] [Blk.var (AV.ints IntKind.u32 8 s1)] κ = f R s1 bN2 b3 (fun b => κ (AV.tup []) ([Blk.var (AV.ints IntKind.u32 8 b)])) := rfl
noncomputable def M (N : Nat) : Ty := fun R s1 bN2 b3 kr0 => m (schedule.M N) (Right.M N) (R := R) N s1 bN2 b3 kr0
def gts : List (Nat × AV) := [(19, .ints .u32 64 K256)]
theorem gok (N : Nat) : GOk (g (schedule.M N) (Right.M N)) := giD_ok hm (by intro p hp; cases hp) (gtL_ok (by decide)) (ovL_ok (by
    intro p hp
    simp only [List.mem_cons, List.not_mem_nil, or_false] at hp
    rcases hp with rfl | rfl
    · exact ⟨(schedule.ok N).gt (gtL_sub (by repeat (first | exact subG_nil _ | refine subG_cons (by kernel_rfl) ?_))) (gtL_ok (by decide)), _, Tryd.func116, by kernel_rfl, by kernel_rfl⟩
    · exact ⟨(Right.ok N).gt (gtL_sub (by repeat (first | exact subG_nil _ | refine subG_cons (by kernel_rfl) ?_))) (gtL_ok (by decide)), _, Tryd.func117, by kernel_rfl, by kernel_rfl⟩
)) 1
theorem ok (N : Nat) : SoundC Tryd.prog (gtL gts) 106 (con (M N)) := by
  refine SoundC.mono (evF_ok (gok N) hm an N Tryd.func106) fun R args bs κ r h => ?_
  unfold con at h
  split at h
  · exact (eq (schedule.M N) (Right.M N) N κ _ _ _).trans h
  · cases h
end take

/-! ### Tryd.f79: New -/
namespace New
def an : Anns := ⟨fun i => findA i [], fun i => findA i [], true, fun _ => none, [.lift 0 [1] (.int .u8)]⟩
noncomputable def g (msbegin : sbegin.Ty) : Gi := giD Tryd.prog (gtL []) (fun _ => an) 0 [] (ovL [(105, sbegin.con msbegin)]) 1
noncomputable def m (msbegin : sbegin.Ty) {R : Type} (_N : Nat) (kr0 : Option R) : Option R :=
  msbegin R
   kr0
theorem tree (msbegin : sbegin.Ty) {R : Type} (N : Nat) (κ : AV → List Blk → Option R) : evF (g msbegin) an N Tryd.f79 [] [] κ =
  msbegin R
   (κ (AV.ptr 0 []) ([Blk.var (AV.agg [AV.ints IntKind.u32 8 [1779033703, 3144134277, 1013904242, 2773480762, 1359893119, 2600822924, 528734635, 1541459225], AV.own 1 [] 0 none, AV.int IntKind.u64 0]), Blk.row IntKind.u8 true []])) := by kernel_rfl
theorem eq (msbegin : sbegin.Ty) {R : Type} (N : Nat) (κ : AV → List Blk → Option R) : evF (g msbegin) an N Tryd.f79 [] [] κ =
  m msbegin N (κ (AV.ptr 0 []) ([Blk.var (AV.agg [AV.ints IntKind.u32 8 [1779033703, 3144134277, 1013904242, 2773480762, 1359893119, 2600822924, 528734635, 1541459225], AV.own 1 [] 0 none, AV.int IntKind.u64 0]), Blk.row IntKind.u8 true []])) := by
  rw [tree]
  kernel_rfl
abbrev Ty : Type 1 := ∀ R : Type, Option R → Option R
def con (f : Ty) : Con := fun R args bs κ => match args, bs with
  | [], [] => f R (κ (AV.ptr 0 []) ([Blk.var (AV.agg [AV.ints IntKind.u32 8 [1779033703, 3144134277, 1013904242, 2773480762, 1359893119, 2600822924, 528734635, 1541459225], AV.own 1 [] 0 none, AV.int IntKind.u64 0]), Blk.row IntKind.u8 true []]))
  | _, _ => none
theorem con_eq (f : Ty) (R : Type) (κ : AV → List Blk → Option R) : con f R [] [] κ = f R (κ (AV.ptr 0 []) ([Blk.var (AV.agg [AV.ints IntKind.u32 8 [1779033703, 3144134277, 1013904242, 2773480762, 1359893119, 2600822924, 528734635, 1541459225], AV.own 1 [] 0 none, AV.int IntKind.u64 0]), Blk.row IntKind.u8 true []])) := rfl
noncomputable def M (N : Nat) : Ty := fun R kr0 => m (sbegin.M N) (R := R) N kr0
def gts : List (Nat × AV) := []
theorem gok (N : Nat) : GOk (g (sbegin.M N)) := giD_ok hm (by intro p hp; cases hp) (gtL_ok (by decide)) (ovL_ok (by
    intro p hp
    simp only [List.mem_cons, List.not_mem_nil, or_false] at hp
    rcases hp with rfl
    · exact ⟨(sbegin.ok N).gt (gtL_sub (by repeat (first | exact subG_nil _ | refine subG_cons (by kernel_rfl) ?_))) (gtL_ok (by decide)), _, Tryd.func105, by kernel_rfl, by kernel_rfl⟩
)) 1
theorem ok (N : Nat) : SoundC Tryd.prog (gtL gts) 79 (con (M N)) := by
  refine SoundC.mono (evF_ok (gok N) hm an N Tryd.func79) fun R args bs κ r h => ?_
  unfold con at h
  split at h
  · exact (eq (sbegin.M N) N κ).trans h
  · cases h
end New

/-! ### Tryd.f80: Write -/
namespace Write
def an : Anns := ⟨fun i => findA i [(2, ⟨[0], [⟨0, 2, T.int IntKind.u8, some [1]⟩], 3, []⟩)], fun i => findA i [], false, fun _ => none, []⟩
noncomputable def g (mtake : take.Ty) : Gi := giD Tryd.prog (gtL [(19, .ints .u32 64 K256)]) (fun _ => an) 0 [] (ovL [(106, take.con mtake)]) 1
noncomputable def c_L2 : Code := loopOf Tryd.f80 0
def s_L2 (h0 : List Int) (h0_1 : Nat) (h0_2 : Option Nat) (h0_3 : Int) (h2v1 : Bool) (h2_5 : List Int) : St := ⟨[AV.ptr 0 []] ++ List.replicate 45 .dead, [Blk.var (AV.agg [AV.ints IntKind.u32 8 h0, AV.own 2 [] h0_1 h0_2, AV.int IntKind.u64 h0_3]), Blk.dead, Blk.row IntKind.u8 h2v1 h2_5]⟩
def x_L2_0 (h0 : List Int) (h0_1 : Nat) (h0_2 : Option Nat) (h0_3 : Int) (h2v1 : Bool) (h2_5 : List Int) : St := ⟨[AV.ptr 0 []] ++ List.replicate 22 .dead ++ [AV.ptr 0 [], AV.ptr 0 [], AV.ptr 0 [1], AV.own 2 [] h0_1 h0_2, AV.int IntKind.i64 (↑(olen h0_2 h2_5.length h0_1) : Int), AV.bool (decide ((↑(olen h0_2 h2_5.length h0_1) : Int) ≥ 64))] ++ List.replicate 17 .dead, [Blk.var (AV.agg [AV.ints IntKind.u32 8 h0, AV.own 2 [] h0_1 h0_2, AV.int IntKind.u64 h0_3]), Blk.dead, Blk.row IntKind.u8 h2v1 h2_5]⟩
noncomputable def L2 (mtake : take.Ty) {R : Type} (N : Nat) (ke0 : (List Int) → Nat → (Option Nat) → Int → Bool → (List Int) → Option R) : Nat → (List Int) → Nat → (Option Nat) → Int → Bool → (List Int) → Option R
  | 0, _, _, _, _, _, _ => none
  | m + 1, h0, h0_1, h0_2, h0_3, h2v1, h2_5 =>
    cond (decide ((↑(olen h0_2 h2_5.length h0_1) : Int) ≥ 64))
     (cond (decide (64 ≤ (↑(h2_5.length - h0_1) : Int)))
      (mtake R h0 none (cut (some 64) (h0_1 + 0) h2_5)
       (fun b_c8 => cond (decide (64 ≤ (↑(olen h0_2 h2_5.length h0_1) : Int)))
        (L2 mtake N ke0 m b_c8 (h0_1 + 64) (some (olen h0_2 h2_5.length h0_1 - 64)) h0_3 h2v1 h2_5)
        none))
      none)
     (ke0 h0 h0_1 h0_2 h0_3 h2v1 h2_5)
theorem round_L2 (mtake : take.Ty) {R : Type} (N : Nat) (Rn : St → Option R) (k : K R) (h0 : List Int) (h0_1 : Nat) (h0_2 : Option Nat) (h0_3 : Int) (h2v1 : Bool) (h2_5 : List Int) : evC (g mtake) an 2 N c_L2 none (roundK (nmOf 2 (an.loop 2)) Rn k) (s_L2 h0 h0_1 h0_2 h0_3 h2v1 h2_5) =
  cond (decide ((↑(olen h0_2 h2_5.length h0_1) : Int) ≥ 64))
   (cond (decide (64 ≤ (↑(h2_5.length - h0_1) : Int)))
    (mtake R h0 none (cut (some 64) (h0_1 + 0) h2_5)
     (fun b_c8 => cond (decide (64 ≤ (↑(olen h0_2 h2_5.length h0_1) : Int)))
      (Rn (s_L2 b_c8 (h0_1 + 64) (some (olen h0_2 h2_5.length h0_1 - 64)) h0_3 h2v1 h2_5))
      none))
    none)
   (k.ext 0 (x_L2_0 h0 h0_1 h0_2 h0_3 h2v1 h2_5)) := by kernel_rfl
theorem run_L2 (mtake : take.Ty) {R : Type} (N : Nat) (k : K R) : ∀ (m : Nat) (h0 : List Int) (h0_1 : Nat) (h0_2 : Option Nat) (h0_3 : Int) (h2v1 : Bool) (h2_5 : List Int), loopN (evC (g mtake) an 2 N c_L2 none) k (nmOf 2 (an.loop 2)) m (s_L2 h0 h0_1 h0_2 h0_3 h2v1 h2_5) =
    L2 mtake N (fun h0 h0_1 h0_2 h0_3 h2v1 h2_5 => (k).ext 0 (x_L2_0 h0 h0_1 h0_2 h0_3 h2v1 h2_5)) m h0 h0_1 h0_2 h0_3 h2v1 h2_5 := by
  intro m
  induction m with
  | zero => intros; rfl
  | succ m ih =>
    intros
    rw [loopN_succ, round_L2]
    simp only [ih]
    kernel_rfl
noncomputable def m (mtake : take.Ty) {R : Type} (N : Nat) (h1 : List Int) (h2 : Nat) (h3 : Option Nat) (h4 : Bool) (h5 : List Int) (h6 : Int) (_bN7 : Option Bool) (b8 : List Int) (kr0 : (List Int) → Nat → (Option Nat) → Int → Bool → (List Int) → Option R) : Option R :=
  cond (decide (((cut h3 h2 h5).length + b8.length) * 1 ≤ 140737488355328))
   (cond (decide ((cut h3 h2 h5).length + b8.length ≤ 140737488355328))
    (L2 mtake N
     (fun h0_c9 h0_1_c10 h0_2_c11 h0_3_c12 h2_c13 h2_5_c14 => kr0 h0_c9 h0_1_c10 h0_2_c11 h0_3_c12 h2_c13 h2_5_c14) N h1 0 none (IntKind.u64.wrap (h6 + IntKind.u64.wrap (↑b8.length : Int))) (b8.isEmpty && h4) (cut h3 h2 h5 ++ b8))
    none)
   none
theorem tree (mtake : take.Ty) {R : Type} (N : Nat) (κ : AV → List Blk → Option R) (h1 : List Int) (h2 : Nat) (h3 : Option Nat) (h4 : Bool) (h5 : List Int) (h6 : Int) (bN7 : Option Bool) (b8 : List Int) : evF (g mtake) an N Tryd.f80 [AV.ptr 0 [], AV.isl IntKind.u8 bN7 b8] [Blk.var (AV.agg [AV.ints IntKind.u32 8 h1, AV.own 1 [] h2 h3, AV.int IntKind.u64 h6]), Blk.row IntKind.u8 h4 h5] κ =
  cond (decide (((cut h3 h2 h5).length + b8.length) * 1 ≤ 140737488355328))
   (cond (decide ((cut h3 h2 h5).length + b8.length ≤ 140737488355328))
    (loopN (evC (g mtake) an 2 N c_L2 none) (ctx (g mtake) an 2 N (bodyOf Tryd.f80) [1, 1, 0] (endK (g mtake) an Tryd.f80 [Blk.var (AV.agg [AV.ints IntKind.u32 8 h1, AV.own 1 [] h2 h3, AV.int IntKind.u64 h6]), Blk.row IntKind.u8 h4 h5] κ)) (nmOf 2 (an.loop 2)) N (s_L2 h1 0 none (IntKind.u64.wrap (h6 + IntKind.u64.wrap (↑b8.length : Int))) (b8.isEmpty && h4) (cut h3 h2 h5 ++ b8)))
    none)
   none := by kernel_rfl
theorem eq (mtake : take.Ty) {R : Type} (N : Nat) (κ : AV → List Blk → Option R) (h1 : List Int) (h2 : Nat) (h3 : Option Nat) (h4 : Bool) (h5 : List Int) (h6 : Int) (bN7 : Option Bool) (b8 : List Int) : evF (g mtake) an N Tryd.f80 [AV.ptr 0 [], AV.isl IntKind.u8 bN7 b8] [Blk.var (AV.agg [AV.ints IntKind.u32 8 h1, AV.own 1 [] h2 h3, AV.int IntKind.u64 h6]), Blk.row IntKind.u8 h4 h5] κ =
  m mtake N h1 h2 h3 h4 h5 h6 bN7 b8 (fun b b_1 b_2 b_3 b_4 b_5 => κ (AV.tup []) ([Blk.var (AV.agg [AV.ints IntKind.u32 8 b, AV.own 2 [] b_1 b_2, AV.int IntKind.u64 b_3]), Blk.dead, Blk.row IntKind.u8 b_4 b_5])) := by
  rw [tree]
  simp only [run_L2]
  kernel_rfl
abbrev Ty : Type 1 := ∀ R : Type, (List Int) → Nat → (Option Nat) → Bool → (List Int) → Int → (Option Bool) → (List Int) → ((List Int) → Nat → (Option Nat) → Int → Bool → (List Int) → Option R) → Option R
def con (f : Ty) : Con := fun R args bs κ => match args, bs with
  | [AV.ptr 0 [], AV.isl IntKind.u8 bN7 b8], [Blk.var (AV.agg [AV.ints IntKind.u32 8 h1, AV.own 1 [] h2 h3, AV.int IntKind.u64 h6]), Blk.row IntKind.u8 h4 h5] => f R h1 h2 h3 h4 h5 h6 bN7 b8 (fun b b_1 b_2 b_3 b_4 b_5 => κ (AV.tup []) ([Blk.var (AV.agg [AV.ints IntKind.u32 8 b, AV.own 2 [] b_1 b_2, AV.int IntKind.u64 b_3]), Blk.dead, Blk.row IntKind.u8 b_4 b_5]))
  | _, _ => none
theorem con_eq (f : Ty) (R : Type) (κ : AV → List Blk → Option R) (h1 : List Int) (h2 : Nat) (h3 : Option Nat) (h4 : Bool) (h5 : List Int) (h6 : Int) (bN7 : Option Bool) (b8 : List Int) : con f R [AV.ptr 0 [], AV.isl IntKind.u8 bN7 b8] [Blk.var (AV.agg [AV.ints IntKind.u32 8 h1, AV.own 1 [] h2 h3, AV.int IntKind.u64 h6]), Blk.row IntKind.u8 h4 h5] κ = f R h1 h2 h3 h4 h5 h6 bN7 b8 (fun b b_1 b_2 b_3 b_4 b_5 => κ (AV.tup []) ([Blk.var (AV.agg [AV.ints IntKind.u32 8 b, AV.own 2 [] b_1 b_2, AV.int IntKind.u64 b_3]), Blk.dead, Blk.row IntKind.u8 b_4 b_5])) := rfl
noncomputable def M (N : Nat) : Ty := fun R h1 h2 h3 h4 h5 h6 bN7 b8 kr0 => m (take.M N) (R := R) N h1 h2 h3 h4 h5 h6 bN7 b8 kr0
def gts : List (Nat × AV) := [(19, .ints .u32 64 K256)]
theorem gok (N : Nat) : GOk (g (take.M N)) := giD_ok hm (by intro p hp; cases hp) (gtL_ok (by decide)) (ovL_ok (by
    intro p hp
    simp only [List.mem_cons, List.not_mem_nil, or_false] at hp
    rcases hp with rfl
    · exact ⟨(take.ok N).gt (gtL_sub (by repeat (first | exact subG_nil _ | refine subG_cons (by kernel_rfl) ?_))) (gtL_ok (by decide)), _, Tryd.func106, by kernel_rfl, by kernel_rfl⟩
)) 1
theorem ok (N : Nat) : SoundC Tryd.prog (gtL gts) 80 (con (M N)) := by
  refine SoundC.mono (evF_ok (gok N) hm an N Tryd.func80) fun R args bs κ r h => ?_
  unfold con at h
  split at h
  · exact (eq (take.M N) N κ _ _ _ _ _ _ _ _).trans h
  · cases h
end Write

/-! ### Tryd.f107: Copy -/
namespace Copy
def an : Anns := ⟨fun i => findA i [], fun i => findA i [], true, fun _ => none, []⟩
noncomputable def g (mClone : Clone.Ty) : Gi := giD Tryd.prog (gtL []) (fun _ => an) 0 [] (ovL [(104, Clone.con mClone)]) 1
noncomputable def m (mClone : Clone.Ty) {R : Type} (_N : Nat) (h1 : List Int) (h2 : Nat) (h3 : Option Nat) (h4 : Bool) (h5 : List Int) (h6 : Int) (kr0 : (List Int) → Nat → (Option Nat) → Int → Bool → (List Int) → (List Int) → Int → Bool → (List Int) → Option R) : Option R :=
  mClone R (cut h3 h2 h5)
   (kr0 h1 h2 h3 h6 h4 h5 h1 h6 ((cut h3 h2 h5).isEmpty) (cut h3 h2 h5))
theorem tree (mClone : Clone.Ty) {R : Type} (N : Nat) (κ : AV → List Blk → Option R) (h1 : List Int) (h2 : Nat) (h3 : Option Nat) (h4 : Bool) (h5 : List Int) (h6 : Int) : evF (g mClone) an N Tryd.f107 [AV.ptr 0 []] [Blk.var (AV.agg [AV.ints IntKind.u32 8 h1, AV.own 1 [] h2 h3, AV.int IntKind.u64 h6]), Blk.row IntKind.u8 h4 h5] κ =
  mClone R (cut h3 h2 h5)
   (κ (AV.ptr 2 []) ([Blk.var (AV.agg [AV.ints IntKind.u32 8 h1, AV.own 1 [] h2 h3, AV.int IntKind.u64 h6]), Blk.row IntKind.u8 h4 h5, Blk.var (AV.agg [AV.ints IntKind.u32 8 h1, AV.own 3 [] 0 none, AV.int IntKind.u64 h6]), Blk.row IntKind.u8 (cut h3 h2 h5).isEmpty (cut h3 h2 h5)])) := by kernel_rfl
theorem eq (mClone : Clone.Ty) {R : Type} (N : Nat) (κ : AV → List Blk → Option R) (h1 : List Int) (h2 : Nat) (h3 : Option Nat) (h4 : Bool) (h5 : List Int) (h6 : Int) : evF (g mClone) an N Tryd.f107 [AV.ptr 0 []] [Blk.var (AV.agg [AV.ints IntKind.u32 8 h1, AV.own 1 [] h2 h3, AV.int IntKind.u64 h6]), Blk.row IntKind.u8 h4 h5] κ =
  m mClone N h1 h2 h3 h4 h5 h6 (fun b b_1 b_2 b_3 b_4 b_5 b_6 b_7 b_8 b_9 => κ (AV.ptr 2 []) ([Blk.var (AV.agg [AV.ints IntKind.u32 8 b, AV.own 1 [] b_1 b_2, AV.int IntKind.u64 b_3]), Blk.row IntKind.u8 b_4 b_5, Blk.var (AV.agg [AV.ints IntKind.u32 8 b_6, AV.own 3 [] 0 none, AV.int IntKind.u64 b_7]), Blk.row IntKind.u8 b_8 b_9])) := by
  rw [tree]
  kernel_rfl
abbrev Ty : Type 1 := ∀ R : Type, (List Int) → Nat → (Option Nat) → Bool → (List Int) → Int → ((List Int) → Nat → (Option Nat) → Int → Bool → (List Int) → (List Int) → Int → Bool → (List Int) → Option R) → Option R
def con (f : Ty) : Con := fun R args bs κ => match args, bs with
  | [AV.ptr 0 []], [Blk.var (AV.agg [AV.ints IntKind.u32 8 h1, AV.own 1 [] h2 h3, AV.int IntKind.u64 h6]), Blk.row IntKind.u8 h4 h5] => f R h1 h2 h3 h4 h5 h6 (fun b b_1 b_2 b_3 b_4 b_5 b_6 b_7 b_8 b_9 => κ (AV.ptr 2 []) ([Blk.var (AV.agg [AV.ints IntKind.u32 8 b, AV.own 1 [] b_1 b_2, AV.int IntKind.u64 b_3]), Blk.row IntKind.u8 b_4 b_5, Blk.var (AV.agg [AV.ints IntKind.u32 8 b_6, AV.own 3 [] 0 none, AV.int IntKind.u64 b_7]), Blk.row IntKind.u8 b_8 b_9]))
  | _, _ => none
theorem con_eq (f : Ty) (R : Type) (κ : AV → List Blk → Option R) (h1 : List Int) (h2 : Nat) (h3 : Option Nat) (h4 : Bool) (h5 : List Int) (h6 : Int) : con f R [AV.ptr 0 []] [Blk.var (AV.agg [AV.ints IntKind.u32 8 h1, AV.own 1 [] h2 h3, AV.int IntKind.u64 h6]), Blk.row IntKind.u8 h4 h5] κ = f R h1 h2 h3 h4 h5 h6 (fun b b_1 b_2 b_3 b_4 b_5 b_6 b_7 b_8 b_9 => κ (AV.ptr 2 []) ([Blk.var (AV.agg [AV.ints IntKind.u32 8 b, AV.own 1 [] b_1 b_2, AV.int IntKind.u64 b_3]), Blk.row IntKind.u8 b_4 b_5, Blk.var (AV.agg [AV.ints IntKind.u32 8 b_6, AV.own 3 [] 0 none, AV.int IntKind.u64 b_7]), Blk.row IntKind.u8 b_8 b_9])) := rfl
noncomputable def M (N : Nat) : Ty := fun R h1 h2 h3 h4 h5 h6 kr0 => m (Clone.M N) (R := R) N h1 h2 h3 h4 h5 h6 kr0
def gts : List (Nat × AV) := []
theorem gok (N : Nat) : GOk (g (Clone.M N)) := giD_ok hm (by intro p hp; cases hp) (gtL_ok (by decide)) (ovL_ok (by
    intro p hp
    simp only [List.mem_cons, List.not_mem_nil, or_false] at hp
    rcases hp with rfl
    · exact ⟨(Clone.ok N).gt (gtL_sub (by repeat (first | exact subG_nil _ | refine subG_cons (by kernel_rfl) ?_))) (gtL_ok (by decide)), _, Tryd.func104, by kernel_rfl, by kernel_rfl⟩
)) 1
theorem ok (N : Nat) : SoundC Tryd.prog (gtL gts) 107 (con (M N)) := by
  refine SoundC.mono (evF_ok (gok N) hm an N Tryd.func107) fun R args bs κ r h => ?_
  unfold con at h
  split at h
  · exact (eq (Clone.M N) N κ _ _ _ _ _ _).trans h
  · cases h
end Copy

/-! ### Tryd.f81: hSum -/
namespace hSum
def an : Anns := ⟨fun i => findA i [(6, ⟨[0, 2, 3, 4], [⟨2, 2, T.int IntKind.u8, none⟩, ⟨3, 3, T.int IntKind.u8, none⟩, ⟨4, 4, T.int IntKind.u8, none⟩, ⟨0, 5, T.int IntKind.u8, some [1]⟩, ⟨3, 6, T.int IntKind.u8, some [1]⟩], 7, []⟩), (11, ⟨[0, 2, 6, 41, 42], [⟨2, 2, T.int IntKind.u8, none⟩, ⟨6, 3, T.int IntKind.u8, none⟩, ⟨0, 4, T.int IntKind.u8, some [1]⟩], 5, []⟩)], fun i => findA i [], false, fun _ => none, []⟩
noncomputable def g (mCopy : Copy.Ty) (mPutBig : PutBig.Ty) (mWrite : Write.Ty) : Gi := giD Tryd.prog (gtL [(0, .err 1), (19, .ints .u32 64 K256)]) (fun _ => an) 0 [] (ovL [(107, Copy.con mCopy), (72, PutBig.con mPutBig), (80, Write.con mWrite)]) 1
noncomputable def c_L6 : Code := loopOf Tryd.f81 0
noncomputable def c_L11 : Code := loopOf Tryd.f81 1
def s_L6 (h0 : List Int) (h0_1 : Nat) (h0_2 : Option Nat) (h0_3 : Int) (h3v1 : List Int) (h3_5 : Nat) (h3_6 : Option Nat) (h3_7 : Int) (h4v1 : List Int) (h5v1 : Bool) (h5_10 : List Int) (h6v1 : Bool) (h6_12 : List Int) : St := ⟨[AV.ptr 0 [], AV.dead, AV.ptr 2 [], AV.ptr 3 [], AV.own 4 [] 0 none] ++ List.replicate 69 .dead, [Blk.var (AV.agg [AV.ints IntKind.u32 8 h0, AV.own 5 [] h0_1 h0_2, AV.int IntKind.u64 h0_3]), Blk.dead, Blk.var (AV.ints IntKind.u8 32 [0, 0, 0, 0, 0, 0, 0, 0, 0, 0, 0, 0, 0, 0, 0, 0, 0, 0, 0, 0, 0, 0, 0, 0, 0, 0, 0, 0, 0, 0, 0, 0]), Blk.var (AV.agg [AV.ints IntKind.u32 8 h3v1, AV.own 6 [] h3_5 h3_6, AV.int IntKind.u64 h3_7]), Blk.row IntKind.u8 false h4v1, Blk.row IntKind.u8 h5v1 h5_10, Blk.row IntKind.u8 h6v1 h6_12]⟩
def s_L11 (t41 : List Int) (t42 : Int) (h0v1 : List Int) (h0_3v1 : Nat) (h0_4 : Option Nat) (h0_5 : Int) (h3v2 : List Int) (h4v2 : Bool) (h4_8 : List Int) : St := ⟨[AV.ptr 0 [], AV.dead, AV.ptr 2 [], AV.dead, AV.dead, AV.dead, AV.ptr 3 []] ++ List.replicate 34 .dead ++ [AV.ints IntKind.u32 8 t41, AV.int IntKind.i64 t42] ++ List.replicate 31 .dead, [Blk.var (AV.agg [AV.ints IntKind.u32 8 h0v1, AV.own 4 [] h0_3v1 h0_4, AV.int IntKind.u64 h0_5]), Blk.dead, Blk.var (AV.ints IntKind.u8 32 [0, 0, 0, 0, 0, 0, 0, 0, 0, 0, 0, 0, 0, 0, 0, 0, 0, 0, 0, 0, 0, 0, 0, 0, 0, 0, 0, 0, 0, 0, 0, 0]), Blk.var (AV.ints IntKind.u8 32 h3v2), Blk.row IntKind.u8 h4v2 h4_8]⟩
def x_L6_0 (h0 : List Int) (h0_1 : Nat) (h0_2 : Option Nat) (h0_3 : Int) (h3v1 : List Int) (h3_5 : Nat) (h3_6 : Option Nat) (h3_7 : Int) (h4v1 : List Int) (h5v1 : Bool) (h5_10 : List Int) (h6v1 : Bool) (h6_12 : List Int) : St := ⟨[AV.ptr 0 [], AV.dead, AV.ptr 2 [], AV.ptr 3 [], AV.own 4 [] 0 none] ++ List.replicate 21 .dead ++ [AV.ptr 3 [], AV.ptr 3 [], AV.ptr 3 [1], AV.own 6 [] h3_5 h3_6, AV.int IntKind.i64 (↑(olen h3_6 h6_12.length h3_5) : Int), AV.bool ((↑(olen h3_6 h6_12.length h3_5) : Int) != 56)] ++ List.replicate 42 .dead, [Blk.var (AV.agg [AV.ints IntKind.u32 8 h0, AV.own 5 [] h0_1 h0_2, AV.int IntKind.u64 h0_3]), Blk.dead, Blk.var (AV.ints IntKind.u8 32 [0, 0, 0, 0, 0, 0, 0, 0, 0, 0, 0, 0, 0, 0, 0, 0, 0, 0, 0, 0, 0, 0, 0, 0, 0, 0, 0, 0, 0, 0, 0, 0]), Blk.var (AV.agg [AV.ints IntKind.u32 8 h3v1, AV.own 6 [] h3_5 h3_6, AV.int IntKind.u64 h3_7]), Blk.row IntKind.u8 false h4v1, Blk.row IntKind.u8 h5v1 h5_10, Blk.row IntKind.u8 h6v1 h6_12]⟩
def x_L11_0 (t41 : List Int) (t42 : Int) (h0v1 : List Int) (h0_3v1 : Nat) (h0_4 : Option Nat) (h0_5 : Int) (h3v2 : List Int) (h4v2 : Bool) (h4_8 : List Int) : St := ⟨[AV.ptr 0 [], AV.dead, AV.ptr 2 [], AV.dead, AV.dead, AV.dead, AV.ptr 3 []] ++ List.replicate 34 .dead ++ [AV.ints IntKind.u32 8 t41, AV.int IntKind.i64 t42, AV.bool (decide (t42 < 8))] ++ List.replicate 30 .dead, [Blk.var (AV.agg [AV.ints IntKind.u32 8 h0v1, AV.own 4 [] h0_3v1 h0_4, AV.int IntKind.u64 h0_5]), Blk.dead, Blk.var (AV.ints IntKind.u8 32 [0, 0, 0, 0, 0, 0, 0, 0, 0, 0, 0, 0, 0, 0, 0, 0, 0, 0, 0, 0, 0, 0, 0, 0, 0, 0, 0, 0, 0, 0, 0, 0]), Blk.var (AV.ints IntKind.u8 32 h3v2), Blk.row IntKind.u8 h4v2 h4_8]⟩
noncomputable def L6 (mCopy : Copy.Ty) (mPutBig : PutBig.Ty) (mWrite : Write.Ty) {R : Type} (N : Nat) (ke0 : (List Int) → Nat → (Option Nat) → Int → (List Int) → Nat → (Option Nat) → Int → (List Int) → Bool → (List Int) → Bool → (List Int) → Option R) : Nat → (List Int) → Nat → (Option Nat) → Int → (List Int) → Nat → (Option Nat) → Int → (List Int) → Bool → (List Int) → Bool → (List Int) → Option R
  | 0, _, _, _, _, _, _, _, _, _, _, _, _, _ => none
  | m + 1, h0, h0_1, h0_2, h0_3, h3v1, h3_5, h3_6, h3_7, h4v1, h5v1, h5_10, h6v1, h6_12 =>
    cond ((↑(olen h3_6 h6_12.length h3_5) : Int) != 56)
     (mWrite R h3v1 h3_5 h3_6 h6v1 h6_12 h3_7 none ([0])
      (fun b_c120 b_1_c121 b_2_c122 b_3_c123 b_4_c124 b_5_c125 => L6 mCopy mPutBig mWrite N ke0 m h0 h0_1 h0_2 h0_3 b_c120 b_1_c121 b_2_c122 b_3_c123 h4v1 h5v1 h5_10 b_4_c124 b_5_c125))
     (ke0 h0 h0_1 h0_2 h0_3 h3v1 h3_5 h3_6 h3_7 h4v1 h5v1 h5_10 h6v1 h6_12)
theorem round_L6 (mCopy : Copy.Ty) (mPutBig : PutBig.Ty) (mWrite : Write.Ty) {R : Type} (N : Nat) (Rn : St → Option R) (k : K R) (h0 : List Int) (h0_1 : Nat) (h0_2 : Option Nat) (h0_3 : Int) (h3v1 : List Int) (h3_5 : Nat) (h3_6 : Option Nat) (h3_7 : Int) (h4v1 : List Int) (h5v1 : Bool) (h5_10 : List Int) (h6v1 : Bool) (h6_12 : List Int) : evC (g mCopy mPutBig mWrite) an 2 N c_L6 none (roundK (nmOf 2 (an.loop 6)) Rn k) (s_L6 h0 h0_1 h0_2 h0_3 h3v1 h3_5 h3_6 h3_7 h4v1 h5v1 h5_10 h6v1 h6_12) =
  cond ((↑(olen h3_6 h6_12.length h3_5) : Int) != 56)
   (mWrite R h3v1 h3_5 h3_6 h6v1 h6_12 h3_7 none ([0])
    (fun b_c120 b_1_c121 b_2_c122 b_3_c123 b_4_c124 b_5_c125 => Rn (s_L6 h0 h0_1 h0_2 h0_3 b_c120 b_1_c121 b_2_c122 b_3_c123 h4v1 h5v1 h5_10 b_4_c124 b_5_c125)))
   (k.ext 0 (x_L6_0 h0 h0_1 h0_2 h0_3 h3v1 h3_5 h3_6 h3_7 h4v1 h5v1 h5_10 h6v1 h6_12)) := by kernel_rfl
theorem run_L6 (mCopy : Copy.Ty) (mPutBig : PutBig.Ty) (mWrite : Write.Ty) {R : Type} (N : Nat) (k : K R) : ∀ (m : Nat) (h0 : List Int) (h0_1 : Nat) (h0_2 : Option Nat) (h0_3 : Int) (h3v1 : List Int) (h3_5 : Nat) (h3_6 : Option Nat) (h3_7 : Int) (h4v1 : List Int) (h5v1 : Bool) (h5_10 : List Int) (h6v1 : Bool) (h6_12 : List Int), loopN (evC (g mCopy mPutBig mWrite) an 2 N c_L6 none) k (nmOf 2 (an.loop 6)) m (s_L6 h0 h0_1 h0_2 h0_3 h3v1 h3_5 h3_6 h3_7 h4v1 h5v1 h5_10 h6v1 h6_12) =
    L6 mCopy mPutBig mWrite N (fun h0 h0_1 h0_2 h0_3 h3v1 h3_5 h3_6 h3_7 h4v1 h5v1 h5_10 h6v1 h6_12 => (k).ext 0 (x_L6_0 h0 h0_1 h0_2 h0_3 h3v1 h3_5 h3_6 h3_7 h4v1 h5v1 h5_10 h6v1 h6_12)) m h0 h0_1 h0_2 h0_3 h3v1 h3_5 h3_6 h3_7 h4v1 h5v1 h5_10 h6v1 h6_12 := by
  intro m
  induction m with
  | zero => intros; rfl
  | succ m ih =>
    intros
    rw [loopN_succ, round_L6]
    simp only [ih]
    kernel_rfl
noncomputable def L11 (mCopy : Copy.Ty) (mPutBig : PutBig.Ty) (mWrite : Write.Ty) {R : Type} (N : Nat) (ke0 : (List Int) → Int → (List Int) → Nat → (Option Nat) → Int → (List Int) → Bool → (List Int) → Option R) : Nat → (List Int) → Int → (List Int) → Nat → (Option Nat) → Int → (List Int) → Bool → (List Int) → Option R
  | 0, _, _, _, _, _, _, _, _, _ => none
  | m + 1, t41, t42, h0v1, h0_3v1, h0_4, h0_5, h3v2, h4v2, h4_8 =>
    cond (decide (t42 < 8))
     (cond (decide (0 ≤ t42))
      (cond (decide (t42 < 8))
       (cond (decide (0 ≤ IntKind.i64.wrap (4 * t42)))
        (cond (decide (IntKind.i64.wrap (4 * t42) < 32))
         (cond (decide (0 ≤ IntKind.i64.wrap (IntKind.i64.wrap (4 * t42) + 1)))
          (cond (decide (IntKind.i64.wrap (IntKind.i64.wrap (4 * t42) + 1) < 32))
           (cond (decide (0 ≤ IntKind.i64.wrap (IntKind.i64.wrap (4 * t42) + 2)))
            (cond (decide (IntKind.i64.wrap (IntKind.i64.wrap (4 * t42) + 2) < 32))
             (cond (decide (0 ≤ IntKind.i64.wrap (IntKind.i64.wrap (4 * t42) + 3)))
              (cond (decide (IntKind.i64.wrap (IntKind.i64.wrap (4 * t42) + 3) < 32))
               (L11 mCopy mPutBig mWrite N ke0 m t41 (IntKind.i64.wrap (t42 + 1)) h0v1 h0_3v1 h0_4 h0_5 ((((h3v2.set (IntKind.i64.wrap (4 * t42)).toNat (IntKind.u8.wrap (ishr IntKind.u32 (t41.getD t42.toNat 0) 24))).set (IntKind.i64.wrap (IntKind.i64.wrap (4 * t42) + 1)).toNat (IntKind.u8.wrap (ishr IntKind.u32 (t41.getD t42.toNat 0) 16))).set (IntKind.i64.wrap (IntKind.i64.wrap (4 * t42) + 2)).toNat (IntKind.u8.wrap (ishr IntKind.u32 (t41.getD t42.toNat 0) 8))).set (IntKind.i64.wrap (IntKind.i64.wrap (4 * t42) + 3)).toNat (IntKind.u8.wrap (t41.getD t42.toNat 0))) h4v2 h4_8)
               none)
              none)
             none)
            none)
           none)
          none)
         none)
        none)
       none)
      none)
     (ke0 t41 t42 h0v1 h0_3v1 h0_4 h0_5 h3v2 h4v2 h4_8)
theorem round_L11 (mCopy : Copy.Ty) (mPutBig : PutBig.Ty) (mWrite : Write.Ty) {R : Type} (N : Nat) (Rn : St → Option R) (k : K R) (t41 : List Int) (t42 : Int) (h0v1 : List Int) (h0_3v1 : Nat) (h0_4 : Option Nat) (h0_5 : Int) (h3v2 : List Int) (h4v2 : Bool) (h4_8 : List Int) : evC (g mCopy mPutBig mWrite) an 2 N c_L11 none (roundK (nmOf 2 (an.loop 11)) Rn k) (s_L11 t41 t42 h0v1 h0_3v1 h0_4 h0_5 h3v2 h4v2 h4_8) =
  cond (decide (t42 < 8))
   (cond (decide (0 ≤ t42))
    (cond (decide (t42 < 8))
     (cond (decide (0 ≤ IntKind.i64.wrap (4 * t42)))
      (cond (decide (IntKind.i64.wrap (4 * t42) < 32))
       (cond (decide (0 ≤ IntKind.i64.wrap (IntKind.i64.wrap (4 * t42) + 1)))
        (cond (decide (IntKind.i64.wrap (IntKind.i64.wrap (4 * t42) + 1) < 32))
         (cond (decide (0 ≤ IntKind.i64.wrap (IntKind.i64.wrap (4 * t42) + 2)))
          (cond (decide (IntKind.i64.wrap (IntKind.i64.wrap (4 * t42) + 2) < 32))
           (cond (decide (0 ≤ IntKind.i64.wrap (IntKind.i64.wrap (4 * t42) + 3)))
            (cond (decide (IntKind.i64.wrap (IntKind.i64.wrap (4 * t42) + 3) < 32))
             (Rn (s_L11 t41 (IntKind.i64.wrap (t42 + 1)) h0v1 h0_3v1 h0_4 h0_5 ((((h3v2.set (IntKind.i64.wrap (4 * t42)).toNat (IntKind.u8.wrap (ishr IntKind.u32 (t41.getD t42.toNat 0) 24))).set (IntKind.i64.wrap (IntKind.i64.wrap (4 * t42) + 1)).toNat (IntKind.u8.wrap (ishr IntKind.u32 (t41.getD t42.toNat 0) 16))).set (IntKind.i64.wrap (IntKind.i64.wrap (4 * t42) + 2)).toNat (IntKind.u8.wrap (ishr IntKind.u32 (t41.getD t42.toNat 0) 8))).set (IntKind.i64.wrap (IntKind.i64.wrap (4 * t42) + 3)).toNat (IntKind.u8.wrap (t41.getD t42.toNat 0))) h4v2 h4_8))
             none)
            none)
           none)
          none)
         none)
        none)
       none)
      none)
     none)
    none)
   (k.ext 2 (x_L11_0 t41 t42 h0v1 h0_3v1 h0_4 h0_5 h3v2 h4v2 h4_8)) := by kernel_rfl
theorem run_L11 (mCopy : Copy.Ty) (mPutBig : PutBig.Ty) (mWrite : Write.Ty) {R : Type} (N : Nat) (k : K R) : ∀ (m : Nat) (t41 : List Int) (t42 : Int) (h0v1 : List Int) (h0_3v1 : Nat) (h0_4 : Option Nat) (h0_5 : Int) (h3v2 : List Int) (h4v2 : Bool) (h4_8 : List Int), loopN (evC (g mCopy mPutBig mWrite) an 2 N c_L11 none) k (nmOf 2 (an.loop 11)) m (s_L11 t41 t42 h0v1 h0_3v1 h0_4 h0_5 h3v2 h4v2 h4_8) =
    L11 mCopy mPutBig mWrite N (fun t41 t42 h0v1 h0_3v1 h0_4 h0_5 h3v2 h4v2 h4_8 => (k).ext 2 (x_L11_0 t41 t42 h0v1 h0_3v1 h0_4 h0_5 h3v2 h4v2 h4_8)) m t41 t42 h0v1 h0_3v1 h0_4 h0_5 h3v2 h4v2 h4_8 := by
  intro m
  induction m with
  | zero => intros; rfl
  | succ m ih =>
    intros
    rw [loopN_succ, round_L11]
    simp only [ih]
    kernel_rfl
noncomputable def m (mCopy : Copy.Ty) (mPutBig : PutBig.Ty) (mWrite : Write.Ty) {R : Type} (N : Nat) (h1 : List Int) (h2 : Nat) (h3 : Option Nat) (h4 : Bool) (h5 : List Int) (h6 : Int) (kr0 : (List Int) → (List Int) → Nat → (Option Nat) → Int → Bool → (List Int) → Option R) : Option R :=
  mCopy R h1 h2 h3 h4 h5 h6
   (fun b_c103 b_1_c104 b_2_c105 b_3_c106 b_4_c107 b_5_c108 b_6_c109 b_7_c110 b_8_c111 b_9_c112 => mPutBig R (IntKind.u64.wrap (8 * b_3_c106)) 8
    (kr0 ([0, 0, 0, 0, 0, 0, 0, 0, 0, 0, 0, 0, 0, 0, 0, 0, 0, 0, 0, 0, 0, 0, 0, 0, 0, 0, 0, 0, 0, 0, 0, 0]) b_c103 b_1_c104 b_2_c105 b_3_c106 b_4_c107 b_5_c108)
    (fun b_c113 => mWrite R b_6_c109 0 none b_8_c111 b_9_c112 b_7_c110 none ([128])
     (fun b_c114 b_1_c115 b_2_c116 b_3_c117 b_4_c118 b_5_c119 => L6 mCopy mPutBig mWrite N
      (fun h0_c126 h0_1_c127 h0_2_c128 h0_3_c129 h3_c130 h3_5_c131 h3_6_c132 h3_7_c133 h4_c134 h5_c135 h5_10_c136 h6_c137 h6_12_c138 => mWrite R h3_c130 h3_5_c131 h3_6_c132 h6_c137 h6_12_c138 h3_7_c133 none h4_c134
       (fun b_c139 _b_1_c140 _b_2_c141 _b_3_c142 _b_4_c143 _b_5_c144 => L11 mCopy mPutBig mWrite N
        (fun _t41_c145 _t42_c146 h0_c147 h0_3_c148 h0_4_c149 h0_5_c150 h3_c151 h4_c152 h4_8_c153 => kr0 h3_c151 h0_c147 h0_3_c148 h0_4_c149 h0_5_c150 h4_c152 h4_8_c153) N b_c139 0 h0_c126 h0_1_c127 h0_2_c128 h0_3_c129 ([0, 0, 0, 0, 0, 0, 0, 0, 0, 0, 0, 0, 0, 0, 0, 0, 0, 0, 0, 0, 0, 0, 0, 0, 0, 0, 0, 0, 0, 0, 0, 0]) h5_c135 h5_10_c136)) N b_c103 b_1_c104 b_2_c105 b_3_c106 b_c114 b_1_c115 b_2_c116 b_3_c117 b_c113 b_4_c107 b_5_c108 b_4_c118 b_5_c119)))
theorem tree (mCopy : Copy.Ty) (mPutBig : PutBig.Ty) (mWrite : Write.Ty) {R : Type} (N : Nat) (κ : AV → List Blk → Option R) (h1 : List Int) (h2 : Nat) (h3 : Option Nat) (h4 : Bool) (h5 : List Int) (h6 : Int) : evF (g mCopy mPutBig mWrite) an N Tryd.f81 [AV.ptr 0 []] [Blk.var (AV.agg [AV.ints IntKind.u32 8 h1, AV.own 1 [] h2 h3, AV.int IntKind.u64 h6]), Blk.row IntKind.u8 h4 h5] κ =
  mCopy R h1 h2 h3 h4 h5 h6
   (fun b_c103 b_1_c104 b_2_c105 b_3_c106 b_4_c107 b_5_c108 b_6_c109 b_7_c110 b_8_c111 b_9_c112 => mPutBig R (IntKind.u64.wrap (8 * b_3_c106)) 8
    (κ (AV.ints IntKind.u8 32 [0, 0, 0, 0, 0, 0, 0, 0, 0, 0, 0, 0, 0, 0, 0, 0, 0, 0, 0, 0, 0, 0, 0, 0, 0, 0, 0, 0, 0, 0, 0, 0]) ([Blk.var (AV.agg [AV.ints IntKind.u32 8 b_c103, AV.own 2 [] b_1_c104 b_2_c105, AV.int IntKind.u64 b_3_c106]), Blk.dead, Blk.row IntKind.u8 b_4_c107 b_5_c108]))
    (fun b_c113 => mWrite R b_6_c109 0 none b_8_c111 b_9_c112 b_7_c110 none ([128])
     (fun b_c114 b_1_c115 b_2_c116 b_3_c117 b_4_c118 b_5_c119 => loopN (evC (g mCopy mPutBig mWrite) an 2 N c_L6 none) (ctx (g mCopy mPutBig mWrite) an 2 N (bodyOf Tryd.f81) [1, 1, 1, 1, 1, 0, 0] (endK (g mCopy mPutBig mWrite) an Tryd.f81 [Blk.var (AV.agg [AV.ints IntKind.u32 8 h1, AV.own 1 [] h2 h3, AV.int IntKind.u64 h6]), Blk.row IntKind.u8 h4 h5] κ)) (nmOf 2 (an.loop 6)) N (s_L6 b_c103 b_1_c104 b_2_c105 b_3_c106 b_c114 b_1_c115 b_2_c116 b_3_c117 b_c113 b_4_c107 b_5_c108 b_4_c118 b_5_c119)))) := by kernel_rfl
theorem tree_e0 (mCopy : Copy.Ty) (mPutBig : PutBig.Ty) (mWrite : Write.Ty) {R : Type} (N : Nat) (κ : AV → List Blk → Option R) (h1 : List Int) (h2 : Nat) (h3 : Option Nat) (h4 : Bool) (h5 : List Int) (h6 : Int) (h0_c126 : List Int) (h0_1_c127 : Nat) (h0_2_c128 : Option Nat) (h0_3_c129 : Int) (h3_c130 : List Int) (h3_5_c131 : Nat) (h3_6_c132 : Option Nat) (h3_7_c133 : Int) (h4_c134 : List Int) (h5_c135 : Bool) (h5_10_c136 : List Int) (h6_c137 : Bool) (h6_12_c138 : List Int) : (ctx (g mCopy mPutBig mWrite) an 2 N (bodyOf Tryd.f81) [1, 1, 1, 1, 1, 0, 0] (endK (g mCopy mPutBig mWrite) an Tryd.f81 [Blk.var (AV.agg [AV.ints IntKind.u32 8 h1, AV.own 1 [] h2 h3, AV.int IntKind.u64 h6]), Blk.row IntKind.u8 h4 h5] κ)).ext 0 (x_L6_0 h0_c126 h0_1_c127 h0_2_c128 h0_3_c129 h3_c130 h3_5_c131 h3_6_c132 h3_7_c133 h4_c134 h5_c135 h5_10_c136 h6_c137 h6_12_c138) =
  mWrite R h3_c130 h3_5_c131 h3_6_c132 h6_c137 h6_12_c138 h3_7_c133 none h4_c134
   (fun b_c139 _b_1_c140 _b_2_c141 _b_3_c142 _b_4_c143 _b_5_c144 => loopN (evC (g mCopy mPutBig mWrite) an 2 N c_L11 none) (ctx (g mCopy mPutBig mWrite) an 2 N (bodyOf Tryd.f81) [1, 1, 1, 1, 1, 1, 1, 1, 0, 1, 0] (endK (g mCopy mPutBig mWrite) an Tryd.f81 [Blk.var (AV.agg [AV.ints IntKind.u32 8 h1, AV.own 1 [] h2 h3, AV.int IntKind.u64 h6]), Blk.row IntKind.u8 h4 h5] κ)) (nmOf 2 (an.loop 11)) N (s_L11 b_c139 0 h0_c126 h0_1_c127 h0_2_c128 h0_3_c129 ([0, 0, 0, 0, 0, 0, 0, 0, 0, 0, 0, 0, 0, 0, 0, 0, 0, 0, 0, 0, 0, 0, 0, 0, 0, 0, 0, 0, 0, 0, 0, 0]) h5_c135 h5_10_c136)) := by kernel_rfl
theorem eq (mCopy : Copy.Ty) (mPutBig : PutBig.Ty) (mWrite : Write.Ty) {R : Type} (N : Nat) (κ : AV → List Blk → Option R) (h1 : List Int) (h2 : Nat) (h3 : Option Nat) (h4 : Bool) (h5 : List Int) (h6 : Int) : evF (g mCopy mPutBig mWrite) an N Tryd.f81 [AV.ptr 0 []] [Blk.var (AV.agg [AV.ints IntKind.u32 8 h1, AV.own 1 [] h2 h3, AV.int IntKind.u64 h6]), Blk.row IntKind.u8 h4 h5] κ =
  m mCopy mPutBig mWrite N h1 h2 h3 h4 h5 h6 (fun v b b_2 b_3 b_4 b_5 b_6 => κ (AV.ints IntKind.u8 32 v) ([Blk.var (AV.agg [AV.ints IntKind.u32 8 b, AV.own 2 [] b_2 b_3, AV.int IntKind.u64 b_4]), Blk.dead, Blk.row IntKind.u8 b_5 b_6])) := by
  rw [tree]
  simp only [run_L6, run_L11, tree_e0]
  kernel_rfl
abbrev Ty : Type 1 := ∀ R : Type, (List Int) → Nat → (Option Nat) → Bool → (List Int) → Int → ((List Int) → (List Int) → Nat → (Option Nat) → Int → Bool → (List Int) → Option R) → Option R
def con (f : Ty) : Con := fun R args bs κ => match args, bs with
  | [AV.ptr 0 []], [Blk.var (AV.agg [AV.ints IntKind.u32 8 h1, AV.own 1 [] h2 h3, AV.int IntKind.u64 h6]), Blk.row IntKind.u8 h4 h5] => f R h1 h2 h3 h4 h5 h6 (fun v b b_2 b_3 b_4 b_5 b_6 => κ (AV.ints IntKind.u8 32 v) ([Blk.var (AV.agg [AV.ints IntKind.u32 8 b, AV.own 2 [] b_2 b_3, AV.int IntKind.u64 b_4]), Blk.dead, Blk.row IntKind.u8 b_5 b_6]))
  | _, _ => none
theorem con_eq (f : Ty) (R : Type) (κ : AV → List Blk → Option R) (h1 : List Int) (h2 : Nat) (h3 : Option Nat) (h4 : Bool) (h5 : List Int) (h6 : Int) : con f R [AV.ptr 0 []] [Blk.var (AV.agg [AV.ints IntKind.u32 8 h1, AV.own 1 [] h2 h3, AV.int IntKind.u64 h6]), Blk.row IntKind.u8 h4 h5] κ = f R h1 h2 h3 h4 h5 h6 (fun v b b_2 b_3 b_4 b_5 b_6 => κ (AV.ints IntKind.u8 32 v) ([Blk.var (AV.agg [AV.ints IntKind.u32 8 b, AV.own 2 [] b_2 b_3, AV.int IntKind.u64 b_4]), Blk.dead, Blk.row IntKind.u8 b_5 b_6])) := rfl
noncomputable def M (N : Nat) : Ty := fun R h1 h2 h3 h4 h5 h6 kr0 => m (Copy.M N) (PutBig.M N) (Write.M N) (R := R) N h1 h2 h3 h4 h5 h6 kr0
def gts : List (Nat × AV) := [(0, .err 1), (19, .ints .u32 64 K256)]
theorem gok (N : Nat) : GOk (g (Copy.M N) (PutBig.M N) (Write.M N)) := giD_ok hm (by intro p hp; cases hp) (gtL_ok (by decide)) (ovL_ok (by
    intro p hp
    simp only [List.mem_cons, List.not_mem_nil, or_false] at hp
    rcases hp with rfl | rfl | rfl
    · exact ⟨(Copy.ok N).gt (gtL_sub (by repeat (first | exact subG_nil _ | refine subG_cons (by kernel_rfl) ?_))) (gtL_ok (by decide)), _, Tryd.func107, by kernel_rfl, by kernel_rfl⟩
    · exact ⟨(PutBig.ok N).gt (gtL_sub (by repeat (first | exact subG_nil _ | refine subG_cons (by kernel_rfl) ?_))) (gtL_ok (by decide)), _, Tryd.func72, by kernel_rfl, by kernel_rfl⟩
    · exact ⟨(Write.ok N).gt (gtL_sub (by repeat (first | exact subG_nil _ | refine subG_cons (by kernel_rfl) ?_))) (gtL_ok (by decide)), _, Tryd.func80, by kernel_rfl, by kernel_rfl⟩
)) 1
theorem ok (N : Nat) : SoundC Tryd.prog (gtL gts) 81 (con (M N)) := by
  refine SoundC.mono (evF_ok (gok N) hm an N Tryd.func81) fun R args bs κ r h => ?_
  unfold con at h
  split at h
  · exact (eq (Copy.M N) (PutBig.M N) (Write.M N) N κ _ _ _ _ _ _).trans h
  · cases h
end hSum

/-! ### Tryd.f50: sSum -/
namespace sSum
def an : Anns := ⟨fun i => findA i [(3, ⟨[2, 3, 7, 8, 9], [⟨2, 0, T.int IntKind.u8, none⟩, ⟨3, 1, T.int IntKind.u8, none⟩, ⟨3, 2, T.int IntKind.u8, some [1]⟩], 3, []⟩)], fun i => findA i [], false, fun _ => none, []⟩
noncomputable def g (mNew : New.Ty) (mWrite : Write.Ty) (mhSum : hSum.Ty) : Gi := giD Tryd.prog (gtL [(0, .err 1), (19, .ints .u32 64 K256)]) (fun _ => an) 0 [] (ovL [(79, New.con mNew), (80, Write.con mWrite), (81, hSum.con mhSum)]) 1
noncomputable def c_L3 : Code := loopOf Tryd.f50 0
def s_L3 (t7 : List (List Int)) (t8 : Int) (t9 : Int) (h1 : List Int) (h1_4 : Nat) (h1_5 : Option Nat) (h1_6 : Int) (h2 : Bool) (h2_8 : List Int) : St := ⟨[AV.dead, AV.dead, AV.ptr 0 [], AV.ptr 1 [], AV.dead, AV.dead, AV.dead, AV.rsl IntKind.u8 t7, AV.int IntKind.i64 t8, AV.int IntKind.i64 t9] ++ List.replicate 9 .dead, [Blk.var (AV.ints IntKind.u8 32 [0, 0, 0, 0, 0, 0, 0, 0, 0, 0, 0, 0, 0, 0, 0, 0, 0, 0, 0, 0, 0, 0, 0, 0, 0, 0, 0, 0, 0, 0, 0, 0]), Blk.var (AV.agg [AV.ints IntKind.u32 8 h1, AV.own 2 [] h1_4 h1_5, AV.int IntKind.u64 h1_6]), Blk.row IntKind.u8 h2 h2_8]⟩
def x_L3_0 (t7 : List (List Int)) (t8 : Int) (t9 : Int) (h1 : List Int) (h1_4 : Nat) (h1_5 : Option Nat) (h1_6 : Int) (h2 : Bool) (h2_8 : List Int) : St := ⟨[AV.dead, AV.dead, AV.ptr 0 [], AV.ptr 1 [], AV.dead, AV.dead, AV.dead, AV.rsl IntKind.u8 t7, AV.int IntKind.i64 t8, AV.int IntKind.i64 t9, AV.bool (decide (t9 < t8))] ++ List.replicate 8 .dead, [Blk.var (AV.ints IntKind.u8 32 [0, 0, 0, 0, 0, 0, 0, 0, 0, 0, 0, 0, 0, 0, 0, 0, 0, 0, 0, 0, 0, 0, 0, 0, 0, 0, 0, 0, 0, 0, 0, 0]), Blk.var (AV.agg [AV.ints IntKind.u32 8 h1, AV.own 2 [] h1_4 h1_5, AV.int IntKind.u64 h1_6]), Blk.row IntKind.u8 h2 h2_8]⟩
noncomputable def L3 (mNew : New.Ty) (mWrite : Write.Ty) (mhSum : hSum.Ty) {R : Type} (N : Nat) (ke0 : (List (List Int)) → Int → Int → (List Int) → Nat → (Option Nat) → Int → Bool → (List Int) → Option R) : Nat → (List (List Int)) → Int → Int → (List Int) → Nat → (Option Nat) → Int → Bool → (List Int) → Option R
  | 0, _, _, _, _, _, _, _, _, _ => none
  | m + 1, t7, t8, t9, h1, h1_4, h1_5, h1_6, h2, h2_8 =>
    cond (decide (t9 < t8))
     (cond (decide (0 ≤ t9))
      (cond (decide (t9 < (↑t7.length : Int)))
       (mWrite R h1 h1_4 h1_5 h2 h2_8 h1_6 none (t7.getD t9.toNat [])
        (fun b_c28 b_1_c29 b_2_c30 b_3_c31 b_4_c32 b_5_c33 => L3 mNew mWrite mhSum N ke0 m t7 t8 (IntKind.i64.wrap (t9 + 1)) b_c28 b_1_c29 b_2_c30 b_3_c31 b_4_c32 b_5_c33))
       none)
      none)
     (ke0 t7 t8 t9 h1 h1_4 h1_5 h1_6 h2 h2_8)
theorem round_L3 (mNew : New.Ty) (mWrite : Write.Ty) (mhSum : hSum.Ty) {R : Type} (N : Nat) (Rn : St → Option R) (k : K R) (t7 : List (List Int)) (t8 : Int) (t9 : Int) (h1 : List Int) (h1_4 : Nat) (h1_5 : Option Nat) (h1_6 : Int) (h2 : Bool) (h2_8 : List Int) : evC (g mNew mWrite mhSum) an 0 N c_L3 none (roundK (nmOf 0 (an.loop 3)) Rn k) (s_L3 t7 t8 t9 h1 h1_4 h1_5 h1_6 h2 h2_8) =
  cond (decide (t9 < t8))
   (cond (decide (0 ≤ t9))
    (cond (decide (t9 < (↑t7.length : Int)))
     (mWrite R h1 h1_4 h1_5 h2 h2_8 h1_6 none (t7.getD t9.toNat [])
      (fun b_c28 b_1_c29 b_2_c30 b_3_c31 b_4_c32 b_5_c33 => Rn (s_L3 t7 t8 (IntKind.i64.wrap (t9 + 1)) b_c28 b_1_c29 b_2_c30 b_3_c31 b_4_c32 b_5_c33)))
     none)
    none)
   (k.ext 0 (x_L3_0 t7 t8 t9 h1 h1_4 h1_5 h1_6 h2 h2_8)) := by kernel_rfl
theorem run_L3 (mNew : New.Ty) (mWrite : Write.Ty) (mhSum : hSum.Ty) {R : Type} (N : Nat) (k : K R) : ∀ (m : Nat) (t7 : List (List Int)) (t8 : Int) (t9 : Int) (h1 : List Int) (h1_4 : Nat) (h1_5 : Option Nat) (h1_6 : Int) (h2 : Bool) (h2_8 : List Int), loopN (evC (g mNew mWrite mhSum) an 0 N c_L3 none) k (nmOf 0 (an.loop 3)) m (s_L3 t7 t8 t9 h1 h1_4 h1_5 h1_6 h2 h2_8) =
    L3 mNew mWrite mhSum N (fun t7 t8 t9 h1 h1_4 h1_5 h1_6 h2 h2_8 => (k).ext 0 (x_L3_0 t7 t8 t9 h1 h1_4 h1_5 h1_6 h2 h2_8)) m t7 t8 t9 h1 h1_4 h1_5 h1_6 h2 h2_8 := by
  intro m
  induction m with
  | zero => intros; rfl
  | succ m ih =>
    intros
    rw [loopN_succ, round_L3]
    simp only [ih]
    kernel_rfl
noncomputable def m (mNew : New.Ty) (mWrite : Write.Ty) (mhSum : hSum.Ty) {R : Type} (N : Nat) (parts1 : List (List Int)) (kr0 : (List Int) → Option R) : Option R :=
  mNew R
   (L3 mNew mWrite mhSum N
    (fun _t7_c34 _t8_c35 _t9_c36 h1_c37 h1_4_c38 h1_5_c39 h1_6_c40 h2_c41 h2_8_c42 => mhSum R h1_c37 h1_4_c38 h1_5_c39 h2_c41 h2_8_c42 h1_6_c40
     (fun v_c43 _b_c44 _b_2_c45 _b_3_c46 _b_4_c47 _b_5_c48 _b_6_c49 => kr0 v_c43)) N parts1 ((↑parts1.length : Int)) 0 ([1779033703, 3144134277, 1013904242, 2773480762, 1359893119, 2600822924, 528734635, 1541459225]) 0 none 0 true [])
theorem tree (mNew : New.Ty) (mWrite : Write.Ty) (mhSum : hSum.Ty) {R : Type} (N : Nat) (κ : AV → List Blk → Option R) (parts1 : List (List Int)) : evF (g mNew mWrite mhSum) an N Tryd.f50 [AV.rsl IntKind.u8 parts1] [] κ =
  mNew R
   (loopN (evC (g mNew mWrite mhSum) an 0 N c_L3 none) (ctx (g mNew mWrite mhSum) an 0 N (bodyOf Tryd.f50) [1, 1, 0, 1, 0] (endK (g mNew mWrite mhSum) an Tryd.f50 [] κ)) (nmOf 0 (an.loop 3)) N (s_L3 parts1 ((↑parts1.length : Int)) 0 ([1779033703, 3144134277, 1013904242, 2773480762, 1359893119, 2600822924, 528734635, 1541459225]) 0 none 0 true [])) := by kernel_rfl
theorem eq (mNew : New.Ty) (mWrite : Write.Ty) (mhSum : hSum.Ty) {R : Type} (N : Nat) (κ : AV → List Blk → Option R) (parts1 : List (List Int)) : evF (g mNew mWrite mhSum) an N Tryd.f50 [AV.rsl IntKind.u8 parts1] [] κ =
  m mNew mWrite mhSum N parts1 (fun v => κ (AV.ints IntKind.u8 32 v) []) := by
  rw [tree]
  simp only [run_L3]
  kernel_rfl
abbrev Ty : Type 1 := ∀ R : Type, (List (List Int)) → ((List Int) → Option R) → Option R
def con (f : Ty) : Con := fun R args bs κ => match args, bs with
  | [AV.rsl IntKind.u8 parts1], [] => f R parts1 (fun v => κ (AV.ints IntKind.u8 32 v) [])
  | _, _ => none
theorem con_eq (f : Ty) (R : Type) (κ : AV → List Blk → Option R) (parts1 : List (List Int)) : con f R [AV.rsl IntKind.u8 parts1] [] κ = f R parts1 (fun v => κ (AV.ints IntKind.u8 32 v) []) := rfl
noncomputable def M (N : Nat) : Ty := fun R parts1 kr0 => m (New.M N) (Write.M N) (hSum.M N) (R := R) N parts1 kr0
def gts : List (Nat × AV) := [(0, .err 1), (19, .ints .u32 64 K256)]
theorem gok (N : Nat) : GOk (g (New.M N) (Write.M N) (hSum.M N)) := giD_ok hm (by intro p hp; cases hp) (gtL_ok (by decide)) (ovL_ok (by
    intro p hp
    simp only [List.mem_cons, List.not_mem_nil, or_false] at hp
    rcases hp with rfl | rfl | rfl
    · exact ⟨(New.ok N).gt (gtL_sub (by repeat (first | exact subG_nil _ | refine subG_cons (by kernel_rfl) ?_))) (gtL_ok (by decide)), _, Tryd.func79, by kernel_rfl, by kernel_rfl⟩
    · exact ⟨(Write.ok N).gt (gtL_sub (by repeat (first | exact subG_nil _ | refine subG_cons (by kernel_rfl) ?_))) (gtL_ok (by decide)), _, Tryd.func80, by kernel_rfl, by kernel_rfl⟩
    · exact ⟨(hSum.ok N).gt (gtL_sub (by repeat (first | exact subG_nil _ | refine subG_cons (by kernel_rfl) ?_))) (gtL_ok (by decide)), _, Tryd.func81, by kernel_rfl, by kernel_rfl⟩
)) 1
theorem ok (N : Nat) : SoundC Tryd.prog (gtL gts) 50 (con (M N)) := by
  refine SoundC.mono (evF_ok (gok N) hm an N Tryd.func50) fun R args bs κ r h => ?_
  unfold con at h
  split at h
  · exact (eq (New.M N) (Write.M N) (hSum.M N) N κ _).trans h
  · cases h
end sSum

end Go.Proofs.YthajoenmfppenaaDoor.fn
