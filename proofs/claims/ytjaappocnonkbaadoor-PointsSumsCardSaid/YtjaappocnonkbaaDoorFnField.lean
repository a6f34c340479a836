/- What the field's functions compute, with the proof; printed by a program. -/
import Derived.Test.YtjaappocnonkbaaDoorProg
import Derived.Test.YtjaappocnonkbaaDoorEv4
namespace Go.Proofs.YtjaappocnonkbaaDoor.fn
open Go Go.Proofs Go.Ev

theorem hm : Tryd.prog.follows .mixedOrders = true := by kernel_rfl

/-! ### Tryd.f81: Pick -/
namespace Pick
def an : Anns := ⟨fun i => findA i [], fun i => findA i [], false, fun _ => none⟩
noncomputable def g : Gi := giD Tryd.prog (gtL []) (fun _ => an) 0 [] (ovL []) 1
noncomputable def m {R : Type} (_N : Nat) (yes1 : Bool) (a2 : Int) (b3 : Int) (kr0 : Int → Option R) : Option R :=
  cond yes1
   (kr0 (ior IntKind.u64 (iand IntKind.u64 a2 18446744073709551615) (iandn IntKind.u64 b3 18446744073709551615)))
   (kr0 (ior IntKind.u64 (iand IntKind.u64 a2 0) (iandn IntKind.u64 b3 0)))
theorem tree {R : Type} (N : Nat) (κ : AV → List Blk → Option R) (yes1 : Bool) (a2 : Int) (b3 : Int) : evF (g) an N Tryd.f81 [AV.bool yes1, AV.int IntKind.u64 a2, AV.int IntKind.u64 b3] [] κ =
  cond yes1
   (κ (AV.int IntKind.u64 (ior IntKind.u64 (iand IntKind.u64 a2 18446744073709551615) (iandn IntKind.u64 b3 18446744073709551615))) [])
   (κ (AV.int IntKind.u64 (ior IntKind.u64 (iand IntKind.u64 a2 0) (iandn IntKind.u64 b3 0))) []) := by kernel_rfl
theorem eq {R : Type} (N : Nat) (κ : AV → List Blk → Option R) (yes1 : Bool) (a2 : Int) (b3 : Int) : evF (g) an N Tryd.f81 [AV.bool yes1, AV.int IntKind.u64 a2, AV.int IntKind.u64 b3] [] κ =
  m N yes1 a2 b3 (fun v => κ (AV.int IntKind.u64 v) []) := by
  rw [tree]
  kernel_rfl
abbrev Ty : Type 1 := ∀ R : Type, Bool → Int → Int → (Int → Option R) → Option R
def con (f : Ty) : Con := fun R args bs κ => match args, bs with
  | [AV.bool yes1, AV.int IntKind.u64 a2, AV.int IntKind.u64 b3], [] => f R yes1 a2 b3 (fun v => κ (AV.int IntKind.u64 v) [])
  | _, _ => none
theorem con_eq (f : Ty) (R : Type) (κ : AV → List Blk → Option R) (yes1 : Bool) (a2 : Int) (b3 : Int) : con f R [AV.bool yes1, AV.int IntKind.u64 a2, AV.int IntKind.u64 b3] [] κ = f R yes1 a2 b3 (fun v => κ (AV.int IntKind.u64 v) []) := rfl
noncomputable def M (N : Nat) : Ty := fun R yes1 a2 b3 kr0 => m (R := R) N yes1 a2 b3 kr0
def gts : List (Nat × AV) := []
theorem gok (_N : Nat) : GOk (g) := giD_ok hm (by intro p hp; cases hp) (gtL_ok (by decide)) (ovL_ok (by intro p hp; cases hp)) 1
theorem ok (N : Nat) : SoundC Tryd.prog (gtL gts) 81 (con (M N)) := by
  refine SoundC.mono (evF_ok (gok N) hm an N Tryd.func81) fun R args bs κ r h => ?_
  unfold con at h
  split at h
  · exact (eq N κ _ _ _).trans h
  · cases h
end Pick


/-! ### Tryd.f76: wEqual -/
namespace wEqual
def an : Anns := ⟨fun i => findA i [(5, ⟨[0, 1, 5, 13, 14], [], 0⟩)], fun i => findA i [], false, fun _ => none⟩
noncomputable def g : Gi := giD Tryd.prog (gtL []) (fun _ => an) 0 [] (ovL []) 1
noncomputable def c_L5 : Code := loopOf Tryd.f76 0
def s_L5 (a0 : Option Bool) (a0_1 : List Int) (b1 : Option Bool) (b1_3 : List Int) (parts5 : Int) (t13 : Int) (t14 : Int) : St := ⟨[AV.isl IntKind.u8 a0 a0_1, AV.isl IntKind.u8 b1 b1_3, AV.dead, AV.dead, AV.dead, AV.int IntKind.u8 parts5] ++ List.replicate 7 .dead ++ [AV.int IntKind.i64 t13, AV.int IntKind.i64 t14] ++ List.replicate 16 .dead, []⟩
def x_L5_0 (a0 : Option Bool) (a0_1 : List Int) (b1 : Option Bool) (b1_3 : List Int) (parts5 : Int) (t13 : Int) (t14 : Int) : St := ⟨[AV.isl IntKind.u8 a0 a0_1, AV.isl IntKind.u8 b1 b1_3, AV.dead, AV.dead, AV.dead, AV.int IntKind.u8 parts5] ++ List.replicate 7 .dead ++ [AV.int IntKind.i64 t13, AV.int IntKind.i64 t14, AV.bool (decide (t14 < t13))] ++ List.replicate 15 .dead, []⟩
noncomputable def L5 {R : Type} (N : Nat) (ke0 : (Option Bool) → (List Int) → (Option Bool) → (List Int) → Int → Int → Int → Option R) : Nat → (Option Bool) → (List Int) → (Option Bool) → (List Int) → Int → Int → Int → Option R
  | 0, _, _, _, _, _, _, _ => none
  | m + 1, a0, a0_1, b1, b1_3, parts5, t13, t14 =>
    cond (decide (t14 < t13))
     (cond (decide (0 ≤ t14))
      (cond (decide (t14 < (↑a0_1.length : Int)))
       (cond (decide (0 ≤ t14))
        (cond (decide (t14 < (↑b1_3.length : Int)))
         (L5 N ke0 m a0 a0_1 b1 b1_3 (ior IntKind.u8 parts5 (ixor IntKind.u8 (a0_1.getD t14.toNat 0) (b1_3.getD t14.toNat 0))) t13 (IntKind.i64.wrap (t14 + 1)))
         (none))
        (none))
       (none))
      (none))
     (ke0 a0 a0_1 b1 b1_3 parts5 t13 t14)
theorem round_L5 {R : Type} (N : Nat) (Rn : St → Option R) (k : K R) (a0 : Option Bool) (a0_1 : List Int) (b1 : Option Bool) (b1_3 : List Int) (parts5 : Int) (t13 : Int) (t14 : Int) : evC (g) an 0 N c_L5 none (roundK (nmOf 0 (an.loop 5)) Rn k) (s_L5 a0 a0_1 b1 b1_3 parts5 t13 t14) =
  cond (decide (t14 < t13))
   (cond (decide (0 ≤ t14))
    (cond (decide (t14 < (↑a0_1.length : Int)))
     (cond (decide (0 ≤ t14))
      (cond (decide (t14 < (↑b1_3.length : Int)))
       (Rn (s_L5 a0 a0_1 b1 b1_3 (ior IntKind.u8 parts5 (ixor IntKind.u8 (a0_1.getD t14.toNat 0) (b1_3.getD t14.toNat 0))) t13 (IntKind.i64.wrap (t14 + 1))))
       (none))
      (none))
     (none))
    (none))
   (k.ext 0 (x_L5_0 a0 a0_1 b1 b1_3 parts5 t13 t14)) := by kernel_rfl
theorem run_L5 {R : Type} (N : Nat) (k : K R) : ∀ (m : Nat) (a0 : Option Bool) (a0_1 : List Int) (b1 : Option Bool) (b1_3 : List Int) (parts5 : Int) (t13 : Int) (t14 : Int), loopN (evC (g) an 0 N c_L5 none) k (nmOf 0 (an.loop 5)) m (s_L5 a0 a0_1 b1 b1_3 parts5 t13 t14) =
    L5 N (fun a0 a0_1 b1 b1_3 parts5 t13 t14 => (k).ext 0 (x_L5_0 a0 a0_1 b1 b1_3 parts5 t13 t14)) m a0 a0_1 b1 b1_3 parts5 t13 t14 := by
  intro m
  induction m with
  | zero => intros; rfl
  | succ m ih =>
    intros
    rw [loopN_succ, round_L5]
    simp only [ih]
    kernel_rfl
noncomputable def m {R : Type} (N : Nat) (aN1 : Option Bool) (a2 : List Int) (bN3 : Option Bool) (b4 : List Int) (kr0 : Bool → Option R) : Option R :=
  cond ((↑a2.length : Int) != (↑b4.length : Int))
   (kr0 false)
   (L5 N
    (fun _a0_c7 _a0_1_c8 _b1_c9 _b1_3_c10 parts5_c11 _t13_c12 _t14_c13 => kr0 (parts5_c11 == 0)) N aN1 a2 bN3 b4 0 ((↑a2.length : Int)) 0)
theorem tree {R : Type} (N : Nat) (κ : AV → List Blk → Option R) (aN1 : Option Bool) (a2 : List Int) (bN3 : Option Bool) (b4 : List Int) : evF (g) an N Tryd.f76 [AV.isl IntKind.u8 aN1 a2, AV.isl IntKind.u8 bN3 b4] [] κ =
  cond ((↑a2.length : Int) != (↑b4.length : Int))
   (κ (AV.bool false) [])
   (loopN (evC (g) an 0 N c_L5 none) (ctx (g) an 0 N (bodyOf Tryd.f76) [1, 1, 1, 0, 1, 0] (endK (g) an Tryd.f76 [] κ)) (nmOf 0 (an.loop 5)) N (s_L5 aN1 a2 bN3 b4 0 ((↑a2.length : Int)) 0)) := by kernel_rfl
theorem eq {R : Type} (N : Nat) (κ : AV → List Blk → Option R) (aN1 : Option Bool) (a2 : List Int) (bN3 : Option Bool) (b4 : List Int) : evF (g) an N Tryd.f76 [AV.isl IntKind.u8 aN1 a2, AV.isl IntKind.u8 bN3 b4] [] κ =
  m N aN1 a2 bN3 b4 (fun v => κ (AV.bool v) []) := by
  rw [tree]
  simp only [run_L5]
  kernel_rfl
abbrev Ty : Type 1 := ∀ R : Type, (Option Bool) → (List Int) → (Option Bool) → (List Int) → (Bool → Option R) → Option R
def con (f : Ty) : Con := fun R args bs κ => match args, bs with
  | [AV.isl IntKind.u8 aN1 a2, AV.isl IntKind.u8 bN3 b4], [] => f R aN1 a2 bN3 b4 (fun v => κ (AV.bool v) [])
  | _, _ => none
theorem con_eq (f : Ty) (R : Type) (κ : AV → List Blk → Option R) (aN1 : Option Bool) (a2 : List Int) (bN3 : Option Bool) (b4 : List Int) : con f R [AV.isl IntKind.u8 aN1 a2, AV.isl IntKind.u8 bN3 b4] [] κ = f R aN1 a2 bN3 b4 (fun v => κ (AV.bool v) []) := rfl
noncomputable def M (N : Nat) : Ty := fun R aN1 a2 bN3 b4 kr0 => m (R := R) N aN1 a2 bN3 b4 kr0
def gts : List (Nat × AV) := []
theorem gok (_N : Nat) : GOk (g) := giD_ok hm (by intro p hp; cases hp) (gtL_ok (by decide)) (ovL_ok (by intro p hp; cases hp)) 1
theorem ok (N : Nat) : SoundC Tryd.prog (gtL gts) 76 (con (M N)) := by
  refine SoundC.mono (evF_ok (gok N) hm an N Tryd.func76) fun R args bs κ r h => ?_
  unfold con at h
  split at h
  · exact (eq N κ _ _ _ _).trans h
  · cases h
end wEqual


/-! ### Tryd.f66: wZero -/
namespace wZero
def an : Anns := ⟨fun i => findA i [(3, ⟨[3, 6, 7, 8], [], 0⟩)], fun i => findA i [], false, fun _ => none⟩
noncomputable def g : Gi := giD Tryd.prog (gtL []) (fun _ => an) 0 [] (ovL []) 1
noncomputable def c_L3 : Code := loopOf Tryd.f66 0
def s_L3 (all3 : Int) (t6 : Option Bool) (t6_2 : List Int) (t7 : Int) (t8 : Int) : St := ⟨[AV.dead, AV.dead, AV.dead, AV.int IntKind.u8 all3, AV.dead, AV.dead, AV.isl IntKind.u8 t6 t6_2, AV.int IntKind.i64 t7, AV.int IntKind.i64 t8] ++ List.replicate 9 .dead, []⟩
def x_L3_0 (all3 : Int) (t6 : Option Bool) (t6_2 : List Int) (t7 : Int) (t8 : Int) : St := ⟨[AV.dead, AV.dead, AV.dead, AV.int IntKind.u8 all3, AV.dead, AV.dead, AV.isl IntKind.u8 t6 t6_2, AV.int IntKind.i64 t7, AV.int IntKind.i64 t8, AV.bool (decide (t8 < t7))] ++ List.replicate 8 .dead, []⟩
noncomputable def L3 {R : Type} (N : Nat) (ke0 : Int → (Option Bool) → (List Int) → Int → Int → Option R) : Nat → Int → (Option Bool) → (List Int) → Int → Int → Option R
  | 0, _, _, _, _, _ => none
  | m + 1, all3, t6, t6_2, t7, t8 =>
    cond (decide (t8 < t7))
     (cond (decide (0 ≤ t8))
      (cond (decide (t8 < (↑t6_2.length : Int)))
       (L3 N ke0 m (ior IntKind.u8 all3 (t6_2.getD t8.toNat 0)) t6 t6_2 t7 (IntKind.i64.wrap (t8 + 1)))
       (none))
      (none))
     (ke0 all3 t6 t6_2 t7 t8)
theorem round_L3 {R : Type} (N : Nat) (Rn : St → Option R) (k : K R) (all3 : Int) (t6 : Option Bool) (t6_2 : List Int) (t7 : Int) (t8 : Int) : evC (g) an 0 N c_L3 none (roundK (nmOf 0 (an.loop 3)) Rn k) (s_L3 all3 t6 t6_2 t7 t8) =
  cond (decide (t8 < t7))
   (cond (decide (0 ≤ t8))
    (cond (decide (t8 < (↑t6_2.length : Int)))
     (Rn (s_L3 (ior IntKind.u8 all3 (t6_2.getD t8.toNat 0)) t6 t6_2 t7 (IntKind.i64.wrap (t8 + 1))))
     (none))
    (none))
   (k.ext 0 (x_L3_0 all3 t6 t6_2 t7 t8)) := by kernel_rfl
theorem run_L3 {R : Type} (N : Nat) (k : K R) : ∀ (m : Nat) (all3 : Int) (t6 : Option Bool) (t6_2 : List Int) (t7 : Int) (t8 : Int), loopN (evC (g) an 0 N c_L3 none) k (nmOf 0 (an.loop 3)) m (s_L3 all3 t6 t6_2 t7 t8) =
    L3 N (fun all3 t6 t6_2 t7 t8 => (k).ext 0 (x_L3_0 all3 t6 t6_2 t7 t8)) m all3 t6 t6_2 t7 t8 := by
  intro m
  induction m with
  | zero => intros; rfl
  | succ m ih =>
    intros
    rw [loopN_succ, round_L3]
    simp only [ih]
    kernel_rfl
noncomputable def m {R : Type} (N : Nat) (bN1 : Option Bool) (b2 : List Int) (kr0 : Bool → Option R) : Option R :=
  L3 N
   (fun all3_c5 _t6_c6 _t6_2_c7 _t7_c8 _t8_c9 => kr0 (all3_c5 == 0)) N 0 bN1 b2 ((↑b2.length : Int)) 0
theorem tree {R : Type} (N : Nat) (κ : AV → List Blk → Option R) (bN1 : Option Bool) (b2 : List Int) : evF (g) an N Tryd.f66 [AV.isl IntKind.u8 bN1 b2] [] κ =
  loopN (evC (g) an 0 N c_L3 none) (ctx (g) an 0 N (bodyOf Tryd.f66) [1, 1, 0, 1, 0] (endK (g) an Tryd.f66 [] κ)) (nmOf 0 (an.loop 3)) N (s_L3 0 bN1 b2 ((↑b2.length : Int)) 0) := by kernel_rfl
theorem eq {R : Type} (N : Nat) (κ : AV → List Blk → Option R) (bN1 : Option Bool) (b2 : List Int) : evF (g) an N Tryd.f66 [AV.isl IntKind.u8 bN1 b2] [] κ =
  m N bN1 b2 (fun v => κ (AV.bool v) []) := by
  rw [tree]
  simp only [run_L3]
  kernel_rfl
abbrev Ty : Type 1 := ∀ R : Type, (Option Bool) → (List Int) → (Bool → Option R) → Option R
def con (f : Ty) : Con := fun R args bs κ => match args, bs with
  | [AV.isl IntKind.u8 bN1 b2], [] => f R bN1 b2 (fun v => κ (AV.bool v) [])
  | _, _ => none
theorem con_eq (f : Ty) (R : Type) (κ : AV → List Blk → Option R) (bN1 : Option Bool) (b2 : List Int) : con f R [AV.isl IntKind.u8 bN1 b2] [] κ = f R bN1 b2 (fun v => κ (AV.bool v) []) := rfl
noncomputable def M (N : Nat) : Ty := fun R bN1 b2 kr0 => m (R := R) N bN1 b2 kr0
def gts : List (Nat × AV) := []
theorem gok (_N : Nat) : GOk (g) := giD_ok hm (by intro p hp; cases hp) (gtL_ok (by decide)) (ovL_ok (by intro p hp; cases hp)) 1
theorem ok (N : Nat) : SoundC Tryd.prog (gtL gts) 66 (con (M N)) := by
  refine SoundC.mono (evF_ok (gok N) hm an N Tryd.func66) fun R args bs κ r h => ?_
  unfold con at h
  split at h
  · exact (eq N κ _ _).trans h
  · cases h
end wZero


/-! ### Tryd.f63: carry -/
namespace carry
def an : Anns := ⟨fun i => findA i [(4, ⟨[0, 2, 4, 6], [], 1⟩), (1, ⟨[0, 4], [], 1⟩)], fun i => findA i [], false, fun _ => none⟩
noncomputable def g : Gi := giD Tryd.prog (gtL []) (fun _ => an) 0 [] (ovL []) 1
noncomputable def c_L4 : Code := loopOf Tryd.f63 1
noncomputable def c_L1 : Code := loopOf Tryd.f63 0
def s_L4 (over2 : Int) (t4 : Int) (t6 : Int) (h0 : List Int) : St := ⟨[AV.ptr 0 [], AV.dead, AV.int IntKind.u64 over2, AV.dead, AV.int IntKind.i64 t4, AV.dead, AV.int IntKind.i64 t6] ++ List.replicate 43 .dead, [Blk.var (AV.agg [AV.ints IntKind.u64 10 h0])]⟩
def s_L1 (t4v1 : Int) (h0v1 : List Int) : St := ⟨[AV.ptr 0 [], AV.dead, AV.dead, AV.dead, AV.int IntKind.i64 t4v1] ++ List.replicate 45 .dead, [Blk.var (AV.agg [AV.ints IntKind.u64 10 h0v1])]⟩
def x_L4_0 (over2 : Int) (t4 : Int) (t6 : Int) (h0 : List Int) : St := ⟨[AV.ptr 0 [], AV.dead, AV.int IntKind.u64 over2, AV.dead, AV.int IntKind.i64 t4, AV.dead, AV.int IntKind.i64 t6, AV.bool (decide (t6 < 10))] ++ List.replicate 42 .dead, [Blk.var (AV.agg [AV.ints IntKind.u64 10 h0])]⟩
def x_L1_0 (t4v1 : Int) (h0v1 : List Int) : St := ⟨[AV.ptr 0 [], AV.dead, AV.dead, AV.dead, AV.int IntKind.i64 t4v1, AV.bool (decide (t4v1 < 3))] ++ List.replicate 44 .dead, [Blk.var (AV.agg [AV.ints IntKind.u64 10 h0v1])]⟩
noncomputable def L4 {R : Type} (N : Nat) (ke0 : Int → Int → Int → (List Int) → Option R) : Nat → Int → Int → Int → (List Int) → Option R
  | 0, _, _, _, _ => none
  | m + 1, over2, t4, t6, h0 =>
    cond (decide (t6 < 10))
     (cond (decide (0 ≤ t6))
      (cond (decide (t6 < 10))
       (cond (decide (0 ≤ t6))
        (cond (decide (t6 < 10))
         (cond (decide (0 ≤ t6))
          (cond (decide (t6 < 10))
           (cond (decide (0 ≤ t6))
            (cond (decide (t6 < 10))
             (cond (decide (0 ≤ t6))
              (cond (decide (t6 < 10))
               (L4 N ke0 m (ishr IntKind.u64 ((h0.set t6.toNat (IntKind.u64.wrap (h0.getD t6.toNat 0 + over2))).getD t6.toNat 0) 26) t4 (IntKind.i64.wrap (t6 + 1)) ((h0.set t6.toNat (IntKind.u64.wrap (h0.getD t6.toNat 0 + over2))).set t6.toNat (iand IntKind.u64 ((h0.set t6.toNat (IntKind.u64.wrap (h0.getD t6.toNat 0 + over2))).getD t6.toNat 0) 67108863)))
               (none))
              (none))
             (none))
            (none))
           (none))
          (none))
         (none))
        (none))
       (none))
      (none))
     (ke0 over2 t4 t6 h0)
theorem round_L4 {R : Type} (N : Nat) (Rn : St → Option R) (k : K R) (over2 : Int) (t4 : Int) (t6 : Int) (h0 : List Int) : evC (g) an 1 N c_L4 none (roundK (nmOf 1 (an.loop 4)) Rn k) (s_L4 over2 t4 t6 h0) =
  cond (decide (t6 < 10))
   (cond (decide (0 ≤ t6))
    (cond (decide (t6 < 10))
     (cond (decide (0 ≤ t6))
      (cond (decide (t6 < 10))
       (cond (decide (0 ≤ t6))
        (cond (decide (t6 < 10))
         (cond (decide (0 ≤ t6))
          (cond (decide (t6 < 10))
           (cond (decide (0 ≤ t6))
            (cond (decide (t6 < 10))
             (Rn (s_L4 (ishr IntKind.u64 ((h0.set t6.toNat (IntKind.u64.wrap (h0.getD t6.toNat 0 + over2))).getD t6.toNat 0) 26) t4 (IntKind.i64.wrap (t6 + 1)) ((h0.set t6.toNat (IntKind.u64.wrap (h0.getD t6.toNat 0 + over2))).set t6.toNat (iand IntKind.u64 ((h0.set t6.toNat (IntKind.u64.wrap (h0.getD t6.toNat 0 + over2))).getD t6.toNat 0) 67108863))))
             (none))
            (none))
           (none))
          (none))
         (none))
        (none))
       (none))
      (none))
     (none))
    (none))
   (k.ext 2 (x_L4_0 over2 t4 t6 h0)) := by kernel_rfl
theorem run_L4 {R : Type} (N : Nat) (k : K R) : ∀ (m : Nat) (over2 : Int) (t4 : Int) (t6 : Int) (h0 : List Int), loopN (evC (g) an 1 N c_L4 none) k (nmOf 1 (an.loop 4)) m (s_L4 over2 t4 t6 h0) =
    L4 N (fun over2 t4 t6 h0 => (k).ext 2 (x_L4_0 over2 t4 t6 h0)) m over2 t4 t6 h0 := by
  intro m
  induction m with
  | zero => intros; rfl
  | succ m ih =>
    intros
    rw [loopN_succ, round_L4]
    simp only [ih]
    kernel_rfl
noncomputable def L1 {R : Type} (N : Nat) (ke0 : Int → (List Int) → Option R) : Nat → Int → (List Int) → Option R
  | 0, _, _ => none
  | m + 1, t4v1, h0v1 =>
    cond (decide (t4v1 < 3))
     (L4 N
      (fun over2_c9 t4_c10 _t6_c11 h0_c12 => L1 N ke0 m (IntKind.i64.wrap (t4_c10 + 1)) (h0_c12.set 0 (IntKind.u64.wrap (h0_c12.getD 0 0 + IntKind.u64.wrap (608 * over2_c9))))) N 0 t4v1 0 h0v1)
     (ke0 t4v1 h0v1)
theorem round_L1 {R : Type} (N : Nat) (Rn : St → Option R) (k : K R) (t4v1 : Int) (h0v1 : List Int) : evC (g) an 1 N c_L1 none (roundK (nmOf 1 (an.loop 1)) Rn k) (s_L1 t4v1 h0v1) =
  cond (decide (t4v1 < 3))
   (loopN (evC (g) an 1 N c_L4 none) (ctx (g) an 1 N c_L1 [1, 1, 0, 0, 1, 0, 1, 0] (roundK (nmOf 1 (an.loop 1)) Rn k)) (nmOf 1 (an.loop 4)) N (s_L4 0 t4v1 0 h0v1))
   (k.ext 0 (x_L1_0 t4v1 h0v1)) := by kernel_rfl
theorem round_L1_e0 {R : Type} (N : Nat) (Rn : St → Option R) (k : K R) (over2_c9 : Int) (t4_c10 : Int) (t6_c11 : Int) (h0_c12 : List Int) : (ctx (g) an 1 N c_L1 [1, 1, 0, 0, 1, 0, 1, 0] (roundK (nmOf 1 (an.loop 1)) Rn k)).ext 2 (x_L4_0 over2_c9 t4_c10 t6_c11 h0_c12) =
  Rn (s_L1 (IntKind.i64.wrap (t4_c10 + 1)) (h0_c12.set 0 (IntKind.u64.wrap (h0_c12.getD 0 0 + IntKind.u64.wrap (608 * over2_c9))))) := by kernel_rfl
theorem run_L1 {R : Type} (N : Nat) (k : K R) : ∀ (m : Nat) (t4v1 : Int) (h0v1 : List Int), loopN (evC (g) an 1 N c_L1 none) k (nmOf 1 (an.loop 1)) m (s_L1 t4v1 h0v1) =
    L1 N (fun t4v1 h0v1 => (k).ext 0 (x_L1_0 t4v1 h0v1)) m t4v1 h0v1 := by
  intro m
  induction m with
  | zero => intros; rfl
  | succ m ih =>
    intros
    rw [loopN_succ, round_L1]
    simp only [run_L4, round_L1_e0, ih]
    kernel_rfl
noncomputable def m {R : Type} (N : Nat) (a1 : List Int) (kr0 : (List Int) → Option R) : Option R :=
  L1 N
   (fun _t4_c13 h0_c14 => kr0 h0_c14) N 0 a1
theorem tree {R : Type} (N : Nat) (κ : AV → List Blk → Option R) (a1 : List Int) : evF (g) an N Tryd.f63 [AV.ptr 0 []] [Blk.var (AV.agg [AV.ints IntKind.u64 10 a1])] κ =
  loopN (evC (g) an 1 N c_L1 none) (ctx (g) an 1 N (bodyOf Tryd.f63) [1, 0] (endK (g) an Tryd.f63 [Blk.var (AV.agg [AV.ints IntKind.u64 10 a1])] κ)) (nmOf 1 (an.loop 1)) N (s_L1 0 a1) := by kernel_rfl
theorem eq {R : Type} (N : Nat) (κ : AV → List Blk → Option R) (a1 : List Int) : evF (g) an N Tryd.f63 [AV.ptr 0 []] [Blk.var (AV.agg [AV.ints IntKind.u64 10 a1])] κ =
  m N a1 (fun b => κ (AV.tup []) ([Blk.var (AV.agg [AV.ints IntKind.u64 10 b])])) := by
  rw [tree]
  simp only [run_L1]
  kernel_rfl
abbrev Ty : Type 1 := ∀ R : Type, (List Int) → ((List Int) → Option R) → Option R
def con (f : Ty) : Con := fun R args bs κ => match args, bs with
  | [AV.ptr 0 []], [Blk.var (AV.agg [AV.ints IntKind.u64 10 a1])] => f R a1 (fun b => κ (AV.tup []) ([Blk.var (AV.agg [AV.ints IntKind.u64 10 b])]))
  | _, _ => none
theorem con_eq (f : Ty) (R : Type) (κ : AV → List Blk → Option R) (a1 : List Int) : con f R [AV.ptr 0 []] [Blk.var (AV.agg [AV.ints IntKind.u64 10 a1])] κ = f R a1 (fun b => κ (AV.tup []) ([Blk.var (AV.agg [AV.ints IntKind.u64 10 b])])) := rfl
noncomputable def M (N : Nat) : Ty := fun R a1 kr0 => m (R := R) N a1 kr0
def gts : List (Nat × AV) := []
theorem gok (_N : Nat) : GOk (g) := giD_ok hm (by intro p hp; cases hp) (gtL_ok (by decide)) (ovL_ok (by intro p hp; cases hp)) 1
theorem ok (N : Nat) : SoundC Tryd.prog (gtL gts) 63 (con (M N)) := by
  refine SoundC.mono (evF_ok (gok N) hm an N Tryd.func63) fun R args bs κ r h => ?_
  unfold con at h
  split at h
  · exact (eq N κ _).trans h
  · cases h
end carry


/-! ### Tryd.f79: fold -/
namespace fold
def an : Anns := ⟨fun i => findA i [(4, ⟨[0, 30], [], 1⟩)], fun i => findA i [], false, fun _ => none⟩
noncomputable def g : Gi := giD Tryd.prog (gtL []) (fun _ => an) 0 [] (ovL []) 1
noncomputable def c_L4 : Code := loopOf Tryd.f79 0
def s_L4 (t30 : Int) (h0 : List Int) : St := ⟨[AV.ptr 0 []] ++ List.replicate 29 .dead ++ [AV.int IntKind.i64 t30] ++ List.replicate 31 .dead, [Blk.var (AV.agg [AV.ints IntKind.u64 10 h0])]⟩
def x_L4_0 (t30 : Int) (h0 : List Int) : St := ⟨[AV.ptr 0 []] ++ List.replicate 29 .dead ++ [AV.int IntKind.i64 t30, AV.bool (decide (t30 < 9))] ++ List.replicate 30 .dead, [Blk.var (AV.agg [AV.ints IntKind.u64 10 h0])]⟩
noncomputable def L4 {R : Type} (N : Nat) (ke0 : Int → (List Int) → Option R) : Nat → Int → (List Int) → Option R
  | 0, _, _ => none
  | m + 1, t30, h0 =>
    cond (decide (t30 < 9))
     (cond (decide (0 ≤ IntKind.i64.wrap (t30 + 1)))
      (cond (decide (IntKind.i64.wrap (t30 + 1) < 10))
       (cond (decide (0 ≤ t30))
        (cond (decide (t30 < 10))
         (cond (decide (0 ≤ IntKind.i64.wrap (t30 + 1)))
          (cond (decide (IntKind.i64.wrap (t30 + 1) < 10))
           (cond (decide (0 ≤ t30))
            (cond (decide (t30 < 10))
             (cond (decide (0 ≤ t30))
              (cond (decide (t30 < 10))
               (L4 N ke0 m (IntKind.i64.wrap (t30 + 1)) ((h0.set (IntKind.i64.wrap (t30 + 1)).toNat (IntKind.u64.wrap (h0.getD (IntKind.i64.wrap (t30 + 1)).toNat 0 + ishr IntKind.u64 (h0.getD t30.toNat 0) 26))).set t30.toNat (iand IntKind.u64 ((h0.set (IntKind.i64.wrap (t30 + 1)).toNat (IntKind.u64.wrap (h0.getD (IntKind.i64.wrap (t30 + 1)).toNat 0 + ishr IntKind.u64 (h0.getD t30.toNat 0) 26))).getD t30.toNat 0) 67108863)))
               (none))
              (none))
             (none))
            (none))
           (none))
          (none))
         (none))
        (none))
       (none))
      (none))
     (ke0 t30 h0)
theorem round_L4 {R : Type} (N : Nat) (Rn : St → Option R) (k : K R) (t30 : Int) (h0 : List Int) : evC (g) an 1 N c_L4 none (roundK (nmOf 1 (an.loop 4)) Rn k) (s_L4 t30 h0) =
  cond (decide (t30 < 9))
   (cond (decide (0 ≤ IntKind.i64.wrap (t30 + 1)))
    (cond (decide (IntKind.i64.wrap (t30 + 1) < 10))
     (cond (decide (0 ≤ t30))
      (cond (decide (t30 < 10))
       (cond (decide (0 ≤ IntKind.i64.wrap (t30 + 1)))
        (cond (decide (IntKind.i64.wrap (t30 + 1) < 10))
         (cond (decide (0 ≤ t30))
          (cond (decide (t30 < 10))
           (cond (decide (0 ≤ t30))
            (cond (decide (t30 < 10))
             (Rn (s_L4 (IntKind.i64.wrap (t30 + 1)) ((h0.set (IntKind.i64.wrap (t30 + 1)).toNat (IntKind.u64.wrap (h0.getD (IntKind.i64.wrap (t30 + 1)).toNat 0 + ishr IntKind.u64 (h0.getD t30.toNat 0) 26))).set t30.toNat (iand IntKind.u64 ((h0.set (IntKind.i64.wrap (t30 + 1)).toNat (IntKind.u64.wrap (h0.getD (IntKind.i64.wrap (t30 + 1)).toNat 0 + ishr IntKind.u64 (h0.getD t30.toNat 0) 26))).getD t30.toNat 0) 67108863))))
             (none))
            (none))
           (none))
          (none))
         (none))
        (none))
       (none))
      (none))
     (none))
    (none))
   (k.ext 0 (x_L4_0 t30 h0)) := by kernel_rfl
theorem run_L4 {R : Type} (N : Nat) (k : K R) : ∀ (m : Nat) (t30 : Int) (h0 : List Int), loopN (evC (g) an 1 N c_L4 none) k (nmOf 1 (an.loop 4)) m (s_L4 t30 h0) =
    L4 N (fun t30 h0 => (k).ext 0 (x_L4_0 t30 h0)) m t30 h0 := by
  intro m
  induction m with
  | zero => intros; rfl
  | succ m ih =>
    intros
    rw [loopN_succ, round_L4]
    simp only [ih]
    kernel_rfl
noncomputable def m {R : Type} (N : Nat) (a1 : List Int) (kr0 : (List Int) → Option R) : Option R :=
  L4 N
   (fun _t30_c2 h0_c3 => kr0 h0_c3) N 0 ((a1.set 9 (iand IntKind.u64 (a1.getD 9 0) 2097151)).set 0 (IntKind.u64.wrap ((a1.set 9 (iand IntKind.u64 (a1.getD 9 0) 2097151)).getD 0 0 + IntKind.u64.wrap (19 * ishr IntKind.u64 (a1.getD 9 0) 21))))
theorem tree {R : Type} (N : Nat) (κ : AV → List Blk → Option R) (a1 : List Int) : evF (g) an N Tryd.f79 [AV.ptr 0 []] [Blk.var (AV.agg [AV.ints IntKind.u64 10 a1])] κ =
  loopN (evC (g) an 1 N c_L4 none) (ctx (g) an 1 N (bodyOf Tryd.f79) [1, 1, 1, 1, 0] (endK (g) an Tryd.f79 [Blk.var (AV.agg [AV.ints IntKind.u64 10 a1])] κ)) (nmOf 1 (an.loop 4)) N (s_L4 0 ((a1.set 9 (iand IntKind.u64 (a1.getD 9 0) 2097151)).set 0 (IntKind.u64.wrap ((a1.set 9 (iand IntKind.u64 (a1.getD 9 0) 2097151)).getD 0 0 + IntKind.u64.wrap (19 * ishr IntKind.u64 (a1.getD 9 0) 21))))) := by kernel_rfl
theorem eq {R : Type} (N : Nat) (κ : AV → List Blk → Option R) (a1 : List Int) : evF (g) an N Tryd.f79 [AV.ptr 0 []] [Blk.var (AV.agg [AV.ints IntKind.u64 10 a1])] κ =
  m N a1 (fun b => κ (AV.tup []) ([Blk.var (AV.agg [AV.ints IntKind.u64 10 b])])) := by
  rw [tree]
  simp only [run_L4]
  kernel_rfl
abbrev Ty : Type 1 := ∀ R : Type, (List Int) → ((List Int) → Option R) → Option R
def con (f : Ty) : Con := fun R args bs κ => match args, bs with
  | [AV.ptr 0 []], [Blk.var (AV.agg [AV.ints IntKind.u64 10 a1])] => f R a1 (fun b => κ (AV.tup []) ([Blk.var (AV.agg [AV.ints IntKind.u64 10 b])]))
  | _, _ => none
theorem con_eq (f : Ty) (R : Type) (κ : AV → List Blk → Option R) (a1 : List Int) : con f R [AV.ptr 0 []] [Blk.var (AV.agg [AV.ints IntKind.u64 10 a1])] κ = f R a1 (fun b => κ (AV.tup []) ([Blk.var (AV.agg [AV.ints IntKind.u64 10 b])])) := rfl
noncomputable def M (N : Nat) : Ty := fun R a1 kr0 => m (R := R) N a1 kr0
def gts : List (Nat × AV) := []
theorem gok (_N : Nat) : GOk (g) := giD_ok hm (by intro p hp; cases hp) (gtL_ok (by decide)) (ovL_ok (by intro p hp; cases hp)) 1
theorem ok (N : Nat) : SoundC Tryd.prog (gtL gts) 79 (con (M N)) := by
  refine SoundC.mono (evF_ok (gok N) hm an N Tryd.func79) fun R args bs κ r h => ?_
  unfold con at h
  split at h
  · exact (eq N κ _).trans h
  · cases h
end fold


/-! ### Tryd.f80: ePick -/
namespace ePick
def an : Anns := ⟨fun i => findA i [(2, ⟨[0, 4, 5, 6, 8], [⟨4, 0, .u8⟩, ⟨5, 1, .u8⟩, ⟨6, 2, .u8⟩], 3⟩)], fun i => findA i [], false, fun _ => none⟩
noncomputable def g (mPick : Pick.Ty) : Gi := giD Tryd.prog (gtL []) (fun _ => an) 0 [] (ovL [(81, Pick.con mPick)]) 1
noncomputable def c_L2 : Code := loopOf Tryd.f80 0
def s_L2 (yes0 : Bool) (t8 : Int) (h0 : List Int) (h1 : List Int) : St := ⟨[AV.bool yes0, AV.dead, AV.dead, AV.dead, AV.ptr 0 [], AV.ptr 1 [], AV.ptr 2 [], AV.dead, AV.int IntKind.i64 t8] ++ List.replicate 17 .dead, [Blk.var (AV.agg [AV.ints IntKind.u64 10 h0]), Blk.var (AV.agg [AV.ints IntKind.u64 10 h1]), Blk.var (AV.agg [AV.ints IntKind.u64 10 [0, 0, 0, 0, 0, 0, 0, 0, 0, 0]])]⟩
def x_L2_0 (yes0 : Bool) (t8 : Int) (h0 : List Int) (h1 : List Int) : St := ⟨[AV.bool yes0, AV.dead, AV.dead, AV.dead, AV.ptr 0 [], AV.ptr 1 [], AV.ptr 2 [], AV.dead, AV.int IntKind.i64 t8, AV.bool (decide (t8 < 10))] ++ List.replicate 16 .dead, [Blk.var (AV.agg [AV.ints IntKind.u64 10 h0]), Blk.var (AV.agg [AV.ints IntKind.u64 10 h1]), Blk.var (AV.agg [AV.ints IntKind.u64 10 [0, 0, 0, 0, 0, 0, 0, 0, 0, 0]])]⟩
noncomputable def L2 (mPick : Pick.Ty) {R : Type} (N : Nat) (ke0 : Bool → Int → (List Int) → (List Int) → Option R) : Nat → Bool → Int → (List Int) → (List Int) → Option R
  | 0, _, _, _, _ => none
  | m + 1, yes0, t8, h0, h1 =>
    cond (decide (t8 < 10))
     (cond (decide (0 ≤ t8))
      (cond (decide (t8 < 10))
       (cond (decide (0 ≤ t8))
        (cond (decide (t8 < 10))
         (mPick R yes0 (h0.getD t8.toNat 0) (h1.getD t8.toNat 0)
          (fun v_c6 => cond (decide (0 ≤ t8))
           (cond (decide (t8 < 10))
            (L2 mPick N ke0 m yes0 (IntKind.i64.wrap (t8 + 1)) (h0.set t8.toNat v_c6) h1)
            (none))
           (none)))
         (none))
        (none))
       (none))
      (none))
     (ke0 yes0 t8 h0 h1)
theorem round_L2 (mPick : Pick.Ty) {R : Type} (N : Nat) (Rn : St → Option R) (k : K R) (yes0 : Bool) (t8 : Int) (h0 : List Int) (h1 : List Int) : evC (g mPick) an 0 N c_L2 none (roundK (nmOf 0 (an.loop 2)) Rn k) (s_L2 yes0 t8 h0 h1) =
  cond (decide (t8 < 10))
   (cond (decide (0 ≤ t8))
    (cond (decide (t8 < 10))
     (cond (decide (0 ≤ t8))
      (cond (decide (t8 < 10))
       (mPick R yes0 (h0.getD t8.toNat 0) (h1.getD t8.toNat 0)
        (fun v_c6 => cond (decide (0 ≤ t8))
         (cond (decide (t8 < 10))
          (Rn (s_L2 yes0 (IntKind.i64.wrap (t8 + 1)) (h0.set t8.toNat v_c6) h1))
          (none))
         (none)))
       (none))
      (none))
     (none))
    (none))
   (k.ext 0 (x_L2_0 yes0 t8 h0 h1)) := by kernel_rfl
theorem run_L2 (mPick : Pick.Ty) {R : Type} (N : Nat) (k : K R) : ∀ (m : Nat) (yes0 : Bool) (t8 : Int) (h0 : List Int) (h1 : List Int), loopN (evC (g mPick) an 0 N c_L2 none) k (nmOf 0 (an.loop 2)) m (s_L2 yes0 t8 h0 h1) =
    L2 mPick N (fun yes0 t8 h0 h1 => (k).ext 0 (x_L2_0 yes0 t8 h0 h1)) m yes0 t8 h0 h1 := by
  intro m
  induction m with
  | zero => intros; rfl
  | succ m ih =>
    intros
    rw [loopN_succ, round_L2]
    simp only [ih]
    kernel_rfl
noncomputable def m (mPick : Pick.Ty) {R : Type} (N : Nat) (yes1 : Bool) (a2 : List Int) (b3 : List Int) (kr0 : (List Int) → Option R) : Option R :=
  L2 mPick N
   (fun _yes0_c7 _t8_c8 h0_c9 _h1_c10 => kr0 h0_c9) N yes1 0 a2 b3
theorem tree (mPick : Pick.Ty) {R : Type} (N : Nat) (κ : AV → List Blk → Option R) (yes1 : Bool) (a2 : List Int) (b3 : List Int) : evF (g mPick) an N Tryd.f80 [AV.bool yes1, AV.agg [AV.ints IntKind.u64 10 a2], AV.agg [AV.ints IntKind.u64 10 b3]] [] κ =
  loopN (evC (g mPick) an 0 N c_L2 none) (ctx (g mPick) an 0 N (bodyOf Tryd.f80) [1, 0, 1, 0] (endK (g mPick) an Tryd.f80 [] κ)) (nmOf 0 (an.loop 2)) N (s_L2 yes1 0 a2 b3) := by kernel_rfl
theorem eq (mPick : Pick.Ty) {R : Type} (N : Nat) (κ : AV → List Blk → Option R) (yes1 : Bool) (a2 : List Int) (b3 : List Int) : evF (g mPick) an N Tryd.f80 [AV.bool yes1, AV.agg [AV.ints IntKind.u64 10 a2], AV.agg [AV.ints IntKind.u64 10 b3]] [] κ =
  m mPick N yes1 a2 b3 (fun v => κ (AV.agg [AV.ints IntKind.u64 10 v]) []) := by
  rw [tree]
  simp only [run_L2]
  kernel_rfl
abbrev Ty : Type 1 := ∀ R : Type, Bool → (List Int) → (List Int) → ((List Int) → Option R) → Option R
def con (f : Ty) : Con := fun R args bs κ => match args, bs with
  | [AV.bool yes1, AV.agg [AV.ints IntKind.u64 10 a2], AV.agg [AV.ints IntKind.u64 10 b3]], [] => f R yes1 a2 b3 (fun v => κ (AV.agg [AV.ints IntKind.u64 10 v]) [])
  | _, _ => none
theorem con_eq (f : Ty) (R : Type) (κ : AV → List Blk → Option R) (yes1 : Bool) (a2 : List Int) (b3 : List Int) : con f R [AV.bool yes1, AV.agg [AV.ints IntKind.u64 10 a2], AV.agg [AV.ints IntKind.u64 10 b3]] [] κ = f R yes1 a2 b3 (fun v => κ (AV.agg [AV.ints IntKind.u64 10 v]) []) := rfl
noncomputable def M (N : Nat) : Ty := fun R yes1 a2 b3 kr0 => m (Pick.M N) (R := R) N yes1 a2 b3 kr0
def gts : List (Nat × AV) := []
theorem gok (N : Nat) : GOk (g (Pick.M N)) := giD_ok hm (by intro p hp; cases hp) (gtL_ok (by decide)) (ovL_ok (by
    intro p hp
    simp only [List.mem_cons, List.not_mem_nil, or_false] at hp
    rcases hp with rfl
    · exact ⟨(Pick.ok N).gt (gtL_sub (by repeat (first | exact subG_nil _ | refine subG_cons (by kernel_rfl) ?_))) (gtL_ok (by decide)), _, Tryd.func81, by kernel_rfl, by kernel_rfl⟩
)) 1
theorem ok (N : Nat) : SoundC Tryd.prog (gtL gts) 80 (con (M N)) := by
  refine SoundC.mono (evF_ok (gok N) hm an N Tryd.func80) fun R args bs κ r h => ?_
  unfold con at h
  split at h
  · exact (eq (Pick.M N) N κ _ _ _).trans h
  · cases h
end ePick


/-! ### Tryd.f75: least -/
namespace least
def an : Anns := ⟨fun i => findA i [(7, ⟨[1, 2, 3, 16], [⟨1, 0, .u8⟩, ⟨2, 1, .u8⟩, ⟨3, 2, .u8⟩], 3⟩)], fun i => findA i [], false, fun _ => none⟩
noncomputable def g (mcarry : carry.Ty) (mfold : fold.Ty) (mePick : ePick.Ty) : Gi := giD Tryd.prog (gtL []) (fun _ => an) 0 [] (ovL [(63, carry.con mcarry), (79, fold.con mfold), (80, ePick.con mePick)]) 1
noncomputable def c_L7 : Code := loopOf Tryd.f75 0
def s_L7 (t16 : Int) (h0 : List Int) (h2 : List Int) : St := ⟨[AV.dead, AV.ptr 0 [], AV.ptr 1 [], AV.ptr 2 []] ++ List.replicate 12 .dead ++ [AV.int IntKind.i64 t16] ++ List.replicate 38 .dead, [Blk.var (AV.agg [AV.ints IntKind.u64 10 h0]), Blk.var (AV.agg [AV.ints IntKind.u64 10 [0, 0, 0, 0, 0, 0, 0, 0, 0, 0]]), Blk.var (AV.agg [AV.ints IntKind.u64 10 h2])]⟩
def x_L7_0 (t16 : Int) (h0 : List Int) (h2 : List Int) : St := ⟨[AV.dead, AV.ptr 0 [], AV.ptr 1 [], AV.ptr 2 []] ++ List.replicate 12 .dead ++ [AV.int IntKind.i64 t16, AV.bool (decide (t16 < 9))] ++ List.replicate 37 .dead, [Blk.var (AV.agg [AV.ints IntKind.u64 10 h0]), Blk.var (AV.agg [AV.ints IntKind.u64 10 [0, 0, 0, 0, 0, 0, 0, 0, 0, 0]]), Blk.var (AV.agg [AV.ints IntKind.u64 10 h2])]⟩
noncomputable def L7 (mcarry : carry.Ty) (mfold : fold.Ty) (mePick : ePick.Ty) {R : Type} (N : Nat) (ke0 : Int → (List Int) → (List Int) → Option R) : Nat → Int → (List Int) → (List Int) → Option R
  | 0, _, _, _ => none
  | m + 1, t16, h0, h2 =>
    cond (decide (t16 < 9))
     (cond (decide (0 ≤ IntKind.i64.wrap (t16 + 1)))
      (cond (decide (IntKind.i64.wrap (t16 + 1) < 10))
       (cond (decide (0 ≤ t16))
        (cond (decide (t16 < 10))
         (cond (decide (0 ≤ IntKind.i64.wrap (t16 + 1)))
          (cond (decide (IntKind.i64.wrap (t16 + 1) < 10))
           (cond (decide (0 ≤ t16))
            (cond (decide (t16 < 10))
             (cond (decide (0 ≤ t16))
              (cond (decide (t16 < 10))
               (L7 mcarry mfold mePick N ke0 m (IntKind.i64.wrap (t16 + 1)) h0 ((h2.set (IntKind.i64.wrap (t16 + 1)).toNat (IntKind.u64.wrap (h2.getD (IntKind.i64.wrap (t16 + 1)).toNat 0 + ishr IntKind.u64 (h2.getD t16.toNat 0) 26))).set t16.toNat (iand IntKind.u64 ((h2.set (IntKind.i64.wrap (t16 + 1)).toNat (IntKind.u64.wrap (h2.getD (IntKind.i64.wrap (t16 + 1)).toNat 0 + ishr IntKind.u64 (h2.getD t16.toNat 0) 26))).getD t16.toNat 0) 67108863)))
               (none))
              (none))
             (none))
            (none))
           (none))
          (none))
         (none))
        (none))
       (none))
      (none))
     (ke0 t16 h0 h2)
theorem round_L7 (mcarry : carry.Ty) (mfold : fold.Ty) (mePick : ePick.Ty) {R : Type} (N : Nat) (Rn : St → Option R) (k : K R) (t16 : Int) (h0 : List Int) (h2 : List Int) : evC (g mcarry mfold mePick) an 0 N c_L7 none (roundK (nmOf 0 (an.loop 7)) Rn k) (s_L7 t16 h0 h2) =
  cond (decide (t16 < 9))
   (cond (decide (0 ≤ IntKind.i64.wrap (t16 + 1)))
    (cond (decide (IntKind.i64.wrap (t16 + 1) < 10))
     (cond (decide (0 ≤ t16))
      (cond (decide (t16 < 10))
       (cond (decide (0 ≤ IntKind.i64.wrap (t16 + 1)))
        (cond (decide (IntKind.i64.wrap (t16 + 1) < 10))
         (cond (decide (0 ≤ t16))
          (cond (decide (t16 < 10))
           (cond (decide (0 ≤ t16))
            (cond (decide (t16 < 10))
             (Rn (s_L7 (IntKind.i64.wrap (t16 + 1)) h0 ((h2.set (IntKind.i64.wrap (t16 + 1)).toNat (IntKind.u64.wrap (h2.getD (IntKind.i64.wrap (t16 + 1)).toNat 0 + ishr IntKind.u64 (h2.getD t16.toNat 0) 26))).set t16.toNat (iand IntKind.u64 ((h2.set (IntKind.i64.wrap (t16 + 1)).toNat (IntKind.u64.wrap (h2.getD (IntKind.i64.wrap (t16 + 1)).toNat 0 + ishr IntKind.u64 (h2.getD t16.toNat 0) 26))).getD t16.toNat 0) 67108863))))
             (none))
            (none))
           (none))
          (none))
         (none))
        (none))
       (none))
      (none))
     (none))
    (none))
   (k.ext 0 (x_L7_0 t16 h0 h2)) := by kernel_rfl
theorem run_L7 (mcarry : carry.Ty) (mfold : fold.Ty) (mePick : ePick.Ty) {R : Type} (N : Nat) (k : K R) : ∀ (m : Nat) (t16 : Int) (h0 : List Int) (h2 : List Int), loopN (evC (g mcarry mfold mePick) an 0 N c_L7 none) k (nmOf 0 (an.loop 7)) m (s_L7 t16 h0 h2) =
    L7 mcarry mfold mePick N (fun t16 h0 h2 => (k).ext 0 (x_L7_0 t16 h0 h2)) m t16 h0 h2 := by
  intro m
  induction m with
  | zero => intros; rfl
  | succ m ih =>
    intros
    rw [loopN_succ, round_L7]
    simp only [ih]
    kernel_rfl
noncomputable def m (mcarry : carry.Ty) (mfold : fold.Ty) (mePick : ePick.Ty) {R : Type} (N : Nat) (a1 : List Int) (kr0 : (List Int) → Option R) : Option R :=
  mcarry R a1
   (fun b_c10 => mfold R b_c10
    (fun b_c11 => mfold R b_c11
     (fun b_c12 => L7 mcarry mfold mePick N
      (fun _t16_c13 h0_c14 h2_c15 => mePick R (ishr IntKind.u64 (h2_c15.getD 9 0) 21 != 0) (h2_c15.set 9 (iand IntKind.u64 (h2_c15.getD 9 0) 2097151)) h0_c14
       (fun v_c16 => kr0 v_c16)) N 0 b_c12 (b_c12.set 0 (IntKind.u64.wrap (b_c12.getD 0 0 + 19))))))
theorem tree (mcarry : carry.Ty) (mfold : fold.Ty) (mePick : ePick.Ty) {R : Type} (N : Nat) (κ : AV → List Blk → Option R) (a1 : List Int) : evF (g mcarry mfold mePick) an N Tryd.f75 [AV.agg [AV.ints IntKind.u64 10 a1]] [] κ =
  mcarry R a1
   (fun b_c10 => mfold R b_c10
    (fun b_c11 => mfold R b_c11
     (fun b_c12 => loopN (evC (g mcarry mfold mePick) an 0 N c_L7 none) (ctx (g mcarry mfold mePick) an 0 N (bodyOf Tryd.f75) [1, 1, 1, 1, 1, 1, 0, 1, 0] (endK (g mcarry mfold mePick) an Tryd.f75 [] κ)) (nmOf 0 (an.loop 7)) N (s_L7 0 b_c12 (b_c12.set 0 (IntKind.u64.wrap (b_c12.getD 0 0 + 19))))))) := by kernel_rfl
theorem eq (mcarry : carry.Ty) (mfold : fold.Ty) (mePick : ePick.Ty) {R : Type} (N : Nat) (κ : AV → List Blk → Option R) (a1 : List Int) : evF (g mcarry mfold mePick) an N Tryd.f75 [AV.agg [AV.ints IntKind.u64 10 a1]] [] κ =
  m mcarry mfold mePick N a1 (fun v => κ (AV.agg [AV.ints IntKind.u64 10 v]) []) := by
  rw [tree]
  simp only [run_L7]
  kernel_rfl
abbrev Ty : Type 1 := ∀ R : Type, (List Int) → ((List Int) → Option R) → Option R
def con (f : Ty) : Con := fun R args bs κ => match args, bs with
  | [AV.agg [AV.ints IntKind.u64 10 a1]], [] => f R a1 (fun v => κ (AV.agg [AV.ints IntKind.u64 10 v]) [])
  | _, _ => none
theorem con_eq (f : Ty) (R : Type) (κ : AV → List Blk → Option R) (a1 : List Int) : con f R [AV.agg [AV.ints IntKind.u64 10 a1]] [] κ = f R a1 (fun v => κ (AV.agg [AV.ints IntKind.u64 10 v]) []) := rfl
noncomputable def M (N : Nat) : Ty := fun R a1 kr0 => m (carry.M N) (fold.M N) (ePick.M N) (R := R) N a1 kr0
def gts : List (Nat × AV) := []
theorem gok (N : Nat) : GOk (g (carry.M N) (fold.M N) (ePick.M N)) := giD_ok hm (by intro p hp; cases hp) (gtL_ok (by decide)) (ovL_ok (by
    intro p hp
    simp only [List.mem_cons, List.not_mem_nil, or_false] at hp
    rcases hp with rfl | rfl | rfl
    · exact ⟨(carry.ok N).gt (gtL_sub (by repeat (first | exact subG_nil _ | refine subG_cons (by kernel_rfl) ?_))) (gtL_ok (by decide)), _, Tryd.func63, by kernel_rfl, by kernel_rfl⟩
    · exact ⟨(fold.ok N).gt (gtL_sub (by repeat (first | exact subG_nil _ | refine subG_cons (by kernel_rfl) ?_))) (gtL_ok (by decide)), _, Tryd.func79, by kernel_rfl, by kernel_rfl⟩
    · exact ⟨(ePick.ok N).gt (gtL_sub (by repeat (first | exact subG_nil _ | refine subG_cons (by kernel_rfl) ?_))) (gtL_ok (by decide)), _, Tryd.func80, by kernel_rfl, by kernel_rfl⟩
)) 1
theorem ok (N : Nat) : SoundC Tryd.prog (gtL gts) 75 (con (M N)) := by
  refine SoundC.mono (evF_ok (gok N) hm an N Tryd.func75) fun R args bs κ r h => ?_
  unfold con at h
  split at h
  · exact (eq (carry.M N) (fold.M N) (ePick.M N) N κ _).trans h
  · cases h
end least


/-! ### Tryd.f49: eBytes -/
namespace eBytes
def an : Anns := ⟨fun i => findA i [(4, ⟨[2, 3, 4, 8], [⟨2, 0, .u8⟩, ⟨3, 1, .u8⟩, ⟨4, 2, .u8⟩], 3⟩)], fun i => findA i [], false, fun _ => none⟩
noncomputable def g (mleast : least.Ty) : Gi := giD Tryd.prog (gtL []) (fun _ => an) 0 [] (ovL [(75, least.con mleast)]) 1
noncomputable def c_L4 : Code := loopOf Tryd.f49 0
def s_L4 (t8 : Int) (h1 : List Int) (h2 : List Int) : St := ⟨[AV.dead, AV.dead, AV.ptr 0 [], AV.ptr 1 [], AV.ptr 2 [], AV.dead, AV.dead, AV.dead, AV.int IntKind.i64 t8] ++ List.replicate 23 .dead, [Blk.var (AV.ints IntKind.u8 32 [0, 0, 0, 0, 0, 0, 0, 0, 0, 0, 0, 0, 0, 0, 0, 0, 0, 0, 0, 0, 0, 0, 0, 0, 0, 0, 0, 0, 0, 0, 0, 0]), Blk.var (AV.agg [AV.ints IntKind.u64 10 h1]), Blk.var (AV.ints IntKind.u8 32 h2)]⟩
def x_L4_0 (t8 : Int) (h1 : List Int) (h2 : List Int) : St := ⟨[AV.dead, AV.dead, AV.ptr 0 [], AV.ptr 1 [], AV.ptr 2 [], AV.dead, AV.dead, AV.dead, AV.int IntKind.i64 t8, AV.bool (decide (t8 < 255))] ++ List.replicate 22 .dead, [Blk.var (AV.ints IntKind.u8 32 [0, 0, 0, 0, 0, 0, 0, 0, 0, 0, 0, 0, 0, 0, 0, 0, 0, 0, 0, 0, 0, 0, 0, 0, 0, 0, 0, 0, 0, 0, 0, 0]), Blk.var (AV.agg [AV.ints IntKind.u64 10 h1]), Blk.var (AV.ints IntKind.u8 32 h2)]⟩
noncomputable def L4 (mleast : least.Ty) {R : Type} (N : Nat) (ke0 : Int → (List Int) → (List Int) → Option R) : Nat → Int → (List Int) → (List Int) → Option R
  | 0, _, _, _ => none
  | m + 1, t8, h1, h2 =>
    cond (decide (t8 < 255))
     (cond (decide (0 ≤ IntKind.i64.wrap (t8.tdiv 8)))
      (cond (decide (IntKind.i64.wrap (t8.tdiv 8) < 32))
       (cond (decide (0 ≤ IntKind.i64.wrap (t8.tdiv 26)))
        (cond (decide (IntKind.i64.wrap (t8.tdiv 26) < 10))
         (cond (true && decide (t8.tmod 26 < 0))
          (none)
          (cond (true && decide (t8.tmod 8 < 0))
           (none)
           (cond (decide (0 ≤ IntKind.i64.wrap (t8.tdiv 8)))
            (cond (decide (IntKind.i64.wrap (t8.tdiv 8) < 32))
             (L4 mleast N ke0 m (IntKind.i64.wrap (t8 + 1)) h1 (h2.set (IntKind.i64.wrap (t8.tdiv 8)).toNat (ior IntKind.u8 (h2.getD (IntKind.i64.wrap (t8.tdiv 8)).toNat 0) (ishl IntKind.u8 (IntKind.u8.wrap (iand IntKind.u64 (ishr IntKind.u64 (h1.getD (IntKind.i64.wrap (t8.tdiv 26)).toNat 0) (t8.tmod 26)) 1)) (t8.tmod 8)))))
             (none))
            (none))))
         (none))
        (none))
       (none))
      (none))
     (ke0 t8 h1 h2)
theorem round_L4 (mleast : least.Ty) {R : Type} (N : Nat) (Rn : St → Option R) (k : K R) (t8 : Int) (h1 : List Int) (h2 : List Int) : evC (g mleast) an 0 N c_L4 none (roundK (nmOf 0 (an.loop 4)) Rn k) (s_L4 t8 h1 h2) =
  cond (decide (t8 < 255))
   (cond (decide (0 ≤ IntKind.i64.wrap (t8.tdiv 8)))
    (cond (decide (IntKind.i64.wrap (t8.tdiv 8) < 32))
     (cond (decide (0 ≤ IntKind.i64.wrap (t8.tdiv 26)))
      (cond (decide (IntKind.i64.wrap (t8.tdiv 26) < 10))
       (cond (true && decide (t8.tmod 26 < 0))
        (none)
        (cond (true && decide (t8.tmod 8 < 0))
         (none)
         (cond (decide (0 ≤ IntKind.i64.wrap (t8.tdiv 8)))
          (cond (decide (IntKind.i64.wrap (t8.tdiv 8) < 32))
           (Rn (s_L4 (IntKind.i64.wrap (t8 + 1)) h1 (h2.set (IntKind.i64.wrap (t8.tdiv 8)).toNat (ior IntKind.u8 (h2.getD (IntKind.i64.wrap (t8.tdiv 8)).toNat 0) (ishl IntKind.u8 (IntKind.u8.wrap (iand IntKind.u64 (ishr IntKind.u64 (h1.getD (IntKind.i64.wrap (t8.tdiv 26)).toNat 0) (t8.tmod 26)) 1)) (t8.tmod 8))))))
           (none))
          (none))))
       (none))
      (none))
     (none))
    (none))
   (k.ext 0 (x_L4_0 t8 h1 h2)) := by kernel_rfl
theorem run_L4 (mleast : least.Ty) {R : Type} (N : Nat) (k : K R) : ∀ (m : Nat) (t8 : Int) (h1 : List Int) (h2 : List Int), loopN (evC (g mleast) an 0 N c_L4 none) k (nmOf 0 (an.loop 4)) m (s_L4 t8 h1 h2) =
    L4 mleast N (fun t8 h1 h2 => (k).ext 0 (x_L4_0 t8 h1 h2)) m t8 h1 h2 := by
  intro m
  induction m with
  | zero => intros; rfl
  | succ m ih =>
    intros
    rw [loopN_succ, round_L4]
    simp only [ih]
    kernel_rfl
noncomputable def m (mleast : least.Ty) {R : Type} (N : Nat) (a1 : List Int) (kr0 : (List Int) → Option R) : Option R :=
  mleast R a1
   (fun v_c5 => L4 mleast N
    (fun _t8_c6 _h1_c7 h2_c8 => kr0 h2_c8) N 0 v_c5 ([0, 0, 0, 0, 0, 0, 0, 0, 0, 0, 0, 0, 0, 0, 0, 0, 0, 0, 0, 0, 0, 0, 0, 0, 0, 0, 0, 0, 0, 0, 0, 0]))
theorem tree (mleast : least.Ty) {R : Type} (N : Nat) (κ : AV → List Blk → Option R) (a1 : List Int) : evF (g mleast) an N Tryd.f49 [AV.agg [AV.ints IntKind.u64 10 a1]] [] κ =
  mleast R a1
   (fun v_c5 => loopN (evC (g mleast) an 0 N c_L4 none) (ctx (g mleast) an 0 N (bodyOf Tryd.f49) [1, 1, 1, 0, 1, 0] (endK (g mleast) an Tryd.f49 [] κ)) (nmOf 0 (an.loop 4)) N (s_L4 0 v_c5 ([0, 0, 0, 0, 0, 0, 0, 0, 0, 0, 0, 0, 0, 0, 0, 0, 0, 0, 0, 0, 0, 0, 0, 0, 0, 0, 0, 0, 0, 0, 0, 0]))) := by kernel_rfl
theorem eq (mleast : least.Ty) {R : Type} (N : Nat) (κ : AV → List Blk → Option R) (a1 : List Int) : evF (g mleast) an N Tryd.f49 [AV.agg [AV.ints IntKind.u64 10 a1]] [] κ =
  m mleast N a1 (fun v => κ (AV.ints IntKind.u8 32 v) []) := by
  rw [tree]
  simp only [run_L4]
  kernel_rfl
abbrev Ty : Type 1 := ∀ R : Type, (List Int) → ((List Int) → Option R) → Option R
def con (f : Ty) : Con := fun R args bs κ => match args, bs with
  | [AV.agg [AV.ints IntKind.u64 10 a1]], [] => f R a1 (fun v => κ (AV.ints IntKind.u8 32 v) [])
  | _, _ => none
theorem con_eq (f : Ty) (R : Type) (κ : AV → List Blk → Option R) (a1 : List Int) : con f R [AV.agg [AV.ints IntKind.u64 10 a1]] [] κ = f R a1 (fun v => κ (AV.ints IntKind.u8 32 v) []) := rfl
noncomputable def M (N : Nat) : Ty := fun R a1 kr0 => m (least.M N) (R := R) N a1 kr0
def gts : List (Nat × AV) := []
theorem gok (N : Nat) : GOk (g (least.M N)) := giD_ok hm (by intro p hp; cases hp) (gtL_ok (by decide)) (ovL_ok (by
    intro p hp
    simp only [List.mem_cons, List.not_mem_nil, or_false] at hp
    rcases hp with rfl
    · exact ⟨(least.ok N).gt (gtL_sub (by repeat (first | exact subG_nil _ | refine subG_cons (by kernel_rfl) ?_))) (gtL_ok (by decide)), _, Tryd.func75, by kernel_rfl, by kernel_rfl⟩
)) 1
theorem ok (N : Nat) : SoundC Tryd.prog (gtL gts) 49 (con (M N)) := by
  refine SoundC.mono (evF_ok (gok N) hm an N Tryd.func49) fun R args bs κ r h => ?_
  unfold con at h
  split at h
  · exact (eq (least.M N) N κ _).trans h
  · cases h
end eBytes


/-! ### Tryd.f34: eAdd -/
namespace eAdd
def an : Anns := ⟨fun i => findA i [(2, ⟨[2, 3, 4, 6], [⟨2, 0, .u8⟩, ⟨3, 1, .u8⟩, ⟨4, 2, .u8⟩], 3⟩)], fun i => findA i [], false, fun _ => none⟩
noncomputable def g (mcarry : carry.Ty) : Gi := giD Tryd.prog (gtL []) (fun _ => an) 0 [] (ovL [(63, carry.con mcarry)]) 1
noncomputable def c_L2 : Code := loopOf Tryd.f34 0
def s_L2 (t6 : Int) (h0 : List Int) (h1 : List Int) : St := ⟨[AV.dead, AV.dead, AV.ptr 0 [], AV.ptr 1 [], AV.ptr 2 [], AV.dead, AV.int IntKind.i64 t6] ++ List.replicate 16 .dead, [Blk.var (AV.agg [AV.ints IntKind.u64 10 h0]), Blk.var (AV.agg [AV.ints IntKind.u64 10 h1]), Blk.var (AV.agg [AV.ints IntKind.u64 10 [0, 0, 0, 0, 0, 0, 0, 0, 0, 0]])]⟩
def x_L2_0 (t6 : Int) (h0 : List Int) (h1 : List Int) : St := ⟨[AV.dead, AV.dead, AV.ptr 0 [], AV.ptr 1 [], AV.ptr 2 [], AV.dead, AV.int IntKind.i64 t6, AV.bool (decide (t6 < 10))] ++ List.replicate 15 .dead, [Blk.var (AV.agg [AV.ints IntKind.u64 10 h0]), Blk.var (AV.agg [AV.ints IntKind.u64 10 h1]), Blk.var (AV.agg [AV.ints IntKind.u64 10 [0, 0, 0, 0, 0, 0, 0, 0, 0, 0]])]⟩
noncomputable def L2 (mcarry : carry.Ty) {R : Type} (N : Nat) (ke0 : Int → (List Int) → (List Int) → Option R) : Nat → Int → (List Int) → (List Int) → Option R
  | 0, _, _, _ => none
  | m + 1, t6, h0, h1 =>
    cond (decide (t6 < 10))
     (cond (decide (0 ≤ t6))
      (cond (decide (t6 < 10))
       (cond (decide (0 ≤ t6))
        (cond (decide (t6 < 10))
         (cond (decide (0 ≤ t6))
          (cond (decide (t6 < 10))
           (L2 mcarry N ke0 m (IntKind.i64.wrap (t6 + 1)) (h0.set t6.toNat (IntKind.u64.wrap (h0.getD t6.toNat 0 + h1.getD t6.toNat 0))) h1)
           (none))
          (none))
         (none))
        (none))
       (none))
      (none))
     (ke0 t6 h0 h1)
theorem round_L2 (mcarry : carry.Ty) {R : Type} (N : Nat) (Rn : St → Option R) (k : K R) (t6 : Int) (h0 : List Int) (h1 : List Int) : evC (g mcarry) an 0 N c_L2 none (roundK (nmOf 0 (an.loop 2)) Rn k) (s_L2 t6 h0 h1) =
  cond (decide (t6 < 10))
   (cond (decide (0 ≤ t6))
    (cond (decide (t6 < 10))
     (cond (decide (0 ≤ t6))
      (cond (decide (t6 < 10))
       (cond (decide (0 ≤ t6))
        (cond (decide (t6 < 10))
         (Rn (s_L2 (IntKind.i64.wrap (t6 + 1)) (h0.set t6.toNat (IntKind.u64.wrap (h0.getD t6.toNat 0 + h1.getD t6.toNat 0))) h1))
         (none))
        (none))
       (none))
      (none))
     (none))
    (none))
   (k.ext 0 (x_L2_0 t6 h0 h1)) := by kernel_rfl
theorem run_L2 (mcarry : carry.Ty) {R : Type} (N : Nat) (k : K R) : ∀ (m : Nat) (t6 : Int) (h0 : List Int) (h1 : List Int), loopN (evC (g mcarry) an 0 N c_L2 none) k (nmOf 0 (an.loop 2)) m (s_L2 t6 h0 h1) =
    L2 mcarry N (fun t6 h0 h1 => (k).ext 0 (x_L2_0 t6 h0 h1)) m t6 h0 h1 := by
  intro m
  induction m with
  | zero => intros; rfl
  | succ m ih =>
    intros
    rw [loopN_succ, round_L2]
    simp only [ih]
    kernel_rfl
noncomputable def m (mcarry : carry.Ty) {R : Type} (N : Nat) (a1 : List Int) (b2 : List Int) (kr0 : (List Int) → Option R) : Option R :=
  L2 mcarry N
   (fun _t6_c4 h0_c5 _h1_c6 => mcarry R h0_c5
    (fun b_c7 => kr0 b_c7)) N 0 a1 b2
theorem tree (mcarry : carry.Ty) {R : Type} (N : Nat) (κ : AV → List Blk → Option R) (a1 : List Int) (b2 : List Int) : evF (g mcarry) an N Tryd.f34 [AV.agg [AV.ints IntKind.u64 10 a1], AV.agg [AV.ints IntKind.u64 10 b2]] [] κ =
  loopN (evC (g mcarry) an 0 N c_L2 none) (ctx (g mcarry) an 0 N (bodyOf Tryd.f34) [1, 0, 1, 0] (endK (g mcarry) an Tryd.f34 [] κ)) (nmOf 0 (an.loop 2)) N (s_L2 0 a1 b2) := by kernel_rfl
theorem eq (mcarry : carry.Ty) {R : Type} (N : Nat) (κ : AV → List Blk → Option R) (a1 : List Int) (b2 : List Int) : evF (g mcarry) an N Tryd.f34 [AV.agg [AV.ints IntKind.u64 10 a1], AV.agg [AV.ints IntKind.u64 10 b2]] [] κ =
  m mcarry N a1 b2 (fun v => κ (AV.agg [AV.ints IntKind.u64 10 v]) []) := by
  rw [tree]
  simp only [run_L2]
  kernel_rfl
abbrev Ty : Type 1 := ∀ R : Type, (List Int) → (List Int) → ((List Int) → Option R) → Option R
def con (f : Ty) : Con := fun R args bs κ => match args, bs with
  | [AV.agg [AV.ints IntKind.u64 10 a1], AV.agg [AV.ints IntKind.u64 10 b2]], [] => f R a1 b2 (fun v => κ (AV.agg [AV.ints IntKind.u64 10 v]) [])
  | _, _ => none
theorem con_eq (f : Ty) (R : Type) (κ : AV → List Blk → Option R) (a1 : List Int) (b2 : List Int) : con f R [AV.agg [AV.ints IntKind.u64 10 a1], AV.agg [AV.ints IntKind.u64 10 b2]] [] κ = f R a1 b2 (fun v => κ (AV.agg [AV.ints IntKind.u64 10 v]) []) := rfl
noncomputable def M (N : Nat) : Ty := fun R a1 b2 kr0 => m (carry.M N) (R := R) N a1 b2 kr0
def gts : List (Nat × AV) := []
theorem gok (N : Nat) : GOk (g (carry.M N)) := giD_ok hm (by intro p hp; cases hp) (gtL_ok (by decide)) (ovL_ok (by
    intro p hp
    simp only [List.mem_cons, List.not_mem_nil, or_false] at hp
    rcases hp with rfl
    · exact ⟨(carry.ok N).gt (gtL_sub (by repeat (first | exact subG_nil _ | refine subG_cons (by kernel_rfl) ?_))) (gtL_ok (by decide)), _, Tryd.func63, by kernel_rfl, by kernel_rfl⟩
)) 1
theorem ok (N : Nat) : SoundC Tryd.prog (gtL gts) 34 (con (M N)) := by
  refine SoundC.mono (evF_ok (gok N) hm an N Tryd.func34) fun R args bs κ r h => ?_
  unfold con at h
  split at h
  · exact (eq (carry.M N) N κ _ _).trans h
  · cases h
end eAdd


/-! ### Tryd.f31: eSub -/
namespace eSub
def an : Anns := ⟨fun i => findA i [(2, ⟨[2, 3, 4, 6], [⟨2, 0, .u8⟩, ⟨3, 1, .u8⟩, ⟨4, 2, .u8⟩], 3⟩)], fun i => findA i [], false, fun _ => none⟩
noncomputable def g (mcarry : carry.Ty) : Gi := giD Tryd.prog (gtL [(19, .ints .u64 10 [134216512, 134217726, 134217726, 134217726, 134217726, 134217726, 134217726, 134217726, 134217726, 134217726])]) (fun _ => an) 0 [] (ovL [(63, carry.con mcarry)]) 1
noncomputable def c_L2 : Code := loopOf Tryd.f31 0
def s_L2 (t6 : Int) (h0 : List Int) (h1 : List Int) : St := ⟨[AV.dead, AV.dead, AV.ptr 0 [], AV.ptr 1 [], AV.ptr 2 [], AV.dead, AV.int IntKind.i64 t6] ++ List.replicate 20 .dead, [Blk.var (AV.agg [AV.ints IntKind.u64 10 h0]), Blk.var (AV.agg [AV.ints IntKind.u64 10 h1]), Blk.var (AV.agg [AV.ints IntKind.u64 10 [0, 0, 0, 0, 0, 0, 0, 0, 0, 0]])]⟩
def x_L2_0 (t6 : Int) (h0 : List Int) (h1 : List Int) : St := ⟨[AV.dead, AV.dead, AV.ptr 0 [], AV.ptr 1 [], AV.ptr 2 [], AV.dead, AV.int IntKind.i64 t6, AV.bool (decide (t6 < 10))] ++ List.replicate 19 .dead, [Blk.var (AV.agg [AV.ints IntKind.u64 10 h0]), Blk.var (AV.agg [AV.ints IntKind.u64 10 h1]), Blk.var (AV.agg [AV.ints IntKind.u64 10 [0, 0, 0, 0, 0, 0, 0, 0, 0, 0]])]⟩
noncomputable def L2 (mcarry : carry.Ty) {R : Type} (N : Nat) (ke0 : Int → (List Int) → (List Int) → Option R) : Nat → Int → (List Int) → (List Int) → Option R
  | 0, _, _, _ => none
  | m + 1, t6, h0, h1 =>
    cond (decide (t6 < 10))
     (cond (decide (0 ≤ t6))
      (cond (decide (t6 < 10))
       (cond (decide (0 ≤ t6))
        (cond (decide (t6 < 10))
         (cond (decide (0 ≤ t6))
          (cond (decide (t6 < 10))
           (cond (decide (0 ≤ t6))
            (cond (decide (t6 < 10))
             (L2 mcarry N ke0 m (IntKind.i64.wrap (t6 + 1)) (h0.set t6.toNat (IntKind.u64.wrap (h0.getD t6.toNat 0 + IntKind.u64.wrap ([134216512, 134217726, 134217726, 134217726, 134217726, 134217726, 134217726, 134217726, 134217726, 134217726].getD t6.toNat 0 - h1.getD t6.toNat 0)))) h1)
             (none))
            (none))
           (none))
          (none))
         (none))
        (none))
       (none))
      (none))
     (ke0 t6 h0 h1)
theorem round_L2 (mcarry : carry.Ty) {R : Type} (N : Nat) (Rn : St → Option R) (k : K R) (t6 : Int) (h0 : List Int) (h1 : List Int) : evC (g mcarry) an 0 N c_L2 none (roundK (nmOf 0 (an.loop 2)) Rn k) (s_L2 t6 h0 h1) =
  cond (decide (t6 < 10))
   (cond (decide (0 ≤ t6))
    (cond (decide (t6 < 10))
     (cond (decide (0 ≤ t6))
      (cond (decide (t6 < 10))
       (cond (decide (0 ≤ t6))
        (cond (decide (t6 < 10))
         (cond (decide (0 ≤ t6))
          (cond (decide (t6 < 10))
           (Rn (s_L2 (IntKind.i64.wrap (t6 + 1)) (h0.set t6.toNat (IntKind.u64.wrap (h0.getD t6.toNat 0 + IntKind.u64.wrap ([134216512, 134217726, 134217726, 134217726, 134217726, 134217726, 134217726, 134217726, 134217726, 134217726].getD t6.toNat 0 - h1.getD t6.toNat 0)))) h1))
           (none))
          (none))
         (none))
        (none))
       (none))
      (none))
     (none))
    (none))
   (k.ext 0 (x_L2_0 t6 h0 h1)) := by kernel_rfl
theorem run_L2 (mcarry : carry.Ty) {R : Type} (N : Nat) (k : K R) : ∀ (m : Nat) (t6 : Int) (h0 : List Int) (h1 : List Int), loopN (evC (g mcarry) an 0 N c_L2 none) k (nmOf 0 (an.loop 2)) m (s_L2 t6 h0 h1) =
    L2 mcarry N (fun t6 h0 h1 => (k).ext 0 (x_L2_0 t6 h0 h1)) m t6 h0 h1 := by
  intro m
  induction m with
  | zero => intros; rfl
  | succ m ih =>
    intros
    rw [loopN_succ, round_L2]
    simp only [ih]
    kernel_rfl
noncomputable def m (mcarry : carry.Ty) {R : Type} (N : Nat) (a1 : List Int) (b2 : List Int) (kr0 : (List Int) → Option R) : Option R :=
  L2 mcarry N
   (fun _t6_c4 h0_c5 _h1_c6 => mcarry R h0_c5
    (fun b_c7 => kr0 b_c7)) N 0 a1 b2
theorem tree (mcarry : carry.Ty) {R : Type} (N : Nat) (κ : AV → List Blk → Option R) (a1 : List Int) (b2 : List Int) : evF (g mcarry) an N Tryd.f31 [AV.agg [AV.ints IntKind.u64 10 a1], AV.agg [AV.ints IntKind.u64 10 b2]] [] κ =
  loopN (evC (g mcarry) an 0 N c_L2 none) (ctx (g mcarry) an 0 N (bodyOf Tryd.f31) [1, 0, 1, 0] (endK (g mcarry) an Tryd.f31 [] κ)) (nmOf 0 (an.loop 2)) N (s_L2 0 a1 b2) := by kernel_rfl
theorem eq (mcarry : carry.Ty) {R : Type} (N : Nat) (κ : AV → List Blk → Option R) (a1 : List Int) (b2 : List Int) : evF (g mcarry) an N Tryd.f31 [AV.agg [AV.ints IntKind.u64 10 a1], AV.agg [AV.ints IntKind.u64 10 b2]] [] κ =
  m mcarry N a1 b2 (fun v => κ (AV.agg [AV.ints IntKind.u64 10 v]) []) := by
  rw [tree]
  simp only [run_L2]
  kernel_rfl
abbrev Ty : Type 1 := ∀ R : Type, (List Int) → (List Int) → ((List Int) → Option R) → Option R
def con (f : Ty) : Con := fun R args bs κ => match args, bs with
  | [AV.agg [AV.ints IntKind.u64 10 a1], AV.agg [AV.ints IntKind.u64 10 b2]], [] => f R a1 b2 (fun v => κ (AV.agg [AV.ints IntKind.u64 10 v]) [])
  | _, _ => none
theorem con_eq (f : Ty) (R : Type) (κ : AV → List Blk → Option R) (a1 : List Int) (b2 : List Int) : con f R [AV.agg [AV.ints IntKind.u64 10 a1], AV.agg [AV.ints IntKind.u64 10 b2]] [] κ = f R a1 b2 (fun v => κ (AV.agg [AV.ints IntKind.u64 10 v]) []) := rfl
noncomputable def M (N : Nat) : Ty := fun R a1 b2 kr0 => m (carry.M N) (R := R) N a1 b2 kr0
def gts : List (Nat × AV) := [(19, .ints .u64 10 [134216512, 134217726, 134217726, 134217726, 134217726, 134217726, 134217726, 134217726, 134217726, 134217726])]
theorem gok (N : Nat) : GOk (g (carry.M N)) := giD_ok hm (by intro p hp; cases hp) (gtL_ok (by decide)) (ovL_ok (by
    intro p hp
    simp only [List.mem_cons, List.not_mem_nil, or_false] at hp
    rcases hp with rfl
    · exact ⟨(carry.ok N).gt (gtL_sub (by repeat (first | exact subG_nil _ | refine subG_cons (by kernel_rfl) ?_))) (gtL_ok (by decide)), _, Tryd.func63, by kernel_rfl, by kernel_rfl⟩
)) 1
theorem ok (N : Nat) : SoundC Tryd.prog (gtL gts) 31 (con (M N)) := by
  refine SoundC.mono (evF_ok (gok N) hm an N Tryd.func31) fun R args bs κ r h => ?_
  unfold con at h
  split at h
  · exact (eq (carry.M N) N κ _ _).trans h
  · cases h
end eSub


/-! ### Tryd.f32: eTimes -/
namespace eTimes
def an : Anns := ⟨fun i => findA i [(6, ⟨[3, 4, 5, 6, 7, 14, 15, 20, 21], [⟨3, 0, .u8⟩, ⟨4, 1, .u8⟩, ⟨5, 2, .u8⟩], 3⟩), (3, ⟨[3, 4, 5, 14, 15], [⟨3, 0, .u8⟩, ⟨4, 1, .u8⟩, ⟨5, 2, .u8⟩], 3⟩), (12, ⟨[4, 5, 37], [⟨4, 0, .u8⟩, ⟨5, 1, .u8⟩], 2⟩), (19, ⟨[4, 5, 11, 56], [⟨4, 0, .u8⟩, ⟨5, 1, .u8⟩, ⟨11, 2, .u8⟩], 3⟩)], fun i => findA i [], false, fun _ => none⟩
noncomputable def g (mcarry : carry.Ty) : Gi := giD Tryd.prog (gtL []) (fun _ => an) 0 [] (ovL [(63, carry.con mcarry)]) 1
noncomputable def c_L6 : Code := loopOf Tryd.f32 1
noncomputable def c_L3 : Code := loopOf Tryd.f32 0
noncomputable def c_L12 : Code := loopOf Tryd.f32 2
noncomputable def c_L19 : Code := loopOf Tryd.f32 3
def s_L6 (i6 : Int) (x7 : Int) (t14 : List Int) (t15 : Int) (t20 : List Int) (t21 : Int) (h0 : List Int) (h2 : List Int) : St := ⟨[AV.dead, AV.dead, AV.dead, AV.ptr 0 [], AV.ptr 1 [], AV.ptr 2 [], AV.int IntKind.i64 i6, AV.int IntKind.u64 x7] ++ List.replicate 6 .dead ++ [AV.ints IntKind.u64 10 t14, AV.int IntKind.i64 t15] ++ List.replicate 4 .dead ++ [AV.ints IntKind.u64 10 t20, AV.int IntKind.i64 t21] ++ List.replicate 52 .dead, [Blk.var (AV.agg [AV.ints IntKind.u64 10 h0]), Blk.var (AV.agg [AV.ints IntKind.u64 10 [0, 0, 0, 0, 0, 0, 0, 0, 0, 0]]), Blk.var (AV.ints IntKind.u64 20 h2)]⟩
def s_L3 (t14v1 : List Int) (t15v1 : Int) (h0v1 : List Int) (h2v1 : List Int) : St := ⟨[AV.dead, AV.dead, AV.dead, AV.ptr 0 [], AV.ptr 1 [], AV.ptr 2 []] ++ List.replicate 8 .dead ++ [AV.ints IntKind.u64 10 t14v1, AV.int IntKind.i64 t15v1] ++ List.replicate 58 .dead, [Blk.var (AV.agg [AV.ints IntKind.u64 10 h0v1]), Blk.var (AV.agg [AV.ints IntKind.u64 10 [0, 0, 0, 0, 0, 0, 0, 0, 0, 0]]), Blk.var (AV.ints IntKind.u64 20 h2v1)]⟩
def s_L12 (t37 : Int) (h1 : List Int) : St := ⟨List.replicate 4 .dead ++ [AV.ptr 0 [], AV.ptr 1 []] ++ List.replicate 31 .dead ++ [AV.int IntKind.i64 t37] ++ List.replicate 36 .dead, [Blk.var (AV.agg [AV.ints IntKind.u64 10 [0, 0, 0, 0, 0, 0, 0, 0, 0, 0]]), Blk.var (AV.ints IntKind.u64 20 h1)]⟩
def s_L19 (t56 : Int) (h1v1 : List Int) (h2v2 : List Int) : St := ⟨List.replicate 4 .dead ++ [AV.ptr 0 [], AV.ptr 1 []] ++ List.replicate 5 .dead ++ [AV.ptr 2 []] ++ List.replicate 44 .dead ++ [AV.int IntKind.i64 t56] ++ List.replicate 17 .dead, [Blk.var (AV.agg [AV.ints IntKind.u64 10 [0, 0, 0, 0, 0, 0, 0, 0, 0, 0]]), Blk.var (AV.ints IntKind.u64 20 h1v1), Blk.var (AV.agg [AV.ints IntKind.u64 10 h2v2])]⟩
def x_L6_0 (i6 : Int) (x7 : Int) (t14 : List Int) (t15 : Int) (t20 : List Int) (t21 : Int) (h0 : List Int) (h2 : List Int) : St := ⟨[AV.dead, AV.dead, AV.dead, AV.ptr 0 [], AV.ptr 1 [], AV.ptr 2 [], AV.int IntKind.i64 i6, AV.int IntKind.u64 x7] ++ List.replicate 6 .dead ++ [AV.ints IntKind.u64 10 t14, AV.int IntKind.i64 t15] ++ List.replicate 4 .dead ++ [AV.ints IntKind.u64 10 t20, AV.int IntKind.i64 t21, AV.bool (decide (t21 < 10))] ++ List.replicate 51 .dead, [Blk.var (AV.agg [AV.ints IntKind.u64 10 h0]), Blk.var (AV.agg [AV.ints IntKind.u64 10 [0, 0, 0, 0, 0, 0, 0, 0, 0, 0]]), Blk.var (AV.ints IntKind.u64 20 h2)]⟩
def x_L3_0 (t14v1 : List Int) (t15v1 : Int) (h0v1 : List Int) (h2v1 : List Int) : St := ⟨[AV.dead, AV.dead, AV.dead, AV.ptr 0 [], AV.ptr 1 [], AV.ptr 2 []] ++ List.replicate 8 .dead ++ [AV.ints IntKind.u64 10 t14v1, AV.int IntKind.i64 t15v1, AV.bool (decide (t15v1 < 10))] ++ List.replicate 57 .dead, [Blk.var (AV.agg [AV.ints IntKind.u64 10 h0v1]), Blk.var (AV.agg [AV.ints IntKind.u64 10 [0, 0, 0, 0, 0, 0, 0, 0, 0, 0]]), Blk.var (AV.ints IntKind.u64 20 h2v1)]⟩
def x_L12_0 (t37 : Int) (h1 : List Int) : St := ⟨List.replicate 4 .dead ++ [AV.ptr 0 [], AV.ptr 1 []] ++ List.replicate 31 .dead ++ [AV.int IntKind.i64 t37, AV.bool (decide (t37 < 19))] ++ List.replicate 35 .dead, [Blk.var (AV.agg [AV.ints IntKind.u64 10 [0, 0, 0, 0, 0, 0, 0, 0, 0, 0]]), Blk.var (AV.ints IntKind.u64 20 h1)]⟩
def x_L19_0 (t56 : Int) (h1v1 : List Int) (h2v2 : List Int) : St := ⟨List.replicate 4 .dead ++ [AV.ptr 0 [], AV.ptr 1 []] ++ List.replicate 5 .dead ++ [AV.ptr 2 []] ++ List.replicate 44 .dead ++ [AV.int IntKind.i64 t56, AV.bool (decide (t56 < 10))] ++ List.replicate 16 .dead, [Blk.var (AV.agg [AV.ints IntKind.u64 10 [0, 0, 0, 0, 0, 0, 0, 0, 0, 0]]), Blk.var (AV.ints IntKind.u64 20 h1v1), Blk.var (AV.agg [AV.ints IntKind.u64 10 h2v2])]⟩
noncomputable def L6 (mcarry : carry.Ty) {R : Type} (N : Nat) (ke0 : Int → Int → (List Int) → Int → (List Int) → Int → (List Int) → (List Int) → Option R) : Nat → Int → Int → (List Int) → Int → (List Int) → Int → (List Int) → (List Int) → Option R
  | 0, _, _, _, _, _, _, _, _ => none
  | m + 1, i6, x7, t14, t15, t20, t21, h0, h2 =>
    cond (decide (t21 < 10))
     (cond (decide (0 ≤ t21))
      (cond (decide (t21 < 10))
       (cond (decide (0 ≤ IntKind.i64.wrap (i6 + t21)))
        (cond (decide (IntKind.i64.wrap (i6 + t21) < 20))
         (cond (decide (0 ≤ IntKind.i64.wrap (i6 + t21)))
          (cond (decide (IntKind.i64.wrap (i6 + t21) < 20))
           (L6 mcarry N ke0 m i6 x7 t14 t15 t20 (IntKind.i64.wrap (t21 + 1)) h0 (h2.set (IntKind.i64.wrap (i6 + t21)).toNat (IntKind.u64.wrap (h2.getD (IntKind.i64.wrap (i6 + t21)).toNat 0 + IntKind.u64.wrap (x7 * t20.getD t21.toNat 0)))))
           (none))
          (none))
         (none))
        (none))
       (none))
      (none))
     (ke0 i6 x7 t14 t15 t20 t21 h0 h2)
theorem round_L6 (mcarry : carry.Ty) {R : Type} (N : Nat) (Rn : St → Option R) (k : K R) (i6 : Int) (x7 : Int) (t14 : List Int) (t15 : Int) (t20 : List Int) (t21 : Int) (h0 : List Int) (h2 : List Int) : evC (g mcarry) an 0 N c_L6 none (roundK (nmOf 0 (an.loop 6)) Rn k) (s_L6 i6 x7 t14 t15 t20 t21 h0 h2) =
  cond (decide (t21 < 10))
   (cond (decide (0 ≤ t21))
    (cond (decide (t21 < 10))
     (cond (decide (0 ≤ IntKind.i64.wrap (i6 + t21)))
      (cond (decide (IntKind.i64.wrap (i6 + t21) < 20))
       (cond (decide (0 ≤ IntKind.i64.wrap (i6 + t21)))
        (cond (decide (IntKind.i64.wrap (i6 + t21) < 20))
         (Rn (s_L6 i6 x7 t14 t15 t20 (IntKind.i64.wrap (t21 + 1)) h0 (h2.set (IntKind.i64.wrap (i6 + t21)).toNat (IntKind.u64.wrap (h2.getD (IntKind.i64.wrap (i6 + t21)).toNat 0 + IntKind.u64.wrap (x7 * t20.getD t21.toNat 0))))))
         (none))
        (none))
       (none))
      (none))
     (none))
    (none))
   (k.ext 2 (x_L6_0 i6 x7 t14 t15 t20 t21 h0 h2)) := by kernel_rfl
theorem run_L6 (mcarry : carry.Ty) {R : Type} (N : Nat) (k : K R) : ∀ (m : Nat) (i6 : Int) (x7 : Int) (t14 : List Int) (t15 : Int) (t20 : List Int) (t21 : Int) (h0 : List Int) (h2 : List Int), loopN (evC (g mcarry) an 0 N c_L6 none) k (nmOf 0 (an.loop 6)) m (s_L6 i6 x7 t14 t15 t20 t21 h0 h2) =
    L6 mcarry N (fun i6 x7 t14 t15 t20 t21 h0 h2 => (k).ext 2 (x_L6_0 i6 x7 t14 t15 t20 t21 h0 h2)) m i6 x7 t14 t15 t20 t21 h0 h2 := by
  intro m
  induction m with
  | zero => intros; rfl
  | succ m ih =>
    intros
    rw [loopN_succ, round_L6]
    simp only [ih]
    kernel_rfl
noncomputable def L3 (mcarry : carry.Ty) {R : Type} (N : Nat) (ke0 : (List Int) → Int → (List Int) → (List Int) → Option R) : Nat → (List Int) → Int → (List Int) → (List Int) → Option R
  | 0, _, _, _, _ => none
  | m + 1, t14v1, t15v1, h0v1, h2v1 =>
    cond (decide (t15v1 < 10))
     (cond (decide (0 ≤ t15v1))
      (cond (decide (t15v1 < 10))
       (L6 mcarry N
        (fun _i6_c50 _x7_c51 t14_c52 t15_c53 _t20_c54 _t21_c55 h0_c56 h2_c57 => L3 mcarry N ke0 m t14_c52 (IntKind.i64.wrap (t15_c53 + 1)) h0_c56 h2_c57) N t15v1 (t14v1.getD t15v1.toNat 0) t14v1 t15v1 h0v1 0 h0v1 h2v1)
       (none))
      (none))
     (ke0 t14v1 t15v1 h0v1 h2v1)
theorem round_L3 (mcarry : carry.Ty) {R : Type} (N : Nat) (Rn : St → Option R) (k : K R) (t14v1 : List Int) (t15v1 : Int) (h0v1 : List Int) (h2v1 : List Int) : evC (g mcarry) an 0 N c_L3 none (roundK (nmOf 0 (an.loop 3)) Rn k) (s_L3 t14v1 t15v1 h0v1 h2v1) =
  cond (decide (t15v1 < 10))
   (cond (decide (0 ≤ t15v1))
    (cond (decide (t15v1 < 10))
     (loopN (evC (g mcarry) an 0 N c_L6 none) (ctx (g mcarry) an 0 N c_L3 [1, 1, 0, 0, 1, 1, 0] (roundK (nmOf 0 (an.loop 3)) Rn k)) (nmOf 0 (an.loop 6)) N (s_L6 t15v1 (t14v1.getD t15v1.toNat 0) t14v1 t15v1 h0v1 0 h0v1 h2v1))
     (none))
    (none))
   (k.ext 0 (x_L3_0 t14v1 t15v1 h0v1 h2v1)) := by kernel_rfl
theorem round_L3_e0 (mcarry : carry.Ty) {R : Type} (N : Nat) (Rn : St → Option R) (k : K R) (i6_c50 : Int) (x7_c51 : Int) (t14_c52 : List Int) (t15_c53 : Int) (t20_c54 : List Int) (t21_c55 : Int) (h0_c56 : List Int) (h2_c57 : List Int) : (ctx (g mcarry) an 0 N c_L3 [1, 1, 0, 0, 1, 1, 0] (roundK (nmOf 0 (an.loop 3)) Rn k)).ext 2 (x_L6_0 i6_c50 x7_c51 t14_c52 t15_c53 t20_c54 t21_c55 h0_c56 h2_c57) =
  Rn (s_L3 t14_c52 (IntKind.i64.wrap (t15_c53 + 1)) h0_c56 h2_c57) := by kernel_rfl
theorem run_L3 (mcarry : carry.Ty) {R : Type} (N : Nat) (k : K R) : ∀ (m : Nat) (t14v1 : List Int) (t15v1 : Int) (h0v1 : List Int) (h2v1 : List Int), loopN (evC (g mcarry) an 0 N c_L3 none) k (nmOf 0 (an.loop 3)) m (s_L3 t14v1 t15v1 h0v1 h2v1) =
    L3 mcarry N (fun t14v1 t15v1 h0v1 h2v1 => (k).ext 0 (x_L3_0 t14v1 t15v1 h0v1 h2v1)) m t14v1 t15v1 h0v1 h2v1 := by
  intro m
  induction m with
  | zero => intros; rfl
  | succ m ih =>
    intros
    rw [loopN_succ, round_L3]
    simp only [run_L6, round_L3_e0, ih]
    kernel_rfl
noncomputable def L12 (mcarry : carry.Ty) {R : Type} (N : Nat) (ke0 : Int → (List Int) → Option R) : Nat → Int → (List Int) → Option R
  | 0, _, _ => none
  | m + 1, t37, h1 =>
    cond (decide (t37 < 19))
     (cond (decide (0 ≤ IntKind.i64.wrap (t37 + 1)))
      (cond (decide (IntKind.i64.wrap (t37 + 1) < 20))
       (cond (decide (0 ≤ t37))
        (cond (decide (t37 < 20))
         (cond (decide (0 ≤ IntKind.i64.wrap (t37 + 1)))
          (cond (decide (IntKind.i64.wrap (t37 + 1) < 20))
           (cond (decide (0 ≤ t37))
            (cond (decide (t37 < 20))
             (cond (decide (0 ≤ t37))
              (cond (decide (t37 < 20))
               (L12 mcarry N ke0 m (IntKind.i64.wrap (t37 + 1)) ((h1.set (IntKind.i64.wrap (t37 + 1)).toNat (IntKind.u64.wrap (h1.getD (IntKind.i64.wrap (t37 + 1)).toNat 0 + ishr IntKind.u64 (h1.getD t37.toNat 0) 26))).set t37.toNat (iand IntKind.u64 ((h1.set (IntKind.i64.wrap (t37 + 1)).toNat (IntKind.u64.wrap (h1.getD (IntKind.i64.wrap (t37 + 1)).toNat 0 + ishr IntKind.u64 (h1.getD t37.toNat 0) 26))).getD t37.toNat 0) 67108863)))
               (none))
              (none))
             (none))
            (none))
           (none))
          (none))
         (none))
        (none))
       (none))
      (none))
     (ke0 t37 h1)
theorem round_L12 (mcarry : carry.Ty) {R : Type} (N : Nat) (Rn : St → Option R) (k : K R) (t37 : Int) (h1 : List Int) : evC (g mcarry) an 0 N c_L12 none (roundK (nmOf 0 (an.loop 12)) Rn k) (s_L12 t37 h1) =
  cond (decide (t37 < 19))
   (cond (decide (0 ≤ IntKind.i64.wrap (t37 + 1)))
    (cond (decide (IntKind.i64.wrap (t37 + 1) < 20))
     (cond (decide (0 ≤ t37))
      (cond (decide (t37 < 20))
       (cond (decide (0 ≤ IntKind.i64.wrap (t37 + 1)))
        (cond (decide (IntKind.i64.wrap (t37 + 1) < 20))
         (cond (decide (0 ≤ t37))
          (cond (decide (t37 < 20))
           (cond (decide (0 ≤ t37))
            (cond (decide (t37 < 20))
             (Rn (s_L12 (IntKind.i64.wrap (t37 + 1)) ((h1.set (IntKind.i64.wrap (t37 + 1)).toNat (IntKind.u64.wrap (h1.getD (IntKind.i64.wrap (t37 + 1)).toNat 0 + ishr IntKind.u64 (h1.getD t37.toNat 0) 26))).set t37.toNat (iand IntKind.u64 ((h1.set (IntKind.i64.wrap (t37 + 1)).toNat (IntKind.u64.wrap (h1.getD (IntKind.i64.wrap (t37 + 1)).toNat 0 + ishr IntKind.u64 (h1.getD t37.toNat 0) 26))).getD t37.toNat 0) 67108863))))
             (none))
            (none))
           (none))
          (none))
         (none))
        (none))
       (none))
      (none))
     (none))
    (none))
   (k.ext 4 (x_L12_0 t37 h1)) := by kernel_rfl
theorem run_L12 (mcarry : carry.Ty) {R : Type} (N : Nat) (k : K R) : ∀ (m : Nat) (t37 : Int) (h1 : List Int), loopN (evC (g mcarry) an 0 N c_L12 none) k (nmOf 0 (an.loop 12)) m (s_L12 t37 h1) =
    L12 mcarry N (fun t37 h1 => (k).ext 4 (x_L12_0 t37 h1)) m t37 h1 := by
  intro m
  induction m with
  | zero => intros; rfl
  | succ m ih =>
    intros
    rw [loopN_succ, round_L12]
    simp only [ih]
    kernel_rfl
noncomputable def L19 (mcarry : carry.Ty) {R : Type} (N : Nat) (ke0 : Int → (List Int) → (List Int) → Option R) : Nat → Int → (List Int) → (List Int) → Option R
  | 0, _, _, _ => none
  | m + 1, t56, h1v1, h2v2 =>
    cond (decide (t56 < 10))
     (cond (decide (0 ≤ t56))
      (cond (decide (t56 < 20))
       (cond (decide (0 ≤ IntKind.i64.wrap (10 + t56)))
        (cond (decide (IntKind.i64.wrap (10 + t56) < 20))
         (cond (decide (0 ≤ t56))
          (cond (decide (t56 < 10))
           (L19 mcarry N ke0 m (IntKind.i64.wrap (t56 + 1)) h1v1 (h2v2.set t56.toNat (IntKind.u64.wrap (h1v1.getD t56.toNat 0 + IntKind.u64.wrap (608 * h1v1.getD (IntKind.i64.wrap (10 + t56)).toNat 0)))))
           (none))
          (none))
         (none))
        (none))
       (none))
      (none))
     (ke0 t56 h1v1 h2v2)
theorem round_L19 (mcarry : carry.Ty) {R : Type} (N : Nat) (Rn : St → Option R) (k : K R) (t56 : Int) (h1v1 : List Int) (h2v2 : List Int) : evC (g mcarry) an 0 N c_L19 none (roundK (nmOf 0 (an.loop 19)) Rn k) (s_L19 t56 h1v1 h2v2) =
  cond (decide (t56 < 10))
   (cond (decide (0 ≤ t56))
    (cond (decide (t56 < 20))
     (cond (decide (0 ≤ IntKind.i64.wrap (10 + t56)))
      (cond (decide (IntKind.i64.wrap (10 + t56) < 20))
       (cond (decide (0 ≤ t56))
        (cond (decide (t56 < 10))
         (Rn (s_L19 (IntKind.i64.wrap (t56 + 1)) h1v1 (h2v2.set t56.toNat (IntKind.u64.wrap (h1v1.getD t56.toNat 0 + IntKind.u64.wrap (608 * h1v1.getD (IntKind.i64.wrap (10 + t56)).toNat 0))))))
         (none))
        (none))
       (none))
      (none))
     (none))
    (none))
   (k.ext 6 (x_L19_0 t56 h1v1 h2v2)) := by kernel_rfl
theorem run_L19 (mcarry : carry.Ty) {R : Type} (N : Nat) (k : K R) : ∀ (m : Nat) (t56 : Int) (h1v1 : List Int) (h2v2 : List Int), loopN (evC (g mcarry) an 0 N c_L19 none) k (nmOf 0 (an.loop 19)) m (s_L19 t56 h1v1 h2v2) =
    L19 mcarry N (fun t56 h1v1 h2v2 => (k).ext 6 (x_L19_0 t56 h1v1 h2v2)) m t56 h1v1 h2v2 := by
  intro m
  induction m with
  | zero => intros; rfl
  | succ m ih =>
    intros
    rw [loopN_succ, round_L19]
    simp only [ih]
    kernel_rfl
noncomputable def m (mcarry : carry.Ty) {R : Type} (N : Nat) (a1 : List Int) (b2 : List Int) (kr0 : (List Int) → Option R) : Option R :=
  L3 mcarry N
   (fun _t14_c58 _t15_c59 _h0_c60 h2_c61 => L12 mcarry N
    (fun _t37_c62 h1_c63 => L19 mcarry N
     (fun _t56_c64 _h1_c65 h2_c66 => mcarry R h2_c66
      (fun b_c67 => kr0 b_c67)) N 0 h1_c63 ([0, 0, 0, 0, 0, 0, 0, 0, 0, 0])) N 0 h2_c61) N a1 0 b2 ([0, 0, 0, 0, 0, 0, 0, 0, 0, 0, 0, 0, 0, 0, 0, 0, 0, 0, 0, 0])
theorem tree (mcarry : carry.Ty) {R : Type} (N : Nat) (κ : AV → List Blk → Option R) (a1 : List Int) (b2 : List Int) : evF (g mcarry) an N Tryd.f32 [AV.agg [AV.ints IntKind.u64 10 a1], AV.agg [AV.ints IntKind.u64 10 b2]] [] κ =
  loopN (evC (g mcarry) an 0 N c_L3 none) (ctx (g mcarry) an 0 N (bodyOf Tryd.f32) [1, 1, 0, 1, 0] (endK (g mcarry) an Tryd.f32 [] κ)) (nmOf 0 (an.loop 3)) N (s_L3 a1 0 b2 ([0, 0, 0, 0, 0, 0, 0, 0, 0, 0, 0, 0, 0, 0, 0, 0, 0, 0, 0, 0])) := by kernel_rfl
theorem tree_e0 (mcarry : carry.Ty) {R : Type} (N : Nat) (κ : AV → List Blk → Option R) (t14_c58 : List Int) (t15_c59 : Int) (h0_c60 : List Int) (h2_c61 : List Int) : (ctx (g mcarry) an 0 N (bodyOf Tryd.f32) [1, 1, 0, 1, 0] (endK (g mcarry) an Tryd.f32 [] κ)).ext 0 (x_L3_0 t14_c58 t15_c59 h0_c60 h2_c61) =
  loopN (evC (g mcarry) an 0 N c_L12 none) (ctx (g mcarry) an 0 N (bodyOf Tryd.f32) [1, 1, 1, 0, 1, 0] (endK (g mcarry) an Tryd.f32 [] κ)) (nmOf 0 (an.loop 12)) N (s_L12 0 h2_c61) := by kernel_rfl
theorem tree_e1 (mcarry : carry.Ty) {R : Type} (N : Nat) (κ : AV → List Blk → Option R) (t37_c62 : Int) (h1_c63 : List Int) : (ctx (g mcarry) an 0 N (bodyOf Tryd.f32) [1, 1, 1, 0, 1, 0] (endK (g mcarry) an Tryd.f32 [] κ)).ext 4 (x_L12_0 t37_c62 h1_c63) =
  loopN (evC (g mcarry) an 0 N c_L19 none) (ctx (g mcarry) an 0 N (bodyOf Tryd.f32) [1, 1, 1, 1, 1, 0, 1, 0] (endK (g mcarry) an Tryd.f32 [] κ)) (nmOf 0 (an.loop 19)) N (s_L19 0 h1_c63 ([0, 0, 0, 0, 0, 0, 0, 0, 0, 0])) := by kernel_rfl
theorem eq (mcarry : carry.Ty) {R : Type} (N : Nat) (κ : AV → List Blk → Option R) (a1 : List Int) (b2 : List Int) : evF (g mcarry) an N Tryd.f32 [AV.agg [AV.ints IntKind.u64 10 a1], AV.agg [AV.ints IntKind.u64 10 b2]] [] κ =
  m mcarry N a1 b2 (fun v => κ (AV.agg [AV.ints IntKind.u64 10 v]) []) := by
  rw [tree]
  simp only [run_L3, run_L12, run_L19, tree_e0, tree_e1]
  kernel_rfl
abbrev Ty : Type 1 := ∀ R : Type, (List Int) → (List Int) → ((List Int) → Option R) → Option R
def con (f : Ty) : Con := fun R args bs κ => match args, bs with
  | [AV.agg [AV.ints IntKind.u64 10 a1], AV.agg [AV.ints IntKind.u64 10 b2]], [] => f R a1 b2 (fun v => κ (AV.agg [AV.ints IntKind.u64 10 v]) [])
  | _, _ => none
theorem con_eq (f : Ty) (R : Type) (κ : AV → List Blk → Option R) (a1 : List Int) (b2 : List Int) : con f R [AV.agg [AV.ints IntKind.u64 10 a1], AV.agg [AV.ints IntKind.u64 10 b2]] [] κ = f R a1 b2 (fun v => κ (AV.agg [AV.ints IntKind.u64 10 v]) []) := rfl
noncomputable def M (N : Nat) : Ty := fun R a1 b2 kr0 => m (carry.M N) (R := R) N a1 b2 kr0
def gts : List (Nat × AV) := []
theorem gok (N : Nat) : GOk (g (carry.M N)) := giD_ok hm (by intro p hp; cases hp) (gtL_ok (by decide)) (ovL_ok (by
    intro p hp
    simp only [List.mem_cons, List.not_mem_nil, or_false] at hp
    rcases hp with rfl
    · exact ⟨(carry.ok N).gt (gtL_sub (by repeat (first | exact subG_nil _ | refine subG_cons (by kernel_rfl) ?_))) (gtL_ok (by decide)), _, Tryd.func63, by kernel_rfl, by kernel_rfl⟩
)) 1
theorem ok (N : Nat) : SoundC Tryd.prog (gtL gts) 32 (con (M N)) := by
  refine SoundC.mono (evF_ok (gok N) hm an N Tryd.func32) fun R args bs κ r h => ?_
  unfold con at h
  split at h
  · exact (eq (carry.M N) N κ _ _).trans h
  · cases h
end eTimes


/-! ### Tryd.f29: Square -/
namespace Square
def an : Anns := ⟨fun i => findA i [], fun i => findA i [], false, fun _ => none⟩
noncomputable def g (meTimes : eTimes.Ty) : Gi := giD Tryd.prog (gtL []) (fun _ => an) 0 [] (ovL [(32, eTimes.con meTimes)]) 1
noncomputable def m (meTimes : eTimes.Ty) {R : Type} (_N : Nat) (a1 : List Int) (kr0 : (List Int) → Option R) : Option R :=
  meTimes R a1 a1
   (fun v_c1 => kr0 v_c1)
theorem tree (meTimes : eTimes.Ty) {R : Type} (N : Nat) (κ : AV → List Blk → Option R) (a1 : List Int) : evF (g meTimes) an N Tryd.f29 [AV.agg [AV.ints IntKind.u64 10 a1]] [] κ =
  meTimes R a1 a1
   (fun v_c1 => κ (AV.agg [AV.ints IntKind.u64 10 v_c1]) []) := by kernel_rfl
theorem eq (meTimes : eTimes.Ty) {R : Type} (N : Nat) (κ : AV → List Blk → Option R) (a1 : List Int) : evF (g meTimes) an N Tryd.f29 [AV.agg [AV.ints IntKind.u64 10 a1]] [] κ =
  m meTimes N a1 (fun v => κ (AV.agg [AV.ints IntKind.u64 10 v]) []) := by
  rw [tree]
  kernel_rfl
abbrev Ty : Type 1 := ∀ R : Type, (List Int) → ((List Int) → Option R) → Option R
def con (f : Ty) : Con := fun R args bs κ => match args, bs with
  | [AV.agg [AV.ints IntKind.u64 10 a1]], [] => f R a1 (fun v => κ (AV.agg [AV.ints IntKind.u64 10 v]) [])
  | _, _ => none
theorem con_eq (f : Ty) (R : Type) (κ : AV → List Blk → Option R) (a1 : List Int) : con f R [AV.agg [AV.ints IntKind.u64 10 a1]] [] κ = f R a1 (fun v => κ (AV.agg [AV.ints IntKind.u64 10 v]) []) := rfl
noncomputable def M (N : Nat) : Ty := fun R a1 kr0 => m (eTimes.M N) (R := R) N a1 kr0
def gts : List (Nat × AV) := []
theorem gok (N : Nat) : GOk (g (eTimes.M N)) := giD_ok hm (by intro p hp; cases hp) (gtL_ok (by decide)) (ovL_ok (by
    intro p hp
    simp only [List.mem_cons, List.not_mem_nil, or_false] at hp
    rcases hp with rfl
    · exact ⟨(eTimes.ok N).gt (gtL_sub (by repeat (first | exact subG_nil _ | refine subG_cons (by kernel_rfl) ?_))) (gtL_ok (by decide)), _, Tryd.func32, by kernel_rfl, by kernel_rfl⟩
)) 1
theorem ok (N : Nat) : SoundC Tryd.prog (gtL gts) 29 (con (M N)) := by
  refine SoundC.mono (evF_ok (gok N) hm an N Tryd.func29) fun R args bs κ r h => ?_
  unfold con at h
  split at h
  · exact (eq (eTimes.M N) N κ _).trans h
  · cases h
end Square


/-! ### Tryd.f52: Same -/
namespace Same
def an : Anns := ⟨fun i => findA i [], fun i => findA i [], false, fun _ => none⟩
noncomputable def g (meBytes : eBytes.Ty) (mwEqual : wEqual.Ty) : Gi := giD Tryd.prog (gtL []) (fun _ => an) 0 [] (ovL [(49, eBytes.con meBytes), (76, wEqual.con mwEqual)]) 1
noncomputable def m (meBytes : eBytes.Ty) (mwEqual : wEqual.Ty) {R : Type} (_N : Nat) (a1 : List Int) (b2 : List Int) (kr0 : Bool → Option R) : Option R :=
  meBytes R a1
   (fun v_c3 => meBytes R b2
    (fun v_c4 => mwEqual R none (cut (some 32) 0 v_c3) none (cut (some 32) 0 v_c4)
     (fun v_c5 => kr0 v_c5)))
theorem tree (meBytes : eBytes.Ty) (mwEqual : wEqual.Ty) {R : Type} (N : Nat) (κ : AV → List Blk → Option R) (a1 : List Int) (b2 : List Int) : evF (g meBytes mwEqual) an N Tryd.f52 [AV.agg [AV.ints IntKind.u64 10 a1], AV.agg [AV.ints IntKind.u64 10 b2]] [] κ =
  meBytes R a1
   (fun v_c3 => meBytes R b2
    (fun v_c4 => mwEqual R none (cut (some 32) 0 v_c3) none (cut (some 32) 0 v_c4)
     (fun v_c5 => κ (AV.bool v_c5) []))) := by kernel_rfl
theorem eq (meBytes : eBytes.Ty) (mwEqual : wEqual.Ty) {R : Type} (N : Nat) (κ : AV → List Blk → Option R) (a1 : List Int) (b2 : List Int) : evF (g meBytes mwEqual) an N Tryd.f52 [AV.agg [AV.ints IntKind.u64 10 a1], AV.agg [AV.ints IntKind.u64 10 b2]] [] κ =
  m meBytes mwEqual N a1 b2 (fun v => κ (AV.bool v) []) := by
  rw [tree]
  kernel_rfl
abbrev Ty : Type 1 := ∀ R : Type, (List Int) → (List Int) → (Bool → Option R) → Option R
def con (f : Ty) : Con := fun R args bs κ => match args, bs with
  | [AV.agg [AV.ints IntKind.u64 10 a1], AV.agg [AV.ints IntKind.u64 10 b2]], [] => f R a1 b2 (fun v => κ (AV.bool v) [])
  | _, _ => none
theorem con_eq (f : Ty) (R : Type) (κ : AV → List Blk → Option R) (a1 : List Int) (b2 : List Int) : con f R [AV.agg [AV.ints IntKind.u64 10 a1], AV.agg [AV.ints IntKind.u64 10 b2]] [] κ = f R a1 b2 (fun v => κ (AV.bool v) []) := rfl
noncomputable def M (N : Nat) : Ty := fun R a1 b2 kr0 => m (eBytes.M N) (wEqual.M N) (R := R) N a1 b2 kr0
def gts : List (Nat × AV) := []
theorem gok (N : Nat) : GOk (g (eBytes.M N) (wEqual.M N)) := giD_ok hm (by intro p hp; cases hp) (gtL_ok (by decide)) (ovL_ok (by
    intro p hp
    simp only [List.mem_cons, List.not_mem_nil, or_false] at hp
    rcases hp with rfl | rfl
    · exact ⟨(eBytes.ok N).gt (gtL_sub (by repeat (first | exact subG_nil _ | refine subG_cons (by kernel_rfl) ?_))) (gtL_ok (by decide)), _, Tryd.func49, by kernel_rfl, by kernel_rfl⟩
    · exact ⟨(wEqual.ok N).gt (gtL_sub (by repeat (first | exact subG_nil _ | refine subG_cons (by kernel_rfl) ?_))) (gtL_ok (by decide)), _, Tryd.func76, by kernel_rfl, by kernel_rfl⟩
)) 1
theorem ok (N : Nat) : SoundC Tryd.prog (gtL gts) 52 (con (M N)) := by
  refine SoundC.mono (evF_ok (gok N) hm an N Tryd.func52) fun R args bs κ r h => ?_
  unfold con at h
  split at h
  · exact (eq (eBytes.M N) (wEqual.M N) N κ _ _).trans h
  · cases h
end Same


/-! ### Tryd.f50: Odd -/
namespace Odd
def an : Anns := ⟨fun i => findA i [], fun i => findA i [], false, fun _ => none⟩
noncomputable def g (mleast : least.Ty) : Gi := giD Tryd.prog (gtL []) (fun _ => an) 0 [] (ovL [(75, least.con mleast)]) 1
noncomputable def m (mleast : least.Ty) {R : Type} (_N : Nat) (a1 : List Int) (kr0 : Bool → Option R) : Option R :=
  mleast R a1
   (fun v_c1 => kr0 (iand IntKind.u64 (v_c1.getD 0 0) 1 == 1))
theorem tree (mleast : least.Ty) {R : Type} (N : Nat) (κ : AV → List Blk → Option R) (a1 : List Int) : evF (g mleast) an N Tryd.f50 [AV.agg [AV.ints IntKind.u64 10 a1]] [] κ =
  mleast R a1
   (fun v_c1 => κ (AV.bool (iand IntKind.u64 (v_c1.getD 0 0) 1 == 1)) []) := by kernel_rfl
theorem eq (mleast : least.Ty) {R : Type} (N : Nat) (κ : AV → List Blk → Option R) (a1 : List Int) : evF (g mleast) an N Tryd.f50 [AV.agg [AV.ints IntKind.u64 10 a1]] [] κ =
  m mleast N a1 (fun v => κ (AV.bool v) []) := by
  rw [tree]
  kernel_rfl
abbrev Ty : Type 1 := ∀ R : Type, (List Int) → (Bool → Option R) → Option R
def con (f : Ty) : Con := fun R args bs κ => match args, bs with
  | [AV.agg [AV.ints IntKind.u64 10 a1]], [] => f R a1 (fun v => κ (AV.bool v) [])
  | _, _ => none
theorem con_eq (f : Ty) (R : Type) (κ : AV → List Blk → Option R) (a1 : List Int) : con f R [AV.agg [AV.ints IntKind.u64 10 a1]] [] κ = f R a1 (fun v => κ (AV.bool v) []) := rfl
noncomputable def M (N : Nat) : Ty := fun R a1 kr0 => m (least.M N) (R := R) N a1 kr0
def gts : List (Nat × AV) := []
theorem gok (N : Nat) : GOk (g (least.M N)) := giD_ok hm (by intro p hp; cases hp) (gtL_ok (by decide)) (ovL_ok (by
    intro p hp
    simp only [List.mem_cons, List.not_mem_nil, or_false] at hp
    rcases hp with rfl
    · exact ⟨(least.ok N).gt (gtL_sub (by repeat (first | exact subG_nil _ | refine subG_cons (by kernel_rfl) ?_))) (gtL_ok (by decide)), _, Tryd.func75, by kernel_rfl, by kernel_rfl⟩
)) 1
theorem ok (N : Nat) : SoundC Tryd.prog (gtL gts) 50 (con (M N)) := by
  refine SoundC.mono (evF_ok (gok N) hm an N Tryd.func50) fun R args bs κ r h => ?_
  unfold con at h
  split at h
  · exact (eq (least.M N) N κ _).trans h
  · cases h
end Odd


/-! ### Tryd.f37: eZero -/
namespace eZero
def an : Anns := ⟨fun i => findA i [], fun i => findA i [], false, fun _ => none⟩
noncomputable def g (meBytes : eBytes.Ty) (mwZero : wZero.Ty) : Gi := giD Tryd.prog (gtL []) (fun _ => an) 0 [] (ovL [(49, eBytes.con meBytes), (66, wZero.con mwZero)]) 1
noncomputable def m (meBytes : eBytes.Ty) (mwZero : wZero.Ty) {R : Type} (_N : Nat) (a1 : List Int) (kr0 : Bool → Option R) : Option R :=
  meBytes R a1
   (fun v_c2 => mwZero R none (cut (some 32) 0 v_c2)
    (fun v_c3 => kr0 v_c3))
theorem tree (meBytes : eBytes.Ty) (mwZero : wZero.Ty) {R : Type} (N : Nat) (κ : AV → List Blk → Option R) (a1 : List Int) : evF (g meBytes mwZero) an N Tryd.f37 [AV.agg [AV.ints IntKind.u64 10 a1]] [] κ =
  meBytes R a1
   (fun v_c2 => mwZero R none (cut (some 32) 0 v_c2)
    (fun v_c3 => κ (AV.bool v_c3) [])) := by kernel_rfl
theorem eq (meBytes : eBytes.Ty) (mwZero : wZero.Ty) {R : Type} (N : Nat) (κ : AV → List Blk → Option R) (a1 : List Int) : evF (g meBytes mwZero) an N Tryd.f37 [AV.agg [AV.ints IntKind.u64 10 a1]] [] κ =
  m meBytes mwZero N a1 (fun v => κ (AV.bool v) []) := by
  rw [tree]
  kernel_rfl
abbrev Ty : Type 1 := ∀ R : Type, (List Int) → (Bool → Option R) → Option R
def con (f : Ty) : Con := fun R args bs κ => match args, bs with
  | [AV.agg [AV.ints IntKind.u64 10 a1]], [] => f R a1 (fun v => κ (AV.bool v) [])
  | _, _ => none
theorem con_eq (f : Ty) (R : Type) (κ : AV → List Blk → Option R) (a1 : List Int) : con f R [AV.agg [AV.ints IntKind.u64 10 a1]] [] κ = f R a1 (fun v => κ (AV.bool v) []) := rfl
noncomputable def M (N : Nat) : Ty := fun R a1 kr0 => m (eBytes.M N) (wZero.M N) (R := R) N a1 kr0
def gts : List (Nat × AV) := []
theorem gok (N : Nat) : GOk (g (eBytes.M N) (wZero.M N)) := giD_ok hm (by intro p hp; cases hp) (gtL_ok (by decide)) (ovL_ok (by
    intro p hp
    simp only [List.mem_cons, List.not_mem_nil, or_false] at hp
    rcases hp with rfl | rfl
    · exact ⟨(eBytes.ok N).gt (gtL_sub (by repeat (first | exact subG_nil _ | refine subG_cons (by kernel_rfl) ?_))) (gtL_ok (by decide)), _, Tryd.func49, by kernel_rfl, by kernel_rfl⟩
    · exact ⟨(wZero.ok N).gt (gtL_sub (by repeat (first | exact subG_nil _ | refine subG_cons (by kernel_rfl) ?_))) (gtL_ok (by decide)), _, Tryd.func66, by kernel_rfl, by kernel_rfl⟩
)) 1
theorem ok (N : Nat) : SoundC Tryd.prog (gtL gts) 37 (con (M N)) := by
  refine SoundC.mono (evF_ok (gok N) hm an N Tryd.func37) fun R args bs κ r h => ?_
  unfold con at h
  split at h
  · exact (eq (eBytes.M N) (wZero.M N) N κ _).trans h
  · cases h
end eZero


/-! ### Tryd.f30: Small -/
namespace Small
def an : Anns := ⟨fun i => findA i [(6, ⟨[0, 2, 3, 4, 12], [⟨2, 0, .u8⟩, ⟨3, 1, .u8⟩], 2⟩)], fun i => findA i [], false, fun _ => none⟩
noncomputable def g (meSub : eSub.Ty) : Gi := giD Tryd.prog (gtL [(19, .ints .u64 10 [134216512, 134217726, 134217726, 134217726, 134217726, 134217726, 134217726, 134217726, 134217726, 134217726])]) (fun _ => an) 0 [] (ovL [(31, eSub.con meSub)]) 1
noncomputable def c_L6 : Code := loopOf Tryd.f30 0
def s_L6 (n0 : Int) (size4 : Int) (t12 : Int) (h1 : List Int) : St := ⟨[AV.int IntKind.i64 n0, AV.dead, AV.ptr 0 [], AV.ptr 1 [], AV.int IntKind.u64 size4] ++ List.replicate 7 .dead ++ [AV.int IntKind.i64 t12] ++ List.replicate 17 .dead, [Blk.var (AV.agg [AV.ints IntKind.u64 10 [0, 0, 0, 0, 0, 0, 0, 0, 0, 0]]), Blk.var (AV.agg [AV.ints IntKind.u64 10 h1])]⟩
def x_L6_0 (n0 : Int) (size4 : Int) (t12 : Int) (h1 : List Int) : St := ⟨[AV.int IntKind.i64 n0, AV.dead, AV.ptr 0 [], AV.ptr 1 [], AV.int IntKind.u64 size4] ++ List.replicate 7 .dead ++ [AV.int IntKind.i64 t12, AV.bool (decide (t12 < 3))] ++ List.replicate 16 .dead, [Blk.var (AV.agg [AV.ints IntKind.u64 10 [0, 0, 0, 0, 0, 0, 0, 0, 0, 0]]), Blk.var (AV.agg [AV.ints IntKind.u64 10 h1])]⟩
noncomputable def L6 (meSub : eSub.Ty) {R : Type} (N : Nat) (ke0 : Int → Int → Int → (List Int) → Option R) : Nat → Int → Int → Int → (List Int) → Option R
  | 0, _, _, _, _ => none
  | m + 1, n0, size4, t12, h1 =>
    cond (decide (t12 < 3))
     (cond (true && decide (IntKind.i64.wrap (26 * t12) < 0))
      (none)
      (cond (decide (0 ≤ t12))
       (cond (decide (t12 < 10))
        (L6 meSub N ke0 m n0 size4 (IntKind.i64.wrap (t12 + 1)) (h1.set t12.toNat (iand IntKind.u64 (ishr IntKind.u64 size4 (IntKind.i64.wrap (26 * t12))) 67108863)))
        (none))
       (none)))
     (ke0 n0 size4 t12 h1)
theorem round_L6 (meSub : eSub.Ty) {R : Type} (N : Nat) (Rn : St → Option R) (k : K R) (n0 : Int) (size4 : Int) (t12 : Int) (h1 : List Int) : evC (g meSub) an 0 N c_L6 none (roundK (nmOf 0 (an.loop 6)) Rn k) (s_L6 n0 size4 t12 h1) =
  cond (decide (t12 < 3))
   (cond (true && decide (IntKind.i64.wrap (26 * t12) < 0))
    (none)
    (cond (decide (0 ≤ t12))
     (cond (decide (t12 < 10))
      (Rn (s_L6 n0 size4 (IntKind.i64.wrap (t12 + 1)) (h1.set t12.toNat (iand IntKind.u64 (ishr IntKind.u64 size4 (IntKind.i64.wrap (26 * t12))) 67108863))))
      (none))
     (none)))
   (k.ext 0 (x_L6_0 n0 size4 t12 h1)) := by kernel_rfl
theorem run_L6 (meSub : eSub.Ty) {R : Type} (N : Nat) (k : K R) : ∀ (m : Nat) (n0 : Int) (size4 : Int) (t12 : Int) (h1 : List Int), loopN (evC (g meSub) an 0 N c_L6 none) k (nmOf 0 (an.loop 6)) m (s_L6 n0 size4 t12 h1) =
    L6 meSub N (fun n0 size4 t12 h1 => (k).ext 0 (x_L6_0 n0 size4 t12 h1)) m n0 size4 t12 h1 := by
  intro m
  induction m with
  | zero => intros; rfl
  | succ m ih =>
    intros
    rw [loopN_succ, round_L6]
    simp only [ih]
    kernel_rfl
noncomputable def m (meSub : eSub.Ty) {R : Type} (N : Nat) (n1 : Int) (kr0 : (List Int) → Option R) : Option R :=
  cond (decide (n1 < 0))
   (L6 meSub N
    (fun n0_c5 _size4_c6 _t12_c7 h1_c8 => cond (decide (n0_c5 < 0))
     (meSub R ([0, 0, 0, 0, 0, 0, 0, 0, 0, 0]) h1_c8
      (fun v_c9 => kr0 v_c9))
     (kr0 h1_c8)) N n1 (IntKind.u64.wrap (0 - IntKind.u64.wrap n1)) 0 ([0, 0, 0, 0, 0, 0, 0, 0, 0, 0]))
   (L6 meSub N
    (fun n0_c10 _size4_c11 _t12_c12 h1_c13 => cond (decide (n0_c10 < 0))
     (meSub R ([0, 0, 0, 0, 0, 0, 0, 0, 0, 0]) h1_c13
      (fun v_c14 => kr0 v_c14))
     (kr0 h1_c13)) N n1 (IntKind.u64.wrap n1) 0 ([0, 0, 0, 0, 0, 0, 0, 0, 0, 0]))
theorem tree (meSub : eSub.Ty) {R : Type} (N : Nat) (κ : AV → List Blk → Option R) (n1 : Int) : evF (g meSub) an N Tryd.f30 [AV.int IntKind.i64 n1] [] κ =
  cond (decide (n1 < 0))
   (loopN (evC (g meSub) an 0 N c_L6 none) (ctx (g meSub) an 0 N (bodyOf Tryd.f30) [1, 1, 1, 1, 0, 1, 0] (endK (g meSub) an Tryd.f30 [] κ)) (nmOf 0 (an.loop 6)) N (s_L6 n1 (IntKind.u64.wrap (0 - IntKind.u64.wrap n1)) 0 ([0, 0, 0, 0, 0, 0, 0, 0, 0, 0])))
   (loopN (evC (g meSub) an 0 N c_L6 none) (ctx (g meSub) an 0 N (bodyOf Tryd.f30) [1, 1, 1, 1, 0, 1, 0] (endK (g meSub) an Tryd.f30 [] κ)) (nmOf 0 (an.loop 6)) N (s_L6 n1 (IntKind.u64.wrap n1) 0 ([0, 0, 0, 0, 0, 0, 0, 0, 0, 0]))) := by kernel_rfl
theorem eq (meSub : eSub.Ty) {R : Type} (N : Nat) (κ : AV → List Blk → Option R) (n1 : Int) : evF (g meSub) an N Tryd.f30 [AV.int IntKind.i64 n1] [] κ =
  m meSub N n1 (fun v => κ (AV.agg [AV.ints IntKind.u64 10 v]) []) := by
  rw [tree]
  simp only [run_L6]
  kernel_rfl
abbrev Ty : Type 1 := ∀ R : Type, Int → ((List Int) → Option R) → Option R
def con (f : Ty) : Con := fun R args bs κ => match args, bs with
  | [AV.int IntKind.i64 n1], [] => f R n1 (fun v => κ (AV.agg [AV.ints IntKind.u64 10 v]) [])
  | _, _ => none
theorem con_eq (f : Ty) (R : Type) (κ : AV → List Blk → Option R) (n1 : Int) : con f R [AV.int IntKind.i64 n1] [] κ = f R n1 (fun v => κ (AV.agg [AV.ints IntKind.u64 10 v]) []) := rfl
noncomputable def M (N : Nat) : Ty := fun R n1 kr0 => m (eSub.M N) (R := R) N n1 kr0
def gts : List (Nat × AV) := [(19, .ints .u64 10 [134216512, 134217726, 134217726, 134217726, 134217726, 134217726, 134217726, 134217726, 134217726, 134217726])]
theorem gok (N : Nat) : GOk (g (eSub.M N)) := giD_ok hm (by intro p hp; cases hp) (gtL_ok (by decide)) (ovL_ok (by
    intro p hp
    simp only [List.mem_cons, List.not_mem_nil, or_false] at hp
    rcases hp with rfl
    · exact ⟨(eSub.ok N).gt (gtL_sub (by repeat (first | exact subG_nil _ | refine subG_cons (by kernel_rfl) ?_))) (gtL_ok (by decide)), _, Tryd.func31, by kernel_rfl, by kernel_rfl⟩
)) 1
theorem ok (N : Nat) : SoundC Tryd.prog (gtL gts) 30 (con (M N)) := by
  refine SoundC.mono (evF_ok (gok N) hm an N Tryd.func30) fun R args bs κ r h => ?_
  unfold con at h
  split at h
  · exact (eq (eSub.M N) N κ _).trans h
  · cases h
end Small


/-! ### Tryd.f62: fRead -/
namespace fRead
def an : Anns := ⟨fun i => findA i [(3, ⟨[1, 2, 3, 5], [⟨1, 0, .u8⟩, ⟨2, 1, .u8⟩, ⟨3, 2, .u8⟩], 3⟩)], fun i => findA i [], false, fun _ => none⟩
noncomputable def g : Gi := giD Tryd.prog (gtL []) (fun _ => an) 0 [] (ovL []) 1
noncomputable def c_L3 : Code := loopOf Tryd.f62 0
def s_L3 (t5 : Int) (h0 : List Int) (h2 : List Int) : St := ⟨[AV.dead, AV.ptr 0 [], AV.ptr 1 [], AV.ptr 2 [], AV.dead, AV.int IntKind.i64 t5] ++ List.replicate 24 .dead, [Blk.var (AV.ints IntKind.u8 32 h0), Blk.var (AV.agg [AV.ints IntKind.u64 10 [0, 0, 0, 0, 0, 0, 0, 0, 0, 0]]), Blk.var (AV.agg [AV.ints IntKind.u64 10 h2])]⟩
def x_L3_0 (t5 : Int) (h0 : List Int) (h2 : List Int) : St := ⟨[AV.dead, AV.ptr 0 [], AV.ptr 1 [], AV.ptr 2 [], AV.dead, AV.int IntKind.i64 t5, AV.bool (decide (t5 < 255))] ++ List.replicate 23 .dead, [Blk.var (AV.ints IntKind.u8 32 h0), Blk.var (AV.agg [AV.ints IntKind.u64 10 [0, 0, 0, 0, 0, 0, 0, 0, 0, 0]]), Blk.var (AV.agg [AV.ints IntKind.u64 10 h2])]⟩
noncomputable def L3 {R : Type} (N : Nat) (ke0 : Int → (List Int) → (List Int) → Option R) : Nat → Int → (List Int) → (List Int) → Option R
  | 0, _, _, _ => none
  | m + 1, t5, h0, h2 =>
    cond (decide (t5 < 255))
     (cond (decide (0 ≤ IntKind.i64.wrap (t5.tdiv 26)))
      (cond (decide (IntKind.i64.wrap (t5.tdiv 26) < 10))
       (cond (decide (0 ≤ IntKind.i64.wrap (t5.tdiv 8)))
        (cond (decide (IntKind.i64.wrap (t5.tdiv 8) < 32))
         (cond (true && decide (t5.tmod 8 < 0))
          (none)
          (cond (true && decide (t5.tmod 26 < 0))
           (none)
           (cond (decide (0 ≤ IntKind.i64.wrap (t5.tdiv 26)))
            (cond (decide (IntKind.i64.wrap (t5.tdiv 26) < 10))
             (L3 N ke0 m (IntKind.i64.wrap (t5 + 1)) h0 (h2.set (IntKind.i64.wrap (t5.tdiv 26)).toNat (ior IntKind.u64 (h2.getD (IntKind.i64.wrap (t5.tdiv 26)).toNat 0) (ishl IntKind.u64 (IntKind.u64.wrap (iand IntKind.u8 (ishr IntKind.u8 (h0.getD (IntKind.i64.wrap (t5.tdiv 8)).toNat 0) (t5.tmod 8)) 1)) (t5.tmod 26)))))
             (none))
            (none))))
         (none))
        (none))
       (none))
      (none))
     (ke0 t5 h0 h2)
theorem round_L3 {R : Type} (N : Nat) (Rn : St → Option R) (k : K R) (t5 : Int) (h0 : List Int) (h2 : List Int) : evC (g) an 0 N c_L3 none (roundK (nmOf 0 (an.loop 3)) Rn k) (s_L3 t5 h0 h2) =
  cond (decide (t5 < 255))
   (cond (decide (0 ≤ IntKind.i64.wrap (t5.tdiv 26)))
    (cond (decide (IntKind.i64.wrap (t5.tdiv 26) < 10))
     (cond (decide (0 ≤ IntKind.i64.wrap (t5.tdiv 8)))
      (cond (decide (IntKind.i64.wrap (t5.tdiv 8) < 32))
       (cond (true && decide (t5.tmod 8 < 0))
        (none)
        (cond (true && decide (t5.tmod 26 < 0))
         (none)
         (cond (decide (0 ≤ IntKind.i64.wrap (t5.tdiv 26)))
          (cond (decide (IntKind.i64.wrap (t5.tdiv 26) < 10))
           (Rn (s_L3 (IntKind.i64.wrap (t5 + 1)) h0 (h2.set (IntKind.i64.wrap (t5.tdiv 26)).toNat (ior IntKind.u64 (h2.getD (IntKind.i64.wrap (t5.tdiv 26)).toNat 0) (ishl IntKind.u64 (IntKind.u64.wrap (iand IntKind.u8 (ishr IntKind.u8 (h0.getD (IntKind.i64.wrap (t5.tdiv 8)).toNat 0) (t5.tmod 8)) 1)) (t5.tmod 26))))))
           (none))
          (none))))
       (none))
      (none))
     (none))
    (none))
   (k.ext 0 (x_L3_0 t5 h0 h2)) := by kernel_rfl
theorem run_L3 {R : Type} (N : Nat) (k : K R) : ∀ (m : Nat) (t5 : Int) (h0 : List Int) (h2 : List Int), loopN (evC (g) an 0 N c_L3 none) k (nmOf 0 (an.loop 3)) m (s_L3 t5 h0 h2) =
    L3 N (fun t5 h0 h2 => (k).ext 0 (x_L3_0 t5 h0 h2)) m t5 h0 h2 := by
  intro m
  induction m with
  | zero => intros; rfl
  | succ m ih =>
    intros
    rw [loopN_succ, round_L3]
    simp only [ih]
    kernel_rfl
noncomputable def m {R : Type} (N : Nat) (b1 : List Int) (kr0 : (List Int) → Option R) : Option R :=
  L3 N
   (fun _t5_c3 _h0_c4 h2_c5 => kr0 h2_c5) N 0 b1 ([0, 0, 0, 0, 0, 0, 0, 0, 0, 0])
theorem tree {R : Type} (N : Nat) (κ : AV → List Blk → Option R) (b1 : List Int) : evF (g) an N Tryd.f62 [AV.ints IntKind.u8 32 b1] [] κ =
  loopN (evC (g) an 0 N c_L3 none) (ctx (g) an 0 N (bodyOf Tryd.f62) [1, 1, 0, 1, 0] (endK (g) an Tryd.f62 [] κ)) (nmOf 0 (an.loop 3)) N (s_L3 0 b1 ([0, 0, 0, 0, 0, 0, 0, 0, 0, 0])) := by kernel_rfl
theorem eq {R : Type} (N : Nat) (κ : AV → List Blk → Option R) (b1 : List Int) : evF (g) an N Tryd.f62 [AV.ints IntKind.u8 32 b1] [] κ =
  m N b1 (fun v => κ (AV.agg [AV.ints IntKind.u64 10 v]) []) := by
  rw [tree]
  simp only [run_L3]
  kernel_rfl
abbrev Ty : Type 1 := ∀ R : Type, (List Int) → ((List Int) → Option R) → Option R
def con (f : Ty) : Con := fun R args bs κ => match args, bs with
  | [AV.ints IntKind.u8 32 b1], [] => f R b1 (fun v => κ (AV.agg [AV.ints IntKind.u64 10 v]) [])
  | _, _ => none
theorem con_eq (f : Ty) (R : Type) (κ : AV → List Blk → Option R) (b1 : List Int) : con f R [AV.ints IntKind.u8 32 b1] [] κ = f R b1 (fun v => κ (AV.agg [AV.ints IntKind.u64 10 v]) []) := rfl
noncomputable def M (N : Nat) : Ty := fun R b1 kr0 => m (R := R) N b1 kr0
def gts : List (Nat × AV) := []
theorem gok (_N : Nat) : GOk (g) := giD_ok hm (by intro p hp; cases hp) (gtL_ok (by decide)) (ovL_ok (by intro p hp; cases hp)) 1
theorem ok (N : Nat) : SoundC Tryd.prog (gtL gts) 62 (con (M N)) := by
  refine SoundC.mono (evF_ok (gok N) hm an N Tryd.func62) fun R args bs κ r h => ?_
  unfold con at h
  split at h
  · exact (eq N κ _).trans h
  · cases h
end fRead


/-! ### Tryd.f28: Strict -/
namespace Strict
def an : Anns := ⟨fun i => findA i [], fun i => findA i [], false, fun _ => none⟩
noncomputable def g (mfRead : fRead.Ty) (meBytes : eBytes.Ty) : Gi := giD Tryd.prog (gtL [(0, .err 4)]) (fun _ => an) 0 [] (ovL [(62, fRead.con mfRead), (49, eBytes.con meBytes)]) 1
noncomputable def m (mfRead : fRead.Ty) (meBytes : eBytes.Ty) {R : Type} (_N : Nat) (b1 : List Int) (kr0 : (List Int) → Nat → Option R) : Option R :=
  mfRead R b1
   (fun v_c4 => meBytes R v_c4
    (fun v_c5 => cond (!v_c5 == b1)
     (kr0 ([0, 0, 0, 0, 0, 0, 0, 0, 0, 0]) 4)
     (kr0 v_c4 0)))
theorem tree (mfRead : fRead.Ty) (meBytes : eBytes.Ty) {R : Type} (N : Nat) (κ : AV → List Blk → Option R) (b1 : List Int) : evF (g mfRead meBytes) an N Tryd.f28 [AV.ints IntKind.u8 32 b1] [] κ =
  mfRead R b1
   (fun v_c4 => meBytes R v_c4
    (fun v_c5 => cond (!v_c5 == b1)
     (κ (AV.tup [AV.agg [AV.ints IntKind.u64 10 [0, 0, 0, 0, 0, 0, 0, 0, 0, 0]], AV.err 4]) [])
     (κ (AV.tup [AV.agg [AV.ints IntKind.u64 10 v_c4], AV.err 0]) []))) := by kernel_rfl
theorem eq (mfRead : fRead.Ty) (meBytes : eBytes.Ty) {R : Type} (N : Nat) (κ : AV → List Blk → Option R) (b1 : List Int) : evF (g mfRead meBytes) an N Tryd.f28 [AV.ints IntKind.u8 32 b1] [] κ =
  m mfRead meBytes N b1 (fun v v_1 => κ (AV.tup [AV.agg [AV.ints IntKind.u64 10 v], AV.err v_1]) []) := by
  rw [tree]
  kernel_rfl
abbrev Ty : Type 1 := ∀ R : Type, (List Int) → ((List Int) → Nat → Option R) → Option R
def con (f : Ty) : Con := fun R args bs κ => match args, bs with
  | [AV.ints IntKind.u8 32 b1], [] => f R b1 (fun v v_1 => κ (AV.tup [AV.agg [AV.ints IntKind.u64 10 v], AV.err v_1]) [])
  | _, _ => none
theorem con_eq (f : Ty) (R : Type) (κ : AV → List Blk → Option R) (b1 : List Int) : con f R [AV.ints IntKind.u8 32 b1] [] κ = f R b1 (fun v v_1 => κ (AV.tup [AV.agg [AV.ints IntKind.u64 10 v], AV.err v_1]) []) := rfl
noncomputable def M (N : Nat) : Ty := fun R b1 kr0 => m (fRead.M N) (eBytes.M N) (R := R) N b1 kr0
def gts : List (Nat × AV) := [(0, .err 4)]
theorem gok (N : Nat) : GOk (g (fRead.M N) (eBytes.M N)) := giD_ok hm (by intro p hp; cases hp) (gtL_ok (by decide)) (ovL_ok (by
    intro p hp
    simp only [List.mem_cons, List.not_mem_nil, or_false] at hp
    rcases hp with rfl | rfl
    · exact ⟨(fRead.ok N).gt (gtL_sub (by repeat (first | exact subG_nil _ | refine subG_cons (by kernel_rfl) ?_))) (gtL_ok (by decide)), _, Tryd.func62, by kernel_rfl, by kernel_rfl⟩
    · exact ⟨(eBytes.ok N).gt (gtL_sub (by repeat (first | exact subG_nil _ | refine subG_cons (by kernel_rfl) ?_))) (gtL_ok (by decide)), _, Tryd.func49, by kernel_rfl, by kernel_rfl⟩
)) 1
theorem ok (N : Nat) : SoundC Tryd.prog (gtL gts) 28 (con (M N)) := by
  refine SoundC.mono (evF_ok (gok N) hm an N Tryd.func28) fun R args bs κ r h => ?_
  unfold con at h
  split at h
  · exact (eq (fRead.M N) (eBytes.M N) N κ _).trans h
  · cases h
end Strict


/-! ### Tryd.f65: squares -/
namespace squares
def an : Anns := ⟨fun i => findA i [], fun i => findA i [(0, ⟨[1, 2, 4], [⟨2, 0, .u8⟩, ⟨4, 1, .u8⟩], 2⟩)], false, fun _ => none⟩
noncomputable def g (mSquare : Square.Ty) : Gi := giD Tryd.prog (gtL []) (fun _ => an) 0 [] (ovL [(29, Square.con mSquare)]) 1
noncomputable def c_S1000000 : Code := scopeOf Tryd.f65 0
def s_J1000000_0 (n1 : Int) (h0 : List Int) : St := ⟨[AV.dead, AV.int IntKind.i64 n1, AV.ptr 0 [], AV.dead, AV.ptr 1 []] ++ List.replicate 7 .dead, [Blk.var (AV.agg [AV.ints IntKind.u64 10 h0]), Blk.var (AV.agg [AV.ints IntKind.u64 10 [0, 0, 0, 0, 0, 0, 0, 0, 0, 0]])]⟩
def x_S1000000_0 (n1 : Int) (h0 : List Int) : St := ⟨[AV.dead, AV.int IntKind.i64 n1, AV.ptr 0 [], AV.dead, AV.ptr 1 [], AV.int IntKind.i64 n1, AV.bool (decide (n1 > 0))] ++ List.replicate 4 .dead ++ [AV.agg [AV.ints IntKind.u64 10 h0]], [Blk.var (AV.agg [AV.ints IntKind.u64 10 h0]), Blk.var (AV.agg [AV.ints IntKind.u64 10 h0])]⟩
noncomputable def J1000000_0 (mSquare : Square.Ty) {R : Type} (N : Nat) (ke0 : Int → (List Int) → Option R) : Nat → Int → (List Int) → Option R
  | 0, _, _ => none
  | m + 1, n1, h0 =>
    cond (decide (n1 > 0))
     (mSquare R h0
      (fun v_c5 => J1000000_0 mSquare N ke0 m (IntKind.i64.wrap (n1 - 1)) v_c5))
     (ke0 n1 h0)
theorem round_J1000000_0 (mSquare : Square.Ty) {R : Type} (N : Nat) (J : Nat → St → Option R) (k : K R) (n1 : Int) (h0 : List Int) : evC (g mSquare) an 0 N c_S1000000 (some 0) { k with gto := gotoK (hasL c_S1000000) (fun l => nmOf 0 (an.label l)) k J } (s_J1000000_0 n1 h0) =
  cond (decide (n1 > 0))
   (mSquare R h0
    (fun v_c5 => J 0 (s_J1000000_0 (IntKind.i64.wrap (n1 - 1)) v_c5)))
   (k.ret (x_S1000000_0 n1 h0)) := by kernel_rfl
theorem run_S1000000 (mSquare : Square.Ty) {R : Type} (N : Nat) (k : K R) : ∀ (m : Nat), (∀ (n1 : Int) (h0 : List Int), jumpN (fun l => evC (g mSquare) an 0 N c_S1000000 (some l)) (hasL c_S1000000) k (fun l => nmOf 0 (an.label l)) m 0 (s_J1000000_0 n1 h0) =
    J1000000_0 mSquare N (fun n1 h0 => (k).ret (x_S1000000_0 n1 h0)) m n1 h0) := by
  intro m
  induction m with
  | zero => exact by intros; rfl
  | succ m ih =>
    · intros; rw [jumpN_succ, round_J1000000_0]
      simp only [ih]
      kernel_rfl
theorem run_J1000000_0 (mSquare : Square.Ty) {R : Type} (N : Nat) (k : K R) (m : Nat) : (∀ (n1 : Int) (h0 : List Int), jumpN (fun l => evC (g mSquare) an 0 N c_S1000000 (some l)) (hasL c_S1000000) k (fun l => nmOf 0 (an.label l)) m 0 (s_J1000000_0 n1 h0) =
    J1000000_0 mSquare N (fun n1 h0 => (k).ret (x_S1000000_0 n1 h0)) m n1 h0) := (run_S1000000 mSquare N k m)
noncomputable def m (mSquare : Square.Ty) {R : Type} (N : Nat) (a1 : List Int) (n2 : Int) (kr0 : (List Int) → Option R) : Option R :=
  cond (decide (n2 > 0))
   (mSquare R a1
    (fun v_c4 => J1000000_0 mSquare N
     (fun _n1_c6 h0_c7 => kr0 h0_c7) N (IntKind.i64.wrap (n2 - 1)) v_c4))
   (kr0 a1)
theorem tree (mSquare : Square.Ty) {R : Type} (N : Nat) (κ : AV → List Blk → Option R) (a1 : List Int) (n2 : Int) : evF (g mSquare) an N Tryd.f65 [AV.agg [AV.ints IntKind.u64 10 a1], AV.int IntKind.i64 n2] [] κ =
  cond (decide (n2 > 0))
   (mSquare R a1
    (fun v_c4 => jumpN (fun l => evC (g mSquare) an 0 N c_S1000000 (some l)) (hasL c_S1000000) (ctx (g mSquare) an 0 N (bodyOf Tryd.f65) [1] (endK (g mSquare) an Tryd.f65 [] κ)) (fun l => nmOf 0 (an.label l)) N 0 (s_J1000000_0 (IntKind.i64.wrap (n2 - 1)) v_c4)))
   (κ (AV.agg [AV.ints IntKind.u64 10 a1]) []) := by kernel_rfl
theorem eq (mSquare : Square.Ty) {R : Type} (N : Nat) (κ : AV → List Blk → Option R) (a1 : List Int) (n2 : Int) : evF (g mSquare) an N Tryd.f65 [AV.agg [AV.ints IntKind.u64 10 a1], AV.int IntKind.i64 n2] [] κ =
  m mSquare N a1 n2 (fun v => κ (AV.agg [AV.ints IntKind.u64 10 v]) []) := by
  rw [tree]
  simp only [run_J1000000_0]
  kernel_rfl
abbrev Ty : Type 1 := ∀ R : Type, (List Int) → Int → ((List Int) → Option R) → Option R
def con (f : Ty) : Con := fun R args bs κ => match args, bs with
  | [AV.agg [AV.ints IntKind.u64 10 a1], AV.int IntKind.i64 n2], [] => f R a1 n2 (fun v => κ (AV.agg [AV.ints IntKind.u64 10 v]) [])
  | _, _ => none
theorem con_eq (f : Ty) (R : Type) (κ : AV → List Blk → Option R) (a1 : List Int) (n2 : Int) : con f R [AV.agg [AV.ints IntKind.u64 10 a1], AV.int IntKind.i64 n2] [] κ = f R a1 n2 (fun v => κ (AV.agg [AV.ints IntKind.u64 10 v]) []) := rfl
noncomputable def M (N : Nat) : Ty := fun R a1 n2 kr0 => m (Square.M N) (R := R) N a1 n2 kr0
def gts : List (Nat × AV) := []
theorem gok (N : Nat) : GOk (g (Square.M N)) := giD_ok hm (by intro p hp; cases hp) (gtL_ok (by decide)) (ovL_ok (by
    intro p hp
    simp only [List.mem_cons, List.not_mem_nil, or_false] at hp
    rcases hp with rfl
    · exact ⟨(Square.ok N).gt (gtL_sub (by repeat (first | exact subG_nil _ | refine subG_cons (by kernel_rfl) ?_))) (gtL_ok (by decide)), _, Tryd.func29, by kernel_rfl, by kernel_rfl⟩
)) 1
theorem ok (N : Nat) : SoundC Tryd.prog (gtL gts) 65 (con (M N)) := by
  refine SoundC.mono (evF_ok (gok N) hm an N Tryd.func65) fun R args bs κ r h => ?_
  unfold con at h
  split at h
  · exact (eq (Square.M N) N κ _ _).trans h
  · cases h
end squares


/-! ### Tryd.f64: power -/
namespace power
def an : Anns := ⟨fun i => findA i [], fun i => findA i [], false, fun _ => none⟩
noncomputable def g (mSquare : Square.Ty) (msquares : squares.Ty) (meTimes : eTimes.Ty) : Gi := giD Tryd.prog (gtL []) (fun _ => an) 0 [] (ovL [(29, Square.con mSquare), (65, squares.con msquares), (32, eTimes.con meTimes)]) 1
noncomputable def m (mSquare : Square.Ty) (msquares : squares.Ty) (meTimes : eTimes.Ty) {R : Type} (_N : Nat) (a1 : List Int) (kr0 : (List Int) → (List Int) → Option R) : Option R :=
  mSquare R a1
   (fun v_c20 => msquares R v_c20 2
    (fun v_c21 => meTimes R v_c21 a1
     (fun v_c22 => meTimes R v_c22 v_c20
      (fun v_c23 => mSquare R v_c23
       (fun v_c24 => meTimes R v_c24 v_c22
        (fun v_c25 => msquares R v_c25 5
         (fun v_c26 => meTimes R v_c26 v_c25
          (fun v_c27 => msquares R v_c27 10
           (fun v_c28 => meTimes R v_c28 v_c27
            (fun v_c29 => msquares R v_c29 20
             (fun v_c30 => meTimes R v_c30 v_c29
              (fun v_c31 => msquares R v_c31 10
               (fun v_c32 => meTimes R v_c32 v_c27
                (fun v_c33 => msquares R v_c33 50
                 (fun v_c34 => meTimes R v_c34 v_c33
                  (fun v_c35 => msquares R v_c35 100
                   (fun v_c36 => meTimes R v_c36 v_c35
                    (fun v_c37 => msquares R v_c37 50
                     (fun v_c38 => meTimes R v_c38 v_c33
                      (fun v_c39 => kr0 v_c39 v_c23))))))))))))))))))))
theorem tree (mSquare : Square.Ty) (msquares : squares.Ty) (meTimes : eTimes.Ty) {R : Type} (N : Nat) (κ : AV → List Blk → Option R) (a1 : List Int) : evF (g mSquare msquares meTimes) an N Tryd.f64 [AV.agg [AV.ints IntKind.u64 10 a1]] [] κ =
  mSquare R a1
   (fun v_c20 => msquares R v_c20 2
    (fun v_c21 => meTimes R v_c21 a1
     (fun v_c22 => meTimes R v_c22 v_c20
      (fun v_c23 => mSquare R v_c23
       (fun v_c24 => meTimes R v_c24 v_c22
        (fun v_c25 => msquares R v_c25 5
         (fun v_c26 => meTimes R v_c26 v_c25
          (fun v_c27 => msquares R v_c27 10
           (fun v_c28 => meTimes R v_c28 v_c27
            (fun v_c29 => msquares R v_c29 20
             (fun v_c30 => meTimes R v_c30 v_c29
              (fun v_c31 => msquares R v_c31 10
               (fun v_c32 => meTimes R v_c32 v_c27
                (fun v_c33 => msquares R v_c33 50
                 (fun v_c34 => meTimes R v_c34 v_c33
                  (fun v_c35 => msquares R v_c35 100
                   (fun v_c36 => meTimes R v_c36 v_c35
                    (fun v_c37 => msquares R v_c37 50
                     (fun v_c38 => meTimes R v_c38 v_c33
                      (fun v_c39 => κ (AV.tup [AV.agg [AV.ints IntKind.u64 10 v_c39], AV.agg [AV.ints IntKind.u64 10 v_c23]]) [])))))))))))))))))))) := by kernel_rfl
theorem eq (mSquare : Square.Ty) (msquares : squares.Ty) (meTimes : eTimes.Ty) {R : Type} (N : Nat) (κ : AV → List Blk → Option R) (a1 : List Int) : evF (g mSquare msquares meTimes) an N Tryd.f64 [AV.agg [AV.ints IntKind.u64 10 a1]] [] κ =
  m mSquare msquares meTimes N a1 (fun v v_1 => κ (AV.tup [AV.agg [AV.ints IntKind.u64 10 v], AV.agg [AV.ints IntKind.u64 10 v_1]]) []) := by
  rw [tree]
  kernel_rfl
abbrev Ty : Type 1 := ∀ R : Type, (List Int) → ((List Int) → (List Int) → Option R) → Option R
def con (f : Ty) : Con := fun R args bs κ => match args, bs with
  | [AV.agg [AV.ints IntKind.u64 10 a1]], [] => f R a1 (fun v v_1 => κ (AV.tup [AV.agg [AV.ints IntKind.u64 10 v], AV.agg [AV.ints IntKind.u64 10 v_1]]) [])
  | _, _ => none
theorem con_eq (f : Ty) (R : Type) (κ : AV → List Blk → Option R) (a1 : List Int) : con f R [AV.agg [AV.ints IntKind.u64 10 a1]] [] κ = f R a1 (fun v v_1 => κ (AV.tup [AV.agg [AV.ints IntKind.u64 10 v], AV.agg [AV.ints IntKind.u64 10 v_1]]) []) := rfl
noncomputable def M (N : Nat) : Ty := fun R a1 kr0 => m (Square.M N) (squares.M N) (eTimes.M N) (R := R) N a1 kr0
def gts : List (Nat × AV) := []
theorem gok (N : Nat) : GOk (g (Square.M N) (squares.M N) (eTimes.M N)) := giD_ok hm (by intro p hp; cases hp) (gtL_ok (by decide)) (ovL_ok (by
    intro p hp
    simp only [List.mem_cons, List.not_mem_nil, or_false] at hp
    rcases hp with rfl | rfl | rfl
    · exact ⟨(Square.ok N).gt (gtL_sub (by repeat (first | exact subG_nil _ | refine subG_cons (by kernel_rfl) ?_))) (gtL_ok (by decide)), _, Tryd.func29, by kernel_rfl, by kernel_rfl⟩
    · exact ⟨(squares.ok N).gt (gtL_sub (by repeat (first | exact subG_nil _ | refine subG_cons (by kernel_rfl) ?_))) (gtL_ok (by decide)), _, Tryd.func65, by kernel_rfl, by kernel_rfl⟩
    · exact ⟨(eTimes.ok N).gt (gtL_sub (by repeat (first | exact subG_nil _ | refine subG_cons (by kernel_rfl) ?_))) (gtL_ok (by decide)), _, Tryd.func32, by kernel_rfl, by kernel_rfl⟩
)) 1
theorem ok (N : Nat) : SoundC Tryd.prog (gtL gts) 64 (con (M N)) := by
  refine SoundC.mono (evF_ok (gok N) hm an N Tryd.func64) fun R args bs κ r h => ?_
  unfold con at h
  split at h
  · exact (eq (Square.M N) (squares.M N) (eTimes.M N) N κ _).trans h
  · cases h
end power


/-! ### Tryd.f35: eInvert -/
namespace eInvert
def an : Anns := ⟨fun i => findA i [], fun i => findA i [], false, fun _ => none⟩
noncomputable def g (mpower : power.Ty) (msquares : squares.Ty) (meTimes : eTimes.Ty) : Gi := giD Tryd.prog (gtL []) (fun _ => an) 0 [] (ovL [(64, power.con mpower), (65, squares.con msquares), (32, eTimes.con meTimes)]) 1
noncomputable def m (mpower : power.Ty) (msquares : squares.Ty) (meTimes : eTimes.Ty) {R : Type} (_N : Nat) (a1 : List Int) (kr0 : (List Int) → Option R) : Option R :=
  mpower R a1
   (fun v_c4 v_1_c5 => msquares R v_c4 5
    (fun v_c6 => meTimes R v_c6 v_1_c5
     (fun v_c7 => kr0 v_c7)))
theorem tree (mpower : power.Ty) (msquares : squares.Ty) (meTimes : eTimes.Ty) {R : Type} (N : Nat) (κ : AV → List Blk → Option R) (a1 : List Int) : evF (g mpower msquares meTimes) an N Tryd.f35 [AV.agg [AV.ints IntKind.u64 10 a1]] [] κ =
  mpower R a1
   (fun v_c4 v_1_c5 => msquares R v_c4 5
    (fun v_c6 => meTimes R v_c6 v_1_c5
     (fun v_c7 => κ (AV.agg [AV.ints IntKind.u64 10 v_c7]) []))) := by kernel_rfl
theorem eq (mpower : power.Ty) (msquares : squares.Ty) (meTimes : eTimes.Ty) {R : Type} (N : Nat) (κ : AV → List Blk → Option R) (a1 : List Int) : evF (g mpower msquares meTimes) an N Tryd.f35 [AV.agg [AV.ints IntKind.u64 10 a1]] [] κ =
  m mpower msquares meTimes N a1 (fun v => κ (AV.agg [AV.ints IntKind.u64 10 v]) []) := by
  rw [tree]
  kernel_rfl
abbrev Ty : Type 1 := ∀ R : Type, (List Int) → ((List Int) → Option R) → Option R
def con (f : Ty) : Con := fun R args bs κ => match args, bs with
  | [AV.agg [AV.ints IntKind.u64 10 a1]], [] => f R a1 (fun v => κ (AV.agg [AV.ints IntKind.u64 10 v]) [])
  | _, _ => none
theorem con_eq (f : Ty) (R : Type) (κ : AV → List Blk → Option R) (a1 : List Int) : con f R [AV.agg [AV.ints IntKind.u64 10 a1]] [] κ = f R a1 (fun v => κ (AV.agg [AV.ints IntKind.u64 10 v]) []) := rfl
noncomputable def M (N : Nat) : Ty := fun R a1 kr0 => m (power.M N) (squares.M N) (eTimes.M N) (R := R) N a1 kr0
def gts : List (Nat × AV) := []
theorem gok (N : Nat) : GOk (g (power.M N) (squares.M N) (eTimes.M N)) := giD_ok hm (by intro p hp; cases hp) (gtL_ok (by decide)) (ovL_ok (by
    intro p hp
    simp only [List.mem_cons, List.not_mem_nil, or_false] at hp
    rcases hp with rfl | rfl | rfl
    · exact ⟨(power.ok N).gt (gtL_sub (by repeat (first | exact subG_nil _ | refine subG_cons (by kernel_rfl) ?_))) (gtL_ok (by decide)), _, Tryd.func64, by kernel_rfl, by kernel_rfl⟩
    · exact ⟨(squares.ok N).gt (gtL_sub (by repeat (first | exact subG_nil _ | refine subG_cons (by kernel_rfl) ?_))) (gtL_ok (by decide)), _, Tryd.func65, by kernel_rfl, by kernel_rfl⟩
    · exact ⟨(eTimes.ok N).gt (gtL_sub (by repeat (first | exact subG_nil _ | refine subG_cons (by kernel_rfl) ?_))) (gtL_ok (by decide)), _, Tryd.func32, by kernel_rfl, by kernel_rfl⟩
)) 1
theorem ok (N : Nat) : SoundC Tryd.prog (gtL gts) 35 (con (M N)) := by
  refine SoundC.mono (evF_ok (gok N) hm an N Tryd.func35) fun R args bs κ r h => ?_
  unfold con at h
  split at h
  · exact (eq (power.M N) (squares.M N) (eTimes.M N) N κ _).trans h
  · cases h
end eInvert


/-! ### Tryd.f36: eRoot -/
namespace eRoot
def an : Anns := ⟨fun i => findA i [], fun i => findA i [], false, fun _ => none⟩
noncomputable def g (mpower : power.Ty) (mSquare : Square.Ty) (meTimes : eTimes.Ty) (mSame : Same.Ty) (mOdd : Odd.Ty) (meSub : eSub.Ty) : Gi := giD Tryd.prog (gtL [(19, .ints .u64 10 [134216512, 134217726, 134217726, 134217726, 134217726, 134217726, 134217726, 134217726, 134217726, 134217726]), (20, .ints .u64 10 [34513072, 59165138, 38243406, 1750207, 53429016, 58652137, 13633939, 58469549, 8409025, 712905])]) (fun _ => an) 0 [] (ovL [(64, power.con mpower), (29, Square.con mSquare), (32, eTimes.con meTimes), (52, Same.con mSame), (50, Odd.con mOdd), (31, eSub.con meSub)]) 1
noncomputable def m (mpower : power.Ty) (mSquare : Square.Ty) (meTimes : eTimes.Ty) (mSame : Same.Ty) (mOdd : Odd.Ty) (meSub : eSub.Ty) {R : Type} (_N : Nat) (a1 : List Int) (kr0 : (List Int) → Bool → Option R) : Option R :=
  mpower R a1
   (fun v_c22 _v_1_c23 => mSquare R v_c22
    (fun v_c24 => meTimes R v_c24 a1
     (fun v_c25 => mSquare R v_c25
      (fun v_c26 => mSquare R v_c26
       (fun v_c27 => mSame R v_c27 a1
        (fun v_c28 => cond (!v_c28)
         (meTimes R v_c26 ([34513072, 59165138, 38243406, 1750207, 53429016, 58652137, 13633939, 58469549, 8409025, 712905])
          (fun v_c29 => mSquare R v_c29
           (fun v_c30 => mSame R v_c30 a1
            (fun v_c31 => cond (!v_c31)
             (kr0 ([0, 0, 0, 0, 0, 0, 0, 0, 0, 0]) false)
             (mOdd R v_c29
              (fun v_c32 => cond v_c32
               (meSub R ([0, 0, 0, 0, 0, 0, 0, 0, 0, 0]) v_c29
                (fun v_c33 => kr0 v_c33 true))
               (kr0 v_c29 true)))))))
         (mSquare R v_c26
          (fun v_c34 => mSame R v_c34 a1
           (fun v_c35 => cond (!v_c35)
            (kr0 ([0, 0, 0, 0, 0, 0, 0, 0, 0, 0]) false)
            (mOdd R v_c26
             (fun v_c36 => cond v_c36
              (meSub R ([0, 0, 0, 0, 0, 0, 0, 0, 0, 0]) v_c26
               (fun v_c37 => kr0 v_c37 true))
              (kr0 v_c26 true))))))))))))
theorem tree (mpower : power.Ty) (mSquare : Square.Ty) (meTimes : eTimes.Ty) (mSame : Same.Ty) (mOdd : Odd.Ty) (meSub : eSub.Ty) {R : Type} (N : Nat) (κ : AV → List Blk → Option R) (a1 : List Int) : evF (g mpower mSquare meTimes mSame mOdd meSub) an N Tryd.f36 [AV.agg [AV.ints IntKind.u64 10 a1]] [] κ =
  mpower R a1
   (fun v_c22 _v_1_c23 => mSquare R v_c22
    (fun v_c24 => meTimes R v_c24 a1
     (fun v_c25 => mSquare R v_c25
      (fun v_c26 => mSquare R v_c26
       (fun v_c27 => mSame R v_c27 a1
        (fun v_c28 => cond (!v_c28)
         (meTimes R v_c26 ([34513072, 59165138, 38243406, 1750207, 53429016, 58652137, 13633939, 58469549, 8409025, 712905])
          (fun v_c29 => mSquare R v_c29
           (fun v_c30 => mSame R v_c30 a1
            (fun v_c31 => cond (!v_c31)
             (κ (AV.tup [AV.agg [AV.ints IntKind.u64 10 [0, 0, 0, 0, 0, 0, 0, 0, 0, 0]], AV.bool false]) [])
             (mOdd R v_c29
              (fun v_c32 => cond v_c32
               (meSub R ([0, 0, 0, 0, 0, 0, 0, 0, 0, 0]) v_c29
                (fun v_c33 => κ (AV.tup [AV.agg [AV.ints IntKind.u64 10 v_c33], AV.bool true]) []))
               (κ (AV.tup [AV.agg [AV.ints IntKind.u64 10 v_c29], AV.bool true]) [])))))))
         (mSquare R v_c26
          (fun v_c34 => mSame R v_c34 a1
           (fun v_c35 => cond (!v_c35)
            (κ (AV.tup [AV.agg [AV.ints IntKind.u64 10 [0, 0, 0, 0, 0, 0, 0, 0, 0, 0]], AV.bool false]) [])
            (mOdd R v_c26
             (fun v_c36 => cond v_c36
              (meSub R ([0, 0, 0, 0, 0, 0, 0, 0, 0, 0]) v_c26
               (fun v_c37 => κ (AV.tup [AV.agg [AV.ints IntKind.u64 10 v_c37], AV.bool true]) []))
              (κ (AV.tup [AV.agg [AV.ints IntKind.u64 10 v_c26], AV.bool true]) [])))))))))))) := by kernel_rfl
theorem eq (mpower : power.Ty) (mSquare : Square.Ty) (meTimes : eTimes.Ty) (mSame : Same.Ty) (mOdd : Odd.Ty) (meSub : eSub.Ty) {R : Type} (N : Nat) (κ : AV → List Blk → Option R) (a1 : List Int) : evF (g mpower mSquare meTimes mSame mOdd meSub) an N Tryd.f36 [AV.agg [AV.ints IntKind.u64 10 a1]] [] κ =
  m mpower mSquare meTimes mSame mOdd meSub N a1 (fun v v_1 => κ (AV.tup [AV.agg [AV.ints IntKind.u64 10 v], AV.bool v_1]) []) := by
  rw [tree]
  kernel_rfl
abbrev Ty : Type 1 := ∀ R : Type, (List Int) → ((List Int) → Bool → Option R) → Option R
def con (f : Ty) : Con := fun R args bs κ => match args, bs with
  | [AV.agg [AV.ints IntKind.u64 10 a1]], [] => f R a1 (fun v v_1 => κ (AV.tup [AV.agg [AV.ints IntKind.u64 10 v], AV.bool v_1]) [])
  | _, _ => none
theorem con_eq (f : Ty) (R : Type) (κ : AV → List Blk → Option R) (a1 : List Int) : con f R [AV.agg [AV.ints IntKind.u64 10 a1]] [] κ = f R a1 (fun v v_1 => κ (AV.tup [AV.agg [AV.ints IntKind.u64 10 v], AV.bool v_1]) []) := rfl
noncomputable def M (N : Nat) : Ty := fun R a1 kr0 => m (power.M N) (Square.M N) (eTimes.M N) (Same.M N) (Odd.M N) (eSub.M N) (R := R) N a1 kr0
def gts : List (Nat × AV) := [(19, .ints .u64 10 [134216512, 134217726, 134217726, 134217726, 134217726, 134217726, 134217726, 134217726, 134217726, 134217726]), (20, .ints .u64 10 [34513072, 59165138, 38243406, 1750207, 53429016, 58652137, 13633939, 58469549, 8409025, 712905])]
theorem gok (N : Nat) : GOk (g (power.M N) (Square.M N) (eTimes.M N) (Same.M N) (Odd.M N) (eSub.M N)) := giD_ok hm (by intro p hp; cases hp) (gtL_ok (by decide)) (ovL_ok (by
    intro p hp
    simp only [List.mem_cons, List.not_mem_nil, or_false] at hp
    rcases hp with rfl | rfl | rfl | rfl | rfl | rfl
    · exact ⟨(power.ok N).gt (gtL_sub (by repeat (first | exact subG_nil _ | refine subG_cons (by kernel_rfl) ?_))) (gtL_ok (by decide)), _, Tryd.func64, by kernel_rfl, by kernel_rfl⟩
    · exact ⟨(Square.ok N).gt (gtL_sub (by repeat (first | exact subG_nil _ | refine subG_cons (by kernel_rfl) ?_))) (gtL_ok (by decide)), _, Tryd.func29, by kernel_rfl, by kernel_rfl⟩
    · exact ⟨(eTimes.ok N).gt (gtL_sub (by repeat (first | exact subG_nil _ | refine subG_cons (by kernel_rfl) ?_))) (gtL_ok (by decide)), _, Tryd.func32, by kernel_rfl, by kernel_rfl⟩
    · exact ⟨(Same.ok N).gt (gtL_sub (by repeat (first | exact subG_nil _ | refine subG_cons (by kernel_rfl) ?_))) (gtL_ok (by decide)), _, Tryd.func52, by kernel_rfl, by kernel_rfl⟩
    · exact ⟨(Odd.ok N).gt (gtL_sub (by repeat (first | exact subG_nil _ | refine subG_cons (by kernel_rfl) ?_))) (gtL_ok (by decide)), _, Tryd.func50, by kernel_rfl, by kernel_rfl⟩
    · exact ⟨(eSub.ok N).gt (gtL_sub (by repeat (first | exact subG_nil _ | refine subG_cons (by kernel_rfl) ?_))) (gtL_ok (by decide)), _, Tryd.func31, by kernel_rfl, by kernel_rfl⟩
)) 1
theorem ok (N : Nat) : SoundC Tryd.prog (gtL gts) 36 (con (M N)) := by
  refine SoundC.mono (evF_ok (gok N) hm an N Tryd.func36) fun R args bs κ r h => ?_
  unfold con at h
  split at h
  · exact (eq (power.M N) (Square.M N) (eTimes.M N) (Same.M N) (Odd.M N) (eSub.M N) N κ _).trans h
  · cases h
end eRoot


/-! ### Tryd.f33: Curve -/
namespace Curve
def an : Anns := ⟨fun i => findA i [], fun i => findA i [], false, fun _ => none⟩
noncomputable def g : Gi := giD Tryd.prog (gtL []) (fun _ => an) 0 [] (ovL []) 1
noncomputable def m {R : Type} (_N : Nat) (kr0 : Option R) : Option R :=
  kr0
theorem tree {R : Type} (N : Nat) (κ : AV → List Blk → Option R) : evF (g) an N Tryd.f33 [] [] κ =
  κ (AV.agg [AV.ints IntKind.u64 10 [56195235, 47411844, 25868126, 20251911, 28682, 31357478, 7604119, 66702899, 15608687, 1343707]]) [] := by kernel_rfl
theorem eq {R : Type} (N : Nat) (κ : AV → List Blk → Option R) : evF (g) an N Tryd.f33 [] [] κ =
  m N (κ (AV.agg [AV.ints IntKind.u64 10 [56195235, 47411844, 25868126, 20251911, 28682, 31357478, 7604119, 66702899, 15608687, 1343707]]) []) := by
  rw [tree]
  kernel_rfl
abbrev Ty : Type 1 := ∀ R : Type, Option R → Option R
def con (f : Ty) : Con := fun R args bs κ => match args, bs with
  | [], [] => f R (κ (AV.agg [AV.ints IntKind.u64 10 [56195235, 47411844, 25868126, 20251911, 28682, 31357478, 7604119, 66702899, 15608687, 1343707]]) [])
  | _, _ => none
theorem con_eq (f : Ty) (R : Type) (κ : AV → List Blk → Option R) : con f R [] [] κ = f R (κ (AV.agg [AV.ints IntKind.u64 10 [56195235, 47411844, 25868126, 20251911, 28682, 31357478, 7604119, 66702899, 15608687, 1343707]]) []) := rfl
noncomputable def M (N : Nat) : Ty := fun R kr0 => m (R := R) N kr0
def gts : List (Nat × AV) := []
theorem gok (_N : Nat) : GOk (g) := giD_ok hm (by intro p hp; cases hp) (gtL_ok (by decide)) (ovL_ok (by intro p hp; cases hp)) 1
theorem ok (N : Nat) : SoundC Tryd.prog (gtL gts) 33 (con (M N)) := by
  refine SoundC.mono (evF_ok (gok N) hm an N Tryd.func33) fun R args bs κ r h => ?_
  unfold con at h
  split at h
  · exact (eq N κ).trans h
  · cases h
end Curve


/-! ### Tryd.f60: BaseX -/
namespace BaseX
def an : Anns := ⟨fun i => findA i [], fun i => findA i [], false, fun _ => none⟩
noncomputable def g : Gi := giD Tryd.prog (gtL []) (fun _ => an) 0 [] (ovL []) 1
noncomputable def m {R : Type} (_N : Nat) (kr0 : Option R) : Option R :=
  kr0
theorem tree {R : Type} (N : Nat) (κ : AV → List Blk → Option R) : evF (g) an N Tryd.f60 [] [] κ =
  κ (AV.agg [AV.ints IntKind.u64 10 [52811034, 25909283, 41626773, 25318550, 6892743, 58046231, 38675231, 22018818, 47435118, 547405]]) [] := by kernel_rfl
theorem eq {R : Type} (N : Nat) (κ : AV → List Blk → Option R) : evF (g) an N Tryd.f60 [] [] κ =
  m N (κ (AV.agg [AV.ints IntKind.u64 10 [52811034, 25909283, 41626773, 25318550, 6892743, 58046231, 38675231, 22018818, 47435118, 547405]]) []) := by
  rw [tree]
  kernel_rfl
abbrev Ty : Type 1 := ∀ R : Type, Option R → Option R
def con (f : Ty) : Con := fun R args bs κ => match args, bs with
  | [], [] => f R (κ (AV.agg [AV.ints IntKind.u64 10 [52811034, 25909283, 41626773, 25318550, 6892743, 58046231, 38675231, 22018818, 47435118, 547405]]) [])
  | _, _ => none
theorem con_eq (f : Ty) (R : Type) (κ : AV → List Blk → Option R) : con f R [] [] κ = f R (κ (AV.agg [AV.ints IntKind.u64 10 [52811034, 25909283, 41626773, 25318550, 6892743, 58046231, 38675231, 22018818, 47435118, 547405]]) []) := rfl
noncomputable def M (N : Nat) : Ty := fun R kr0 => m (R := R) N kr0
def gts : List (Nat × AV) := []
theorem gok (_N : Nat) : GOk (g) := giD_ok hm (by intro p hp; cases hp) (gtL_ok (by decide)) (ovL_ok (by intro p hp; cases hp)) 1
theorem ok (N : Nat) : SoundC Tryd.prog (gtL gts) 60 (con (M N)) := by
  refine SoundC.mono (evF_ok (gok N) hm an N Tryd.func60) fun R args bs κ r h => ?_
  unfold con at h
  split at h
  · exact (eq N κ).trans h
  · cases h
end BaseX


/-! ### Tryd.f61: BaseY -/
namespace BaseY
def an : Anns := ⟨fun i => findA i [], fun i => findA i [], false, fun _ => none⟩
noncomputable def g : Gi := giD Tryd.prog (gtL []) (fun _ => an) 0 [] (ovL []) 1
noncomputable def m {R : Type} (_N : Nat) (kr0 : Option R) : Option R :=
  kr0
theorem tree {R : Type} (N : Nat) (κ : AV → List Blk → Option R) : evF (g) an N Tryd.f61 [] [] κ =
  κ (AV.agg [AV.ints IntKind.u64 10 [40265304, 26843545, 40265318, 26843545, 40265318, 26843545, 40265318, 26843545, 40265318, 1677721]]) [] := by kernel_rfl
theorem eq {R : Type} (N : Nat) (κ : AV → List Blk → Option R) : evF (g) an N Tryd.f61 [] [] κ =
  m N (κ (AV.agg [AV.ints IntKind.u64 10 [40265304, 26843545, 40265318, 26843545, 40265318, 26843545, 40265318, 26843545, 40265318, 1677721]]) []) := by
  rw [tree]
  kernel_rfl
abbrev Ty : Type 1 := ∀ R : Type, Option R → Option R
def con (f : Ty) : Con := fun R args bs κ => match args, bs with
  | [], [] => f R (κ (AV.agg [AV.ints IntKind.u64 10 [40265304, 26843545, 40265318, 26843545, 40265318, 26843545, 40265318, 26843545, 40265318, 1677721]]) [])
  | _, _ => none
theorem con_eq (f : Ty) (R : Type) (κ : AV → List Blk → Option R) : con f R [] [] κ = f R (κ (AV.agg [AV.ints IntKind.u64 10 [40265304, 26843545, 40265318, 26843545, 40265318, 26843545, 40265318, 26843545, 40265318, 1677721]]) []) := rfl
noncomputable def M (N : Nat) : Ty := fun R kr0 => m (R := R) N kr0
def gts : List (Nat × AV) := []
theorem gok (_N : Nat) : GOk (g) := giD_ok hm (by intro p hp; cases hp) (gtL_ok (by decide)) (ovL_ok (by intro p hp; cases hp)) 1
theorem ok (N : Nat) : SoundC Tryd.prog (gtL gts) 61 (con (M N)) := by
  refine SoundC.mono (evF_ok (gok N) hm an N Tryd.func61) fun R args bs κ r h => ?_
  unfold con at h
  split at h
  · exact (eq N κ).trans h
  · cases h
end BaseY

end Go.Proofs.YtjaappocnonkbaaDoor.fn
