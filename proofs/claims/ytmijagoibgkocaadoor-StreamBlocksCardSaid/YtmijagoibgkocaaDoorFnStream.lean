/- What the stream's functions compute, with the proof; printed by a program. -/
import Derived.Test.YtmijagoibgkocaaDoorProg
import Derived.Test.YtmijagoibgkocaaDoorEv4
namespace Go.Proofs.YtmijagoibgkocaaDoor.fn
open Go Go.Proofs Go.Ev

theorem hm : Tryd.prog.follows .mixedOrders = true := by kernel_rfl

/-! ### Tryd.f17: Left -/
namespace Left
def an : Anns := ⟨fun i => findA i [], fun i => findA i [], false, fun _ => none, []⟩
noncomputable def g : Gi := giD Tryd.prog (gtL []) (fun _ => an) 0 [] (ovL []) 1
noncomputable def m {R : Type} (_N : Nat) (x1 : Int) (n2 : Int) (kr0 : Int → Option R) : Option R :=
  kr0 (ior IntKind.u32 (ishl IntKind.u32 x1 ((IntKind.u64.wrap n2).tmod 32)) (ishr IntKind.u32 x1 (IntKind.u64.wrap (32 - (IntKind.u64.wrap n2).tmod 32))))
theorem tree {R : Type} (N : Nat) (κ : AV → List Blk → Option R) (x1 : Int) (n2 : Int) : evF (g) an N Tryd.f17 [AV.int IntKind.u32 x1, AV.int IntKind.i64 n2] [] κ =
  κ (AV.int IntKind.u32 (ior IntKind.u32 (ishl IntKind.u32 x1 ((IntKind.u64.wrap n2).tmod 32)) (ishr IntKind.u32 x1 (IntKind.u64.wrap (32 - (IntKind.u64.wrap n2).tmod 32))))) [] := by kernel_rfl
theorem eq {R : Type} (N : Nat) (κ : AV → List Blk → Option R) (x1 : Int) (n2 : Int) : evF (g) an N Tryd.f17 [AV.int IntKind.u32 x1, AV.int IntKind.i64 n2] [] κ =
  m N x1 n2 (fun v => κ (AV.int IntKind.u32 v) []) := by
  rw [tree]
  kernel_rfl
abbrev Ty : Type 1 := ∀ R : Type, Int → Int → (Int → Option R) → Option R
def con (f : Ty) : Con := fun R args bs κ => match args, bs with
  | [AV.int IntKind.u32 x1, AV.int IntKind.i64 n2], [] => f R x1 n2 (fun v => κ (AV.int IntKind.u32 v) [])
  | _, _ => none
theorem con_eq (f : Ty) (R : Type) (κ : AV → List Blk → Option R) (x1 : Int) (n2 : Int) : con f R [AV.int IntKind.u32 x1, AV.int IntKind.i64 n2] [] κ = f R x1 n2 (fun v => κ (AV.int IntKind.u32 v) []) := rfl
noncomputable def M (N : Nat) : Ty := fun R x1 n2 kr0 => m (R := R) N x1 n2 kr0
def gts : List (Nat × AV) := []
theorem gok (_N : Nat) : GOk (g) := giD_ok hm (by intro p hp; cases hp) (gtL_ok (by decide)) (ovL_ok (by intro p hp; cases hp)) 1
theorem ok (N : Nat) : SoundC Tryd.prog (gtL gts) 17 (con (M N)) := by
  refine SoundC.mono (evF_ok (gok N) hm an N Tryd.func17) fun R args bs κ r h => ?_
  unfold con at h
  split at h
  · exact (eq N κ _ _).trans h
  · cases h
end Left


/-! ### Tryd.f8: Quarter -/
namespace Quarter
def an : Anns := ⟨fun i => findA i [], fun i => findA i [], false, fun _ => none, []⟩
noncomputable def g (mLeft : Left.Ty) : Gi := giD Tryd.prog (gtL []) (fun _ => an) 0 [] (ovL [(17, Left.con mLeft)]) 1
noncomputable def m (mLeft : Left.Ty) {R : Type} (_N : Nat) (a1 : Int) (b2 : Int) (c3 : Int) (d4 : Int) (kr0 : Int → Int → Int → Int → Option R) : Option R :=
  mLeft R (ixor IntKind.u32 d4 (IntKind.u32.wrap (a1 + b2))) 16
   (fun v_c4 => mLeft R (ixor IntKind.u32 b2 (IntKind.u32.wrap (c3 + v_c4))) 12
    (fun v_c5 => mLeft R (ixor IntKind.u32 v_c4 (IntKind.u32.wrap (IntKind.u32.wrap (a1 + b2) + v_c5))) 8
     (fun v_c6 => mLeft R (ixor IntKind.u32 v_c5 (IntKind.u32.wrap (IntKind.u32.wrap (c3 + v_c4) + v_c6))) 7
      (fun v_c7 => kr0 (IntKind.u32.wrap (IntKind.u32.wrap (a1 + b2) + v_c5)) v_c7 (IntKind.u32.wrap (IntKind.u32.wrap (c3 + v_c4) + v_c6)) v_c6))))
theorem tree (mLeft : Left.Ty) {R : Type} (N : Nat) (κ : AV → List Blk → Option R) (a1 : Int) (b2 : Int) (c3 : Int) (d4 : Int) : evF (g mLeft) an N Tryd.f8 [AV.int IntKind.u32 a1, AV.int IntKind.u32 b2, AV.int IntKind.u32 c3, AV.int IntKind.u32 d4] [] κ =
  mLeft R (ixor IntKind.u32 d4 (IntKind.u32.wrap (a1 + b2))) 16
   (fun v_c4 => mLeft R (ixor IntKind.u32 b2 (IntKind.u32.wrap (c3 + v_c4))) 12
    (fun v_c5 => mLeft R (ixor IntKind.u32 v_c4 (IntKind.u32.wrap (IntKind.u32.wrap (a1 + b2) + v_c5))) 8
     (fun v_c6 => mLeft R (ixor IntKind.u32 v_c5 (IntKind.u32.wrap (IntKind.u32.wrap (c3 + v_c4) + v_c6))) 7
      (fun v_c7 => κ (AV.tup [AV.int IntKind.u32 (IntKind.u32.wrap (IntKind.u32.wrap (a1 + b2) + v_c5)), AV.int IntKind.u32 v_c7, AV.int IntKind.u32 (IntKind.u32.wrap (IntKind.u32.wrap (c3 + v_c4) + v_c6)), AV.int IntKind.u32 v_c6]) [])))) := by kernel_rfl
theorem eq (mLeft : Left.Ty) {R : Type} (N : Nat) (κ : AV → List Blk → Option R) (a1 : Int) (b2 : Int) (c3 : Int) (d4 : Int) : evF (g mLeft) an N Tryd.f8 [AV.int IntKind.u32 a1, AV.int IntKind.u32 b2, AV.int IntKind.u32 c3, AV.int IntKind.u32 d4] [] κ =
  m mLeft N a1 b2 c3 d4 (fun v v_1 v_2 v_3 => κ (AV.tup [AV.int IntKind.u32 v, AV.int IntKind.u32 v_1, AV.int IntKind.u32 v_2, AV.int IntKind.u32 v_3]) []) := by
  rw [tree]
  kernel_rfl
abbrev Ty : Type 1 := ∀ R : Type, Int → Int → Int → Int → (Int → Int → Int → Int → Option R) → Option R
def con (f : Ty) : Con := fun R args bs κ => match args, bs with
  | [AV.int IntKind.u32 a1, AV.int IntKind.u32 b2, AV.int IntKind.u32 c3, AV.int IntKind.u32 d4], [] => f R a1 b2 c3 d4 (fun v v_1 v_2 v_3 => κ (AV.tup [AV.int IntKind.u32 v, AV.int IntKind.u32 v_1, AV.int IntKind.u32 v_2, AV.int IntKind.u32 v_3]) [])
  | _, _ => none
theorem con_eq (f : Ty) (R : Type) (κ : AV → List Blk → Option R) (a1 : Int) (b2 : Int) (c3 : Int) (d4 : Int) : con f R [AV.int IntKind.u32 a1, AV.int IntKind.u32 b2, AV.int IntKind.u32 c3, AV.int IntKind.u32 d4] [] κ = f R a1 b2 c3 d4 (fun v v_1 v_2 v_3 => κ (AV.tup [AV.int IntKind.u32 v, AV.int IntKind.u32 v_1, AV.int IntKind.u32 v_2, AV.int IntKind.u32 v_3]) []) := rfl
noncomputable def M (N : Nat) : Ty := fun R a1 b2 c3 d4 kr0 => m (Left.M N) (R := R) N a1 b2 c3 d4 kr0
def gts : List (Nat × AV) := []
theorem gok (N : Nat) : GOk (g (Left.M N)) := giD_ok hm (by intro p hp; cases hp) (gtL_ok (by decide)) (ovL_ok (by
    intro p hp
    simp only [List.mem_cons, List.not_mem_nil, or_false] at hp
    rcases hp with rfl
    · exact ⟨(Left.ok N).gt (gtL_sub (by repeat (first | exact subG_nil _ | refine subG_cons (by kernel_rfl) ?_))) (gtL_ok (by decide)), _, Tryd.func17, by kernel_rfl, by kernel_rfl⟩
)) 1
theorem ok (N : Nat) : SoundC Tryd.prog (gtL gts) 8 (con (M N)) := by
  refine SoundC.mono (evF_ok (gok N) hm an N Tryd.func8) fun R args bs κ r h => ?_
  unfold con at h
  split at h
  · exact (eq (Left.M N) N κ _ _ _ _).trans h
  · cases h
end Quarter


/-! ### Tryd.f26: quarter -/
namespace quarter
def an : Anns := ⟨fun i => findA i [], fun i => findA i [], false, fun _ => none, []⟩
noncomputable def g (mQuarter : Quarter.Ty) : Gi := giD Tryd.prog (gtL []) (fun _ => an) 0 [] (ovL [(8, Quarter.con mQuarter)]) 1
noncomputable def m (mQuarter : Quarter.Ty) {R : Type} (_N : Nat) (s1 : List Int) (a2 : Int) (b3 : Int) (c4 : Int) (d5 : Int) (kr0 : (List Int) → Option R) : Option R :=
  cond (decide (0 ≤ a2))
   (cond (decide (a2 < 16))
    (cond (decide (0 ≤ b3))
     (cond (decide (b3 < 16))
      (cond (decide (0 ≤ c4))
       (cond (decide (c4 < 16))
        (cond (decide (0 ≤ d5))
         (cond (decide (d5 < 16))
          (mQuarter R (s1.getD a2.toNat 0) (s1.getD b3.toNat 0) (s1.getD c4.toNat 0) (s1.getD d5.toNat 0)
           (fun v_c4 v_1_c5 v_2_c6 v_3_c7 => cond (decide (0 ≤ a2))
            (cond (decide (a2 < 16))
             (cond (decide (0 ≤ b3))
              (cond (decide (b3 < 16))
               (cond (decide (0 ≤ c4))
                (cond (decide (c4 < 16))
                 (cond (decide (0 ≤ d5))
                  (cond (decide (d5 < 16))
                   (kr0 ((((s1.set a2.toNat v_c4).set b3.toNat v_1_c5).set c4.toNat v_2_c6).set d5.toNat v_3_c7))
                   (none))
                  (none))
                 (none))
                (none))
               (none))
              (none))
             (none))
            (none)))
          (none))
         (none))
        (none))
       (none))
      (none))
     (none))
    (none))
   (none)
theorem tree (mQuarter : Quarter.Ty) {R : Type} (N : Nat) (κ : AV → List Blk → Option R) (s1 : List Int) (a2 : Int) (b3 : Int) (c4 : Int) (d5 : Int) : evF (g mQuarter) an N Tryd.f26 [AV.ptr 0 [], AV.int IntKind.i64 a2, AV.int IntKind.i64 b3, AV.int IntKind.i64 c4, AV.int IntKind.i64 d5] [Blk.var (AV.ints IntKind.u32 16 s1)] κ =
  cond (decide (0 ≤ a2))
   (cond (decide (a2 < 16))
    (cond (decide (0 ≤ b3))
     (cond (decide (b3 < 16))
      (cond (decide (0 ≤ c4))
       (cond (decide (c4 < 16))
        (cond (decide (0 ≤ d5))
         (cond (decide (d5 < 16))
          (mQuarter R (s1.getD a2.toNat 0) (s1.getD b3.toNat 0) (s1.getD c4.toNat 0) (s1.getD d5.toNat 0)
           (fun v_c4 v_1_c5 v_2_c6 v_3_c7 => cond (decide (0 ≤ a2))
            (cond (decide (a2 < 16))
             (cond (decide (0 ≤ b3))
              (cond (decide (b3 < 16))
               (cond (decide (0 ≤ c4))
                (cond (decide (c4 < 16))
                 (cond (decide (0 ≤ d5))
                  (cond (decide (d5 < 16))
                   (κ (AV.tup []) ([Blk.var (AV.ints IntKind.u32 16 ((((s1.set a2.toNat v_c4).set b3.toNat v_1_c5).set c4.toNat v_2_c6).set d5.toNat v_3_c7))]))
                   (none))
                  (none))
                 (none))
                (none))
               (none))
              (none))
             (none))
            (none)))
          (none))
         (none))
        (none))
       (none))
      (none))
     (none))
    (none))
   (none) := by kernel_rfl
theorem eq (mQuarter : Quarter.Ty) {R : Type} (N : Nat) (κ : AV → List Blk → Option R) (s1 : List Int) (a2 : Int) (b3 : Int) (c4 : Int) (d5 : Int) : evF (g mQuarter) an N Tryd.f26 [AV.ptr 0 [], AV.int IntKind.i64 a2, AV.int IntKind.i64 b3, AV.int IntKind.i64 c4, AV.int IntKind.i64 d5] [Blk.var (AV.ints IntKind.u32 16 s1)] κ =
  m mQuarter N s1 a2 b3 c4 d5 (fun b => κ (AV.tup []) ([Blk.var (AV.ints IntKind.u32 16 b)])) := by
  rw [tree]
  kernel_rfl
abbrev Ty : Type 1 := ∀ R : Type, (List Int) → Int → Int → Int → Int → ((List Int) → Option R) → Option R
def con (f : Ty) : Con := fun R args bs κ => match args, bs with
  | [AV.ptr 0 [], AV.int IntKind.i64 a2, AV.int IntKind.i64 b3, AV.int IntKind.i64 c4, AV.int IntKind.i64 d5], [Blk.var (AV.ints IntKind.u32 16 s1)] => f R s1 a2 b3 c4 d5 (fun b => κ (AV.tup []) ([Blk.var (AV.ints IntKind.u32 16 b)]))
  | _, _ => none
theorem con_eq (f : Ty) (R : Type) (κ : AV → List Blk → Option R) (s1 : List Int) (a2 : Int) (b3 : Int) (c4 : Int) (d5 : Int) : con f R [AV.ptr 0 [], AV.int IntKind.i64 a2, AV.int IntKind.i64 b3, AV.int IntKind.i64 c4, AV.int IntKind.i64 d5] [Blk.var (AV.ints IntKind.u32 16 s1)] κ = f R s1 a2 b3 c4 d5 (fun b => κ (AV.tup []) ([Blk.var (AV.ints IntKind.u32 16 b)])) := rfl
noncomputable def M (N : Nat) : Ty := fun R s1 a2 b3 c4 d5 kr0 => m (Quarter.M N) (R := R) N s1 a2 b3 c4 d5 kr0
def gts : List (Nat × AV) := []
theorem gok (N : Nat) : GOk (g (Quarter.M N)) := giD_ok hm (by intro p hp; cases hp) (gtL_ok (by decide)) (ovL_ok (by
    intro p hp
    simp only [List.mem_cons, List.not_mem_nil, or_false] at hp
    rcases hp with rfl
    · exact ⟨(Quarter.ok N).gt (gtL_sub (by repeat (first | exact subG_nil _ | refine subG_cons (by kernel_rfl) ?_))) (gtL_ok (by decide)), _, Tryd.func8, by kernel_rfl, by kernel_rfl⟩
)) 1
theorem ok (N : Nat) : SoundC Tryd.prog (gtL gts) 26 (con (M N)) := by
  refine SoundC.mono (evF_ok (gok N) hm an N Tryd.func26) fun R args bs κ r h => ?_
  unfold con at h
  split at h
  · exact (eq (Quarter.M N) N κ _ _ _ _ _).trans h
  · cases h
end quarter


/-! ### Tryd.f20: double -/
namespace double
def an : Anns := ⟨fun i => findA i [(1, ⟨[0, 4], [], 1, []⟩), (6, ⟨[0, 17], [], 1, []⟩)], fun i => findA i [], false, fun _ => none, []⟩
noncomputable def g (mquarter : quarter.Ty) : Gi := giD Tryd.prog (gtL []) (fun _ => an) 0 [] (ovL [(26, quarter.con mquarter)]) 1
noncomputable def c_L1 : Code := loopOf Tryd.f20 0
noncomputable def c_L6 : Code := loopOf Tryd.f20 1
def s_L1 (t4 : Int) (h0 : List Int) : St := ⟨[AV.ptr 0 [], AV.dead, AV.dead, AV.dead, AV.int IntKind.i64 t4] ++ List.replicate 31 .dead, [Blk.var (AV.ints IntKind.u32 16 h0)]⟩
def s_L6 (t17 : Int) (h0v1 : List Int) : St := ⟨[AV.ptr 0 []] ++ List.replicate 16 .dead ++ [AV.int IntKind.i64 t17] ++ List.replicate 18 .dead, [Blk.var (AV.ints IntKind.u32 16 h0v1)]⟩
def x_L1_0 (t4 : Int) (h0 : List Int) : St := ⟨[AV.ptr 0 [], AV.dead, AV.dead, AV.dead, AV.int IntKind.i64 t4, AV.bool (decide (t4 < 4))] ++ List.replicate 30 .dead, [Blk.var (AV.ints IntKind.u32 16 h0)]⟩
def x_L6_0 (t17 : Int) (h0v1 : List Int) : St := ⟨[AV.ptr 0 []] ++ List.replicate 16 .dead ++ [AV.int IntKind.i64 t17, AV.bool (decide (t17 < 4))] ++ List.replicate 17 .dead, [Blk.var (AV.ints IntKind.u32 16 h0v1)]⟩
noncomputable def L1 (mquarter : quarter.Ty) {R : Type} (N : Nat) (ke0 : Int → (List Int) → Option R) : Nat → Int → (List Int) → Option R
  | 0, _, _ => none
  | m + 1, t4, h0 =>
    cond (decide (t4 < 4))
     (mquarter R h0 t4 (IntKind.i64.wrap (4 + t4)) (IntKind.i64.wrap (8 + t4)) (IntKind.i64.wrap (12 + t4))
      (fun b_c11 => L1 mquarter N ke0 m (IntKind.i64.wrap (t4 + 1)) b_c11))
     (ke0 t4 h0)
theorem round_L1 (mquarter : quarter.Ty) {R : Type} (N : Nat) (Rn : St → Option R) (k : K R) (t4 : Int) (h0 : List Int) : evC (g mquarter) an 1 N c_L1 none (roundK (nmOf 1 (an.loop 1)) Rn k) (s_L1 t4 h0) =
  cond (decide (t4 < 4))
   (mquarter R h0 t4 (IntKind.i64.wrap (4 + t4)) (IntKind.i64.wrap (8 + t4)) (IntKind.i64.wrap (12 + t4))
    (fun b_c11 => Rn (s_L1 (IntKind.i64.wrap (t4 + 1)) b_c11)))
   (k.ext 0 (x_L1_0 t4 h0)) := by kernel_rfl
theorem run_L1 (mquarter : quarter.Ty) {R : Type} (N : Nat) (k : K R) : ∀ (m : Nat) (t4 : Int) (h0 : List Int), loopN (evC (g mquarter) an 1 N c_L1 none) k (nmOf 1 (an.loop 1)) m (s_L1 t4 h0) =
    L1 mquarter N (fun t4 h0 => (k).ext 0 (x_L1_0 t4 h0)) m t4 h0 := by
  intro m
  induction m with
  | zero => intros; rfl
  | succ m ih =>
    intros
    rw [loopN_succ, round_L1]
    simp only [ih]
    kernel_rfl
noncomputable def L6 (mquarter : quarter.Ty) {R : Type} (N : Nat) (ke0 : Int → (List Int) → Option R) : Nat → Int → (List Int) → Option R
  | 0, _, _ => none
  | m + 1, t17, h0v1 =>
    cond (decide (t17 < 4))
     (mquarter R h0v1 t17 (IntKind.i64.wrap (4 + (IntKind.i64.wrap (t17 + 1)).tmod 4)) (IntKind.i64.wrap (8 + (IntKind.i64.wrap (t17 + 2)).tmod 4)) (IntKind.i64.wrap (12 + (IntKind.i64.wrap (t17 + 3)).tmod 4))
      (fun b_c14 => L6 mquarter N ke0 m (IntKind.i64.wrap (t17 + 1)) b_c14))
     (ke0 t17 h0v1)
theorem round_L6 (mquarter : quarter.Ty) {R : Type} (N : Nat) (Rn : St → Option R) (k : K R) (t17 : Int) (h0v1 : List Int) : evC (g mquarter) an 1 N c_L6 none (roundK (nmOf 1 (an.loop 6)) Rn k) (s_L6 t17 h0v1) =
  cond (decide (t17 < 4))
   (mquarter R h0v1 t17 (IntKind.i64.wrap (4 + (IntKind.i64.wrap (t17 + 1)).tmod 4)) (IntKind.i64.wrap (8 + (IntKind.i64.wrap (t17 + 2)).tmod 4)) (IntKind.i64.wrap (12 + (IntKind.i64.wrap (t17 + 3)).tmod 4))
    (fun b_c14 => Rn (s_L6 (IntKind.i64.wrap (t17 + 1)) b_c14)))
   (k.ext 2 (x_L6_0 t17 h0v1)) := by kernel_rfl
theorem run_L6 (mquarter : quarter.Ty) {R : Type} (N : Nat) (k : K R) : ∀ (m : Nat) (t17 : Int) (h0v1 : List Int), loopN (evC (g mquarter) an 1 N c_L6 none) k (nmOf 1 (an.loop 6)) m (s_L6 t17 h0v1) =
    L6 mquarter N (fun t17 h0v1 => (k).ext 2 (x_L6_0 t17 h0v1)) m t17 h0v1 := by
  intro m
  induction m with
  | zero => intros; rfl
  | succ m ih =>
    intros
    rw [loopN_succ, round_L6]
    simp only [ih]
    kernel_rfl
noncomputable def m (mquarter : quarter.Ty) {R : Type} (N : Nat) (s1 : List Int) (kr0 : (List Int) → Option R) : Option R :=
  L1 mquarter N
   (fun _t4_c12 h0_c13 => L6 mquarter N
    (fun _t17_c15 h0_c16 => kr0 h0_c16) N 0 h0_c13) N 0 s1
theorem tree (mquarter : quarter.Ty) {R : Type} (N : Nat) (κ : AV → List Blk → Option R) (s1 : List Int) : evF (g mquarter) an N Tryd.f20 [AV.ptr 0 []] [Blk.var (AV.ints IntKind.u32 16 s1)] κ =
  loopN (evC (g mquarter) an 1 N c_L1 none) (ctx (g mquarter) an 1 N (bodyOf Tryd.f20) [0, 1, 0] (endK (g mquarter) an Tryd.f20 [Blk.var (AV.ints IntKind.u32 16 s1)] κ)) (nmOf 1 (an.loop 1)) N (s_L1 0 s1) := by kernel_rfl
theorem tree_e0 (mquarter : quarter.Ty) {R : Type} (N : Nat) (κ : AV → List Blk → Option R) (s1 : List Int) (t4_c12 : Int) (h0_c13 : List Int) : (ctx (g mquarter) an 1 N (bodyOf Tryd.f20) [0, 1, 0] (endK (g mquarter) an Tryd.f20 [Blk.var (AV.ints IntKind.u32 16 s1)] κ)).ext 0 (x_L1_0 t4_c12 h0_c13) =
  loopN (evC (g mquarter) an 1 N c_L6 none) (ctx (g mquarter) an 1 N (bodyOf Tryd.f20) [1, 1, 0] (endK (g mquarter) an Tryd.f20 [Blk.var (AV.ints IntKind.u32 16 s1)] κ)) (nmOf 1 (an.loop 6)) N (s_L6 0 h0_c13) := by kernel_rfl
theorem eq (mquarter : quarter.Ty) {R : Type} (N : Nat) (κ : AV → List Blk → Option R) (s1 : List Int) : evF (g mquarter) an N Tryd.f20 [AV.ptr 0 []] [Blk.var (AV.ints IntKind.u32 16 s1)] κ =
  m mquarter N s1 (fun b => κ (AV.tup []) ([Blk.var (AV.ints IntKind.u32 16 b)])) := by
  rw [tree]
  simp only [run_L1, run_L6, tree_e0]
  kernel_rfl
abbrev Ty : Type 1 := ∀ R : Type, (List Int) → ((List Int) → Option R) → Option R
def con (f : Ty) : Con := fun R args bs κ => match args, bs with
  | [AV.ptr 0 []], [Blk.var (AV.ints IntKind.u32 16 s1)] => f R s1 (fun b => κ (AV.tup []) ([Blk.var (AV.ints IntKind.u32 16 b)]))
  | _, _ => none
theorem con_eq (f : Ty) (R : Type) (κ : AV → List Blk → Option R) (s1 : List Int) : con f R [AV.ptr 0 []] [Blk.var (AV.ints IntKind.u32 16 s1)] κ = f R s1 (fun b => κ (AV.tup []) ([Blk.var (AV.ints IntKind.u32 16 b)])) := rfl
noncomputable def M (N : Nat) : Ty := fun R s1 kr0 => m (quarter.M N) (R := R) N s1 kr0
def gts : List (Nat × AV) := []
theorem gok (N : Nat) : GOk (g (quarter.M N)) := giD_ok hm (by intro p hp; cases hp) (gtL_ok (by decide)) (ovL_ok (by
    intro p hp
    simp only [List.mem_cons, List.not_mem_nil, or_false] at hp
    rcases hp with rfl
    · exact ⟨(quarter.ok N).gt (gtL_sub (by repeat (first | exact subG_nil _ | refine subG_cons (by kernel_rfl) ?_))) (gtL_ok (by decide)), _, Tryd.func26, by kernel_rfl, by kernel_rfl⟩
)) 1
theorem ok (N : Nat) : SoundC Tryd.prog (gtL gts) 20 (con (M N)) := by
  refine SoundC.mono (evF_ok (gok N) hm an N Tryd.func20) fun R args bs κ r h => ?_
  unfold con at h
  split at h
  · exact (eq (quarter.M N) N κ _).trans h
  · cases h
end double


/-! ### Tryd.f25: word -/
namespace word
def an : Anns := ⟨fun i => findA i [], fun i => findA i [], false, fun _ => none, []⟩
noncomputable def g : Gi := giD Tryd.prog (gtL []) (fun _ => an) 0 [] (ovL []) 1
noncomputable def m {R : Type} (_N : Nat) (_bN1 : Option Bool) (b2 : List Int) (kr0 : Int → Option R) : Option R :=
  cond (decide (0 < (↑b2.length : Int)))
   (cond (decide (1 < (↑b2.length : Int)))
    (cond (decide (2 < (↑b2.length : Int)))
     (cond (decide (3 < (↑b2.length : Int)))
      (kr0 (ior IntKind.u32 (ior IntKind.u32 (ior IntKind.u32 (IntKind.u32.wrap (b2.getD 0 0)) (ishl IntKind.u32 (IntKind.u32.wrap (b2.getD 1 0)) 8)) (ishl IntKind.u32 (IntKind.u32.wrap (b2.getD 2 0)) 16)) (ishl IntKind.u32 (IntKind.u32.wrap (b2.getD 3 0)) 24)))
      (none))
     (none))
    (none))
   (none)
theorem tree {R : Type} (N : Nat) (κ : AV → List Blk → Option R) (bN1 : Option Bool) (b2 : List Int) : evF (g) an N Tryd.f25 [AV.isl IntKind.u8 bN1 b2] [] κ =
  cond (decide (0 < (↑b2.length : Int)))
   (cond (decide (1 < (↑b2.length : Int)))
    (cond (decide (2 < (↑b2.length : Int)))
     (cond (decide (3 < (↑b2.length : Int)))
      (κ (AV.int IntKind.u32 (ior IntKind.u32 (ior IntKind.u32 (ior IntKind.u32 (IntKind.u32.wrap (b2.getD 0 0)) (ishl IntKind.u32 (IntKind.u32.wrap (b2.getD 1 0)) 8)) (ishl IntKind.u32 (IntKind.u32.wrap (b2.getD 2 0)) 16)) (ishl IntKind.u32 (IntKind.u32.wrap (b2.getD 3 0)) 24))) [])
      (none))
     (none))
    (none))
   (none) := by kernel_rfl
theorem eq {R : Type} (N : Nat) (κ : AV → List Blk → Option R) (bN1 : Option Bool) (b2 : List Int) : evF (g) an N Tryd.f25 [AV.isl IntKind.u8 bN1 b2] [] κ =
  m N bN1 b2 (fun v => κ (AV.int IntKind.u32 v) []) := by
  rw [tree]
  kernel_rfl
abbrev Ty : Type 1 := ∀ R : Type, (Option Bool) → (List Int) → (Int → Option R) → Option R
def con (f : Ty) : Con := fun R args bs κ => match args, bs with
  | [AV.isl IntKind.u8 bN1 b2], [] => f R bN1 b2 (fun v => κ (AV.int IntKind.u32 v) [])
  | _, _ => none
theorem con_eq (f : Ty) (R : Type) (κ : AV → List Blk → Option R) (bN1 : Option Bool) (b2 : List Int) : con f R [AV.isl IntKind.u8 bN1 b2] [] κ = f R bN1 b2 (fun v => κ (AV.int IntKind.u32 v) []) := rfl
noncomputable def M (N : Nat) : Ty := fun R bN1 b2 kr0 => m (R := R) N bN1 b2 kr0
def gts : List (Nat × AV) := []
theorem gok (_N : Nat) : GOk (g) := giD_ok hm (by intro p hp; cases hp) (gtL_ok (by decide)) (ovL_ok (by intro p hp; cases hp)) 1
theorem ok (N : Nat) : SoundC Tryd.prog (gtL gts) 25 (con (M N)) := by
  refine SoundC.mono (evF_ok (gok N) hm an N Tryd.func25) fun R args bs κ r h => ?_
  unfold con at h
  split at h
  · exact (eq N κ _ _).trans h
  · cases h
end word


/-! ### Tryd.f19: begin -/
namespace begin
def an : Anns := ⟨fun i => findA i [(3, ⟨[1, 2, 3, 6, 7, 11], [⟨3, 0, T.int IntKind.u8, none⟩, ⟨6, 1, T.int IntKind.u8, none⟩, ⟨7, 2, T.int IntKind.u8, none⟩], 3, []⟩), (9, ⟨[2, 6, 7, 24], [⟨6, 0, T.int IntKind.u8, none⟩, ⟨7, 1, T.int IntKind.u8, none⟩], 2, []⟩)], fun i => findA i [], false, fun _ => none, []⟩
noncomputable def g (mword : word.Ty) : Gi := giD Tryd.prog (gtL []) (fun _ => an) 0 [] (ovL [(25, word.con mword)]) 1
noncomputable def c_L3 : Code := loopOf Tryd.f19 0
noncomputable def c_L9 : Code := loopOf Tryd.f19 1
def s_L3 (counter1 : Int) (nonce2 : Option Bool) (nonce2_2 : List Int) (t11 : Int) (h0 : List Int) (h2 : List Int) : St := ⟨[AV.dead, AV.int IntKind.u32 counter1, AV.isl IntKind.u8 nonce2 nonce2_2, AV.ptr 0 [], AV.dead, AV.dead, AV.ptr 1 [], AV.ptr 2 [], AV.dead, AV.dead, AV.dead, AV.int IntKind.i64 t11] ++ List.replicate 25 .dead, [Blk.var (AV.ints IntKind.u8 32 h0), Blk.var (AV.ints IntKind.u32 16 [0, 0, 0, 0, 0, 0, 0, 0, 0, 0, 0, 0, 0, 0, 0, 0]), Blk.var (AV.ints IntKind.u32 16 h2)]⟩
def s_L9 (nonce2v1 : Option Bool) (nonce2_1 : List Int) (t24 : Int) (h1 : List Int) : St := ⟨[AV.dead, AV.dead, AV.isl IntKind.u8 nonce2v1 nonce2_1, AV.dead, AV.dead, AV.dead, AV.ptr 0 [], AV.ptr 1 []] ++ List.replicate 16 .dead ++ [AV.int IntKind.i64 t24] ++ List.replicate 12 .dead, [Blk.var (AV.ints IntKind.u32 16 [0, 0, 0, 0, 0, 0, 0, 0, 0, 0, 0, 0, 0, 0, 0, 0]), Blk.var (AV.ints IntKind.u32 16 h1)]⟩
def x_L3_0 (counter1 : Int) (nonce2 : Option Bool) (nonce2_2 : List Int) (t11 : Int) (h0 : List Int) (h2 : List Int) : St := ⟨[AV.dead, AV.int IntKind.u32 counter1, AV.isl IntKind.u8 nonce2 nonce2_2, AV.ptr 0 [], AV.dead, AV.dead, AV.ptr 1 [], AV.ptr 2 [], AV.dead, AV.dead, AV.dead, AV.int IntKind.i64 t11, AV.bool (decide (t11 < 8))] ++ List.replicate 24 .dead, [Blk.var (AV.ints IntKind.u8 32 h0), Blk.var (AV.ints IntKind.u32 16 [0, 0, 0, 0, 0, 0, 0, 0, 0, 0, 0, 0, 0, 0, 0, 0]), Blk.var (AV.ints IntKind.u32 16 h2)]⟩
def x_L9_0 (nonce2v1 : Option Bool) (nonce2_1 : List Int) (t24 : Int) (h1 : List Int) : St := ⟨[AV.dead, AV.dead, AV.isl IntKind.u8 nonce2v1 nonce2_1, AV.dead, AV.dead, AV.dead, AV.ptr 0 [], AV.ptr 1 []] ++ List.replicate 16 .dead ++ [AV.int IntKind.i64 t24, AV.bool (decide (t24 < 3))] ++ List.replicate 11 .dead, [Blk.var (AV.ints IntKind.u32 16 [0, 0, 0, 0, 0, 0, 0, 0, 0, 0, 0, 0, 0, 0, 0, 0]), Blk.var (AV.ints IntKind.u32 16 h1)]⟩
noncomputable def L3 (mword : word.Ty) {R : Type} (N : Nat) (ke0 : Int → (Option Bool) → (List Int) → Int → (List Int) → (List Int) → Option R) : Nat → Int → (Option Bool) → (List Int) → Int → (List Int) → (List Int) → Option R
  | 0, _, _, _, _, _, _ => none
  | m + 1, counter1, nonce2, nonce2_2, t11, h0, h2 =>
    cond (decide (t11 < 8))
     (cond (decide (0 ≤ IntKind.i64.wrap (4 * t11)))
      (cond (decide (IntKind.i64.wrap (4 * t11) ≤ 32))
       (mword R none (cut (some (32 - (IntKind.i64.wrap (4 * t11)).toNat)) (IntKind.i64.wrap (4 * t11)).toNat h0)
        (fun v_c21 => cond (decide (0 ≤ IntKind.i64.wrap (4 + t11)))
         (cond (decide (IntKind.i64.wrap (4 + t11) < 16))
          (L3 mword N ke0 m counter1 nonce2 nonce2_2 (IntKind.i64.wrap (t11 + 1)) h0 (h2.set (IntKind.i64.wrap (4 + t11)).toNat v_c21))
          (none))
         (none)))
       (none))
      (none))
     (ke0 counter1 nonce2 nonce2_2 t11 h0 h2)
theorem round_L3 (mword : word.Ty) {R : Type} (N : Nat) (Rn : St → Option R) (k : K R) (counter1 : Int) (nonce2 : Option Bool) (nonce2_2 : List Int) (t11 : Int) (h0 : List Int) (h2 : List Int) : evC (g mword) an 0 N c_L3 none (roundK (nmOf 0 (an.loop 3)) Rn k) (s_L3 counter1 nonce2 nonce2_2 t11 h0 h2) =
  cond (decide (t11 < 8))
   (cond (decide (0 ≤ IntKind.i64.wrap (4 * t11)))
    (cond (decide (IntKind.i64.wrap (4 * t11) ≤ 32))
     (mword R none (cut (some (32 - (IntKind.i64.wrap (4 * t11)).toNat)) (IntKind.i64.wrap (4 * t11)).toNat h0)
      (fun v_c21 => cond (decide (0 ≤ IntKind.i64.wrap (4 + t11)))
       (cond (decide (IntKind.i64.wrap (4 + t11) < 16))
        (Rn (s_L3 counter1 nonce2 nonce2_2 (IntKind.i64.wrap (t11 + 1)) h0 (h2.set (IntKind.i64.wrap (4 + t11)).toNat v_c21)))
        (none))
       (none)))
     (none))
    (none))
   (k.ext 0 (x_L3_0 counter1 nonce2 nonce2_2 t11 h0 h2)) := by kernel_rfl
theorem run_L3 (mword : word.Ty) {R : Type} (N : Nat) (k : K R) : ∀ (m : Nat) (counter1 : Int) (nonce2 : Option Bool) (nonce2_2 : List Int) (t11 : Int) (h0 : List Int) (h2 : List Int), loopN (evC (g mword) an 0 N c_L3 none) k (nmOf 0 (an.loop 3)) m (s_L3 counter1 nonce2 nonce2_2 t11 h0 h2) =
    L3 mword N (fun counter1 nonce2 nonce2_2 t11 h0 h2 => (k).ext 0 (x_L3_0 counter1 nonce2 nonce2_2 t11 h0 h2)) m counter1 nonce2 nonce2_2 t11 h0 h2 := by
  intro m
  induction m with
  | zero => intros; rfl
  | succ m ih =>
    intros
    rw [loopN_succ, round_L3]
    simp only [ih]
    kernel_rfl
noncomputable def L9 (mword : word.Ty) {R : Type} (N : Nat) (ke0 : (Option Bool) → (List Int) → Int → (List Int) → Option R) : Nat → (Option Bool) → (List Int) → Int → (List Int) → Option R
  | 0, _, _, _, _ => none
  | m + 1, nonce2v1, nonce2_1, t24, h1 =>
    cond (decide (t24 < 3))
     (cond (decide (0 ≤ IntKind.i64.wrap (4 * t24)))
      (cond (decide (IntKind.i64.wrap (4 * t24) ≤ (↑nonce2_1.length : Int)))
       (mword R nonce2v1 (List.drop (IntKind.i64.wrap (4 * t24)).toNat (List.take nonce2_1.length nonce2_1))
        (fun v_c28 => cond (decide (0 ≤ IntKind.i64.wrap (13 + t24)))
         (cond (decide (IntKind.i64.wrap (13 + t24) < 16))
          (L9 mword N ke0 m nonce2v1 nonce2_1 (IntKind.i64.wrap (t24 + 1)) (h1.set (IntKind.i64.wrap (13 + t24)).toNat v_c28))
          (none))
         (none)))
       (none))
      (none))
     (ke0 nonce2v1 nonce2_1 t24 h1)
theorem round_L9 (mword : word.Ty) {R : Type} (N : Nat) (Rn : St → Option R) (k : K R) (nonce2v1 : Option Bool) (nonce2_1 : List Int) (t24 : Int) (h1 : List Int) : evC (g mword) an 0 N c_L9 none (roundK (nmOf 0 (an.loop 9)) Rn k) (s_L9 nonce2v1 nonce2_1 t24 h1) =
  cond (decide (t24 < 3))
   (cond (decide (0 ≤ IntKind.i64.wrap (4 * t24)))
    (cond (decide (IntKind.i64.wrap (4 * t24) ≤ (↑nonce2_1.length : Int)))
     (mword R nonce2v1 (List.drop (IntKind.i64.wrap (4 * t24)).toNat (List.take nonce2_1.length nonce2_1))
      (fun v_c28 => cond (decide (0 ≤ IntKind.i64.wrap (13 + t24)))
       (cond (decide (IntKind.i64.wrap (13 + t24) < 16))
        (Rn (s_L9 nonce2v1 nonce2_1 (IntKind.i64.wrap (t24 + 1)) (h1.set (IntKind.i64.wrap (13 + t24)).toNat v_c28)))
        (none))
       (none)))
     (none))
    (none))
   (k.ext 2 (x_L9_0 nonce2v1 nonce2_1 t24 h1)) := by kernel_rfl
theorem run_L9 (mword : word.Ty) {R : Type} (N : Nat) (k : K R) : ∀ (m : Nat) (nonce2v1 : Option Bool) (nonce2_1 : List Int) (t24 : Int) (h1 : List Int), loopN (evC (g mword) an 0 N c_L9 none) k (nmOf 0 (an.loop 9)) m (s_L9 nonce2v1 nonce2_1 t24 h1) =
    L9 mword N (fun nonce2v1 nonce2_1 t24 h1 => (k).ext 2 (x_L9_0 nonce2v1 nonce2_1 t24 h1)) m nonce2v1 nonce2_1 t24 h1 := by
  intro m
  induction m with
  | zero => intros; rfl
  | succ m ih =>
    intros
    rw [loopN_succ, round_L9]
    simp only [ih]
    kernel_rfl
noncomputable def m (mword : word.Ty) {R : Type} (N : Nat) (key1 : List Int) (counter2 : Int) (nonceN3 : Option Bool) (nonce4 : List Int) (kr0 : (List Int) → Option R) : Option R :=
  L3 mword N
   (fun counter1_c22 nonce2_c23 nonce2_2_c24 _t11_c25 _h0_c26 h2_c27 => L9 mword N
    (fun _nonce2_c29 _nonce2_1_c30 _t24_c31 h1_c32 => kr0 h1_c32) N nonce2_c23 nonce2_2_c24 0 (h2_c27.set 12 counter1_c22)) N counter2 nonceN3 nonce4 0 key1 ([1634760805, 857760878, 2036477234, 1797285236, 0, 0, 0, 0, 0, 0, 0, 0, 0, 0, 0, 0])
theorem tree (mword : word.Ty) {R : Type} (N : Nat) (κ : AV → List Blk → Option R) (key1 : List Int) (counter2 : Int) (nonceN3 : Option Bool) (nonce4 : List Int) : evF (g mword) an N Tryd.f19 [AV.ints IntKind.u8 32 key1, AV.int IntKind.u32 counter2, AV.isl IntKind.u8 nonceN3 nonce4] [] κ =
  loopN (evC (g mword) an 0 N c_L3 none) (ctx (g mword) an 0 N (bodyOf Tryd.f19) [1, 1, 0, 1, 0] (endK (g mword) an Tryd.f19 [] κ)) (nmOf 0 (an.loop 3)) N (s_L3 counter2 nonceN3 nonce4 0 key1 ([1634760805, 857760878, 2036477234, 1797285236, 0, 0, 0, 0, 0, 0, 0, 0, 0, 0, 0, 0])) := by kernel_rfl
theorem tree_e0 (mword : word.Ty) {R : Type} (N : Nat) (κ : AV → List Blk → Option R) (counter1_c22 : Int) (nonce2_c23 : Option Bool) (nonce2_2_c24 : List Int) (t11_c25 : Int) (h0_c26 : List Int) (h2_c27 : List Int) : (ctx (g mword) an 0 N (bodyOf Tryd.f19) [1, 1, 0, 1, 0] (endK (g mword) an Tryd.f19 [] κ)).ext 0 (x_L3_0 counter1_c22 nonce2_c23 nonce2_2_c24 t11_c25 h0_c26 h2_c27) =
  loopN (evC (g mword) an 0 N c_L9 none) (ctx (g mword) an 0 N (bodyOf Tryd.f19) [1, 1, 1, 1, 0, 1, 0] (endK (g mword) an Tryd.f19 [] κ)) (nmOf 0 (an.loop 9)) N (s_L9 nonce2_c23 nonce2_2_c24 0 (h2_c27.set 12 counter1_c22)) := by kernel_rfl
theorem eq (mword : word.Ty) {R : Type} (N : Nat) (κ : AV → List Blk → Option R) (key1 : List Int) (counter2 : Int) (nonceN3 : Option Bool) (nonce4 : List Int) : evF (g mword) an N Tryd.f19 [AV.ints IntKind.u8 32 key1, AV.int IntKind.u32 counter2, AV.isl IntKind.u8 nonceN3 nonce4] [] κ =
  m mword N key1 counter2 nonceN3 nonce4 (fun v => κ (AV.ints IntKind.u32 16 v) []) := by
  rw [tree]
  simp only [run_L3, run_L9, tree_e0]
  kernel_rfl
abbrev Ty : Type 1 := ∀ R : Type, (List Int) → Int → (Option Bool) → (List Int) → ((List Int) → Option R) → Option R
def con (f : Ty) : Con := fun R args bs κ => match args, bs with
  | [AV.ints IntKind.u8 32 key1, AV.int IntKind.u32 counter2, AV.isl IntKind.u8 nonceN3 nonce4], [] => f R key1 counter2 nonceN3 nonce4 (fun v => κ (AV.ints IntKind.u32 16 v) [])
  | _, _ => none
theorem con_eq (f : Ty) (R : Type) (κ : AV → List Blk → Option R) (key1 : List Int) (counter2 : Int) (nonceN3 : Option Bool) (nonce4 : List Int) : con f R [AV.ints IntKind.u8 32 key1, AV.int IntKind.u32 counter2, AV.isl IntKind.u8 nonceN3 nonce4] [] κ = f R key1 counter2 nonceN3 nonce4 (fun v => κ (AV.ints IntKind.u32 16 v) []) := rfl
noncomputable def M (N : Nat) : Ty := fun R key1 counter2 nonceN3 nonce4 kr0 => m (word.M N) (R := R) N key1 counter2 nonceN3 nonce4 kr0
def gts : List (Nat × AV) := []
theorem gok (N : Nat) : GOk (g (word.M N)) := giD_ok hm (by intro p hp; cases hp) (gtL_ok (by decide)) (ovL_ok (by
    intro p hp
    simp only [List.mem_cons, List.not_mem_nil, or_false] at hp
    rcases hp with rfl
    · exact ⟨(word.ok N).gt (gtL_sub (by repeat (first | exact subG_nil _ | refine subG_cons (by kernel_rfl) ?_))) (gtL_ok (by decide)), _, Tryd.func25, by kernel_rfl, by kernel_rfl⟩
)) 1
theorem ok (N : Nat) : SoundC Tryd.prog (gtL gts) 19 (con (M N)) := by
  refine SoundC.mono (evF_ok (gok N) hm an N Tryd.func19) fun R args bs κ r h => ?_
  unfold con at h
  split at h
  · exact (eq (word.M N) N κ _ _ _ _).trans h
  · cases h
end begin


/-! ### Tryd.f10: Block -/
namespace Block
def an : Anns := ⟨fun i => findA i [(11, ⟨[9, 11, 28, 29], [⟨9, 0, T.int IntKind.u8, none⟩, ⟨11, 1, T.int IntKind.u8, none⟩], 2, []⟩)], fun i => findA i [(0, ⟨[8, 9, 10], [⟨8, 0, T.int IntKind.u8, none⟩, ⟨9, 1, T.int IntKind.u8, none⟩], 2, []⟩)], true, fun _ => none, []⟩
noncomputable def g (mbegin : begin.Ty) (mdouble : double.Ty) : Gi := giD Tryd.prog (gtL [(0, .err 4)]) (fun _ => an) 0 [] (ovL [(19, begin.con mbegin), (20, double.con mdouble)]) 1
noncomputable def c_L11 : Code := loopOf Tryd.f10 0
noncomputable def c_S1 : Code := scopeOf Tryd.f10 0
def s_L11 (t28 : List Int) (t29 : Int) (h0 : List Int) (h1 : Bool) (h1_4 : List Int) : St := ⟨List.replicate 9 .dead ++ [AV.ptr 0 [], AV.dead, AV.own 1 [] 0 none] ++ List.replicate 16 .dead ++ [AV.ints IntKind.u32 16 t28, AV.int IntKind.i64 t29] ++ List.replicate 24 .dead, [Blk.var (AV.ints IntKind.u32 16 h0), Blk.row IntKind.u8 h1 h1_4]⟩
def s_J1_0 (i10 : Int) (h0v1 : List Int) (h1v1 : List Int) : St := ⟨List.replicate 8 .dead ++ [AV.ptr 0 [], AV.ptr 1 [], AV.int IntKind.i64 i10] ++ List.replicate 43 .dead, [Blk.var (AV.ints IntKind.u32 16 h0v1), Blk.var (AV.ints IntKind.u32 16 h1v1)]⟩
def x_L11_0 (t28 : List Int) (t29 : Int) (h0 : List Int) (h1 : Bool) (h1_4 : List Int) : St := ⟨List.replicate 9 .dead ++ [AV.ptr 0 [], AV.dead, AV.own 1 [] 0 none] ++ List.replicate 16 .dead ++ [AV.ints IntKind.u32 16 t28, AV.int IntKind.i64 t29, AV.bool (decide (t29 < 16))] ++ List.replicate 23 .dead, [Blk.var (AV.ints IntKind.u32 16 h0), Blk.row IntKind.u8 h1 h1_4]⟩
def x_S1_0 (t28_c25 : List Int) (t29_c26 : Int) (h0_c27 : List Int) (h1_c28 : Bool) (h1_4_c29 : List Int) : St := ⟨List.replicate 6 .dead ++ [AV.own 1 [] 0 none, AV.err 0, AV.dead, AV.ptr 0 [], AV.dead, AV.own 1 [] 0 none] ++ List.replicate 16 .dead ++ [AV.ints IntKind.u32 16 t28_c25, AV.int IntKind.i64 t29_c26, AV.bool (decide (t29_c26 < 16))] ++ List.replicate 22 .dead ++ [AV.own 1 [] 0 none], [Blk.var (AV.ints IntKind.u32 16 h0_c27), Blk.row IntKind.u8 h1_c28 h1_4_c29]⟩
noncomputable def L11 (mbegin : begin.Ty) (mdouble : double.Ty) {R : Type} (N : Nat) (ke0 : (List Int) → Int → (List Int) → Bool → (List Int) → Option R) : Nat → (List Int) → Int → (List Int) → Bool → (List Int) → Option R
  | 0, _, _, _, _, _ => none
  | m + 1, t28, t29, h0, h1, h1_4 =>
    cond (decide (t29 < 16))
     (cond (decide (0 ≤ t29))
      (cond (decide (t29 < 16))
       (cond (decide (0 ≤ t29))
        (cond (decide (t29 < 16))
         (cond (decide ((h1_4.length + 4) * 1 ≤ 140737488355328))
          (cond (decide (h1_4.length + 4 ≤ 140737488355328))
           (L11 mbegin mdouble N ke0 m t28 (IntKind.i64.wrap (t29 + 1)) h0 false (h1_4 ++ [IntKind.u8.wrap (IntKind.u32.wrap (t28.getD t29.toNat 0 + h0.getD t29.toNat 0)), IntKind.u8.wrap (ishr IntKind.u32 (IntKind.u32.wrap (t28.getD t29.toNat 0 + h0.getD t29.toNat 0)) 8), IntKind.u8.wrap (ishr IntKind.u32 (IntKind.u32.wrap (t28.getD t29.toNat 0 + h0.getD t29.toNat 0)) 16), IntKind.u8.wrap (ishr IntKind.u32 (IntKind.u32.wrap (t28.getD t29.toNat 0 + h0.getD t29.toNat 0)) 24)]))
           (none))
          (none))
         (none))
        (none))
       (none))
      (none))
     (ke0 t28 t29 h0 h1 h1_4)
theorem round_L11 (mbegin : begin.Ty) (mdouble : double.Ty) {R : Type} (N : Nat) (Rn : St → Option R) (k : K R) (t28 : List Int) (t29 : Int) (h0 : List Int) (h1 : Bool) (h1_4 : List Int) : evC (g mbegin mdouble) an 0 N c_L11 none (roundK (nmOf 0 (an.loop 11)) Rn k) (s_L11 t28 t29 h0 h1 h1_4) =
  cond (decide (t29 < 16))
   (cond (decide (0 ≤ t29))
    (cond (decide (t29 < 16))
     (cond (decide (0 ≤ t29))
      (cond (decide (t29 < 16))
       (cond (decide ((h1_4.length + 4) * 1 ≤ 140737488355328))
        (cond (decide (h1_4.length + 4 ≤ 140737488355328))
         (Rn (s_L11 t28 (IntKind.i64.wrap (t29 + 1)) h0 false (h1_4 ++ [IntKind.u8.wrap (IntKind.u32.wrap (t28.getD t29.toNat 0 + h0.getD t29.toNat 0)), IntKind.u8.wrap (ishr IntKind.u32 (IntKind.u32.wrap (t28.getD t29.toNat 0 + h0.getD t29.toNat 0)) 8), IntKind.u8.wrap (ishr IntKind.u32 (IntKind.u32.wrap (t28.getD t29.toNat 0 + h0.getD t29.toNat 0)) 16), IntKind.u8.wrap (ishr IntKind.u32 (IntKind.u32.wrap (t28.getD t29.toNat 0 + h0.getD t29.toNat 0)) 24)])))
         (none))
        (none))
       (none))
      (none))
     (none))
    (none))
   (k.ext 0 (x_L11_0 t28 t29 h0 h1 h1_4)) := by kernel_rfl
theorem run_L11 (mbegin : begin.Ty) (mdouble : double.Ty) {R : Type} (N : Nat) (k : K R) : ∀ (m : Nat) (t28 : List Int) (t29 : Int) (h0 : List Int) (h1 : Bool) (h1_4 : List Int), loopN (evC (g mbegin mdouble) an 0 N c_L11 none) k (nmOf 0 (an.loop 11)) m (s_L11 t28 t29 h0 h1 h1_4) =
    L11 mbegin mdouble N (fun t28 t29 h0 h1 h1_4 => (k).ext 0 (x_L11_0 t28 t29 h0 h1 h1_4)) m t28 t29 h0 h1 h1_4 := by
  intro m
  induction m with
  | zero => intros; rfl
  | succ m ih =>
    intros
    rw [loopN_succ, round_L11]
    simp only [ih]
    kernel_rfl
noncomputable def J1_0 (mbegin : begin.Ty) (mdouble : double.Ty) {R : Type} (N : Nat) (ke0 : (List Int) → Int → (List Int) → Bool → (List Int) → Option R) : Nat → Int → (List Int) → (List Int) → Option R
  | 0, _, _, _ => none
  | m + 1, i10, h0v1, h1v1 =>
    cond (decide (i10 < 10))
     (mdouble R h0v1
      (fun b_c24 => J1_0 mbegin mdouble N ke0 m (IntKind.i64.wrap (i10 + 1)) b_c24 h1v1))
     (L11 mbegin mdouble N
      (fun t28_c25 t29_c26 h0_c27 h1_c28 h1_4_c29 => ke0 t28_c25 t29_c26 h0_c27 h1_c28 h1_4_c29) N h0v1 0 h1v1 true [])
theorem round_J1_0 (mbegin : begin.Ty) (mdouble : double.Ty) {R : Type} (N : Nat) (J : Nat → St → Option R) (k : K R) (i10 : Int) (h0v1 : List Int) (h1v1 : List Int) : evC (g mbegin mdouble) an 0 N c_S1 (some 0) { k with gto := gotoK (hasL c_S1) (fun l => nmOf 0 (an.label l)) k J } (s_J1_0 i10 h0v1 h1v1) =
  cond (decide (i10 < 10))
   (mdouble R h0v1
    (fun b_c24 => J 0 (s_J1_0 (IntKind.i64.wrap (i10 + 1)) b_c24 h1v1)))
   (loopN (evC (g mbegin mdouble) an 0 N c_L11 none) (ctx (g mbegin mdouble) an 0 N c_S1 [1, 1, 1, 1, 1, 1, 1, 0, 1, 0] { k with gto := gotoK (hasL c_S1) (fun l => nmOf 0 (an.label l)) k J }) (nmOf 0 (an.loop 11)) N (s_L11 h0v1 0 h1v1 true [])) := by kernel_rfl
theorem run_S1 (mbegin : begin.Ty) (mdouble : double.Ty) {R : Type} (N : Nat) (k : K R) : ∀ (m : Nat), (∀ (i10 : Int) (h0v1 : List Int) (h1v1 : List Int), jumpN (fun l => evC (g mbegin mdouble) an 0 N c_S1 (some l)) (hasL c_S1) k (fun l => nmOf 0 (an.label l)) m 0 (s_J1_0 i10 h0v1 h1v1) =
    J1_0 mbegin mdouble N (fun t28_c25 t29_c26 h0_c27 h1_c28 h1_4_c29 => (k).ret (x_S1_0 t28_c25 t29_c26 h0_c27 h1_c28 h1_4_c29)) m i10 h0v1 h1v1) := by
  intro m
  induction m with
  | zero => exact by intros; rfl
  | succ m ih =>
    · intros; rw [jumpN_succ, round_J1_0]
      try simp only [run_L11, ih]
      kernel_rfl
theorem run_J1_0 (mbegin : begin.Ty) (mdouble : double.Ty) {R : Type} (N : Nat) (k : K R) (m : Nat) : (∀ (i10 : Int) (h0v1 : List Int) (h1v1 : List Int), jumpN (fun l => evC (g mbegin mdouble) an 0 N c_S1 (some l)) (hasL c_S1) k (fun l => nmOf 0 (an.label l)) m 0 (s_J1_0 i10 h0v1 h1v1) =
    J1_0 mbegin mdouble N (fun t28_c25 t29_c26 h0_c27 h1_c28 h1_4_c29 => (k).ret (x_S1_0 t28_c25 t29_c26 h0_c27 h1_c28 h1_4_c29)) m i10 h0v1 h1v1) := (run_S1 mbegin mdouble N k m)
noncomputable def m (mbegin : begin.Ty) (mdouble : double.Ty) {R : Type} (N : Nat) (key1 : List Int) (counter2 : Int) (nonceN3 : Option Bool) (nonce4 : List Int) (kr0 : Option R) (kr1 : Bool → (List Int) → Option R) : Option R :=
  cond ((↑nonce4.length : Int) != 12)
   (kr0)
   (mbegin R key1 counter2 nonceN3 nonce4
    (fun v_c22 => mdouble R v_c22
     (fun b_c23 => J1_0 mbegin mdouble N
      (fun _t28_c30 _t29_c31 _h0_c32 h1_c33 h1_4_c34 => kr1 h1_c33 h1_4_c34) N 1 b_c23 v_c22)))
theorem tree (mbegin : begin.Ty) (mdouble : double.Ty) {R : Type} (N : Nat) (κ : AV → List Blk → Option R) (key1 : List Int) (counter2 : Int) (nonceN3 : Option Bool) (nonce4 : List Int) : evF (g mbegin mdouble) an N Tryd.f10 [AV.ints IntKind.u8 32 key1, AV.int IntKind.u32 counter2, AV.isl IntKind.u8 nonceN3 nonce4] [] κ =
  cond ((↑nonce4.length : Int) != 12)
   (κ (AV.tup [AV.nils, AV.err 4]) [])
   (mbegin R key1 counter2 nonceN3 nonce4
    (fun v_c22 => mdouble R v_c22
     (fun b_c23 => jumpN (fun l => evC (g mbegin mdouble) an 0 N c_S1 (some l)) (hasL c_S1) (ctx (g mbegin mdouble) an 0 N (bodyOf Tryd.f10) [1] (endK (g mbegin mdouble) an Tryd.f10 [] κ)) (fun l => nmOf 0 (an.label l)) N 0 (s_J1_0 1 b_c23 v_c22)))) := by kernel_rfl
theorem eq (mbegin : begin.Ty) (mdouble : double.Ty) {R : Type} (N : Nat) (κ : AV → List Blk → Option R) (key1 : List Int) (counter2 : Int) (nonceN3 : Option Bool) (nonce4 : List Int) : evF (g mbegin mdouble) an N Tryd.f10 [AV.ints IntKind.u8 32 key1, AV.int IntKind.u32 counter2, AV.isl IntKind.u8 nonceN3 nonce4] [] κ =
  m mbegin mdouble N key1 counter2 nonceN3 nonce4 (κ (AV.tup [AV.nils, AV.err 4]) []) (fun b b_1 => κ (AV.tup [AV.own 0 [] 0 none, AV.err 0]) ([Blk.row IntKind.u8 b b_1])) := by
  rw [tree]
  simp only [run_J1_0]
  kernel_rfl
abbrev Ty : Type 1 := ∀ R : Type, (List Int) → Int → (Option Bool) → (List Int) → Option R → (Bool → (List Int) → Option R) → Option R
def con (f : Ty) : Con := fun R args bs κ => match args, bs with
  | [AV.ints IntKind.u8 32 key1, AV.int IntKind.u32 counter2, AV.isl IntKind.u8 nonceN3 nonce4], [] => f R key1 counter2 nonceN3 nonce4 (κ (AV.tup [AV.nils, AV.err 4]) []) (fun b b_1 => κ (AV.tup [AV.own 0 [] 0 none, AV.err 0]) ([Blk.row IntKind.u8 b b_1]))
  | _, _ => none
theorem con_eq (f : Ty) (R : Type) (κ : AV → List Blk → Option R) (key1 : List Int) (counter2 : Int) (nonceN3 : Option Bool) (nonce4 : List Int) : con f R [AV.ints IntKind.u8 32 key1, AV.int IntKind.u32 counter2, AV.isl IntKind.u8 nonceN3 nonce4] [] κ = f R key1 counter2 nonceN3 nonce4 (κ (AV.tup [AV.nils, AV.err 4]) []) (fun b b_1 => κ (AV.tup [AV.own 0 [] 0 none, AV.err 0]) ([Blk.row IntKind.u8 b b_1])) := rfl
noncomputable def M (N : Nat) : Ty := fun R key1 counter2 nonceN3 nonce4 kr0 kr1 => m (begin.M N) (double.M N) (R := R) N key1 counter2 nonceN3 nonce4 kr0 kr1
def gts : List (Nat × AV) := [(0, .err 4)]
theorem gok (N : Nat) : GOk (g (begin.M N) (double.M N)) := giD_ok hm (by intro p hp; cases hp) (gtL_ok (by decide)) (ovL_ok (by
    intro p hp
    simp only [List.mem_cons, List.not_mem_nil, or_false] at hp
    rcases hp with rfl | rfl
    · exact ⟨(begin.ok N).gt (gtL_sub (by repeat (first | exact subG_nil _ | refine subG_cons (by kernel_rfl) ?_))) (gtL_ok (by decide)), _, Tryd.func19, by kernel_rfl, by kernel_rfl⟩
    · exact ⟨(double.ok N).gt (gtL_sub (by repeat (first | exact subG_nil _ | refine subG_cons (by kernel_rfl) ?_))) (gtL_ok (by decide)), _, Tryd.func20, by kernel_rfl, by kernel_rfl⟩
)) 1
theorem ok (N : Nat) : SoundC Tryd.prog (gtL gts) 10 (con (M N)) := by
  refine SoundC.mono (evF_ok (gok N) hm an N Tryd.func10) fun R args bs κ r h => ?_
  unfold con at h
  split at h
  · exact (eq (begin.M N) (double.M N) N κ _ _ _ _).trans h
  · cases h
end Block

end Go.Proofs.YtmijagoibgkocaaDoor.fn
