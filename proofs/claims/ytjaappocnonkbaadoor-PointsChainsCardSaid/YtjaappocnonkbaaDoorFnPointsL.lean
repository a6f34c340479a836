/- What the points' laws have in common, with the proof; printed by a program. -/
import Derived.Test.YtjaappocnonkbaaDoorProg
import Derived.Test.YtjaappocnonkbaaDoorEv4
import Derived.Test.YtjaappocnonkbaaDoorFnPoints
import Derived.Test.YtjaappocnonkbaaDoorFnPointsR
import Derived.Test.YtjaappocnonkbaaDoorFnNum
namespace Go.Proofs.YtjaappocnonkbaaDoor.fn
open Go Go.Proofs Go.Ev

/-! ### Tryd.f8: alive12 -/
namespace alive12
def an : Anns := ⟨fun i => findA i [], fun i => findA i [], false, fun _ => none⟩
noncomputable def g (mpBase : pBase.Ty) (mpBytes : pBytes.Ty) (mpZero : pZero.Ty) (mpSame : pSame.Ty) : Gi := giD Tryd.prog (gtL [(19, .ints .u64 10 [134216512, 134217726, 134217726, 134217726, 134217726, 134217726, 134217726, 134217726, 134217726, 134217726])]) (fun _ => an) 0 [] (ovL [(22, pBase.con mpBase), (12, pBytes.con mpBytes), (20, pZero.con mpZero), (15, pSame.con mpSame)]) 1
noncomputable def m (mpBase : pBase.Ty) (mpBytes : pBytes.Ty) (mpZero : pZero.Ty) (mpSame : pSame.Ty) {R : Type} (_N : Nat) (kr0 : Bool → Option R) : Option R :=
  mpBase R
   (fun v_c14 v_1_c15 v_2_c16 v_3_c17 => mpBytes R v_c14 v_1_c15 v_2_c16 v_3_c17
    (fun v_c18 => cond (v_c18.getD 0 0 == 88)
     (cond (v_c18.getD 1 0 == 102)
      (cond (v_c18.getD 31 0 == 102)
       (mpBase R
        (fun v_c19 v_1_c20 v_2_c21 v_3_c22 => mpZero R
         (fun v_c23 v_1_c24 v_2_c25 v_3_c26 => mpSame R v_c19 v_1_c20 v_2_c21 v_3_c22 v_c23 v_1_c24 v_2_c25 v_3_c26
          (fun v_c27 => kr0 (!v_c27)))))
       (kr0 false))
      (kr0 false))
     (kr0 false)))
theorem tree (mpBase : pBase.Ty) (mpBytes : pBytes.Ty) (mpZero : pZero.Ty) (mpSame : pSame.Ty) {R : Type} (N : Nat) (κ : AV → List Blk → Option R) : evF (g mpBase mpBytes mpZero mpSame) an N Tryd.f8 [] [] κ =
  mpBase R
   (fun v_c14 v_1_c15 v_2_c16 v_3_c17 => mpBytes R v_c14 v_1_c15 v_2_c16 v_3_c17
    (fun v_c18 => cond (v_c18.getD 0 0 == 88)
     (cond (v_c18.getD 1 0 == 102)
      (cond (v_c18.getD 31 0 == 102)
       (mpBase R
        (fun v_c19 v_1_c20 v_2_c21 v_3_c22 => mpZero R
         (fun v_c23 v_1_c24 v_2_c25 v_3_c26 => mpSame R v_c19 v_1_c20 v_2_c21 v_3_c22 v_c23 v_1_c24 v_2_c25 v_3_c26
          (fun v_c27 => κ (AV.bool !v_c27) []))))
       (κ (AV.bool false) []))
      (κ (AV.bool false) []))
     (κ (AV.bool false) []))) := by kernel_rfl
theorem eq (mpBase : pBase.Ty) (mpBytes : pBytes.Ty) (mpZero : pZero.Ty) (mpSame : pSame.Ty) {R : Type} (N : Nat) (κ : AV → List Blk → Option R) : evF (g mpBase mpBytes mpZero mpSame) an N Tryd.f8 [] [] κ =
  m mpBase mpBytes mpZero mpSame N (fun v => κ (AV.bool v) []) := by
  rw [tree]
  kernel_rfl
abbrev Ty : Type 1 := ∀ R : Type, (Bool → Option R) → Option R
def con (f : Ty) : Con := fun R args bs κ => match args, bs with
  | [], [] => f R (fun v => κ (AV.bool v) [])
  | _, _ => none
theorem con_eq (f : Ty) (R : Type) (κ : AV → List Blk → Option R) : con f R [] [] κ = f R (fun v => κ (AV.bool v) []) := rfl
noncomputable def M (N : Nat) : Ty := fun R kr0 => m (pBase.M N) (pBytes.M N) (pZero.M N) (pSame.M N) (R := R) N kr0
def gts : List (Nat × AV) := [(19, .ints .u64 10 [134216512, 134217726, 134217726, 134217726, 134217726, 134217726, 134217726, 134217726, 134217726, 134217726])]
theorem gok (N : Nat) : GOk (g (pBase.M N) (pBytes.M N) (pZero.M N) (pSame.M N)) := giD_ok hm (by intro p hp; cases hp) (gtL_ok (by decide)) (ovL_ok (by
    intro p hp
    simp only [List.mem_cons, List.not_mem_nil, or_false] at hp
    rcases hp with rfl | rfl | rfl | rfl
    · exact ⟨(pBase.ok N).gt (gtL_sub (by repeat (first | exact subG_nil _ | refine subG_cons (by kernel_rfl) ?_))) (gtL_ok (by decide)), _, Tryd.func22, by kernel_rfl, by kernel_rfl⟩
    · exact ⟨(pBytes.ok N).gt (gtL_sub (by repeat (first | exact subG_nil _ | refine subG_cons (by kernel_rfl) ?_))) (gtL_ok (by decide)), _, Tryd.func12, by kernel_rfl, by kernel_rfl⟩
    · exact ⟨(pZero.ok N).gt (gtL_sub (by repeat (first | exact subG_nil _ | refine subG_cons (by kernel_rfl) ?_))) (gtL_ok (by decide)), _, Tryd.func20, by kernel_rfl, by kernel_rfl⟩
    · exact ⟨(pSame.ok N).gt (gtL_sub (by repeat (first | exact subG_nil _ | refine subG_cons (by kernel_rfl) ?_))) (gtL_ok (by decide)), _, Tryd.func15, by kernel_rfl, by kernel_rfl⟩
)) 1
theorem ok (N : Nat) : SoundC Tryd.prog (gtL gts) 8 (con (M N)) := by
  refine SoundC.mono (evF_ok (gok N) hm an N Tryd.func8) fun R args bs κ r h => ?_
  unfold con at h
  split at h
  · exact (eq (pBase.M N) (pBytes.M N) (pZero.M N) (pSame.M N) N κ).trans h
  · cases h
end alive12


/-! ### Tryd.f23: lKey -/
namespace lKey
def an : Anns := ⟨fun i => findA i [], fun i => findA i [], false, fun _ => none⟩
noncomputable def g : Gi := giD Tryd.prog (gtL []) (fun _ => an) 0 [] (ovL []) 1
noncomputable def m {R : Type} (_N : Nat) (kr0 : Option R) : Option R :=
  kr0
theorem tree {R : Type} (N : Nat) (κ : AV → List Blk → Option R) : evF (g) an N Tryd.f23 [] [] κ =
  κ (AV.ints IntKind.u8 32 [237, 211, 245, 92, 26, 99, 18, 88, 214, 156, 247, 162, 222, 249, 222, 20, 0, 0, 0, 0, 0, 0, 0, 0, 0, 0, 0, 0, 0, 0, 0, 16]) [] := by kernel_rfl
theorem eq {R : Type} (N : Nat) (κ : AV → List Blk → Option R) : evF (g) an N Tryd.f23 [] [] κ =
  m N (κ (AV.ints IntKind.u8 32 [237, 211, 245, 92, 26, 99, 18, 88, 214, 156, 247, 162, 222, 249, 222, 20, 0, 0, 0, 0, 0, 0, 0, 0, 0, 0, 0, 0, 0, 0, 0, 16]) []) := by
  rw [tree]
  kernel_rfl
abbrev Ty : Type 1 := ∀ R : Type, Option R → Option R
def con (f : Ty) : Con := fun R args bs κ => match args, bs with
  | [], [] => f R (κ (AV.ints IntKind.u8 32 [237, 211, 245, 92, 26, 99, 18, 88, 214, 156, 247, 162, 222, 249, 222, 20, 0, 0, 0, 0, 0, 0, 0, 0, 0, 0, 0, 0, 0, 0, 0, 16]) [])
  | _, _ => none
theorem con_eq (f : Ty) (R : Type) (κ : AV → List Blk → Option R) : con f R [] [] κ = f R (κ (AV.ints IntKind.u8 32 [237, 211, 245, 92, 26, 99, 18, 88, 214, 156, 247, 162, 222, 249, 222, 20, 0, 0, 0, 0, 0, 0, 0, 0, 0, 0, 0, 0, 0, 0, 0, 16]) []) := rfl
noncomputable def M (N : Nat) : Ty := fun R kr0 => m (R := R) N kr0
def gts : List (Nat × AV) := []
theorem gok (_N : Nat) : GOk (g) := giD_ok hm (by intro p hp; cases hp) (gtL_ok (by decide)) (ovL_ok (by intro p hp; cases hp)) 1
theorem ok (N : Nat) : SoundC Tryd.prog (gtL gts) 23 (con (M N)) := by
  refine SoundC.mono (evF_ok (gok N) hm an N Tryd.func23) fun R args bs κ r h => ?_
  unfold con at h
  split at h
  · exact (eq N κ).trans h
  · cases h
end lKey


/-! ### Tryd.f21: plusK -/
namespace plusK
def an : Anns := ⟨fun i => findA i [], fun i => findA i [], false, fun _ => none⟩
noncomputable def g : Gi := giD Tryd.prog (gtL []) (fun _ => an) 0 [] (ovL []) 1
noncomputable def m {R : Type} (_N : Nat) (k1 : List Int) (kr0 : (List Int) → Option R) : Option R :=
  kr0 ([IntKind.u8.wrap (IntKind.i64.wrap (IntKind.i64.wrap (IntKind.i64.wrap (k1.getD 0 0) + IntKind.i64.wrap (256 * IntKind.i64.wrap (k1.getD 1 0))) + 1)), IntKind.u8.wrap (ishr IntKind.i64 (IntKind.i64.wrap (IntKind.i64.wrap (IntKind.i64.wrap (k1.getD 0 0) + IntKind.i64.wrap (256 * IntKind.i64.wrap (k1.getD 1 0))) + 1)) 8), IntKind.u8.wrap (ishr IntKind.i64 (IntKind.i64.wrap (IntKind.i64.wrap (IntKind.i64.wrap (k1.getD 0 0) + IntKind.i64.wrap (256 * IntKind.i64.wrap (k1.getD 1 0))) + 1)) 16), 0, 0, 0, 0, 0, 0, 0, 0, 0, 0, 0, 0, 0, 0, 0, 0, 0, 0, 0, 0, 0, 0, 0, 0, 0, 0, 0, 0, 0])
theorem tree {R : Type} (N : Nat) (κ : AV → List Blk → Option R) (k1 : List Int) : evF (g) an N Tryd.f21 [AV.ints IntKind.u8 32 k1] [] κ =
  κ (AV.ints IntKind.u8 32 [IntKind.u8.wrap (IntKind.i64.wrap (IntKind.i64.wrap (IntKind.i64.wrap (k1.getD 0 0) + IntKind.i64.wrap (256 * IntKind.i64.wrap (k1.getD 1 0))) + 1)), IntKind.u8.wrap (ishr IntKind.i64 (IntKind.i64.wrap (IntKind.i64.wrap (IntKind.i64.wrap (k1.getD 0 0) + IntKind.i64.wrap (256 * IntKind.i64.wrap (k1.getD 1 0))) + 1)) 8), IntKind.u8.wrap (ishr IntKind.i64 (IntKind.i64.wrap (IntKind.i64.wrap (IntKind.i64.wrap (k1.getD 0 0) + IntKind.i64.wrap (256 * IntKind.i64.wrap (k1.getD 1 0))) + 1)) 16), 0, 0, 0, 0, 0, 0, 0, 0, 0, 0, 0, 0, 0, 0, 0, 0, 0, 0, 0, 0, 0, 0, 0, 0, 0, 0, 0, 0, 0]) [] := by kernel_rfl
theorem eq {R : Type} (N : Nat) (κ : AV → List Blk → Option R) (k1 : List Int) : evF (g) an N Tryd.f21 [AV.ints IntKind.u8 32 k1] [] κ =
  m N k1 (fun v => κ (AV.ints IntKind.u8 32 v) []) := by
  rw [tree]
  kernel_rfl
abbrev Ty : Type 1 := ∀ R : Type, (List Int) → ((List Int) → Option R) → Option R
def con (f : Ty) : Con := fun R args bs κ => match args, bs with
  | [AV.ints IntKind.u8 32 k1], [] => f R k1 (fun v => κ (AV.ints IntKind.u8 32 v) [])
  | _, _ => none
theorem con_eq (f : Ty) (R : Type) (κ : AV → List Blk → Option R) (k1 : List Int) : con f R [AV.ints IntKind.u8 32 k1] [] κ = f R k1 (fun v => κ (AV.ints IntKind.u8 32 v) []) := rfl
noncomputable def M (N : Nat) : Ty := fun R k1 kr0 => m (R := R) N k1 kr0
def gts : List (Nat × AV) := []
theorem gok (_N : Nat) : GOk (g) := giD_ok hm (by intro p hp; cases hp) (gtL_ok (by decide)) (ovL_ok (by intro p hp; cases hp)) 1
theorem ok (N : Nat) : SoundC Tryd.prog (gtL gts) 21 (con (M N)) := by
  refine SoundC.mono (evF_ok (gok N) hm an N Tryd.func21) fun R args bs κ r h => ?_
  unfold con at h
  split at h
  · exact (eq N κ _).trans h
  · cases h
end plusK


/-! ### Tryd.f16: some12 -/
namespace some12
def an : Anns := ⟨fun i => findA i [(7, ⟨[1, 2, 3, 8], [⟨1, 0, .u8⟩, ⟨2, 1, .u8⟩, ⟨3, 2, .u8⟩], 3⟩)], fun i => findA i [], false, fun _ => none⟩
noncomputable def g (mpRead : pRead.Ty) (mqRead : qRead.Ty) (mpBase : pBase.Ty) (mpTimes : pTimes.Ty) (mqBase : qBase.Ty) (mqTimes : qTimes.Ty) : Gi := giD Tryd.prog (gtL [(0, .err 4), (19, .ints .u64 10 [134216512, 134217726, 134217726, 134217726, 134217726, 134217726, 134217726, 134217726, 134217726, 134217726]), (20, .ints .u64 10 [34513072, 59165138, 38243406, 1750207, 53429016, 58652137, 13633939, 58469549, 8409025, 712905])]) (fun _ => an) 0 [] (ovL [(9, pRead.con mpRead), (10, qRead.con mqRead), (22, pBase.con mpBase), (17, pTimes.con mpTimes), (53, qBase.con mqBase), (18, qTimes.con mqTimes)]) 1
noncomputable def c_L7 : Code := loopOf Tryd.f16 0
def s_L7 (i8 : Int) (h0 : List Int) : St := ⟨[AV.dead, AV.ptr 0 [], AV.ptr 1 [], AV.ptr 2 []] ++ List.replicate 4 .dead ++ [AV.int IntKind.i64 i8] ++ List.replicate 27 .dead, [Blk.var (AV.ints IntKind.u8 32 h0), Blk.var (AV.agg [AV.agg [AV.ints IntKind.u64 10 [0, 0, 0, 0, 0, 0, 0, 0, 0, 0]], AV.agg [AV.ints IntKind.u64 10 [0, 0, 0, 0, 0, 0, 0, 0, 0, 0]], AV.agg [AV.ints IntKind.u64 10 [0, 0, 0, 0, 0, 0, 0, 0, 0, 0]], AV.agg [AV.ints IntKind.u64 10 [0, 0, 0, 0, 0, 0, 0, 0, 0, 0]]]), Blk.var (AV.agg [AV.ints IntKind.u32 8 [0, 0, 0, 0, 0, 0, 0, 0], AV.ints IntKind.u32 8 [0, 0, 0, 0, 0, 0, 0, 0], AV.ints IntKind.u32 8 [0, 0, 0, 0, 0, 0, 0, 0]])]⟩
def x_L7_0 (i8 : Int) (h0 : List Int) : St := ⟨[AV.dead, AV.ptr 0 [], AV.ptr 1 [], AV.ptr 2 []] ++ List.replicate 4 .dead ++ [AV.int IntKind.i64 i8] ++ List.replicate 15 .dead ++ [AV.int IntKind.i64 i8, AV.bool (decide (i8 < 31))] ++ List.replicate 10 .dead, [Blk.var (AV.ints IntKind.u8 32 h0), Blk.var (AV.agg [AV.agg [AV.ints IntKind.u64 10 [0, 0, 0, 0, 0, 0, 0, 0, 0, 0]], AV.agg [AV.ints IntKind.u64 10 [0, 0, 0, 0, 0, 0, 0, 0, 0, 0]], AV.agg [AV.ints IntKind.u64 10 [0, 0, 0, 0, 0, 0, 0, 0, 0, 0]], AV.agg [AV.ints IntKind.u64 10 [0, 0, 0, 0, 0, 0, 0, 0, 0, 0]]]), Blk.var (AV.agg [AV.ints IntKind.u32 8 [0, 0, 0, 0, 0, 0, 0, 0], AV.ints IntKind.u32 8 [0, 0, 0, 0, 0, 0, 0, 0], AV.ints IntKind.u32 8 [0, 0, 0, 0, 0, 0, 0, 0]])]⟩
noncomputable def L7 (mpRead : pRead.Ty) (mqRead : qRead.Ty) (mpBase : pBase.Ty) (mpTimes : pTimes.Ty) (mqBase : qBase.Ty) (mqTimes : qTimes.Ty) {R : Type} (N : Nat) (ke0 : Int → (List Int) → Option R) : Nat → Int → (List Int) → Option R
  | 0, _, _ => none
  | m + 1, i8, h0 =>
    cond (decide (i8 < 31))
     (cond (decide (0 ≤ i8))
      (cond (decide (i8 < 32))
       (L7 mpRead mqRead mpBase mpTimes mqBase mqTimes N ke0 m (IntKind.i64.wrap (i8 + 1)) (h0.set i8.toNat 0))
       (none))
      (none))
     (ke0 i8 h0)
theorem round_L7 (mpRead : pRead.Ty) (mqRead : qRead.Ty) (mpBase : pBase.Ty) (mpTimes : pTimes.Ty) (mqBase : qBase.Ty) (mqTimes : qTimes.Ty) {R : Type} (N : Nat) (Rn : St → Option R) (k : K R) (i8 : Int) (h0 : List Int) : evC (g mpRead mqRead mpBase mpTimes mqBase mqTimes) an 0 N c_L7 none (roundK (nmOf 0 (an.loop 7)) Rn k) (s_L7 i8 h0) =
  cond (decide (i8 < 31))
   (cond (decide (0 ≤ i8))
    (cond (decide (i8 < 32))
     (Rn (s_L7 (IntKind.i64.wrap (i8 + 1)) (h0.set i8.toNat 0)))
     (none))
    (none))
   (k.ext 0 (x_L7_0 i8 h0)) := by kernel_rfl
theorem run_L7 (mpRead : pRead.Ty) (mqRead : qRead.Ty) (mpBase : pBase.Ty) (mpTimes : pTimes.Ty) (mqBase : qBase.Ty) (mqTimes : qTimes.Ty) {R : Type} (N : Nat) (k : K R) : ∀ (m : Nat) (i8 : Int) (h0 : List Int), loopN (evC (g mpRead mqRead mpBase mpTimes mqBase mqTimes) an 0 N c_L7 none) k (nmOf 0 (an.loop 7)) m (s_L7 i8 h0) =
    L7 mpRead mqRead mpBase mpTimes mqBase mqTimes N (fun i8 h0 => (k).ext 0 (x_L7_0 i8 h0)) m i8 h0 := by
  intro m
  induction m with
  | zero => intros; rfl
  | succ m ih =>
    intros
    rw [loopN_succ, round_L7]
    simp only [ih]
    kernel_rfl
noncomputable def m (mpRead : pRead.Ty) (mqRead : qRead.Ty) (mpBase : pBase.Ty) (mpTimes : pTimes.Ty) (mqBase : qBase.Ty) (mqTimes : qTimes.Ty) {R : Type} (N : Nat) (b1 : List Int) (kr0 : (List Int) → (List Int) → (List Int) → (List Int) → (List Int) → (List Int) → (List Int) → Option R) : Option R :=
  mpRead R b1
   (fun v_c18 v_1_c19 v_2_c20 v_3_c21 v_4_c22 => cond (v_4_c22.beq 0)
    (mqRead R b1
     (fun v_c23 v_1_c24 v_2_c25 _v_3_c26 => kr0 v_c18 v_1_c19 v_2_c20 v_3_c21 v_c23 v_1_c24 v_2_c25))
    (L7 mpRead mqRead mpBase mpTimes mqBase mqTimes N
     (fun _i8_c27 h0_c28 => mpBase R
      (fun v_c29 v_1_c30 v_2_c31 v_3_c32 => mpTimes R v_c29 v_1_c30 v_2_c31 v_3_c32 h0_c28
       (fun v_c33 v_1_c34 v_2_c35 v_3_c36 => mqBase R
        (mqTimes R ([2401621274, 3377868128, 2502272946, 1764542304, 4258716764, 3232031281, 3446559742, 560543443]) ([1717986904, 1717986918, 1717986918, 1717986918, 1717986918, 1717986918, 1717986918, 1717986918]) ([1, 0, 0, 0, 0, 0, 0, 0]) h0_c28
         (fun v_c37 v_1_c38 v_2_c39 => kr0 v_c33 v_1_c34 v_2_c35 v_3_c36 v_c37 v_1_c38 v_2_c39))))) N 4 (b1.set 31 0)))
theorem tree (mpRead : pRead.Ty) (mqRead : qRead.Ty) (mpBase : pBase.Ty) (mpTimes : pTimes.Ty) (mqBase : qBase.Ty) (mqTimes : qTimes.Ty) {R : Type} (N : Nat) (κ : AV → List Blk → Option R) (b1 : List Int) : evF (g mpRead mqRead mpBase mpTimes mqBase mqTimes) an N Tryd.f16 [AV.ints IntKind.u8 32 b1] [] κ =
  mpRead R b1
   (fun v_c18 v_1_c19 v_2_c20 v_3_c21 v_4_c22 => cond (v_4_c22.beq 0)
    (mqRead R b1
     (fun v_c23 v_1_c24 v_2_c25 _v_3_c26 => κ (AV.tup [AV.agg [AV.agg [AV.ints IntKind.u64 10 v_c18], AV.agg [AV.ints IntKind.u64 10 v_1_c19], AV.agg [AV.ints IntKind.u64 10 v_2_c20], AV.agg [AV.ints IntKind.u64 10 v_3_c21]], AV.agg [AV.ints IntKind.u32 8 v_c23, AV.ints IntKind.u32 8 v_1_c24, AV.ints IntKind.u32 8 v_2_c25]]) []))
    (loopN (evC (g mpRead mqRead mpBase mpTimes mqBase mqTimes) an 0 N c_L7 none) (ctx (g mpRead mqRead mpBase mpTimes mqBase mqTimes) an 0 N (bodyOf Tryd.f16) [1, 1, 1, 0, 1, 0] (endK (g mpRead mqRead mpBase mpTimes mqBase mqTimes) an Tryd.f16 [] κ)) (nmOf 0 (an.loop 7)) N (s_L7 4 (b1.set 31 0)))) := by kernel_rfl
theorem eq (mpRead : pRead.Ty) (mqRead : qRead.Ty) (mpBase : pBase.Ty) (mpTimes : pTimes.Ty) (mqBase : qBase.Ty) (mqTimes : qTimes.Ty) {R : Type} (N : Nat) (κ : AV → List Blk → Option R) (b1 : List Int) : evF (g mpRead mqRead mpBase mpTimes mqBase mqTimes) an N Tryd.f16 [AV.ints IntKind.u8 32 b1] [] κ =
  m mpRead mqRead mpBase mpTimes mqBase mqTimes N b1 (fun v v_1 v_2 v_3 v_4 v_5 v_6 => κ (AV.tup [AV.agg [AV.agg [AV.ints IntKind.u64 10 v], AV.agg [AV.ints IntKind.u64 10 v_1], AV.agg [AV.ints IntKind.u64 10 v_2], AV.agg [AV.ints IntKind.u64 10 v_3]], AV.agg [AV.ints IntKind.u32 8 v_4, AV.ints IntKind.u32 8 v_5, AV.ints IntKind.u32 8 v_6]]) []) := by
  rw [tree]
  simp only [run_L7]
  kernel_rfl
abbrev Ty : Type 1 := ∀ R : Type, (List Int) → ((List Int) → (List Int) → (List Int) → (List Int) → (List Int) → (List Int) → (List Int) → Option R) → Option R
def con (f : Ty) : Con := fun R args bs κ => match args, bs with
  | [AV.ints IntKind.u8 32 b1], [] => f R b1 (fun v v_1 v_2 v_3 v_4 v_5 v_6 => κ (AV.tup [AV.agg [AV.agg [AV.ints IntKind.u64 10 v], AV.agg [AV.ints IntKind.u64 10 v_1], AV.agg [AV.ints IntKind.u64 10 v_2], AV.agg [AV.ints IntKind.u64 10 v_3]], AV.agg [AV.ints IntKind.u32 8 v_4, AV.ints IntKind.u32 8 v_5, AV.ints IntKind.u32 8 v_6]]) [])
  | _, _ => none
theorem con_eq (f : Ty) (R : Type) (κ : AV → List Blk → Option R) (b1 : List Int) : con f R [AV.ints IntKind.u8 32 b1] [] κ = f R b1 (fun v v_1 v_2 v_3 v_4 v_5 v_6 => κ (AV.tup [AV.agg [AV.agg [AV.ints IntKind.u64 10 v], AV.agg [AV.ints IntKind.u64 10 v_1], AV.agg [AV.ints IntKind.u64 10 v_2], AV.agg [AV.ints IntKind.u64 10 v_3]], AV.agg [AV.ints IntKind.u32 8 v_4, AV.ints IntKind.u32 8 v_5, AV.ints IntKind.u32 8 v_6]]) []) := rfl
noncomputable def M (N : Nat) : Ty := fun R b1 kr0 => m (pRead.M N) (qRead.M N) (pBase.M N) (pTimes.M N) (qBase.M N) (qTimes.M N) (R := R) N b1 kr0
def gts : List (Nat × AV) := [(0, .err 4), (19, .ints .u64 10 [134216512, 134217726, 134217726, 134217726, 134217726, 134217726, 134217726, 134217726, 134217726, 134217726]), (20, .ints .u64 10 [34513072, 59165138, 38243406, 1750207, 53429016, 58652137, 13633939, 58469549, 8409025, 712905])]
theorem gok (N : Nat) : GOk (g (pRead.M N) (qRead.M N) (pBase.M N) (pTimes.M N) (qBase.M N) (qTimes.M N)) := giD_ok hm (by intro p hp; cases hp) (gtL_ok (by decide)) (ovL_ok (by
    intro p hp
    simp only [List.mem_cons, List.not_mem_nil, or_false] at hp
    rcases hp with rfl | rfl | rfl | rfl | rfl | rfl
    · exact ⟨(pRead.ok N).gt (gtL_sub (by repeat (first | exact subG_nil _ | refine subG_cons (by kernel_rfl) ?_))) (gtL_ok (by decide)), _, Tryd.func9, by kernel_rfl, by kernel_rfl⟩
    · exact ⟨(qRead.ok N).gt (gtL_sub (by repeat (first | exact subG_nil _ | refine subG_cons (by kernel_rfl) ?_))) (gtL_ok (by decide)), _, Tryd.func10, by kernel_rfl, by kernel_rfl⟩
    · exact ⟨(pBase.ok N).gt (gtL_sub (by repeat (first | exact subG_nil _ | refine subG_cons (by kernel_rfl) ?_))) (gtL_ok (by decide)), _, Tryd.func22, by kernel_rfl, by kernel_rfl⟩
    · exact ⟨(pTimes.ok N).gt (gtL_sub (by repeat (first | exact subG_nil _ | refine subG_cons (by kernel_rfl) ?_))) (gtL_ok (by decide)), _, Tryd.func17, by kernel_rfl, by kernel_rfl⟩
    · exact ⟨(qBase.ok N).gt (gtL_sub (by repeat (first | exact subG_nil _ | refine subG_cons (by kernel_rfl) ?_))) (gtL_ok (by decide)), _, Tryd.func53, by kernel_rfl, by kernel_rfl⟩
    · exact ⟨(qTimes.ok N).gt (gtL_sub (by repeat (first | exact subG_nil _ | refine subG_cons (by kernel_rfl) ?_))) (gtL_ok (by decide)), _, Tryd.func18, by kernel_rfl, by kernel_rfl⟩
)) 1
theorem ok (N : Nat) : SoundC Tryd.prog (gtL gts) 16 (con (M N)) := by
  refine SoundC.mono (evF_ok (gok N) hm an N Tryd.func16) fun R args bs κ r h => ?_
  unfold con at h
  split at h
  · exact (eq (pRead.M N) (qRead.M N) (pBase.M N) (pTimes.M N) (qBase.M N) (qTimes.M N) N κ _).trans h
  · cases h
end some12

end Go.Proofs.YtjaappocnonkbaaDoor.fn
