/- What a law of rows of texts computes, with the proof; printed by a program. -/
import Derived.Test.YtbliikcgcgalmaaDoorProg
import Derived.Test.YtbliikcgcgalmaaDoorEv4
import Derived.Test.YtbliikcgcgalmaaDoorFnWireL
namespace Go.Proofs.YtbliikcgcgalmaaDoor.fn
open Go Go.Proofs Go.Ev

/-! ### Tryd.f7: WireRows -/
namespace WireRows
def an : Anns := ⟨fun i => findA i [(6, ⟨[0, 19, 20, 21], [], 0, []⟩)], fun i => findA i [], false, fun _ => none, []⟩
noncomputable def g (malive16 : alive16.Ty) (mwRow : wRow.Ty) (mrRow : rRow.Ty) (mNum : Num.Ty) (mwUnrow : wUnrow.Ty) (mwExactly : wExactly.Ty) (mSameLists : SameLists.Ty) : Gi := giD Tryd.prog (gtL [(0, .err 3), (1, .err 4), (2, .err 2), (3, .err 1), (4, .err 5), (5, .err 6), (6, .err 7), (7, .err 8), (8, .err 9), (9, .err 10), (10, .err 11), (11, .err 12), (12, .err 13), (13, .err 14), (14, .err 15), (15, .err 16), (16, .err 17), (17, .err 18), (18, .err 19)]) (fun _ => an) 0 [] (ovL [(10, alive16.con malive16), (11, wRow.con mwRow), (27, rRow.con mrRow), (19, Num.con mNum), (14, wUnrow.con mwUnrow), (13, wExactly.con mwExactly), (12, SameLists.con mSameLists)]) 1
noncomputable def c_L6 : Code := loopOf Tryd.f7 0
def s_L6 (texts0 : List (List Int)) (t19 : List (List Int)) (t20 : Int) (t21 : Int) : St := ⟨[AV.rsl IntKind.u8 texts0] ++ List.replicate 18 .dead ++ [AV.rsl IntKind.u8 t19, AV.int IntKind.i64 t20, AV.int IntKind.i64 t21] ++ List.replicate 71 .dead, []⟩
def x_L6_0 (texts0 : List (List Int)) (t19 : List (List Int)) (t20 : Int) (t21 : Int) : St := ⟨[AV.rsl IntKind.u8 texts0, AV.dead, AV.bool true, AV.dead, AV.isl IntKind.u8 none (t19.getD t21.toNat [])] ++ List.replicate 14 .dead ++ [AV.rsl IntKind.u8 t19, AV.int IntKind.i64 t20, AV.int IntKind.i64 t21, AV.bool (decide (t21 < t20)), AV.rps IntKind.u8 (t19.getD t21.toNat []), AV.isl IntKind.u8 none (t19.getD t21.toNat []), AV.isl IntKind.u8 none (t19.getD t21.toNat []), AV.int IntKind.i64 (↑(t19.getD t21.toNat []).length : Int), AV.bool (decide ((↑(t19.getD t21.toNat []).length : Int) > 300))] ++ List.replicate 65 .dead, []⟩
def x_L6_1 (texts0 : List (List Int)) (t19 : List (List Int)) (t20 : Int) (t21 : Int) : St := ⟨[AV.rsl IntKind.u8 texts0] ++ List.replicate 18 .dead ++ [AV.rsl IntKind.u8 t19, AV.int IntKind.i64 t20, AV.int IntKind.i64 t21, AV.bool (decide (t21 < t20))] ++ List.replicate 70 .dead, []⟩
noncomputable def L6 (malive16 : alive16.Ty) (mwRow : wRow.Ty) (mrRow : rRow.Ty) (mNum : Num.Ty) (mwUnrow : wUnrow.Ty) (mwExactly : wExactly.Ty) (mSameLists : SameLists.Ty) {R : Type} (N : Nat) (ke0 : (List (List Int)) → (List (List Int)) → Int → Int → Option R) (ke1 : (List (List Int)) → (List (List Int)) → Int → Int → Option R) : Nat → (List (List Int)) → (List (List Int)) → Int → Int → Option R
  | 0, _, _, _, _ => none
  | m + 1, texts0, t19, t20, t21 =>
    cond (decide (t21 < t20))
     (cond (decide (0 ≤ t21))
      (cond (decide (t21 < (↑t19.length : Int)))
       (cond (decide ((↑(t19.getD t21.toNat []).length : Int) > 300))
        (ke0 texts0 t19 t20 t21)
        (L6 malive16 mwRow mrRow mNum mwUnrow mwExactly mSameLists N ke0 ke1 m texts0 t19 t20 (IntKind.i64.wrap (t21 + 1))))
       (none))
      (none))
     (ke1 texts0 t19 t20 t21)
theorem round_L6 (malive16 : alive16.Ty) (mwRow : wRow.Ty) (mrRow : rRow.Ty) (mNum : Num.Ty) (mwUnrow : wUnrow.Ty) (mwExactly : wExactly.Ty) (mSameLists : SameLists.Ty) {R : Type} (N : Nat) (Rn : St → Option R) (k : K R) (texts0 : List (List Int)) (t19 : List (List Int)) (t20 : Int) (t21 : Int) : evC (g malive16 mwRow mrRow mNum mwUnrow mwExactly mSameLists) an 0 N c_L6 none (roundK (nmOf 0 (an.loop 6)) Rn k) (s_L6 texts0 t19 t20 t21) =
  cond (decide (t21 < t20))
   (cond (decide (0 ≤ t21))
    (cond (decide (t21 < (↑t19.length : Int)))
     (cond (decide ((↑(t19.getD t21.toNat []).length : Int) > 300))
      (k.ret (x_L6_0 texts0 t19 t20 t21))
      (Rn (s_L6 texts0 t19 t20 (IntKind.i64.wrap (t21 + 1)))))
     (none))
    (none))
   (k.ext 0 (x_L6_1 texts0 t19 t20 t21)) := by kernel_rfl
theorem run_L6 (malive16 : alive16.Ty) (mwRow : wRow.Ty) (mrRow : rRow.Ty) (mNum : Num.Ty) (mwUnrow : wUnrow.Ty) (mwExactly : wExactly.Ty) (mSameLists : SameLists.Ty) {R : Type} (N : Nat) (k : K R) : ∀ (m : Nat) (texts0 : List (List Int)) (t19 : List (List Int)) (t20 : Int) (t21 : Int), loopN (evC (g malive16 mwRow mrRow mNum mwUnrow mwExactly mSameLists) an 0 N c_L6 none) k (nmOf 0 (an.loop 6)) m (s_L6 texts0 t19 t20 t21) =
    L6 malive16 mwRow mrRow mNum mwUnrow mwExactly mSameLists N (fun texts0 t19 t20 t21 => (k).ret (x_L6_0 texts0 t19 t20 t21)) (fun texts0 t19 t20 t21 => (k).ext 0 (x_L6_1 texts0 t19 t20 t21)) m texts0 t19 t20 t21 := by
  intro m
  induction m with
  | zero => intros; rfl
  | succ m ih =>
    intros
    rw [loopN_succ, round_L6]
    simp only [ih]
    kernel_rfl
noncomputable def m (malive16 : alive16.Ty) (mwRow : wRow.Ty) (mrRow : rRow.Ty) (mNum : Num.Ty) (mwUnrow : wUnrow.Ty) (mwExactly : wExactly.Ty) (mSameLists : SameLists.Ty) {R : Type} (N : Nat) (texts1 : List (List Int)) (kr0 : Bool → Option R) : Option R :=
  malive16 R
   (fun v_c3 => cond (!v_c3)
    (kr0 false)
    (cond (decide ((↑texts1.length : Int) > 300))
     (kr0 true)
     (L6 malive16 mwRow mrRow mNum mwUnrow mwExactly mSameLists N
      (fun _texts0_c4 _t19_c5 _t20_c6 _t21_c7 => kr0 true)
      (fun texts0_c8 _t19_c9 _t20_c10 _t21_c11 => mwRow R texts0_c8
       (fun v_c12 v_1_c13 v_2_c14 => mrRow R texts0_c8
        (fun _v_c15 v_1_c16 v_2_c17 => cond (!toStr v_1_c13 == toStr v_1_c16)
         (kr0 false)
         (mNum R v_2_c14
          (fun v_c18 => cond (v_c18 != v_2_c17)
           (kr0 false)
           (cond (v_2_c17 != 0)
            (kr0 true)
            (mwUnrow R v_c12 v_1_c13
             (fun v_c19 v_1_c20 => mwExactly R v_c12 v_1_c13 ((↑texts0_c8.length : Int))
              (fun v_c21 v_1_c22 => mwExactly R v_c12 v_1_c13 (IntKind.i64.wrap ((↑texts0_c8.length : Int) + 1))
               (fun _v_c23 v_1_c24 => cond (v_1_c20.beq 0)
                (cond (v_1_c22.beq 0)
                 (mSameLists R v_c19 texts0_c8
                  (fun v_c25 => cond v_c25
                   (mSameLists R v_c21 texts0_c8
                    (fun v_c26 => cond v_c26
                     (mNum R v_1_c24
                      (fun v_c27 => kr0 (v_c27 == 4)))
                     (kr0 false)))
                   (kr0 false)))
                 (kr0 false))
                (kr0 false))))))))))) N texts1 texts1 ((↑texts1.length : Int)) 0)))
theorem tree (malive16 : alive16.Ty) (mwRow : wRow.Ty) (mrRow : rRow.Ty) (mNum : Num.Ty) (mwUnrow : wUnrow.Ty) (mwExactly : wExactly.Ty) (mSameLists : SameLists.Ty) {R : Type} (N : Nat) (κ : AV → List Blk → Option R) (texts1 : List (List Int)) : evF (g malive16 mwRow mrRow mNum mwUnrow mwExactly mSameLists) an N Tryd.f7 [AV.rsl IntKind.u8 texts1] [] κ =
  malive16 R
   (fun v_c3 => cond (!v_c3)
    (κ (AV.bool false) [])
    (cond (decide ((↑texts1.length : Int) > 300))
     (κ (AV.bool true) [])
     (loopN (evC (g malive16 mwRow mrRow mNum mwUnrow mwExactly mSameLists) an 0 N c_L6 none) (ctx (g malive16 mwRow mrRow mNum mwUnrow mwExactly mSameLists) an 0 N (bodyOf Tryd.f7) [1, 1, 1, 0, 1, 0] (endK (g malive16 mwRow mrRow mNum mwUnrow mwExactly mSameLists) an Tryd.f7 [] κ)) (nmOf 0 (an.loop 6)) N (s_L6 texts1 texts1 ((↑texts1.length : Int)) 0)))) := by kernel_rfl
theorem eq (malive16 : alive16.Ty) (mwRow : wRow.Ty) (mrRow : rRow.Ty) (mNum : Num.Ty) (mwUnrow : wUnrow.Ty) (mwExactly : wExactly.Ty) (mSameLists : SameLists.Ty) {R : Type} (N : Nat) (κ : AV → List Blk → Option R) (texts1 : List (List Int)) : evF (g malive16 mwRow mrRow mNum mwUnrow mwExactly mSameLists) an N Tryd.f7 [AV.rsl IntKind.u8 texts1] [] κ =
  m malive16 mwRow mrRow mNum mwUnrow mwExactly mSameLists N texts1 (fun v => κ (AV.bool v) []) := by
  rw [tree]
  simp only [run_L6]
  kernel_rfl
abbrev Ty : Type 1 := ∀ R : Type, (List (List Int)) → (Bool → Option R) → Option R
def con (f : Ty) : Con := fun R args bs κ => match args, bs with
  | [AV.rsl IntKind.u8 texts1], [] => f R texts1 (fun v => κ (AV.bool v) [])
  | _, _ => none
theorem con_eq (f : Ty) (R : Type) (κ : AV → List Blk → Option R) (texts1 : List (List Int)) : con f R [AV.rsl IntKind.u8 texts1] [] κ = f R texts1 (fun v => κ (AV.bool v) []) := rfl
noncomputable def M (N : Nat) : Ty := fun R texts1 kr0 => m (alive16.M N) (wRow.M N) (rRow.M N) (Num.M N) (wUnrow.M N) (wExactly.M N) (SameLists.M N) (R := R) N texts1 kr0
def gts : List (Nat × AV) := [(0, .err 3), (1, .err 4), (2, .err 2), (3, .err 1), (4, .err 5), (5, .err 6), (6, .err 7), (7, .err 8), (8, .err 9), (9, .err 10), (10, .err 11), (11, .err 12), (12, .err 13), (13, .err 14), (14, .err 15), (15, .err 16), (16, .err 17), (17, .err 18), (18, .err 19)]
theorem gok (N : Nat) : GOk (g (alive16.M N) (wRow.M N) (rRow.M N) (Num.M N) (wUnrow.M N) (wExactly.M N) (SameLists.M N)) := giD_ok hm (by intro p hp; cases hp) (gtL_ok (by decide)) (ovL_ok (by
    intro p hp
    simp only [List.mem_cons, List.not_mem_nil, or_false] at hp
    rcases hp with rfl | rfl | rfl | rfl | rfl | rfl | rfl
    · exact ⟨(alive16.ok N).gt (gtL_sub (by repeat (first | exact subG_nil _ | refine subG_cons (by kernel_rfl) ?_))) (gtL_ok (by decide)), _, Tryd.func10, by kernel_rfl, by kernel_rfl⟩
    · exact ⟨(wRow.ok N).gt (gtL_sub (by repeat (first | exact subG_nil _ | refine subG_cons (by kernel_rfl) ?_))) (gtL_ok (by decide)), _, Tryd.func11, by kernel_rfl, by kernel_rfl⟩
    · exact ⟨(rRow.ok N).gt (gtL_sub (by repeat (first | exact subG_nil _ | refine subG_cons (by kernel_rfl) ?_))) (gtL_ok (by decide)), _, Tryd.func27, by kernel_rfl, by kernel_rfl⟩
    · exact ⟨(Num.ok N).gt (gtL_sub (by repeat (first | exact subG_nil _ | refine subG_cons (by kernel_rfl) ?_))) (gtL_ok (by decide)), _, Tryd.func19, by kernel_rfl, by kernel_rfl⟩
    · exact ⟨(wUnrow.ok N).gt (gtL_sub (by repeat (first | exact subG_nil _ | refine subG_cons (by kernel_rfl) ?_))) (gtL_ok (by decide)), _, Tryd.func14, by kernel_rfl, by kernel_rfl⟩
    · exact ⟨(wExactly.ok N).gt (gtL_sub (by repeat (first | exact subG_nil _ | refine subG_cons (by kernel_rfl) ?_))) (gtL_ok (by decide)), _, Tryd.func13, by kernel_rfl, by kernel_rfl⟩
    · exact ⟨(SameLists.ok N).gt (gtL_sub (by repeat (first | exact subG_nil _ | refine subG_cons (by kernel_rfl) ?_))) (gtL_ok (by decide)), _, Tryd.func12, by kernel_rfl, by kernel_rfl⟩
)) 1
theorem ok (N : Nat) : SoundC Tryd.prog (gtL gts) 7 (con (M N)) := by
  refine SoundC.mono (evF_ok (gok N) hm an N Tryd.func7) fun R args bs κ r h => ?_
  unfold con at h
  split at h
  · exact (eq (alive16.M N) (wRow.M N) (rRow.M N) (Num.M N) (wUnrow.M N) (wExactly.M N) (SameLists.M N) N κ _).trans h
  · cases h
end WireRows

end Go.Proofs.YtbliikcgcgalmaaDoor.fn
