/- What a law of points computes, with the proof; printed by a program. -/
import Derived.Test.YtjaappocnonkbaaDoorProg
import Derived.Test.YtjaappocnonkbaaDoorEv4
import Derived.Test.YtjaappocnonkbaaDoorFnPointsL
namespace Go.Proofs.YtjaappocnonkbaaDoor.fn
open Go Go.Proofs Go.Ev

/-! ### Tryd.f3: PointsReads -/
namespace PointsReads
def an : Anns := ⟨fun i => findA i [], fun i => findA i [], false, fun _ => none⟩
noncomputable def g (malive12 : alive12.Ty) (mpRead : pRead.Ty) (mqRead : qRead.Ty) (mNum : Num.Ty) (mpBytes : pBytes.Ty) (mqBytes : qBytes.Ty) (mpNegate : pNegate.Ty) (mpSame : pSame.Ty) : Gi := giD Tryd.prog (gtL [(0, .err 4), (1, .err 1), (2, .err 2), (3, .err 3), (4, .err 5), (5, .err 6), (6, .err 7), (7, .err 8), (8, .err 9), (9, .err 10), (10, .err 11), (11, .err 12), (12, .err 13), (13, .err 14), (14, .err 15), (15, .err 16), (16, .err 17), (17, .err 18), (18, .err 19), (19, .ints .u64 10 [134216512, 134217726, 134217726, 134217726, 134217726, 134217726, 134217726, 134217726, 134217726, 134217726]), (20, .ints .u64 10 [34513072, 59165138, 38243406, 1750207, 53429016, 58652137, 13633939, 58469549, 8409025, 712905])]) (fun _ => an) 0 [] (ovL [(8, alive12.con malive12), (9, pRead.con mpRead), (10, qRead.con mqRead), (11, Num.con mNum), (12, pBytes.con mpBytes), (13, qBytes.con mqBytes), (14, pNegate.con mpNegate), (15, pSame.con mpSame)]) 1
noncomputable def m (malive12 : alive12.Ty) (mpRead : pRead.Ty) (mqRead : qRead.Ty) (mNum : Num.Ty) (mpBytes : pBytes.Ty) (mqBytes : qBytes.Ty) (mpNegate : pNegate.Ty) (mpSame : pSame.Ty) {R : Type} (_N : Nat) (b1 : List Int) (kr0 : Bool → Option R) : Option R :=
  malive12 R
   (fun v_c12 => cond (!v_c12)
    (kr0 false)
    (mpRead R b1
     (fun v_c13 v_1_c14 v_2_c15 v_3_c16 v_4_c17 => mqRead R b1
      (fun v_c18 v_1_c19 v_2_c20 v_3_c21 => mNum R v_4_c17
       (fun v_c22 => cond (v_c22 != v_3_c21)
        (kr0 false)
        (cond (v_3_c21 != 0)
         (kr0 true)
         (mpBytes R v_c13 v_1_c14 v_2_c15 v_3_c16
          (fun v_c23 => cond (v_c23 == b1)
           (mqBytes R v_c18 v_1_c19 v_2_c20
            (fun v_c24 => cond (v_c24 == b1)
             (mpNegate R v_c13 v_1_c14 v_2_c15 v_3_c16
              (fun v_c25 v_1_c26 v_2_c27 v_3_c28 => mpNegate R v_c25 v_1_c26 v_2_c27 v_3_c28
               (fun v_c29 v_1_c30 v_2_c31 v_3_c32 => mpSame R v_c29 v_1_c30 v_2_c31 v_3_c32 v_c13 v_1_c14 v_2_c15 v_3_c16
                (fun v_c33 => kr0 v_c33))))
             (kr0 false)))
           (kr0 false)))))))))
theorem tree (malive12 : alive12.Ty) (mpRead : pRead.Ty) (mqRead : qRead.Ty) (mNum : Num.Ty) (mpBytes : pBytes.Ty) (mqBytes : qBytes.Ty) (mpNegate : pNegate.Ty) (mpSame : pSame.Ty) {R : Type} (N : Nat) (κ : AV → List Blk → Option R) (b1 : List Int) : evF (g malive12 mpRead mqRead mNum mpBytes mqBytes mpNegate mpSame) an N Tryd.f3 [AV.ints IntKind.u8 32 b1] [] κ =
  malive12 R
   (fun v_c12 => cond (!v_c12)
    (κ (AV.bool false) [])
    (mpRead R b1
     (fun v_c13 v_1_c14 v_2_c15 v_3_c16 v_4_c17 => mqRead R b1
      (fun v_c18 v_1_c19 v_2_c20 v_3_c21 => mNum R v_4_c17
       (fun v_c22 => cond (v_c22 != v_3_c21)
        (κ (AV.bool false) [])
        (cond (v_3_c21 != 0)
         (κ (AV.bool true) [])
         (mpBytes R v_c13 v_1_c14 v_2_c15 v_3_c16
          (fun v_c23 => cond (v_c23 == b1)
           (mqBytes R v_c18 v_1_c19 v_2_c20
            (fun v_c24 => cond (v_c24 == b1)
             (mpNegate R v_c13 v_1_c14 v_2_c15 v_3_c16
              (fun v_c25 v_1_c26 v_2_c27 v_3_c28 => mpNegate R v_c25 v_1_c26 v_2_c27 v_3_c28
               (fun v_c29 v_1_c30 v_2_c31 v_3_c32 => mpSame R v_c29 v_1_c30 v_2_c31 v_3_c32 v_c13 v_1_c14 v_2_c15 v_3_c16
                (fun v_c33 => κ (AV.bool v_c33) []))))
             (κ (AV.bool false) [])))
           (κ (AV.bool false) []))))))))) := by kernel_rfl
theorem eq (malive12 : alive12.Ty) (mpRead : pRead.Ty) (mqRead : qRead.Ty) (mNum : Num.Ty) (mpBytes : pBytes.Ty) (mqBytes : qBytes.Ty) (mpNegate : pNegate.Ty) (mpSame : pSame.Ty) {R : Type} (N : Nat) (κ : AV → List Blk → Option R) (b1 : List Int) : evF (g malive12 mpRead mqRead mNum mpBytes mqBytes mpNegate mpSame) an N Tryd.f3 [AV.ints IntKind.u8 32 b1] [] κ =
  m malive12 mpRead mqRead mNum mpBytes mqBytes mpNegate mpSame N b1 (fun v => κ (AV.bool v) []) := by
  rw [tree]
  kernel_rfl
abbrev Ty : Type 1 := ∀ R : Type, (List Int) → (Bool → Option R) → Option R
def con (f : Ty) : Con := fun R args bs κ => match args, bs with
  | [AV.ints IntKind.u8 32 b1], [] => f R b1 (fun v => κ (AV.bool v) [])
  | _, _ => none
theorem con_eq (f : Ty) (R : Type) (κ : AV → List Blk → Option R) (b1 : List Int) : con f R [AV.ints IntKind.u8 32 b1] [] κ = f R b1 (fun v => κ (AV.bool v) []) := rfl
noncomputable def M (N : Nat) : Ty := fun R b1 kr0 => m (alive12.M N) (pRead.M N) (qRead.M N) (Num.M N) (pBytes.M N) (qBytes.M N) (pNegate.M N) (pSame.M N) (R := R) N b1 kr0
def gts : List (Nat × AV) := [(0, .err 4), (1, .err 1), (2, .err 2), (3, .err 3), (4, .err 5), (5, .err 6), (6, .err 7), (7, .err 8), (8, .err 9), (9, .err 10), (10, .err 11), (11, .err 12), (12, .err 13), (13, .err 14), (14, .err 15), (15, .err 16), (16, .err 17), (17, .err 18), (18, .err 19), (19, .ints .u64 10 [134216512, 134217726, 134217726, 134217726, 134217726, 134217726, 134217726, 134217726, 134217726, 134217726]), (20, .ints .u64 10 [34513072, 59165138, 38243406, 1750207, 53429016, 58652137, 13633939, 58469549, 8409025, 712905])]
theorem gok (N : Nat) : GOk (g (alive12.M N) (pRead.M N) (qRead.M N) (Num.M N) (pBytes.M N) (qBytes.M N) (pNegate.M N) (pSame.M N)) := giD_ok hm (by intro p hp; cases hp) (gtL_ok (by decide)) (ovL_ok (by
    intro p hp
    simp only [List.mem_cons, List.not_mem_nil, or_false] at hp
    rcases hp with rfl | rfl | rfl | rfl | rfl | rfl | rfl | rfl
    · exact ⟨(alive12.ok N).gt (gtL_sub (by repeat (first | exact subG_nil _ | refine subG_cons (by kernel_rfl) ?_))) (gtL_ok (by decide)), _, Tryd.func8, by kernel_rfl, by kernel_rfl⟩
    · exact ⟨(pRead.ok N).gt (gtL_sub (by repeat (first | exact subG_nil _ | refine subG_cons (by kernel_rfl) ?_))) (gtL_ok (by decide)), _, Tryd.func9, by kernel_rfl, by kernel_rfl⟩
    · exact ⟨(qRead.ok N).gt (gtL_sub (by repeat (first | exact subG_nil _ | refine subG_cons (by kernel_rfl) ?_))) (gtL_ok (by decide)), _, Tryd.func10, by kernel_rfl, by kernel_rfl⟩
    · exact ⟨(Num.ok N).gt (gtL_sub (by repeat (first | exact subG_nil _ | refine subG_cons (by kernel_rfl) ?_))) (gtL_ok (by decide)), _, Tryd.func11, by kernel_rfl, by kernel_rfl⟩
    · exact ⟨(pBytes.ok N).gt (gtL_sub (by repeat (first | exact subG_nil _ | refine subG_cons (by kernel_rfl) ?_))) (gtL_ok (by decide)), _, Tryd.func12, by kernel_rfl, by kernel_rfl⟩
    · exact ⟨(qBytes.ok N).gt (gtL_sub (by repeat (first | exact subG_nil _ | refine subG_cons (by kernel_rfl) ?_))) (gtL_ok (by decide)), _, Tryd.func13, by kernel_rfl, by kernel_rfl⟩
    · exact ⟨(pNegate.ok N).gt (gtL_sub (by repeat (first | exact subG_nil _ | refine subG_cons (by kernel_rfl) ?_))) (gtL_ok (by decide)), _, Tryd.func14, by kernel_rfl, by kernel_rfl⟩
    · exact ⟨(pSame.ok N).gt (gtL_sub (by repeat (first | exact subG_nil _ | refine subG_cons (by kernel_rfl) ?_))) (gtL_ok (by decide)), _, Tryd.func15, by kernel_rfl, by kernel_rfl⟩
)) 1
theorem ok (N : Nat) : SoundC Tryd.prog (gtL gts) 3 (con (M N)) := by
  refine SoundC.mono (evF_ok (gok N) hm an N Tryd.func3) fun R args bs κ r h => ?_
  unfold con at h
  split at h
  · exact (eq (alive12.M N) (pRead.M N) (qRead.M N) (Num.M N) (pBytes.M N) (qBytes.M N) (pNegate.M N) (pSame.M N) N κ _).trans h
  · cases h
end PointsReads

end Go.Proofs.YtjaappocnonkbaaDoor.fn
