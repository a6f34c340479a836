/- What a law of points computes, with the proof; printed by a program. -/
import Derived.Test.YtjaappocnonkbaaDoorProg
import Derived.Test.YtjaappocnonkbaaDoorEv4
import Derived.Test.YtjaappocnonkbaaDoorFnPointsL
namespace Go.Proofs.YtjaappocnonkbaaDoor.fn
open Go Go.Proofs Go.Ev

/-! ### Tryd.f7: PointsWith -/
namespace PointsWith
def an : Anns := ⟨fun i => findA i [], fun i => findA i [], false, fun _ => none⟩
noncomputable def g (malive12 : alive12.Ty) (msome12 : some12.Ty) (mpWith : pWith.Ty) (mpBytes : pBytes.Ty) (mqWith : qWith.Ty) (mqBytes : qBytes.Ty) (mpTimes : pTimes.Ty) (mpBase : pBase.Ty) (mpAdd : pAdd.Ty) (mpSame : pSame.Ty) : Gi := giD Tryd.prog (gtL [(0, .err 4), (19, .ints .u64 10 [134216512, 134217726, 134217726, 134217726, 134217726, 134217726, 134217726, 134217726, 134217726, 134217726]), (20, .ints .u64 10 [34513072, 59165138, 38243406, 1750207, 53429016, 58652137, 13633939, 58469549, 8409025, 712905])]) (fun _ => an) 0 [] (ovL [(8, alive12.con malive12), (16, some12.con msome12), (26, pWith.con mpWith), (12, pBytes.con mpBytes), (27, qWith.con mqWith), (13, qBytes.con mqBytes), (17, pTimes.con mpTimes), (22, pBase.con mpBase), (19, pAdd.con mpAdd), (15, pSame.con mpSame)]) 1
noncomputable def m (malive12 : alive12.Ty) (msome12 : some12.Ty) (mpWith : pWith.Ty) (mpBytes : pBytes.Ty) (mqWith : qWith.Ty) (mqBytes : qBytes.Ty) (mpTimes : pTimes.Ty) (mpBase : pBase.Ty) (mpAdd : pAdd.Ty) (mpSame : pSame.Ty) {R : Type} (_N : Nat) (a1 : List Int) (h2 : List Int) (s3 : List Int) (kr0 : Bool → Option R) : Option R :=
  malive12 R
   (fun v_c35 => cond (!v_c35)
    (kr0 false)
    (msome12 R a1
     (fun v_c36 v_1_c37 v_2_c38 v_3_c39 v_4_c40 v_5_c41 v_6_c42 => mpWith R v_c36 v_1_c37 v_2_c38 v_3_c39 h2 s3
      (fun v_c43 v_1_c44 v_2_c45 v_3_c46 => mpBytes R v_c43 v_1_c44 v_2_c45 v_3_c46
       (fun v_c47 => mqWith R v_4_c40 v_5_c41 v_6_c42 h2 s3
        (fun v_c48 v_1_c49 v_2_c50 => mqBytes R v_c48 v_1_c49 v_2_c50
         (fun v_c51 => cond (v_c47 == v_c51)
          (mpTimes R v_c36 v_1_c37 v_2_c38 v_3_c39 h2
           (fun v_c52 v_1_c53 v_2_c54 v_3_c55 => mpBase R
            (fun v_c56 v_1_c57 v_2_c58 v_3_c59 => mpTimes R v_c56 v_1_c57 v_2_c58 v_3_c59 s3
             (fun v_c60 v_1_c61 v_2_c62 v_3_c63 => mpAdd R v_c52 v_1_c53 v_2_c54 v_3_c55 v_c60 v_1_c61 v_2_c62 v_3_c63
              (fun v_c64 v_1_c65 v_2_c66 v_3_c67 => mpSame R v_c43 v_1_c44 v_2_c45 v_3_c46 v_c64 v_1_c65 v_2_c66 v_3_c67
               (fun v_c68 => kr0 v_c68))))))
          (kr0 false))))))))
theorem tree (malive12 : alive12.Ty) (msome12 : some12.Ty) (mpWith : pWith.Ty) (mpBytes : pBytes.Ty) (mqWith : qWith.Ty) (mqBytes : qBytes.Ty) (mpTimes : pTimes.Ty) (mpBase : pBase.Ty) (mpAdd : pAdd.Ty) (mpSame : pSame.Ty) {R : Type} (N : Nat) (κ : AV → List Blk → Option R) (a1 : List Int) (h2 : List Int) (s3 : List Int) : evF (g malive12 msome12 mpWith mpBytes mqWith mqBytes mpTimes mpBase mpAdd mpSame) an N Tryd.f7 [AV.ints IntKind.u8 32 a1, AV.ints IntKind.u8 32 h2, AV.ints IntKind.u8 32 s3] [] κ =
  malive12 R
   (fun v_c35 => cond (!v_c35)
    (κ (AV.bool false) [])
    (msome12 R a1
     (fun v_c36 v_1_c37 v_2_c38 v_3_c39 v_4_c40 v_5_c41 v_6_c42 => mpWith R v_c36 v_1_c37 v_2_c38 v_3_c39 h2 s3
      (fun v_c43 v_1_c44 v_2_c45 v_3_c46 => mpBytes R v_c43 v_1_c44 v_2_c45 v_3_c46
       (fun v_c47 => mqWith R v_4_c40 v_5_c41 v_6_c42 h2 s3
        (fun v_c48 v_1_c49 v_2_c50 => mqBytes R v_c48 v_1_c49 v_2_c50
         (fun v_c51 => cond (v_c47 == v_c51)
          (mpTimes R v_c36 v_1_c37 v_2_c38 v_3_c39 h2
           (fun v_c52 v_1_c53 v_2_c54 v_3_c55 => mpBase R
            (fun v_c56 v_1_c57 v_2_c58 v_3_c59 => mpTimes R v_c56 v_1_c57 v_2_c58 v_3_c59 s3
             (fun v_c60 v_1_c61 v_2_c62 v_3_c63 => mpAdd R v_c52 v_1_c53 v_2_c54 v_3_c55 v_c60 v_1_c61 v_2_c62 v_3_c63
              (fun v_c64 v_1_c65 v_2_c66 v_3_c67 => mpSame R v_c43 v_1_c44 v_2_c45 v_3_c46 v_c64 v_1_c65 v_2_c66 v_3_c67
               (fun v_c68 => κ (AV.bool v_c68) []))))))
          (κ (AV.bool false) [])))))))) := by kernel_rfl
theorem eq (malive12 : alive12.Ty) (msome12 : some12.Ty) (mpWith : pWith.Ty) (mpBytes : pBytes.Ty) (mqWith : qWith.Ty) (mqBytes : qBytes.Ty) (mpTimes : pTimes.Ty) (mpBase : pBase.Ty) (mpAdd : pAdd.Ty) (mpSame : pSame.Ty) {R : Type} (N : Nat) (κ : AV → List Blk → Option R) (a1 : List Int) (h2 : List Int) (s3 : List Int) : evF (g malive12 msome12 mpWith mpBytes mqWith mqBytes mpTimes mpBase mpAdd mpSame) an N Tryd.f7 [AV.ints IntKind.u8 32 a1, AV.ints IntKind.u8 32 h2, AV.ints IntKind.u8 32 s3] [] κ =
  m malive12 msome12 mpWith mpBytes mqWith mqBytes mpTimes mpBase mpAdd mpSame N a1 h2 s3 (fun v => κ (AV.bool v) []) := by
  rw [tree]
  kernel_rfl
abbrev Ty : Type 1 := ∀ R : Type, (List Int) → (List Int) → (List Int) → (Bool → Option R) → Option R
def con (f : Ty) : Con := fun R args bs κ => match args, bs with
  | [AV.ints IntKind.u8 32 a1, AV.ints IntKind.u8 32 h2, AV.ints IntKind.u8 32 s3], [] => f R a1 h2 s3 (fun v => κ (AV.bool v) [])
  | _, _ => none
theorem con_eq (f : Ty) (R : Type) (κ : AV → List Blk → Option R) (a1 : List Int) (h2 : List Int) (s3 : List Int) : con f R [AV.ints IntKind.u8 32 a1, AV.ints IntKind.u8 32 h2, AV.ints IntKind.u8 32 s3] [] κ = f R a1 h2 s3 (fun v => κ (AV.bool v) []) := rfl
noncomputable def M (N : Nat) : Ty := fun R a1 h2 s3 kr0 => m (alive12.M N) (some12.M N) (pWith.M N) (pBytes.M N) (qWith.M N) (qBytes.M N) (pTimes.M N) (pBase.M N) (pAdd.M N) (pSame.M N) (R := R) N a1 h2 s3 kr0
def gts : List (Nat × AV) := [(0, .err 4), (19, .ints .u64 10 [134216512, 134217726, 134217726, 134217726, 134217726, 134217726, 134217726, 134217726, 134217726, 134217726]), (20, .ints .u64 10 [34513072, 59165138, 38243406, 1750207, 53429016, 58652137, 13633939, 58469549, 8409025, 712905])]
theorem gok (N : Nat) : GOk (g (alive12.M N) (some12.M N) (pWith.M N) (pBytes.M N) (qWith.M N) (qBytes.M N) (pTimes.M N) (pBase.M N) (pAdd.M N) (pSame.M N)) := giD_ok hm (by intro p hp; cases hp) (gtL_ok (by decide)) (ovL_ok (by
    intro p hp
    simp only [List.mem_cons, List.not_mem_nil, or_false] at hp
    rcases hp with rfl | rfl | rfl | rfl | rfl | rfl | rfl | rfl | rfl | rfl
    · exact ⟨(alive12.ok N).gt (gtL_sub (by repeat (first | exact subG_nil _ | refine subG_cons (by kernel_rfl) ?_))) (gtL_ok (by decide)), _, Tryd.func8, by kernel_rfl, by kernel_rfl⟩
    · exact ⟨(some12.ok N).gt (gtL_sub (by repeat (first | exact subG_nil _ | refine subG_cons (by kernel_rfl) ?_))) (gtL_ok (by decide)), _, Tryd.func16, by kernel_rfl, by kernel_rfl⟩
    · exact ⟨(pWith.ok N).gt (gtL_sub (by repeat (first | exact subG_nil _ | refine subG_cons (by kernel_rfl) ?_))) (gtL_ok (by decide)), _, Tryd.func26, by kernel_rfl, by kernel_rfl⟩
    · exact ⟨(pBytes.ok N).gt (gtL_sub (by repeat (first | exact subG_nil _ | refine subG_cons (by kernel_rfl) ?_))) (gtL_ok (by decide)), _, Tryd.func12, by kernel_rfl, by kernel_rfl⟩
    · exact ⟨(qWith.ok N).gt (gtL_sub (by repeat (first | exact subG_nil _ | refine subG_cons (by kernel_rfl) ?_))) (gtL_ok (by decide)), _, Tryd.func27, by kernel_rfl, by kernel_rfl⟩
    · exact ⟨(qBytes.ok N).gt (gtL_sub (by repeat (first | exact subG_nil _ | refine subG_cons (by kernel_rfl) ?_))) (gtL_ok (by decide)), _, Tryd.func13, by kernel_rfl, by kernel_rfl⟩
    · exact ⟨(pTimes.ok N).gt (gtL_sub (by repeat (first | exact subG_nil _ | refine subG_cons (by kernel_rfl) ?_))) (gtL_ok (by decide)), _, Tryd.func17, by kernel_rfl, by kernel_rfl⟩
    · exact ⟨(pBase.ok N).gt (gtL_sub (by repeat (first | exact subG_nil _ | refine subG_cons (by kernel_rfl) ?_))) (gtL_ok (by decide)), _, Tryd.func22, by kernel_rfl, by kernel_rfl⟩
    · exact ⟨(pAdd.ok N).gt (gtL_sub (by repeat (first | exact subG_nil _ | refine subG_cons (by kernel_rfl) ?_))) (gtL_ok (by decide)), _, Tryd.func19, by kernel_rfl, by kernel_rfl⟩
    · exact ⟨(pSame.ok N).gt (gtL_sub (by repeat (first | exact subG_nil _ | refine subG_cons (by kernel_rfl) ?_))) (gtL_ok (by decide)), _, Tryd.func15, by kernel_rfl, by kernel_rfl⟩
)) 1
theorem ok (N : Nat) : SoundC Tryd.prog (gtL gts) 7 (con (M N)) := by
  refine SoundC.mono (evF_ok (gok N) hm an N Tryd.func7) fun R args bs κ r h => ?_
  unfold con at h
  split at h
  · exact (eq (alive12.M N) (some12.M N) (pWith.M N) (pBytes.M N) (qWith.M N) (qBytes.M N) (pTimes.M N) (pBase.M N) (pAdd.M N) (pSame.M N) N κ _ _ _).trans h
  · cases h
end PointsWith

end Go.Proofs.YtjaappocnonkbaaDoor.fn
