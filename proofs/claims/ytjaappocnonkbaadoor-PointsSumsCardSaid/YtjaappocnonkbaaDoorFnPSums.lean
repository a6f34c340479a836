/- What a law of points computes, with the proof; printed by a program. -/
import Derived.Test.YtjaappocnonkbaaDoorProg
import Derived.Test.YtjaappocnonkbaaDoorEv4
import Derived.Test.YtjaappocnonkbaaDoorFnPointsL
namespace Go.Proofs.YtjaappocnonkbaaDoor.fn
open Go Go.Proofs Go.Ev

/-! ### Tryd.f6: PointsSums -/
namespace PointsSums
def an : Anns := ⟨fun i => findA i [], fun i => findA i [], false, fun _ => none⟩
noncomputable def g (malive12 : alive12.Ty) (msome12 : some12.Ty) (mpAdd : pAdd.Ty) (mpBytes : pBytes.Ty) (mqAdd : qAdd.Ty) (mqBytes : qBytes.Ty) (mpNegate : pNegate.Ty) (mqNegate : qNegate.Ty) (mpSame : pSame.Ty) (mpZero : pZero.Ty) : Gi := giD Tryd.prog (gtL [(0, .err 4), (19, .ints .u64 10 [134216512, 134217726, 134217726, 134217726, 134217726, 134217726, 134217726, 134217726, 134217726, 134217726]), (20, .ints .u64 10 [34513072, 59165138, 38243406, 1750207, 53429016, 58652137, 13633939, 58469549, 8409025, 712905])]) (fun _ => an) 0 [] (ovL [(8, alive12.con malive12), (16, some12.con msome12), (19, pAdd.con mpAdd), (12, pBytes.con mpBytes), (24, qAdd.con mqAdd), (13, qBytes.con mqBytes), (14, pNegate.con mpNegate), (25, qNegate.con mqNegate), (15, pSame.con mpSame), (20, pZero.con mpZero)]) 1
noncomputable def m (malive12 : alive12.Ty) (msome12 : some12.Ty) (mpAdd : pAdd.Ty) (mpBytes : pBytes.Ty) (mqAdd : qAdd.Ty) (mqBytes : qBytes.Ty) (mpNegate : pNegate.Ty) (mqNegate : qNegate.Ty) (mpSame : pSame.Ty) (mpZero : pZero.Ty) {R : Type} (_N : Nat) (a1 : List Int) (b2 : List Int) (kr0 : Bool → Option R) : Option R :=
  malive12 R
   (fun v_c50 => cond (!v_c50)
    (kr0 false)
    (msome12 R a1
     (fun v_c51 v_1_c52 v_2_c53 v_3_c54 v_4_c55 v_5_c56 v_6_c57 => msome12 R b2
      (fun v_c58 v_1_c59 v_2_c60 v_3_c61 v_4_c62 v_5_c63 v_6_c64 => mpAdd R v_c51 v_1_c52 v_2_c53 v_3_c54 v_c58 v_1_c59 v_2_c60 v_3_c61
       (fun v_c65 v_1_c66 v_2_c67 v_3_c68 => mpBytes R v_c65 v_1_c66 v_2_c67 v_3_c68
        (fun v_c69 => mqAdd R v_4_c55 v_5_c56 v_6_c57 v_4_c62 v_5_c63 v_6_c64
         (fun v_c70 v_1_c71 v_2_c72 => mqBytes R v_c70 v_1_c71 v_2_c72
          (fun v_c73 => cond (v_c69 == v_c73)
           (mpNegate R v_c51 v_1_c52 v_2_c53 v_3_c54
            (fun v_c74 v_1_c75 v_2_c76 v_3_c77 => mpBytes R v_c74 v_1_c75 v_2_c76 v_3_c77
             (fun v_c78 => mqNegate R v_4_c55 v_5_c56 v_6_c57
              (fun v_c79 v_1_c80 v_2_c81 => mqBytes R v_c79 v_1_c80 v_2_c81
               (fun v_c82 => cond (v_c78 == v_c82)
                (mpSame R v_c51 v_1_c52 v_2_c53 v_3_c54 v_c58 v_1_c59 v_2_c60 v_3_c61
                 (fun v_c83 => mpBytes R v_c51 v_1_c52 v_2_c53 v_3_c54
                  (fun v_c84 => mpBytes R v_c58 v_1_c59 v_2_c60 v_3_c61
                   (fun v_c85 => cond (v_c83 == (v_c84 == v_c85))
                    (mpNegate R v_c51 v_1_c52 v_2_c53 v_3_c54
                     (fun v_c86 v_1_c87 v_2_c88 v_3_c89 => mpAdd R v_c51 v_1_c52 v_2_c53 v_3_c54 v_c86 v_1_c87 v_2_c88 v_3_c89
                      (fun v_c90 v_1_c91 v_2_c92 v_3_c93 => mpZero R
                       (fun v_c94 v_1_c95 v_2_c96 v_3_c97 => mpSame R v_c90 v_1_c91 v_2_c92 v_3_c93 v_c94 v_1_c95 v_2_c96 v_3_c97
                        (fun v_c98 => kr0 v_c98)))))
                    (kr0 false)))))
                (kr0 false))))))
           (kr0 false)))))))))
theorem tree (malive12 : alive12.Ty) (msome12 : some12.Ty) (mpAdd : pAdd.Ty) (mpBytes : pBytes.Ty) (mqAdd : qAdd.Ty) (mqBytes : qBytes.Ty) (mpNegate : pNegate.Ty) (mqNegate : qNegate.Ty) (mpSame : pSame.Ty) (mpZero : pZero.Ty) {R : Type} (N : Nat) (κ : AV → List Blk → Option R) (a1 : List Int) (b2 : List Int) : evF (g malive12 msome12 mpAdd mpBytes mqAdd mqBytes mpNegate mqNegate mpSame mpZero) an N Tryd.f6 [AV.ints IntKind.u8 32 a1, AV.ints IntKind.u8 32 b2] [] κ =
  malive12 R
   (fun v_c50 => cond (!v_c50)
    (κ (AV.bool false) [])
    (msome12 R a1
     (fun v_c51 v_1_c52 v_2_c53 v_3_c54 v_4_c55 v_5_c56 v_6_c57 => msome12 R b2
      (fun v_c58 v_1_c59 v_2_c60 v_3_c61 v_4_c62 v_5_c63 v_6_c64 => mpAdd R v_c51 v_1_c52 v_2_c53 v_3_c54 v_c58 v_1_c59 v_2_c60 v_3_c61
       (fun v_c65 v_1_c66 v_2_c67 v_3_c68 => mpBytes R v_c65 v_1_c66 v_2_c67 v_3_c68
        (fun v_c69 => mqAdd R v_4_c55 v_5_c56 v_6_c57 v_4_c62 v_5_c63 v_6_c64
         (fun v_c70 v_1_c71 v_2_c72 => mqBytes R v_c70 v_1_c71 v_2_c72
          (fun v_c73 => cond (v_c69 == v_c73)
           (mpNegate R v_c51 v_1_c52 v_2_c53 v_3_c54
            (fun v_c74 v_1_c75 v_2_c76 v_3_c77 => mpBytes R v_c74 v_1_c75 v_2_c76 v_3_c77
             (fun v_c78 => mqNegate R v_4_c55 v_5_c56 v_6_c57
              (fun v_c79 v_1_c80 v_2_c81 => mqBytes R v_c79 v_1_c80 v_2_c81
               (fun v_c82 => cond (v_c78 == v_c82)
                (mpSame R v_c51 v_1_c52 v_2_c53 v_3_c54 v_c58 v_1_c59 v_2_c60 v_3_c61
                 (fun v_c83 => mpBytes R v_c51 v_1_c52 v_2_c53 v_3_c54
                  (fun v_c84 => mpBytes R v_c58 v_1_c59 v_2_c60 v_3_c61
                   (fun v_c85 => cond (v_c83 == (v_c84 == v_c85))
                    (mpNegate R v_c51 v_1_c52 v_2_c53 v_3_c54
                     (fun v_c86 v_1_c87 v_2_c88 v_3_c89 => mpAdd R v_c51 v_1_c52 v_2_c53 v_3_c54 v_c86 v_1_c87 v_2_c88 v_3_c89
                      (fun v_c90 v_1_c91 v_2_c92 v_3_c93 => mpZero R
                       (fun v_c94 v_1_c95 v_2_c96 v_3_c97 => mpSame R v_c90 v_1_c91 v_2_c92 v_3_c93 v_c94 v_1_c95 v_2_c96 v_3_c97
                        (fun v_c98 => κ (AV.bool v_c98) [])))))
                    (κ (AV.bool false) [])))))
                (κ (AV.bool false) []))))))
           (κ (AV.bool false) []))))))))) := by kernel_rfl
theorem eq (malive12 : alive12.Ty) (msome12 : some12.Ty) (mpAdd : pAdd.Ty) (mpBytes : pBytes.Ty) (mqAdd : qAdd.Ty) (mqBytes : qBytes.Ty) (mpNegate : pNegate.Ty) (mqNegate : qNegate.Ty) (mpSame : pSame.Ty) (mpZero : pZero.Ty) {R : Type} (N : Nat) (κ : AV → List Blk → Option R) (a1 : List Int) (b2 : List Int) : evF (g malive12 msome12 mpAdd mpBytes mqAdd mqBytes mpNegate mqNegate mpSame mpZero) an N Tryd.f6 [AV.ints IntKind.u8 32 a1, AV.ints IntKind.u8 32 b2] [] κ =
  m malive12 msome12 mpAdd mpBytes mqAdd mqBytes mpNegate mqNegate mpSame mpZero N a1 b2 (fun v => κ (AV.bool v) []) := by
  rw [tree]
  kernel_rfl
abbrev Ty : Type 1 := ∀ R : Type, (List Int) → (List Int) → (Bool → Option R) → Option R
def con (f : Ty) : Con := fun R args bs κ => match args, bs with
  | [AV.ints IntKind.u8 32 a1, AV.ints IntKind.u8 32 b2], [] => f R a1 b2 (fun v => κ (AV.bool v) [])
  | _, _ => none
theorem con_eq (f : Ty) (R : Type) (κ : AV → List Blk → Option R) (a1 : List Int) (b2 : List Int) : con f R [AV.ints IntKind.u8 32 a1, AV.ints IntKind.u8 32 b2] [] κ = f R a1 b2 (fun v => κ (AV.bool v) []) := rfl
noncomputable def M (N : Nat) : Ty := fun R a1 b2 kr0 => m (alive12.M N) (some12.M N) (pAdd.M N) (pBytes.M N) (qAdd.M N) (qBytes.M N) (pNegate.M N) (qNegate.M N) (pSame.M N) (pZero.M N) (R := R) N a1 b2 kr0
def gts : List (Nat × AV) := [(0, .err 4), (19, .ints .u64 10 [134216512, 134217726, 134217726, 134217726, 134217726, 134217726, 134217726, 134217726, 134217726, 134217726]), (20, .ints .u64 10 [34513072, 59165138, 38243406, 1750207, 53429016, 58652137, 13633939, 58469549, 8409025, 712905])]
theorem gok (N : Nat) : GOk (g (alive12.M N) (some12.M N) (pAdd.M N) (pBytes.M N) (qAdd.M N) (qBytes.M N) (pNegate.M N) (qNegate.M N) (pSame.M N) (pZero.M N)) := giD_ok hm (by intro p hp; cases hp) (gtL_ok (by decide)) (ovL_ok (by
    intro p hp
    simp only [List.mem_cons, List.not_mem_nil, or_false] at hp
    rcases hp with rfl | rfl | rfl | rfl | rfl | rfl | rfl | rfl | rfl | rfl
    · exact ⟨(alive12.ok N).gt (gtL_sub (by repeat (first | exact subG_nil _ | refine subG_cons (by kernel_rfl) ?_))) (gtL_ok (by decide)), _, Tryd.func8, by kernel_rfl, by kernel_rfl⟩
    · exact ⟨(some12.ok N).gt (gtL_sub (by repeat (first | exact subG_nil _ | refine subG_cons (by kernel_rfl) ?_))) (gtL_ok (by decide)), _, Tryd.func16, by kernel_rfl, by kernel_rfl⟩
    · exact ⟨(pAdd.ok N).gt (gtL_sub (by repeat (first | exact subG_nil _ | refine subG_cons (by kernel_rfl) ?_))) (gtL_ok (by decide)), _, Tryd.func19, by kernel_rfl, by kernel_rfl⟩
    · exact ⟨(pBytes.ok N).gt (gtL_sub (by repeat (first | exact subG_nil _ | refine subG_cons (by kernel_rfl) ?_))) (gtL_ok (by decide)), _, Tryd.func12, by kernel_rfl, by kernel_rfl⟩
    · exact ⟨(qAdd.ok N).gt (gtL_sub (by repeat (first | exact subG_nil _ | refine subG_cons (by kernel_rfl) ?_))) (gtL_ok (by decide)), _, Tryd.func24, by kernel_rfl, by kernel_rfl⟩
    · exact ⟨(qBytes.ok N).gt (gtL_sub (by repeat (first | exact subG_nil _ | refine subG_cons (by kernel_rfl) ?_))) (gtL_ok (by decide)), _, Tryd.func13, by kernel_rfl, by kernel_rfl⟩
    · exact ⟨(pNegate.ok N).gt (gtL_sub (by repeat (first | exact subG_nil _ | refine subG_cons (by kernel_rfl) ?_))) (gtL_ok (by decide)), _, Tryd.func14, by kernel_rfl, by kernel_rfl⟩
    · exact ⟨(qNegate.ok N).gt (gtL_sub (by repeat (first | exact subG_nil _ | refine subG_cons (by kernel_rfl) ?_))) (gtL_ok (by decide)), _, Tryd.func25, by kernel_rfl, by kernel_rfl⟩
    · exact ⟨(pSame.ok N).gt (gtL_sub (by repeat (first | exact subG_nil _ | refine subG_cons (by kernel_rfl) ?_))) (gtL_ok (by decide)), _, Tryd.func15, by kernel_rfl, by kernel_rfl⟩
    · exact ⟨(pZero.ok N).gt (gtL_sub (by repeat (first | exact subG_nil _ | refine subG_cons (by kernel_rfl) ?_))) (gtL_ok (by decide)), _, Tryd.func20, by kernel_rfl, by kernel_rfl⟩
)) 1
theorem ok (N : Nat) : SoundC Tryd.prog (gtL gts) 6 (con (M N)) := by
  refine SoundC.mono (evF_ok (gok N) hm an N Tryd.func6) fun R args bs κ r h => ?_
  unfold con at h
  split at h
  · exact (eq (alive12.M N) (some12.M N) (pAdd.M N) (pBytes.M N) (qAdd.M N) (qBytes.M N) (pNegate.M N) (qNegate.M N) (pSame.M N) (pZero.M N) N κ _ _).trans h
  · cases h
end PointsSums

end Go.Proofs.YtjaappocnonkbaaDoor.fn
