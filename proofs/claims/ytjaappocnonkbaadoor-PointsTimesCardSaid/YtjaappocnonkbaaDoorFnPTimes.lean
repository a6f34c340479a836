/- What a law of points computes, with the proof; printed by a program. -/
import Derived.Test.YtjaappocnonkbaaDoorProg
import Derived.Test.YtjaappocnonkbaaDoorEv4
import Derived.Test.YtjaappocnonkbaaDoorFnPointsL
namespace Go.Proofs.YtjaappocnonkbaaDoor.fn
open Go Go.Proofs Go.Ev

/-! ### Tryd.f4: PointsTimes -/
namespace PointsTimes
def an : Anns := ⟨fun i => findA i [], fun i => findA i [], false, fun _ => none⟩
noncomputable def g (malive12 : alive12.Ty) (msome12 : some12.Ty) (mpTimes : pTimes.Ty) (mpBytes : pBytes.Ty) (mqTimes : qTimes.Ty) (mqBytes : qBytes.Ty) : Gi := giD Tryd.prog (gtL [(0, .err 4), (19, .ints .u64 10 [134216512, 134217726, 134217726, 134217726, 134217726, 134217726, 134217726, 134217726, 134217726, 134217726]), (20, .ints .u64 10 [34513072, 59165138, 38243406, 1750207, 53429016, 58652137, 13633939, 58469549, 8409025, 712905])]) (fun _ => an) 0 [] (ovL [(8, alive12.con malive12), (16, some12.con msome12), (17, pTimes.con mpTimes), (12, pBytes.con mpBytes), (18, qTimes.con mqTimes), (13, qBytes.con mqBytes)]) 1
noncomputable def m (malive12 : alive12.Ty) (msome12 : some12.Ty) (mpTimes : pTimes.Ty) (mpBytes : pBytes.Ty) (mqTimes : qTimes.Ty) (mqBytes : qBytes.Ty) {R : Type} (_N : Nat) (a1 : List Int) (s2 : List Int) (kr0 : Bool → Option R) : Option R :=
  malive12 R
   (fun v_c18 => cond (!v_c18)
    (kr0 false)
    (msome12 R a1
     (fun v_c19 v_1_c20 v_2_c21 v_3_c22 v_4_c23 v_5_c24 v_6_c25 => mpTimes R v_c19 v_1_c20 v_2_c21 v_3_c22 s2
      (fun v_c26 v_1_c27 v_2_c28 v_3_c29 => mpBytes R v_c26 v_1_c27 v_2_c28 v_3_c29
       (fun v_c30 => mqTimes R v_4_c23 v_5_c24 v_6_c25 s2
        (fun v_c31 v_1_c32 v_2_c33 => mqBytes R v_c31 v_1_c32 v_2_c33
         (fun v_c34 => kr0 (v_c30 == v_c34))))))))
theorem tree (malive12 : alive12.Ty) (msome12 : some12.Ty) (mpTimes : pTimes.Ty) (mpBytes : pBytes.Ty) (mqTimes : qTimes.Ty) (mqBytes : qBytes.Ty) {R : Type} (N : Nat) (κ : AV → List Blk → Option R) (a1 : List Int) (s2 : List Int) : evF (g malive12 msome12 mpTimes mpBytes mqTimes mqBytes) an N Tryd.f4 [AV.ints IntKind.u8 32 a1, AV.ints IntKind.u8 32 s2] [] κ =
  malive12 R
   (fun v_c18 => cond (!v_c18)
    (κ (AV.bool false) [])
    (msome12 R a1
     (fun v_c19 v_1_c20 v_2_c21 v_3_c22 v_4_c23 v_5_c24 v_6_c25 => mpTimes R v_c19 v_1_c20 v_2_c21 v_3_c22 s2
      (fun v_c26 v_1_c27 v_2_c28 v_3_c29 => mpBytes R v_c26 v_1_c27 v_2_c28 v_3_c29
       (fun v_c30 => mqTimes R v_4_c23 v_5_c24 v_6_c25 s2
        (fun v_c31 v_1_c32 v_2_c33 => mqBytes R v_c31 v_1_c32 v_2_c33
         (fun v_c34 => κ (AV.bool (v_c30 == v_c34)) []))))))) := by kernel_rfl
theorem eq (malive12 : alive12.Ty) (msome12 : some12.Ty) (mpTimes : pTimes.Ty) (mpBytes : pBytes.Ty) (mqTimes : qTimes.Ty) (mqBytes : qBytes.Ty) {R : Type} (N : Nat) (κ : AV → List Blk → Option R) (a1 : List Int) (s2 : List Int) : evF (g malive12 msome12 mpTimes mpBytes mqTimes mqBytes) an N Tryd.f4 [AV.ints IntKind.u8 32 a1, AV.ints IntKind.u8 32 s2] [] κ =
  m malive12 msome12 mpTimes mpBytes mqTimes mqBytes N a1 s2 (fun v => κ (AV.bool v) []) := by
  rw [tree]
  kernel_rfl
abbrev Ty : Type 1 := ∀ R : Type, (List Int) → (List Int) → (Bool → Option R) → Option R
def con (f : Ty) : Con := fun R args bs κ => match args, bs with
  | [AV.ints IntKind.u8 32 a1, AV.ints IntKind.u8 32 s2], [] => f R a1 s2 (fun v => κ (AV.bool v) [])
  | _, _ => none
theorem con_eq (f : Ty) (R : Type) (κ : AV → List Blk → Option R) (a1 : List Int) (s2 : List Int) : con f R [AV.ints IntKind.u8 32 a1, AV.ints IntKind.u8 32 s2] [] κ = f R a1 s2 (fun v => κ (AV.bool v) []) := rfl
noncomputable def M (N : Nat) : Ty := fun R a1 s2 kr0 => m (alive12.M N) (some12.M N) (pTimes.M N) (pBytes.M N) (qTimes.M N) (qBytes.M N) (R := R) N a1 s2 kr0
def gts : List (Nat × AV) := [(0, .err 4), (19, .ints .u64 10 [134216512, 134217726, 134217726, 134217726, 134217726, 134217726, 134217726, 134217726, 134217726, 134217726]), (20, .ints .u64 10 [34513072, 59165138, 38243406, 1750207, 53429016, 58652137, 13633939, 58469549, 8409025, 712905])]
theorem gok (N : Nat) : GOk (g (alive12.M N) (some12.M N) (pTimes.M N) (pBytes.M N) (qTimes.M N) (qBytes.M N)) := giD_ok hm (by intro p hp; cases hp) (gtL_ok (by decide)) (ovL_ok (by
    intro p hp
    simp only [List.mem_cons, List.not_mem_nil, or_false] at hp
    rcases hp with rfl | rfl | rfl | rfl | rfl | rfl
    · exact ⟨(alive12.ok N).gt (gtL_sub (by repeat (first | exact subG_nil _ | refine subG_cons (by kernel_rfl) ?_))) (gtL_ok (by decide)), _, Tryd.func8, by kernel_rfl, by kernel_rfl⟩
    · exact ⟨(some12.ok N).gt (gtL_sub (by repeat (first | exact subG_nil _ | refine subG_cons (by kernel_rfl) ?_))) (gtL_ok (by decide)), _, Tryd.func16, by kernel_rfl, by kernel_rfl⟩
    · exact ⟨(pTimes.ok N).gt (gtL_sub (by repeat (first | exact subG_nil _ | refine subG_cons (by kernel_rfl) ?_))) (gtL_ok (by decide)), _, Tryd.func17, by kernel_rfl, by kernel_rfl⟩
    · exact ⟨(pBytes.ok N).gt (gtL_sub (by repeat (first | exact subG_nil _ | refine subG_cons (by kernel_rfl) ?_))) (gtL_ok (by decide)), _, Tryd.func12, by kernel_rfl, by kernel_rfl⟩
    · exact ⟨(qTimes.ok N).gt (gtL_sub (by repeat (first | exact subG_nil _ | refine subG_cons (by kernel_rfl) ?_))) (gtL_ok (by decide)), _, Tryd.func18, by kernel_rfl, by kernel_rfl⟩
    · exact ⟨(qBytes.ok N).gt (gtL_sub (by repeat (first | exact subG_nil _ | refine subG_cons (by kernel_rfl) ?_))) (gtL_ok (by decide)), _, Tryd.func13, by kernel_rfl, by kernel_rfl⟩
)) 1
theorem ok (N : Nat) : SoundC Tryd.prog (gtL gts) 4 (con (M N)) := by
  refine SoundC.mono (evF_ok (gok N) hm an N Tryd.func4) fun R args bs κ r h => ?_
  unfold con at h
  split at h
  · exact (eq (alive12.M N) (some12.M N) (pTimes.M N) (pBytes.M N) (qTimes.M N) (qBytes.M N) N κ _ _).trans h
  · cases h
end PointsTimes

end Go.Proofs.YtjaappocnonkbaaDoor.fn
