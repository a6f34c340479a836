/- What a law of rows of texts computes, with the proof; printed by a program. -/
import Derived.Test.YtbliikcgcgalmaaDoorProg
import Derived.Test.YtbliikcgcgalmaaDoorEv4
import Derived.Test.YtbliikcgcgalmaaDoorFnWireL
import Derived.Test.YtbliikcgcgalmaaDoorFnWireUn
namespace Go.Proofs.YtbliikcgcgalmaaDoor.fn
open Go Go.Proofs Go.Ev

/-! ### Tryd.f5: WireUnrows -/
namespace WireUnrows
def an : Anns := ⟨fun i => findA i [], fun i => findA i [], false, fun _ => none, []⟩
noncomputable def g (malive16 : alive16.Ty) (mBytes : Bytes.Ty) (mwUnrow2 : wUnrow2.Ty) (mrUnrow : rUnrow.Ty) (mSameLists : SameLists.Ty) (mNum : Num.Ty) (mKept : Kept.Ty) (mwRow : wRow.Ty) : Gi := giW [14, 26] (giD Tryd.prog (gtL [(0, .err 3), (1, .err 4), (2, .err 2), (3, .err 1), (4, .err 5), (5, .err 6), (6, .err 7), (7, .err 8), (8, .err 9), (9, .err 10), (10, .err 11), (11, .err 12), (12, .err 13), (13, .err 14), (14, .err 15), (15, .err 16), (16, .err 17), (17, .err 18), (18, .err 19)]) (fun _ => an) 0 [] (ovL [(10, alive16.con malive16), (24, Bytes.con mBytes), (14, wUnrow2.con mwUnrow2), (25, rUnrow.con mrUnrow), (12, SameLists.con mSameLists), (19, Num.con mNum), (26, Kept.con mKept), (11, wRow.con mwRow)]) 1)
noncomputable def m (malive16 : alive16.Ty) (mBytes : Bytes.Ty) (mwUnrow2 : wUnrow2.Ty) (mrUnrow : rUnrow.Ty) (mSameLists : SameLists.Ty) (mNum : Num.Ty) (mKept : Kept.Ty) (mwRow : wRow.Ty) {R : Type} (_N : Nat) (bN1 : Option Bool) (b2 : List Int) (kr0 : Bool → Option R) : Option R :=
  malive16 R
   (fun v_c2 => cond (!v_c2)
    (kr0 false)
    (cond (decide ((↑b2.length : Int) > 3000))
     (kr0 true)
     (mBytes R bN1 b2
      (fun v_c3 b_c4 => mwUnrow2 R 0 (some v_c3) false b_c4
       (fun v_c5 v_1_c6 b_c7 b_3_c8 => cond (true && false == b_c7 && b_3_c8.length.beq b_c4.length && true)
        (mrUnrow R bN1 b2
         (fun v_c9 v_1_c10 => mSameLists R v_c5 v_c9
          (fun v_c11 => cond (!v_c11)
           (kr0 false)
           (mNum R v_1_c6
            (fun v_c12 => cond (v_c12 != v_1_c10)
             (kr0 false)
             (mKept R 0 (some v_c3) false b_3_c8 bN1 b2
              (fun v_c13 b_c14 b_2_c15 => cond (true && false == b_c14 && b_2_c15.length.beq b_3_c8.length && true)
               (cond (!v_c13)
                (kr0 false)
                (cond (v_1_c10 != 0)
                 (kr0 true)
                 (mwRow R v_c5
                  (fun _v_c16 v_1_c17 v_2_c18 => cond (v_2_c18.beq 0)
                   (kr0 (toStr v_1_c17 == toStr b2))
                   (kr0 false)))))
               (none))))))))
        (none))))))
theorem tree (malive16 : alive16.Ty) (mBytes : Bytes.Ty) (mwUnrow2 : wUnrow2.Ty) (mrUnrow : rUnrow.Ty) (mSameLists : SameLists.Ty) (mNum : Num.Ty) (mKept : Kept.Ty) (mwRow : wRow.Ty) {R : Type} (N : Nat) (κ : AV → List Blk → Option R) (bN1 : Option Bool) (b2 : List Int) : evF (g malive16 mBytes mwUnrow2 mrUnrow mSameLists mNum mKept mwRow) an N Tryd.f5 [AV.isl IntKind.u8 bN1 b2] [] κ =
  malive16 R
   (fun v_c2 => cond (!v_c2)
    (κ (AV.bool false) [])
    (cond (decide ((↑b2.length : Int) > 3000))
     (κ (AV.bool true) [])
     (mBytes R bN1 b2
      (fun v_c3 b_c4 => mwUnrow2 R 0 (some v_c3) false b_c4
       (fun v_c5 v_1_c6 b_c7 b_3_c8 => cond (true && false == b_c7 && b_3_c8.length.beq b_c4.length && true)
        (mrUnrow R bN1 b2
         (fun v_c9 v_1_c10 => mSameLists R v_c5 v_c9
          (fun v_c11 => cond (!v_c11)
           (κ (AV.bool false) [])
           (mNum R v_1_c6
            (fun v_c12 => cond (v_c12 != v_1_c10)
             (κ (AV.bool false) [])
             (mKept R 0 (some v_c3) false b_3_c8 bN1 b2
              (fun v_c13 b_c14 b_2_c15 => cond (true && false == b_c14 && b_2_c15.length.beq b_3_c8.length && true)
               (cond (!v_c13)
                (κ (AV.bool false) [])
                (cond (v_1_c10 != 0)
                 (κ (AV.bool true) [])
                 (mwRow R v_c5
                  (fun _v_c16 v_1_c17 v_2_c18 => cond (v_2_c18.beq 0)
                   (κ (AV.bool (toStr v_1_c17 == toStr b2)) [])
                   (κ (AV.bool false) [])))))
               (none))))))))
        (none)))))) := by kernel_rfl
theorem eq (malive16 : alive16.Ty) (mBytes : Bytes.Ty) (mwUnrow2 : wUnrow2.Ty) (mrUnrow : rUnrow.Ty) (mSameLists : SameLists.Ty) (mNum : Num.Ty) (mKept : Kept.Ty) (mwRow : wRow.Ty) {R : Type} (N : Nat) (κ : AV → List Blk → Option R) (bN1 : Option Bool) (b2 : List Int) : evF (g malive16 mBytes mwUnrow2 mrUnrow mSameLists mNum mKept mwRow) an N Tryd.f5 [AV.isl IntKind.u8 bN1 b2] [] κ =
  m malive16 mBytes mwUnrow2 mrUnrow mSameLists mNum mKept mwRow N bN1 b2 (fun v => κ (AV.bool v) []) := by
  rw [tree]
  kernel_rfl
abbrev Ty : Type 1 := ∀ R : Type, (Option Bool) → (List Int) → (Bool → Option R) → Option R
def con (f : Ty) : Con := fun R args bs κ => match args, bs with
  | [AV.isl IntKind.u8 bN1 b2], [] => f R bN1 b2 (fun v => κ (AV.bool v) [])
  | _, _ => none
theorem con_eq (f : Ty) (R : Type) (κ : AV → List Blk → Option R) (bN1 : Option Bool) (b2 : List Int) : con f R [AV.isl IntKind.u8 bN1 b2] [] κ = f R bN1 b2 (fun v => κ (AV.bool v) []) := rfl
noncomputable def M (N : Nat) : Ty := fun R bN1 b2 kr0 => m (alive16.M N) (Bytes.M N) (wUnrow2.M N) (rUnrow.M N) (SameLists.M N) (Num.M N) (Kept.M N) (wRow.M N) (R := R) N bN1 b2 kr0
def gts : List (Nat × AV) := [(0, .err 3), (1, .err 4), (2, .err 2), (3, .err 1), (4, .err 5), (5, .err 6), (6, .err 7), (7, .err 8), (8, .err 9), (9, .err 10), (10, .err 11), (11, .err 12), (12, .err 13), (13, .err 14), (14, .err 15), (15, .err 16), (16, .err 17), (17, .err 18), (18, .err 19)]
theorem gok (N : Nat) : GOk (g (alive16.M N) (Bytes.M N) (wUnrow2.M N) (rUnrow.M N) (SameLists.M N) (Num.M N) (Kept.M N) (wRow.M N)) := giW_ok (giD_ok hm (by intro p hp; cases hp) (gtL_ok (by decide)) (ovL_ok (by
    intro p hp
    simp only [List.mem_cons, List.not_mem_nil, or_false] at hp
    rcases hp with rfl | rfl | rfl | rfl | rfl | rfl | rfl | rfl
    · exact ⟨(alive16.ok N).gt (gtL_sub (by repeat (first | exact subG_nil _ | refine subG_cons (by kernel_rfl) ?_))) (gtL_ok (by decide)), _, Tryd.func10, by kernel_rfl, by kernel_rfl⟩
    · exact ⟨(Bytes.ok N).gt (gtL_sub (by repeat (first | exact subG_nil _ | refine subG_cons (by kernel_rfl) ?_))) (gtL_ok (by decide)), _, Tryd.func24, by kernel_rfl, by kernel_rfl⟩
    · exact ⟨(wUnrow2.ok N).gt (gtL_sub (by repeat (first | exact subG_nil _ | refine subG_cons (by kernel_rfl) ?_))) (gtL_ok (by decide)), _, Tryd.func14, by kernel_rfl, by kernel_rfl⟩
    · exact ⟨(rUnrow.ok N).gt (gtL_sub (by repeat (first | exact subG_nil _ | refine subG_cons (by kernel_rfl) ?_))) (gtL_ok (by decide)), _, Tryd.func25, by kernel_rfl, by kernel_rfl⟩
    · exact ⟨(SameLists.ok N).gt (gtL_sub (by repeat (first | exact subG_nil _ | refine subG_cons (by kernel_rfl) ?_))) (gtL_ok (by decide)), _, Tryd.func12, by kernel_rfl, by kernel_rfl⟩
    · exact ⟨(Num.ok N).gt (gtL_sub (by repeat (first | exact subG_nil _ | refine subG_cons (by kernel_rfl) ?_))) (gtL_ok (by decide)), _, Tryd.func19, by kernel_rfl, by kernel_rfl⟩
    · exact ⟨(Kept.ok N).gt (gtL_sub (by repeat (first | exact subG_nil _ | refine subG_cons (by kernel_rfl) ?_))) (gtL_ok (by decide)), _, Tryd.func26, by kernel_rfl, by kernel_rfl⟩
    · exact ⟨(wRow.ok N).gt (gtL_sub (by repeat (first | exact subG_nil _ | refine subG_cons (by kernel_rfl) ?_))) (gtL_ok (by decide)), _, Tryd.func11, by kernel_rfl, by kernel_rfl⟩
)) 1)
theorem ok (N : Nat) : SoundC Tryd.prog (gtL gts) 5 (con (M N)) := by
  refine SoundC.mono (evF_ok (gok N) hm an N Tryd.func5) fun R args bs κ r h => ?_
  unfold con at h
  split at h
  · exact (eq (alive16.M N) (Bytes.M N) (wUnrow2.M N) (rUnrow.M N) (SameLists.M N) (Num.M N) (Kept.M N) (wRow.M N) N κ _ _).trans h
  · cases h
end WireUnrows

end Go.Proofs.YtbliikcgcgalmaaDoor.fn
