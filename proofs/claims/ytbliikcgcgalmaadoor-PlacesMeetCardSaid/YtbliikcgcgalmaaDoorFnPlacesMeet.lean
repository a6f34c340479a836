/- What a law of places computes, with the proof; printed by a program. -/
import Derived.Test.YtbliikcgcgalmaaDoorProg
import Derived.Test.YtbliikcgcgalmaaDoorEv4
import Derived.Test.YtbliikcgcgalmaaDoorFnPlacesM
namespace Go.Proofs.YtbliikcgcgalmaaDoor.fn
open Go Go.Proofs Go.Ev

/-! ### Tryd.f9: PlacesMeet -/
namespace PlacesMeet
def an : Anns := ⟨fun i => findA i [], fun i => findA i [], false, fun _ => none, []⟩
noncomputable def g (malive17 : alive17.Ty) (mUnder : Under.Ty) (mrUnder : rUnder.Ty) (mCommon : Common.Ty) (mrHas : rHas.Ty) (mNum : Num.Ty) (mrCommon : rCommon.Ty) : Gi := giD Tryd.prog (gtL [(0, .err 3), (1, .err 4), (2, .err 2), (3, .err 1), (4, .err 5), (5, .err 6), (6, .err 7), (7, .err 8), (8, .err 9), (9, .err 10), (10, .err 11), (11, .err 12), (12, .err 13), (13, .err 14), (14, .err 15), (15, .err 16), (16, .err 17), (17, .err 18), (18, .err 19)]) (fun _ => an) 0 [] (ovL [(28, alive17.con malive17), (34, Under.con mUnder), (35, rUnder.con mrUnder), (36, Common.con mCommon), (37, rHas.con mrHas), (19, Num.con mNum), (38, rCommon.con mrCommon)]) 1
noncomputable def m (malive17 : alive17.Ty) (mUnder : Under.Ty) (mrUnder : rUnder.Ty) (mCommon : Common.Ty) (mrHas : rHas.Ty) (mNum : Num.Ty) (mrCommon : rCommon.Ty) {R : Type} (_N : Nat) (x1 : Int) (y2 : Int) (leaves3 : Int) (kr0 : Bool → Option R) : Option R :=
  malive17 R
   (fun v_c8 => cond (!v_c8)
    (kr0 false)
    (cond (decide (x1 ≥ 0))
     (cond (decide (x1 ≤ 30))
      (cond (decide (y2 ≥ 0))
       (mUnder R x1 y2
        (fun v_c9 => cond (decide (y2 ≤ 30))
         (mrUnder R x1 y2
          (fun v0_c10 => cond (!v_c9 == v0_c10)
           (kr0 false)
           (mCommon R x1 y2 leaves3
            (fun v_c11 v_1_c12 => mrHas R x1 leaves3
             (fun v_c13 => cond (!v_c13)
              (cond (v_c11 == 0)
               (mNum R v_1_c12
                (fun v_c14 => kr0 (v_c14 == 1)))
               (kr0 false))
              (mrHas R y2 leaves3
               (fun v_c15 => cond (!v_c15)
                (cond (v_c11 == 0)
                 (mNum R v_1_c12
                  (fun v_c16 => kr0 (v_c16 == 1)))
                 (kr0 false))
                (cond (v_1_c12.beq 0)
                 (mrCommon R x1 y2 leaves3
                  (fun v_c17 => kr0 (v_c11 == v_c17)))
                 (kr0 false)))))))))
         (cond (!v_c9 == false)
          (kr0 false)
          (mCommon R x1 y2 leaves3
           (fun v_c18 v_1_c19 => mrHas R x1 leaves3
            (fun v_c20 => cond (!v_c20)
             (cond (v_c18 == 0)
              (mNum R v_1_c19
               (fun v_c21 => kr0 (v_c21 == 1)))
              (kr0 false))
             (mrHas R y2 leaves3
              (fun v_c22 => cond (!v_c22)
               (cond (v_c18 == 0)
                (mNum R v_1_c19
                 (fun v_c23 => kr0 (v_c23 == 1)))
                (kr0 false))
               (cond (v_1_c19.beq 0)
                (mrCommon R x1 y2 leaves3
                 (fun v_c24 => kr0 (v_c18 == v_c24)))
                (kr0 false))))))))))
       (mUnder R x1 y2
        (fun v_c25 => cond (!v_c25 == false)
         (kr0 false)
         (mCommon R x1 y2 leaves3
          (fun v_c26 v_1_c27 => mrHas R x1 leaves3
           (fun v_c28 => cond (!v_c28)
            (cond (v_c26 == 0)
             (mNum R v_1_c27
              (fun v_c29 => kr0 (v_c29 == 1)))
             (kr0 false))
            (mrHas R y2 leaves3
             (fun v_c30 => cond (!v_c30)
              (cond (v_c26 == 0)
               (mNum R v_1_c27
                (fun v_c31 => kr0 (v_c31 == 1)))
               (kr0 false))
              (cond (v_1_c27.beq 0)
               (mrCommon R x1 y2 leaves3
                (fun v_c32 => kr0 (v_c26 == v_c32)))
               (kr0 false))))))))))
      (mUnder R x1 y2
       (fun v_c33 => cond (!v_c33 == false)
        (kr0 false)
        (mCommon R x1 y2 leaves3
         (fun v_c34 v_1_c35 => mrHas R x1 leaves3
          (fun v_c36 => cond (!v_c36)
           (cond (v_c34 == 0)
            (mNum R v_1_c35
             (fun v_c37 => kr0 (v_c37 == 1)))
            (kr0 false))
           (mrHas R y2 leaves3
            (fun v_c38 => cond (!v_c38)
             (cond (v_c34 == 0)
              (mNum R v_1_c35
               (fun v_c39 => kr0 (v_c39 == 1)))
              (kr0 false))
             (cond (v_1_c35.beq 0)
              (mrCommon R x1 y2 leaves3
               (fun v_c40 => kr0 (v_c34 == v_c40)))
              (kr0 false))))))))))
     (mUnder R x1 y2
      (fun v_c41 => cond (!v_c41 == false)
       (kr0 false)
       (mCommon R x1 y2 leaves3
        (fun v_c42 v_1_c43 => mrHas R x1 leaves3
         (fun v_c44 => cond (!v_c44)
          (cond (v_c42 == 0)
           (mNum R v_1_c43
            (fun v_c45 => kr0 (v_c45 == 1)))
           (kr0 false))
          (mrHas R y2 leaves3
           (fun v_c46 => cond (!v_c46)
            (cond (v_c42 == 0)
             (mNum R v_1_c43
              (fun v_c47 => kr0 (v_c47 == 1)))
             (kr0 false))
            (cond (v_1_c43.beq 0)
             (mrCommon R x1 y2 leaves3
              (fun v_c48 => kr0 (v_c42 == v_c48)))
             (kr0 false)))))))))))
theorem tree (malive17 : alive17.Ty) (mUnder : Under.Ty) (mrUnder : rUnder.Ty) (mCommon : Common.Ty) (mrHas : rHas.Ty) (mNum : Num.Ty) (mrCommon : rCommon.Ty) {R : Type} (N : Nat) (κ : AV → List Blk → Option R) (x1 : Int) (y2 : Int) (leaves3 : Int) : evF (g malive17 mUnder mrUnder mCommon mrHas mNum mrCommon) an N Tryd.f9 [AV.int IntKind.i64 x1, AV.int IntKind.i64 y2, AV.int IntKind.i64 leaves3] [] κ =
  malive17 R
   (fun v_c8 => cond (!v_c8)
    (κ (AV.bool false) [])
    (cond (decide (x1 ≥ 0))
     (cond (decide (x1 ≤ 30))
      (cond (decide (y2 ≥ 0))
       (mUnder R x1 y2
        (fun v_c9 => cond (decide (y2 ≤ 30))
         (mrUnder R x1 y2
          (fun v0_c10 => cond (!v_c9 == v0_c10)
           (κ (AV.bool false) [])
           (mCommon R x1 y2 leaves3
            (fun v_c11 v_1_c12 => mrHas R x1 leaves3
             (fun v_c13 => cond (!v_c13)
              (cond (v_c11 == 0)
               (mNum R v_1_c12
                (fun v_c14 => κ (AV.bool (v_c14 == 1)) []))
               (κ (AV.bool false) []))
              (mrHas R y2 leaves3
               (fun v_c15 => cond (!v_c15)
                (cond (v_c11 == 0)
                 (mNum R v_1_c12
                  (fun v_c16 => κ (AV.bool (v_c16 == 1)) []))
                 (κ (AV.bool false) []))
                (cond (v_1_c12.beq 0)
                 (mrCommon R x1 y2 leaves3
                  (fun v_c17 => κ (AV.bool (v_c11 == v_c17)) []))
                 (κ (AV.bool false) [])))))))))
         (cond (!v_c9 == false)
          (κ (AV.bool false) [])
          (mCommon R x1 y2 leaves3
           (fun v_c18 v_1_c19 => mrHas R x1 leaves3
            (fun v_c20 => cond (!v_c20)
             (cond (v_c18 == 0)
              (mNum R v_1_c19
               (fun v_c21 => κ (AV.bool (v_c21 == 1)) []))
              (κ (AV.bool false) []))
             (mrHas R y2 leaves3
              (fun v_c22 => cond (!v_c22)
               (cond (v_c18 == 0)
                (mNum R v_1_c19
                 (fun v_c23 => κ (AV.bool (v_c23 == 1)) []))
                (κ (AV.bool false) []))
               (cond (v_1_c19.beq 0)
                (mrCommon R x1 y2 leaves3
                 (fun v_c24 => κ (AV.bool (v_c18 == v_c24)) []))
                (κ (AV.bool false) []))))))))))
       (mUnder R x1 y2
        (fun v_c25 => cond (!v_c25 == false)
         (κ (AV.bool false) [])
         (mCommon R x1 y2 leaves3
          (fun v_c26 v_1_c27 => mrHas R x1 leaves3
           (fun v_c28 => cond (!v_c28)
            (cond (v_c26 == 0)
             (mNum R v_1_c27
              (fun v_c29 => κ (AV.bool (v_c29 == 1)) []))
             (κ (AV.bool false) []))
            (mrHas R y2 leaves3
             (fun v_c30 => cond (!v_c30)
              (cond (v_c26 == 0)
               (mNum R v_1_c27
                (fun v_c31 => κ (AV.bool (v_c31 == 1)) []))
               (κ (AV.bool false) []))
              (cond (v_1_c27.beq 0)
               (mrCommon R x1 y2 leaves3
                (fun v_c32 => κ (AV.bool (v_c26 == v_c32)) []))
               (κ (AV.bool false) []))))))))))
      (mUnder R x1 y2
       (fun v_c33 => cond (!v_c33 == false)
        (κ (AV.bool false) [])
        (mCommon R x1 y2 leaves3
         (fun v_c34 v_1_c35 => mrHas R x1 leaves3
          (fun v_c36 => cond (!v_c36)
           (cond (v_c34 == 0)
            (mNum R v_1_c35
             (fun v_c37 => κ (AV.bool (v_c37 == 1)) []))
            (κ (AV.bool false) []))
           (mrHas R y2 leaves3
            (fun v_c38 => cond (!v_c38)
             (cond (v_c34 == 0)
              (mNum R v_1_c35
               (fun v_c39 => κ (AV.bool (v_c39 == 1)) []))
              (κ (AV.bool false) []))
             (cond (v_1_c35.beq 0)
              (mrCommon R x1 y2 leaves3
               (fun v_c40 => κ (AV.bool (v_c34 == v_c40)) []))
              (κ (AV.bool false) []))))))))))
     (mUnder R x1 y2
      (fun v_c41 => cond (!v_c41 == false)
       (κ (AV.bool false) [])
       (mCommon R x1 y2 leaves3
        (fun v_c42 v_1_c43 => mrHas R x1 leaves3
         (fun v_c44 => cond (!v_c44)
          (cond (v_c42 == 0)
           (mNum R v_1_c43
            (fun v_c45 => κ (AV.bool (v_c45 == 1)) []))
           (κ (AV.bool false) []))
          (mrHas R y2 leaves3
           (fun v_c46 => cond (!v_c46)
            (cond (v_c42 == 0)
             (mNum R v_1_c43
              (fun v_c47 => κ (AV.bool (v_c47 == 1)) []))
             (κ (AV.bool false) []))
            (cond (v_1_c43.beq 0)
             (mrCommon R x1 y2 leaves3
              (fun v_c48 => κ (AV.bool (v_c42 == v_c48)) []))
             (κ (AV.bool false) []))))))))))) := by kernel_rfl
theorem eq (malive17 : alive17.Ty) (mUnder : Under.Ty) (mrUnder : rUnder.Ty) (mCommon : Common.Ty) (mrHas : rHas.Ty) (mNum : Num.Ty) (mrCommon : rCommon.Ty) {R : Type} (N : Nat) (κ : AV → List Blk → Option R) (x1 : Int) (y2 : Int) (leaves3 : Int) : evF (g malive17 mUnder mrUnder mCommon mrHas mNum mrCommon) an N Tryd.f9 [AV.int IntKind.i64 x1, AV.int IntKind.i64 y2, AV.int IntKind.i64 leaves3] [] κ =
  m malive17 mUnder mrUnder mCommon mrHas mNum mrCommon N x1 y2 leaves3 (fun v => κ (AV.bool v) []) := by
  rw [tree]
  kernel_rfl
abbrev Ty : Type 1 := ∀ R : Type, Int → Int → Int → (Bool → Option R) → Option R
def con (f : Ty) : Con := fun R args bs κ => match args, bs with
  | [AV.int IntKind.i64 x1, AV.int IntKind.i64 y2, AV.int IntKind.i64 leaves3], [] => f R x1 y2 leaves3 (fun v => κ (AV.bool v) [])
  | _, _ => none
theorem con_eq (f : Ty) (R : Type) (κ : AV → List Blk → Option R) (x1 : Int) (y2 : Int) (leaves3 : Int) : con f R [AV.int IntKind.i64 x1, AV.int IntKind.i64 y2, AV.int IntKind.i64 leaves3] [] κ = f R x1 y2 leaves3 (fun v => κ (AV.bool v) []) := rfl
noncomputable def M (N : Nat) : Ty := fun R x1 y2 leaves3 kr0 => m (alive17.M N) (Under.M N) (rUnder.M N) (Common.M N) (rHas.M N) (Num.M N) (rCommon.M N) (R := R) N x1 y2 leaves3 kr0
def gts : List (Nat × AV) := [(0, .err 3), (1, .err 4), (2, .err 2), (3, .err 1), (4, .err 5), (5, .err 6), (6, .err 7), (7, .err 8), (8, .err 9), (9, .err 10), (10, .err 11), (11, .err 12), (12, .err 13), (13, .err 14), (14, .err 15), (15, .err 16), (16, .err 17), (17, .err 18), (18, .err 19)]
theorem gok (N : Nat) : GOk (g (alive17.M N) (Under.M N) (rUnder.M N) (Common.M N) (rHas.M N) (Num.M N) (rCommon.M N)) := giD_ok hm (by intro p hp; cases hp) (gtL_ok (by decide)) (ovL_ok (by
    intro p hp
    simp only [List.mem_cons, List.not_mem_nil, or_false] at hp
    rcases hp with rfl | rfl | rfl | rfl | rfl | rfl | rfl
    · exact ⟨(alive17.ok N).gt (gtL_sub (by repeat (first | exact subG_nil _ | refine subG_cons (by kernel_rfl) ?_))) (gtL_ok (by decide)), _, Tryd.func28, by kernel_rfl, by kernel_rfl⟩
    · exact ⟨(Under.ok N).gt (gtL_sub (by repeat (first | exact subG_nil _ | refine subG_cons (by kernel_rfl) ?_))) (gtL_ok (by decide)), _, Tryd.func34, by kernel_rfl, by kernel_rfl⟩
    · exact ⟨(rUnder.ok N).gt (gtL_sub (by repeat (first | exact subG_nil _ | refine subG_cons (by kernel_rfl) ?_))) (gtL_ok (by decide)), _, Tryd.func35, by kernel_rfl, by kernel_rfl⟩
    · exact ⟨(Common.ok N).gt (gtL_sub (by repeat (first | exact subG_nil _ | refine subG_cons (by kernel_rfl) ?_))) (gtL_ok (by decide)), _, Tryd.func36, by kernel_rfl, by kernel_rfl⟩
    · exact ⟨(rHas.ok N).gt (gtL_sub (by repeat (first | exact subG_nil _ | refine subG_cons (by kernel_rfl) ?_))) (gtL_ok (by decide)), _, Tryd.func37, by kernel_rfl, by kernel_rfl⟩
    · exact ⟨(Num.ok N).gt (gtL_sub (by repeat (first | exact subG_nil _ | refine subG_cons (by kernel_rfl) ?_))) (gtL_ok (by decide)), _, Tryd.func19, by kernel_rfl, by kernel_rfl⟩
    · exact ⟨(rCommon.ok N).gt (gtL_sub (by repeat (first | exact subG_nil _ | refine subG_cons (by kernel_rfl) ?_))) (gtL_ok (by decide)), _, Tryd.func38, by kernel_rfl, by kernel_rfl⟩
)) 1
theorem ok (N : Nat) : SoundC Tryd.prog (gtL gts) 9 (con (M N)) := by
  refine SoundC.mono (evF_ok (gok N) hm an N Tryd.func9) fun R args bs κ r h => ?_
  unfold con at h
  split at h
  · exact (eq (alive17.M N) (Under.M N) (rUnder.M N) (Common.M N) (rHas.M N) (Num.M N) (rCommon.M N) N κ _ _ _).trans h
  · cases h
end PlacesMeet

end Go.Proofs.YtbliikcgcgalmaaDoor.fn
