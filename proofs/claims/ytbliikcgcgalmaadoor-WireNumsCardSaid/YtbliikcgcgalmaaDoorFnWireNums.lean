/- What a law of rows of texts computes, with the proof; printed by a program. -/
import Derived.Test.YtbliikcgcgalmaaDoorProg
import Derived.Test.YtbliikcgcgalmaaDoorEv4
import Derived.Test.YtbliikcgcgalmaaDoorFnWireL
namespace Go.Proofs.YtbliikcgcgalmaaDoor.fn
open Go Go.Proofs Go.Ev

/-! ### Tryd.f4: WireNums -/
namespace WireNums
def an : Anns := ⟨fun i => findA i [], fun i => findA i [], false, fun _ => none, []⟩
noncomputable def g (malive16 : alive16.Ty) (mwNum : wNum.Ty) (mwToNum : wToNum.Ty) (mrNum : rNum.Ty) (mrToNum : rToNum.Ty) (mNum : Num.Ty) (mwKey : wKey.Ty) (mrKey : rKey.Ty) (mwSig : wSig.Ty) (mrSig : rSig.Ty) : Gi := giD Tryd.prog (gtL [(0, .err 3), (1, .err 4), (2, .err 2), (3, .err 1), (4, .err 5), (5, .err 6), (6, .err 7), (7, .err 8), (8, .err 9), (9, .err 10), (10, .err 11), (11, .err 12), (12, .err 13), (13, .err 14), (14, .err 15), (15, .err 16), (16, .err 17), (17, .err 18), (18, .err 19)]) (fun _ => an) 0 [] (ovL [(10, alive16.con malive16), (15, wNum.con mwNum), (16, wToNum.con mwToNum), (17, rNum.con mrNum), (18, rToNum.con mrToNum), (19, Num.con mNum), (20, wKey.con mwKey), (21, rKey.con mrKey), (22, wSig.con mwSig), (23, rSig.con mrSig)]) 1
noncomputable def m (malive16 : alive16.Ty) (mwNum : wNum.Ty) (mwToNum : wToNum.Ty) (mrNum : rNum.Ty) (mrToNum : rToNum.Ty) (mNum : Num.Ty) (mwKey : wKey.Ty) (mrKey : rKey.Ty) (mwSig : wSig.Ty) (mrSig : rSig.Ty) {R : Type} (_N : Nat) (n1 : Int) (bN2 : Option Bool) (b3 : List Int) (kr0 : Bool → Option R) : Option R :=
  malive16 R
   (fun v_c2 => cond (!v_c2)
    (kr0 false)
    (cond (decide ((↑b3.length : Int) > 200))
     (kr0 true)
     (mwNum R n1
      (fun v_c3 => mwToNum R none v_c3
       (fun v_c4 v_1_c5 => mrNum R n1
        (fun v_c6 => cond (!toStr v_c3 == toStr v_c6)
         (kr0 false)
         (cond (!v_1_c5.beq 0)
          (kr0 false)
          (cond (decide (n1 ≥ 0))
           (cond (decide (n1 ≤ 4611686018427387903))
            (cond (v_c4 != n1)
             (kr0 false)
             (mwToNum R bN2 b3
              (fun v_c7 v_1_c8 => mrToNum R bN2 b3
               (fun v_c9 v_1_c10 => cond (v_c7 != v_c9)
                (kr0 false)
                (mNum R v_1_c8
                 (fun v_c11 => cond (v_c11 != v_1_c10)
                  (kr0 false)
                  (mwKey R bN2 b3
                   (fun v_c12 v_1_c13 => mrKey R bN2 b3
                    (fun v_c14 v_1_c15 => mwSig R bN2 b3
                     (fun v_c16 v_1_c17 => mrSig R bN2 b3
                      (fun v_c18 v_1_c19 => cond (v_c12 == v_c14)
                       (cond (v_1_c13.beq 0 == v_1_c15)
                        (cond (v_c16 == v_c18)
                         (cond (v_1_c17.beq 0 == v_1_c19)
                          (cond v_1_c15
                           (cond v_1_c19
                            (kr0 true)
                            (mNum R v_1_c17
                             (fun v_c20 => kr0 (v_c20 == 4))))
                           (mNum R v_1_c13
                            (fun v_c21 => cond (v_c21 == 4)
                             (cond v_1_c19
                              (kr0 true)
                              (mNum R v_1_c17
                               (fun v_c22 => kr0 (v_c22 == 4))))
                             (kr0 false))))
                          (kr0 false))
                         (kr0 false))
                        (kr0 false))
                       (kr0 false))))))))))))
            (mwToNum R bN2 b3
             (fun v_c23 v_1_c24 => mrToNum R bN2 b3
              (fun v_c25 v_1_c26 => cond (v_c23 != v_c25)
               (kr0 false)
               (mNum R v_1_c24
                (fun v_c27 => cond (v_c27 != v_1_c26)
                 (kr0 false)
                 (mwKey R bN2 b3
                  (fun v_c28 v_1_c29 => mrKey R bN2 b3
                   (fun v_c30 v_1_c31 => mwSig R bN2 b3
                    (fun v_c32 v_1_c33 => mrSig R bN2 b3
                     (fun v_c34 v_1_c35 => cond (v_c28 == v_c30)
                      (cond (v_1_c29.beq 0 == v_1_c31)
                       (cond (v_c32 == v_c34)
                        (cond (v_1_c33.beq 0 == v_1_c35)
                         (cond v_1_c31
                          (cond v_1_c35
                           (kr0 true)
                           (mNum R v_1_c33
                            (fun v_c36 => kr0 (v_c36 == 4))))
                          (mNum R v_1_c29
                           (fun v_c37 => cond (v_c37 == 4)
                            (cond v_1_c35
                             (kr0 true)
                             (mNum R v_1_c33
                              (fun v_c38 => kr0 (v_c38 == 4))))
                            (kr0 false))))
                         (kr0 false))
                        (kr0 false))
                       (kr0 false))
                      (kr0 false))))))))))))
           (mwToNum R bN2 b3
            (fun v_c39 v_1_c40 => mrToNum R bN2 b3
             (fun v_c41 v_1_c42 => cond (v_c39 != v_c41)
              (kr0 false)
              (mNum R v_1_c40
               (fun v_c43 => cond (v_c43 != v_1_c42)
                (kr0 false)
                (mwKey R bN2 b3
                 (fun v_c44 v_1_c45 => mrKey R bN2 b3
                  (fun v_c46 v_1_c47 => mwSig R bN2 b3
                   (fun v_c48 v_1_c49 => mrSig R bN2 b3
                    (fun v_c50 v_1_c51 => cond (v_c44 == v_c46)
                     (cond (v_1_c45.beq 0 == v_1_c47)
                      (cond (v_c48 == v_c50)
                       (cond (v_1_c49.beq 0 == v_1_c51)
                        (cond v_1_c47
                         (cond v_1_c51
                          (kr0 true)
                          (mNum R v_1_c49
                           (fun v_c52 => kr0 (v_c52 == 4))))
                         (mNum R v_1_c45
                          (fun v_c53 => cond (v_c53 == 4)
                           (cond v_1_c51
                            (kr0 true)
                            (mNum R v_1_c49
                             (fun v_c54 => kr0 (v_c54 == 4))))
                           (kr0 false))))
                        (kr0 false))
                       (kr0 false))
                      (kr0 false))
                     (kr0 false)))))))))))))))))))
theorem tree (malive16 : alive16.Ty) (mwNum : wNum.Ty) (mwToNum : wToNum.Ty) (mrNum : rNum.Ty) (mrToNum : rToNum.Ty) (mNum : Num.Ty) (mwKey : wKey.Ty) (mrKey : rKey.Ty) (mwSig : wSig.Ty) (mrSig : rSig.Ty) {R : Type} (N : Nat) (κ : AV → List Blk → Option R) (n1 : Int) (bN2 : Option Bool) (b3 : List Int) : evF (g malive16 mwNum mwToNum mrNum mrToNum mNum mwKey mrKey mwSig mrSig) an N Tryd.f4 [AV.int IntKind.i64 n1, AV.isl IntKind.u8 bN2 b3] [] κ =
  malive16 R
   (fun v_c2 => cond (!v_c2)
    (κ (AV.bool false) [])
    (cond (decide ((↑b3.length : Int) > 200))
     (κ (AV.bool true) [])
     (mwNum R n1
      (fun v_c3 => mwToNum R none v_c3
       (fun v_c4 v_1_c5 => mrNum R n1
        (fun v_c6 => cond (!toStr v_c3 == toStr v_c6)
         (κ (AV.bool false) [])
         (cond (!v_1_c5.beq 0)
          (κ (AV.bool false) [])
          (cond (decide (n1 ≥ 0))
           (cond (decide (n1 ≤ 4611686018427387903))
            (cond (v_c4 != n1)
             (κ (AV.bool false) [])
             (mwToNum R bN2 b3
              (fun v_c7 v_1_c8 => mrToNum R bN2 b3
               (fun v_c9 v_1_c10 => cond (v_c7 != v_c9)
                (κ (AV.bool false) [])
                (mNum R v_1_c8
                 (fun v_c11 => cond (v_c11 != v_1_c10)
                  (κ (AV.bool false) [])
                  (mwKey R bN2 b3
                   (fun v_c12 v_1_c13 => mrKey R bN2 b3
                    (fun v_c14 v_1_c15 => mwSig R bN2 b3
                     (fun v_c16 v_1_c17 => mrSig R bN2 b3
                      (fun v_c18 v_1_c19 => cond (v_c12 == v_c14)
                       (cond (v_1_c13.beq 0 == v_1_c15)
                        (cond (v_c16 == v_c18)
                         (cond (v_1_c17.beq 0 == v_1_c19)
                          (cond v_1_c15
                           (cond v_1_c19
                            (κ (AV.bool true) [])
                            (mNum R v_1_c17
                             (fun v_c20 => κ (AV.bool (v_c20 == 4)) [])))
                           (mNum R v_1_c13
                            (fun v_c21 => cond (v_c21 == 4)
                             (cond v_1_c19
                              (κ (AV.bool true) [])
                              (mNum R v_1_c17
                               (fun v_c22 => κ (AV.bool (v_c22 == 4)) [])))
                             (κ (AV.bool false) []))))
                          (κ (AV.bool false) []))
                         (κ (AV.bool false) []))
                        (κ (AV.bool false) []))
                       (κ (AV.bool false) []))))))))))))
            (mwToNum R bN2 b3
             (fun v_c23 v_1_c24 => mrToNum R bN2 b3
              (fun v_c25 v_1_c26 => cond (v_c23 != v_c25)
               (κ (AV.bool false) [])
               (mNum R v_1_c24
                (fun v_c27 => cond (v_c27 != v_1_c26)
                 (κ (AV.bool false) [])
                 (mwKey R bN2 b3
                  (fun v_c28 v_1_c29 => mrKey R bN2 b3
                   (fun v_c30 v_1_c31 => mwSig R bN2 b3
                    (fun v_c32 v_1_c33 => mrSig R bN2 b3
                     (fun v_c34 v_1_c35 => cond (v_c28 == v_c30)
                      (cond (v_1_c29.beq 0 == v_1_c31)
                       (cond (v_c32 == v_c34)
                        (cond (v_1_c33.beq 0 == v_1_c35)
                         (cond v_1_c31
                          (cond v_1_c35
                           (κ (AV.bool true) [])
                           (mNum R v_1_c33
                            (fun v_c36 => κ (AV.bool (v_c36 == 4)) [])))
                          (mNum R v_1_c29
                           (fun v_c37 => cond (v_c37 == 4)
                            (cond v_1_c35
                             (κ (AV.bool true) [])
                             (mNum R v_1_c33
                              (fun v_c38 => κ (AV.bool (v_c38 == 4)) [])))
                            (κ (AV.bool false) []))))
                         (κ (AV.bool false) []))
                        (κ (AV.bool false) []))
                       (κ (AV.bool false) []))
                      (κ (AV.bool false) []))))))))))))
           (mwToNum R bN2 b3
            (fun v_c39 v_1_c40 => mrToNum R bN2 b3
             (fun v_c41 v_1_c42 => cond (v_c39 != v_c41)
              (κ (AV.bool false) [])
              (mNum R v_1_c40
               (fun v_c43 => cond (v_c43 != v_1_c42)
                (κ (AV.bool false) [])
                (mwKey R bN2 b3
                 (fun v_c44 v_1_c45 => mrKey R bN2 b3
                  (fun v_c46 v_1_c47 => mwSig R bN2 b3
                   (fun v_c48 v_1_c49 => mrSig R bN2 b3
                    (fun v_c50 v_1_c51 => cond (v_c44 == v_c46)
                     (cond (v_1_c45.beq 0 == v_1_c47)
                      (cond (v_c48 == v_c50)
                       (cond (v_1_c49.beq 0 == v_1_c51)
                        (cond v_1_c47
                         (cond v_1_c51
                          (κ (AV.bool true) [])
                          (mNum R v_1_c49
                           (fun v_c52 => κ (AV.bool (v_c52 == 4)) [])))
                         (mNum R v_1_c45
                          (fun v_c53 => cond (v_c53 == 4)
                           (cond v_1_c51
                            (κ (AV.bool true) [])
                            (mNum R v_1_c49
                             (fun v_c54 => κ (AV.bool (v_c54 == 4)) [])))
                           (κ (AV.bool false) []))))
                        (κ (AV.bool false) []))
                       (κ (AV.bool false) []))
                      (κ (AV.bool false) []))
                     (κ (AV.bool false) []))))))))))))))))))) := by kernel_rfl
theorem eq (malive16 : alive16.Ty) (mwNum : wNum.Ty) (mwToNum : wToNum.Ty) (mrNum : rNum.Ty) (mrToNum : rToNum.Ty) (mNum : Num.Ty) (mwKey : wKey.Ty) (mrKey : rKey.Ty) (mwSig : wSig.Ty) (mrSig : rSig.Ty) {R : Type} (N : Nat) (κ : AV → List Blk → Option R) (n1 : Int) (bN2 : Option Bool) (b3 : List Int) : evF (g malive16 mwNum mwToNum mrNum mrToNum mNum mwKey mrKey mwSig mrSig) an N Tryd.f4 [AV.int IntKind.i64 n1, AV.isl IntKind.u8 bN2 b3] [] κ =
  m malive16 mwNum mwToNum mrNum mrToNum mNum mwKey mrKey mwSig mrSig N n1 bN2 b3 (fun v => κ (AV.bool v) []) := by
  rw [tree]
  kernel_rfl
abbrev Ty : Type 1 := ∀ R : Type, Int → (Option Bool) → (List Int) → (Bool → Option R) → Option R
def con (f : Ty) : Con := fun R args bs κ => match args, bs with
  | [AV.int IntKind.i64 n1, AV.isl IntKind.u8 bN2 b3], [] => f R n1 bN2 b3 (fun v => κ (AV.bool v) [])
  | _, _ => none
theorem con_eq (f : Ty) (R : Type) (κ : AV → List Blk → Option R) (n1 : Int) (bN2 : Option Bool) (b3 : List Int) : con f R [AV.int IntKind.i64 n1, AV.isl IntKind.u8 bN2 b3] [] κ = f R n1 bN2 b3 (fun v => κ (AV.bool v) []) := rfl
noncomputable def M (N : Nat) : Ty := fun R n1 bN2 b3 kr0 => m (alive16.M N) (wNum.M N) (wToNum.M N) (rNum.M N) (rToNum.M N) (Num.M N) (wKey.M N) (rKey.M N) (wSig.M N) (rSig.M N) (R := R) N n1 bN2 b3 kr0
def gts : List (Nat × AV) := [(0, .err 3), (1, .err 4), (2, .err 2), (3, .err 1), (4, .err 5), (5, .err 6), (6, .err 7), (7, .err 8), (8, .err 9), (9, .err 10), (10, .err 11), (11, .err 12), (12, .err 13), (13, .err 14), (14, .err 15), (15, .err 16), (16, .err 17), (17, .err 18), (18, .err 19)]
theorem gok (N : Nat) : GOk (g (alive16.M N) (wNum.M N) (wToNum.M N) (rNum.M N) (rToNum.M N) (Num.M N) (wKey.M N) (rKey.M N) (wSig.M N) (rSig.M N)) := giD_ok hm (by intro p hp; cases hp) (gtL_ok (by decide)) (ovL_ok (by
    intro p hp
    simp only [List.mem_cons, List.not_mem_nil, or_false] at hp
    rcases hp with rfl | rfl | rfl | rfl | rfl | rfl | rfl | rfl | rfl | rfl
    · exact ⟨(alive16.ok N).gt (gtL_sub (by repeat (first | exact subG_nil _ | refine subG_cons (by kernel_rfl) ?_))) (gtL_ok (by decide)), _, Tryd.func10, by kernel_rfl, by kernel_rfl⟩
    · exact ⟨(wNum.ok N).gt (gtL_sub (by repeat (first | exact subG_nil _ | refine subG_cons (by kernel_rfl) ?_))) (gtL_ok (by decide)), _, Tryd.func15, by kernel_rfl, by kernel_rfl⟩
    · exact ⟨(wToNum.ok N).gt (gtL_sub (by repeat (first | exact subG_nil _ | refine subG_cons (by kernel_rfl) ?_))) (gtL_ok (by decide)), _, Tryd.func16, by kernel_rfl, by kernel_rfl⟩
    · exact ⟨(rNum.ok N).gt (gtL_sub (by repeat (first | exact subG_nil _ | refine subG_cons (by kernel_rfl) ?_))) (gtL_ok (by decide)), _, Tryd.func17, by kernel_rfl, by kernel_rfl⟩
    · exact ⟨(rToNum.ok N).gt (gtL_sub (by repeat (first | exact subG_nil _ | refine subG_cons (by kernel_rfl) ?_))) (gtL_ok (by decide)), _, Tryd.func18, by kernel_rfl, by kernel_rfl⟩
    · exact ⟨(Num.ok N).gt (gtL_sub (by repeat (first | exact subG_nil _ | refine subG_cons (by kernel_rfl) ?_))) (gtL_ok (by decide)), _, Tryd.func19, by kernel_rfl, by kernel_rfl⟩
    · exact ⟨(wKey.ok N).gt (gtL_sub (by repeat (first | exact subG_nil _ | refine subG_cons (by kernel_rfl) ?_))) (gtL_ok (by decide)), _, Tryd.func20, by kernel_rfl, by kernel_rfl⟩
    · exact ⟨(rKey.ok N).gt (gtL_sub (by repeat (first | exact subG_nil _ | refine subG_cons (by kernel_rfl) ?_))) (gtL_ok (by decide)), _, Tryd.func21, by kernel_rfl, by kernel_rfl⟩
    · exact ⟨(wSig.ok N).gt (gtL_sub (by repeat (first | exact subG_nil _ | refine subG_cons (by kernel_rfl) ?_))) (gtL_ok (by decide)), _, Tryd.func22, by kernel_rfl, by kernel_rfl⟩
    · exact ⟨(rSig.ok N).gt (gtL_sub (by repeat (first | exact subG_nil _ | refine subG_cons (by kernel_rfl) ?_))) (gtL_ok (by decide)), _, Tryd.func23, by kernel_rfl, by kernel_rfl⟩
)) 1
theorem ok (N : Nat) : SoundC Tryd.prog (gtL gts) 4 (con (M N)) := by
  refine SoundC.mono (evF_ok (gok N) hm an N Tryd.func4) fun R args bs κ r h => ?_
  unfold con at h
  split at h
  · exact (eq (alive16.M N) (wNum.M N) (wToNum.M N) (rNum.M N) (rToNum.M N) (Num.M N) (wKey.M N) (rKey.M N) (wSig.M N) (rSig.M N) N κ _ _ _).trans h
  · cases h
end WireNums

end Go.Proofs.YtbliikcgcgalmaaDoor.fn
