/- What a law of rows of texts computes, with the proof; printed by a program. -/
import Derived.Test.YtbliikcgcgalmaaDoorProg
import Derived.Test.YtbliikcgcgalmaaDoorEv4
import Derived.Test.YtbliikcgcgalmaaDoorFnWireL
namespace Go.Proofs.YtbliikcgcgalmaaDoor.fn
open Go Go.Proofs Go.Ev

/-! ### Tryd.f6: WireLong -/
namespace WireLong
def an : Anns := ⟨fun i => findA i [], fun i => findA i [], false, fun _ => none, []⟩
noncomputable def g (malive16 : alive16.Ty) (mwRow : wRow.Ty) (mwUnrow : wUnrow.Ty) (mNum : Num.Ty) : Gi := giD Tryd.prog (gtL [(0, .err 3), (1, .err 4), (2, .err 2), (3, .err 1), (4, .err 5), (5, .err 6), (6, .err 7), (7, .err 8), (8, .err 9), (9, .err 10), (10, .err 11), (11, .err 12), (12, .err 13), (13, .err 14), (14, .err 15), (15, .err 16), (16, .err 17), (17, .err 18), (18, .err 19)]) (fun _ => an) 0 [] (ovL [(10, alive16.con malive16), (11, wRow.con mwRow), (14, wUnrow.con mwUnrow), (19, Num.con mNum)]) 1
noncomputable def m (malive16 : alive16.Ty) (mwRow : wRow.Ty) (mwUnrow : wUnrow.Ty) (mNum : Num.Ty) {R : Type} (_N : Nat) (more1 : Int) (kr0 : Bool → Option R) : Option R :=
  malive16 R
   (fun v_c9 => cond (!v_c9)
    (kr0 false)
    (cond (decide (0 ≤ IntKind.i64.wrap (IntKind.i64.wrap (IntKind.i64.wrap (65531 + IntKind.i64.wrap ((IntKind.u64.wrap more1).tmod 9)) - 4))))
     (cond (decide (IntKind.i64.wrap (IntKind.i64.wrap (IntKind.i64.wrap (65531 + IntKind.i64.wrap ((IntKind.u64.wrap more1).tmod 9)) - 4)) ≤ IntKind.i64.wrap (IntKind.i64.wrap (IntKind.i64.wrap (65531 + IntKind.i64.wrap ((IntKind.u64.wrap more1).tmod 9)) - 4))))
      (cond (decide (1 * IntKind.i64.wrap (IntKind.i64.wrap (IntKind.i64.wrap (65531 + IntKind.i64.wrap ((IntKind.u64.wrap more1).tmod 9)) - 4)) ≤ 140737488355328))
       (mwRow R ([cut none 0 (List.replicate (IntKind.i64.wrap (IntKind.i64.wrap (IntKind.i64.wrap (65531 + IntKind.i64.wrap ((IntKind.u64.wrap more1).tmod 9)) - 4))).toNat (0 : Int))])
        (fun v_c10 v_1_c11 v_2_c12 => cond (decide (0 ≤ IntKind.i64.wrap (IntKind.i64.wrap (IntKind.i64.wrap (IntKind.i64.wrap (65531 + IntKind.i64.wrap ((IntKind.u64.wrap more1).tmod 9)) - 4) + 5))))
         (cond (decide (IntKind.i64.wrap (IntKind.i64.wrap (IntKind.i64.wrap (IntKind.i64.wrap (65531 + IntKind.i64.wrap ((IntKind.u64.wrap more1).tmod 9)) - 4) + 5)) ≤ IntKind.i64.wrap (IntKind.i64.wrap (IntKind.i64.wrap (IntKind.i64.wrap (65531 + IntKind.i64.wrap ((IntKind.u64.wrap more1).tmod 9)) - 4) + 5))))
          (cond (decide (1 * IntKind.i64.wrap (IntKind.i64.wrap (IntKind.i64.wrap (IntKind.i64.wrap (65531 + IntKind.i64.wrap ((IntKind.u64.wrap more1).tmod 9)) - 4) + 5)) ≤ 140737488355328))
           (mwUnrow R none (cut none 0 (List.replicate (IntKind.i64.wrap (IntKind.i64.wrap (IntKind.i64.wrap (IntKind.i64.wrap (65531 + IntKind.i64.wrap ((IntKind.u64.wrap more1).tmod 9)) - 4) + 5))).toNat (0 : Int)))
            (fun _v_c13 v_1_c14 => cond (decide (IntKind.i64.wrap (IntKind.i64.wrap (IntKind.i64.wrap (65531 + IntKind.i64.wrap ((IntKind.u64.wrap more1).tmod 9)) - 4) + 5) > 65536))
             (cond ((↑v_1_c11.length : Int) == 0)
              (mNum R v_2_c12
               (fun v_c15 => cond (v_c15 == 3)
                (mNum R v_1_c14
                 (fun v_c16 => kr0 (v_c16 == 3)))
                (kr0 false)))
              (kr0 false))
             (mwUnrow R v_c10 v_1_c11
              (fun v_c17 v_1_c18 => cond (v_2_c12.beq 0)
               (cond ((↑v_1_c11.length : Int) == IntKind.i64.wrap (IntKind.i64.wrap (IntKind.i64.wrap (65531 + IntKind.i64.wrap ((IntKind.u64.wrap more1).tmod 9)) - 4) + 5))
                (cond (v_1_c18.beq 0)
                 (cond ((↑v_c17.length : Int) == 1)
                  (cond (decide (0 < (↑v_c17.length : Int)))
                   (cond ((↑(v_c17.getD 0 []).length : Int) == IntKind.i64.wrap (IntKind.i64.wrap (65531 + IntKind.i64.wrap ((IntKind.u64.wrap more1).tmod 9)) - 4))
                    (mNum R v_1_c14
                     (fun v_c19 => kr0 (v_c19 == 4)))
                    (kr0 false))
                   (none))
                  (kr0 false))
                 (kr0 false))
                (kr0 false))
               (kr0 false)))))
           (none))
          (none))
         (none)))
       (none))
      (none))
     (none)))
theorem tree (malive16 : alive16.Ty) (mwRow : wRow.Ty) (mwUnrow : wUnrow.Ty) (mNum : Num.Ty) {R : Type} (N : Nat) (κ : AV → List Blk → Option R) (more1 : Int) : evF (g malive16 mwRow mwUnrow mNum) an N Tryd.f6 [AV.int IntKind.i64 more1] [] κ =
  malive16 R
   (fun v_c9 => cond (!v_c9)
    (κ (AV.bool false) [])
    (cond (decide (0 ≤ IntKind.i64.wrap (IntKind.i64.wrap (IntKind.i64.wrap (65531 + IntKind.i64.wrap ((IntKind.u64.wrap more1).tmod 9)) - 4))))
     (cond (decide (IntKind.i64.wrap (IntKind.i64.wrap (IntKind.i64.wrap (65531 + IntKind.i64.wrap ((IntKind.u64.wrap more1).tmod 9)) - 4)) ≤ IntKind.i64.wrap (IntKind.i64.wrap (IntKind.i64.wrap (65531 + IntKind.i64.wrap ((IntKind.u64.wrap more1).tmod 9)) - 4))))
      (cond (decide (1 * IntKind.i64.wrap (IntKind.i64.wrap (IntKind.i64.wrap (65531 + IntKind.i64.wrap ((IntKind.u64.wrap more1).tmod 9)) - 4)) ≤ 140737488355328))
       (mwRow R ([cut none 0 (List.replicate (IntKind.i64.wrap (IntKind.i64.wrap (IntKind.i64.wrap (65531 + IntKind.i64.wrap ((IntKind.u64.wrap more1).tmod 9)) - 4))).toNat (0 : Int))])
        (fun v_c10 v_1_c11 v_2_c12 => cond (decide (0 ≤ IntKind.i64.wrap (IntKind.i64.wrap (IntKind.i64.wrap (IntKind.i64.wrap (65531 + IntKind.i64.wrap ((IntKind.u64.wrap more1).tmod 9)) - 4) + 5))))
         (cond (decide (IntKind.i64.wrap (IntKind.i64.wrap (IntKind.i64.wrap (IntKind.i64.wrap (65531 + IntKind.i64.wrap ((IntKind.u64.wrap more1).tmod 9)) - 4) + 5)) ≤ IntKind.i64.wrap (IntKind.i64.wrap (IntKind.i64.wrap (IntKind.i64.wrap (65531 + IntKind.i64.wrap ((IntKind.u64.wrap more1).tmod 9)) - 4) + 5))))
          (cond (decide (1 * IntKind.i64.wrap (IntKind.i64.wrap (IntKind.i64.wrap (IntKind.i64.wrap (65531 + IntKind.i64.wrap ((IntKind.u64.wrap more1).tmod 9)) - 4) + 5)) ≤ 140737488355328))
           (mwUnrow R none (cut none 0 (List.replicate (IntKind.i64.wrap (IntKind.i64.wrap (IntKind.i64.wrap (IntKind.i64.wrap (65531 + IntKind.i64.wrap ((IntKind.u64.wrap more1).tmod 9)) - 4) + 5))).toNat (0 : Int)))
            (fun _v_c13 v_1_c14 => cond (decide (IntKind.i64.wrap (IntKind.i64.wrap (IntKind.i64.wrap (65531 + IntKind.i64.wrap ((IntKind.u64.wrap more1).tmod 9)) - 4) + 5) > 65536))
             (cond ((↑v_1_c11.length : Int) == 0)
              (mNum R v_2_c12
               (fun v_c15 => cond (v_c15 == 3)
                (mNum R v_1_c14
                 (fun v_c16 => κ (AV.bool (v_c16 == 3)) []))
                (κ (AV.bool false) [])))
              (κ (AV.bool false) []))
             (mwUnrow R v_c10 v_1_c11
              (fun v_c17 v_1_c18 => cond (v_2_c12.beq 0)
               (cond ((↑v_1_c11.length : Int) == IntKind.i64.wrap (IntKind.i64.wrap (IntKind.i64.wrap (65531 + IntKind.i64.wrap ((IntKind.u64.wrap more1).tmod 9)) - 4) + 5))
                (cond (v_1_c18.beq 0)
                 (cond ((↑v_c17.length : Int) == 1)
                  (cond (decide (0 < (↑v_c17.length : Int)))
                   (cond ((↑(v_c17.getD 0 []).length : Int) == IntKind.i64.wrap (IntKind.i64.wrap (65531 + IntKind.i64.wrap ((IntKind.u64.wrap more1).tmod 9)) - 4))
                    (mNum R v_1_c14
                     (fun v_c19 => κ (AV.bool (v_c19 == 4)) []))
                    (κ (AV.bool false) []))
                   (none))
                  (κ (AV.bool false) []))
                 (κ (AV.bool false) []))
                (κ (AV.bool false) []))
               (κ (AV.bool false) [])))))
           (none))
          (none))
         (none)))
       (none))
      (none))
     (none))) := by kernel_rfl
theorem eq (malive16 : alive16.Ty) (mwRow : wRow.Ty) (mwUnrow : wUnrow.Ty) (mNum : Num.Ty) {R : Type} (N : Nat) (κ : AV → List Blk → Option R) (more1 : Int) : evF (g malive16 mwRow mwUnrow mNum) an N Tryd.f6 [AV.int IntKind.i64 more1] [] κ =
  m malive16 mwRow mwUnrow mNum N more1 (fun v => κ (AV.bool v) []) := by
  rw [tree]
  kernel_rfl
abbrev Ty : Type 1 := ∀ R : Type, Int → (Bool → Option R) → Option R
def con (f : Ty) : Con := fun R args bs κ => match args, bs with
  | [AV.int IntKind.i64 more1], [] => f R more1 (fun v => κ (AV.bool v) [])
  | _, _ => none
theorem con_eq (f : Ty) (R : Type) (κ : AV → List Blk → Option R) (more1 : Int) : con f R [AV.int IntKind.i64 more1] [] κ = f R more1 (fun v => κ (AV.bool v) []) := rfl
noncomputable def M (N : Nat) : Ty := fun R more1 kr0 => m (alive16.M N) (wRow.M N) (wUnrow.M N) (Num.M N) (R := R) N more1 kr0
def gts : List (Nat × AV) := [(0, .err 3), (1, .err 4), (2, .err 2), (3, .err 1), (4, .err 5), (5, .err 6), (6, .err 7), (7, .err 8), (8, .err 9), (9, .err 10), (10, .err 11), (11, .err 12), (12, .err 13), (13, .err 14), (14, .err 15), (15, .err 16), (16, .err 17), (17, .err 18), (18, .err 19)]
theorem gok (N : Nat) : GOk (g (alive16.M N) (wRow.M N) (wUnrow.M N) (Num.M N)) := giD_ok hm (by intro p hp; cases hp) (gtL_ok (by decide)) (ovL_ok (by
    intro p hp
    simp only [List.mem_cons, List.not_mem_nil, or_false] at hp
    rcases hp with rfl | rfl | rfl | rfl
    · exact ⟨(alive16.ok N).gt (gtL_sub (by repeat (first | exact subG_nil _ | refine subG_cons (by kernel_rfl) ?_))) (gtL_ok (by decide)), _, Tryd.func10, by kernel_rfl, by kernel_rfl⟩
    · exact ⟨(wRow.ok N).gt (gtL_sub (by repeat (first | exact subG_nil _ | refine subG_cons (by kernel_rfl) ?_))) (gtL_ok (by decide)), _, Tryd.func11, by kernel_rfl, by kernel_rfl⟩
    · exact ⟨(wUnrow.ok N).gt (gtL_sub (by repeat (first | exact subG_nil _ | refine subG_cons (by kernel_rfl) ?_))) (gtL_ok (by decide)), _, Tryd.func14, by kernel_rfl, by kernel_rfl⟩
    · exact ⟨(Num.ok N).gt (gtL_sub (by repeat (first | exact subG_nil _ | refine subG_cons (by kernel_rfl) ?_))) (gtL_ok (by decide)), _, Tryd.func19, by kernel_rfl, by kernel_rfl⟩
)) 1
theorem ok (N : Nat) : SoundC Tryd.prog (gtL gts) 6 (con (M N)) := by
  refine SoundC.mono (evF_ok (gok N) hm an N Tryd.func6) fun R args bs κ r h => ?_
  unfold con at h
  split at h
  · exact (eq (alive16.M N) (wRow.M N) (wUnrow.M N) (Num.M N) N κ _).trans h
  · cases h
end WireLong

end Go.Proofs.YtbliikcgcgalmaaDoor.fn
