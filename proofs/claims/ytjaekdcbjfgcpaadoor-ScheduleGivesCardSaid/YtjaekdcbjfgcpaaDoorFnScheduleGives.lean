/- What a law of epochs computes, with the proof; printed by a program. -/
import Derived.Test.YtjaekdcbjfgcpaaDoorProg
import Derived.Test.YtjaekdcbjfgcpaaDoorEv4
import Derived.Test.YtjaekdcbjfgcpaaDoorFnSchedL
import Derived.Test.YtjaekdcbjfgcpaaDoorFnSchedR
import Derived.Test.YtjaekdcbjfgcpaaDoorFnNum
namespace Go.Proofs.YtjaekdcbjfgcpaaDoor.fn
open Go Go.Proofs Go.Ev

/-! ### Tryd.f6: ScheduleGives -/
namespace ScheduleGives
def an : Anns := ⟨fun i => findA i [], fun i => findA i [], false, fun _ => none, []⟩
noncomputable def g (malive22 : alive22.Ty) (msSealer : sSealer.Ty) (mr22Sealer : r22Sealer.Ty) (msExport : sExport.Ty) (mr22Export : r22Export.Ty) (msTag : sTag.Ty) (mr22Tag : r22Tag.Ty) (mNum : Num.Ty) : Gi := giF (giD Tryd.prog (gtL [(0, .err 1), (1, .err 3), (2, .err 2), (3, .err 4), (4, .err 5), (5, .err 6), (6, .err 7), (7, .err 8), (8, .err 9), (9, .err 10), (10, .err 11), (11, .err 12), (12, .err 13), (13, .err 14), (14, .err 15), (15, .err 16), (16, .err 17), (17, .err 18), (18, .err 19), (19, .ints .u32 64 K256)]) (fun _ => an) 0 [] (ovL [(7, alive22.con malive22), (17, sSealer.con msSealer), (18, r22Sealer.con mr22Sealer), (15, sExport.con msExport), (19, r22Export.con mr22Export), (14, sTag.con msTag), (20, r22Tag.con mr22Tag), (16, Num.con mNum)]) 1)
noncomputable def m (malive22 : alive22.Ty) (msSealer : sSealer.Ty) (mr22Sealer : r22Sealer.Ty) (msExport : sExport.Ty) (mr22Export : r22Export.Ty) (msTag : sTag.Ty) (mr22Tag : r22Tag.Ty) (mNum : Num.Ty) {R : Type} (_N : Nat) (e1 : List Int) (e2 : List Int) (e3 : List Int) (e4 : List Int) (e5 : List Int) (e6 : List Int) (e7 : List Int) (e8 : List Int) (label9 : List UInt8) (n10 : Int) (kr0 : Bool → Option R) : Option R :=
  malive22 R
   (fun v_c2 => cond (!v_c2)
    (kr0 false)
    (cond (decide ((↑label9.length : Int) > 17000))
     (kr0 true)
     (msSealer R e1 e2 e3 e4 e5 e6 e7 e8
      (fun v_c3 _v_1_c4 v_2_c5 => mr22Sealer R e1 e2 e3 e4 e5 e6 e7 e8
       (fun v_c6 v_1_c7 => msExport R e1 e2 e3 e4 e5 e6 e7 e8 label9 none (List.drop 0 (List.take 32 e8)) n10
        (fun v_c8 => mr22Export R e1 e2 e3 e4 e5 e6 e7 e8 label9 none (List.drop 0 (List.take 32 e8)) n10
         (fun _v_c9 v_1_c10 v_2_c11 => msTag R e1 e2 e3 e4 e5 e6 e7 e8 e7
          (fun v_c12 => mr22Tag R e1 e2 e3 e4 e5 e6 e7 e8 e7
           (fun v_c13 => cond (v_c12 == v_c13)
            (cond (v_c3 == v_c6)
             (cond (toStr v_2_c5 == toStr v_1_c7)
              (cond ([] == toStr v_1_c10)
               (mNum R v_c8
                (fun v_c14 => kr0 (v_c14 == v_2_c11)))
               (kr0 false))
              (kr0 false))
             (kr0 false))
            (kr0 false)))))
        (fun _vg1_c15 v_1_c16 v_2_c17 => mr22Export R e1 e2 e3 e4 e5 e6 e7 e8 label9 none (List.drop 0 (List.take 32 e8)) n10
         (fun _v_c18 v_1_c19 v_2_c20 => msTag R e1 e2 e3 e4 e5 e6 e7 e8 e7
          (fun v_c21 => mr22Tag R e1 e2 e3 e4 e5 e6 e7 e8 e7
           (fun v_c22 => cond (v_c21 == v_c22)
            (cond (v_c3 == v_c6)
             (cond (toStr v_2_c5 == toStr v_1_c7)
              (cond (toStr v_1_c16 == toStr v_1_c19)
               (mNum R v_2_c17
                (fun v_c23 => kr0 (v_c23 == v_2_c20)))
               (kr0 false))
              (kr0 false))
             (kr0 false))
            (kr0 false))))))))))
theorem tree (malive22 : alive22.Ty) (msSealer : sSealer.Ty) (mr22Sealer : r22Sealer.Ty) (msExport : sExport.Ty) (mr22Export : r22Export.Ty) (msTag : sTag.Ty) (mr22Tag : r22Tag.Ty) (mNum : Num.Ty) {R : Type} (N : Nat) (κ : AV → List Blk → Option R) (e1 : List Int) (e2 : List Int) (e3 : List Int) (e4 : List Int) (e5 : List Int) (e6 : List Int) (e7 : List Int) (e8 : List Int) (label9 : List UInt8) (n10 : Int) : evF (g malive22 msSealer mr22Sealer msExport mr22Export msTag mr22Tag mNum) an N Tryd.f6 [AV.agg [AV.ints IntKind.u8 32 e1, AV.ints IntKind.u8 32 e2, AV.ints IntKind.u8 32 e3, AV.ints IntKind.u8 32 e4, AV.ints IntKind.u8 32 e5, AV.ints IntKind.u8 32 e6, AV.ints IntKind.u8 32 e7, AV.ints IntKind.u8 32 e8], AV.str label9, AV.int IntKind.i64 n10] [] κ =
  malive22 R
   (fun v_c2 => cond (!v_c2)
    (κ (AV.bool false) [])
    (cond (decide ((↑label9.length : Int) > 17000))
     (κ (AV.bool true) [])
     (msSealer R e1 e2 e3 e4 e5 e6 e7 e8
      (fun v_c3 _v_1_c4 v_2_c5 => mr22Sealer R e1 e2 e3 e4 e5 e6 e7 e8
       (fun v_c6 v_1_c7 => msExport R e1 e2 e3 e4 e5 e6 e7 e8 label9 none (List.drop 0 (List.take 32 e8)) n10
        (fun v_c8 => mr22Export R e1 e2 e3 e4 e5 e6 e7 e8 label9 none (List.drop 0 (List.take 32 e8)) n10
         (fun _v_c9 v_1_c10 v_2_c11 => msTag R e1 e2 e3 e4 e5 e6 e7 e8 e7
          (fun v_c12 => mr22Tag R e1 e2 e3 e4 e5 e6 e7 e8 e7
           (fun v_c13 => cond (v_c12 == v_c13)
            (cond (v_c3 == v_c6)
             (cond (toStr v_2_c5 == toStr v_1_c7)
              (cond ([] == toStr v_1_c10)
               (mNum R v_c8
                (fun v_c14 => κ (AV.bool (v_c14 == v_2_c11)) []))
               (κ (AV.bool false) []))
              (κ (AV.bool false) []))
             (κ (AV.bool false) []))
            (κ (AV.bool false) [])))))
        (fun _vg1_c15 v_1_c16 v_2_c17 => mr22Export R e1 e2 e3 e4 e5 e6 e7 e8 label9 none (List.drop 0 (List.take 32 e8)) n10
         (fun _v_c18 v_1_c19 v_2_c20 => msTag R e1 e2 e3 e4 e5 e6 e7 e8 e7
          (fun v_c21 => mr22Tag R e1 e2 e3 e4 e5 e6 e7 e8 e7
           (fun v_c22 => cond (v_c21 == v_c22)
            (cond (v_c3 == v_c6)
             (cond (toStr v_2_c5 == toStr v_1_c7)
              (cond (toStr v_1_c16 == toStr v_1_c19)
               (mNum R v_2_c17
                (fun v_c23 => κ (AV.bool (v_c23 == v_2_c20)) []))
               (κ (AV.bool false) []))
              (κ (AV.bool false) []))
             (κ (AV.bool false) []))
            (κ (AV.bool false) [])))))))))) := by kernel_rfl
theorem eq (malive22 : alive22.Ty) (msSealer : sSealer.Ty) (mr22Sealer : r22Sealer.Ty) (msExport : sExport.Ty) (mr22Export : r22Export.Ty) (msTag : sTag.Ty) (mr22Tag : r22Tag.Ty) (mNum : Num.Ty) {R : Type} (N : Nat) (κ : AV → List Blk → Option R) (e1 : List Int) (e2 : List Int) (e3 : List Int) (e4 : List Int) (e5 : List Int) (e6 : List Int) (e7 : List Int) (e8 : List Int) (label9 : List UInt8) (n10 : Int) : evF (g malive22 msSealer mr22Sealer msExport mr22Export msTag mr22Tag mNum) an N Tryd.f6 [AV.agg [AV.ints IntKind.u8 32 e1, AV.ints IntKind.u8 32 e2, AV.ints IntKind.u8 32 e3, AV.ints IntKind.u8 32 e4, AV.ints IntKind.u8 32 e5, AV.ints IntKind.u8 32 e6, AV.ints IntKind.u8 32 e7, AV.ints IntKind.u8 32 e8], AV.str label9, AV.int IntKind.i64 n10] [] κ =
  m malive22 msSealer mr22Sealer msExport mr22Export msTag mr22Tag mNum N e1 e2 e3 e4 e5 e6 e7 e8 label9 n10 (fun v => κ (AV.bool v) []) := by
  rw [tree]
  kernel_rfl
abbrev Ty : Type 1 := ∀ R : Type, (List Int) → (List Int) → (List Int) → (List Int) → (List Int) → (List Int) → (List Int) → (List Int) → (List UInt8) → Int → (Bool → Option R) → Option R
def con (f : Ty) : Con := fun R args bs κ => match args, bs with
  | [AV.agg [AV.ints IntKind.u8 32 e1, AV.ints IntKind.u8 32 e2, AV.ints IntKind.u8 32 e3, AV.ints IntKind.u8 32 e4, AV.ints IntKind.u8 32 e5, AV.ints IntKind.u8 32 e6, AV.ints IntKind.u8 32 e7, AV.ints IntKind.u8 32 e8], AV.str label9, AV.int IntKind.i64 n10], [] => f R e1 e2 e3 e4 e5 e6 e7 e8 label9 n10 (fun v => κ (AV.bool v) [])
  | _, _ => none
theorem con_eq (f : Ty) (R : Type) (κ : AV → List Blk → Option R) (e1 : List Int) (e2 : List Int) (e3 : List Int) (e4 : List Int) (e5 : List Int) (e6 : List Int) (e7 : List Int) (e8 : List Int) (label9 : List UInt8) (n10 : Int) : con f R [AV.agg [AV.ints IntKind.u8 32 e1, AV.ints IntKind.u8 32 e2, AV.ints IntKind.u8 32 e3, AV.ints IntKind.u8 32 e4, AV.ints IntKind.u8 32 e5, AV.ints IntKind.u8 32 e6, AV.ints IntKind.u8 32 e7, AV.ints IntKind.u8 32 e8], AV.str label9, AV.int IntKind.i64 n10] [] κ = f R e1 e2 e3 e4 e5 e6 e7 e8 label9 n10 (fun v => κ (AV.bool v) []) := rfl
noncomputable def M (N : Nat) : Ty := fun R e1 e2 e3 e4 e5 e6 e7 e8 label9 n10 kr0 => m (alive22.M N) (sSealer.M N) (r22Sealer.M N) (sExport.M N) (r22Export.M N) (sTag.M N) (r22Tag.M N) (Num.M N) (R := R) N e1 e2 e3 e4 e5 e6 e7 e8 label9 n10 kr0
def gts : List (Nat × AV) := [(0, .err 1), (1, .err 3), (2, .err 2), (3, .err 4), (4, .err 5), (5, .err 6), (6, .err 7), (7, .err 8), (8, .err 9), (9, .err 10), (10, .err 11), (11, .err 12), (12, .err 13), (13, .err 14), (14, .err 15), (15, .err 16), (16, .err 17), (17, .err 18), (18, .err 19), (19, .ints .u32 64 K256)]
theorem gok (N : Nat) : GOk (g (alive22.M N) (sSealer.M N) (r22Sealer.M N) (sExport.M N) (r22Export.M N) (sTag.M N) (r22Tag.M N) (Num.M N)) := giF_ok (giD_ok hm (by intro p hp; cases hp) (gtL_ok (by decide)) (ovL_ok (by
    intro p hp
    simp only [List.mem_cons, List.not_mem_nil, or_false] at hp
    rcases hp with rfl | rfl | rfl | rfl | rfl | rfl | rfl | rfl
    · exact ⟨(alive22.ok N).gt (gtL_sub (by repeat (first | exact subG_nil _ | refine subG_cons (by kernel_rfl) ?_))) (gtL_ok (by decide)), _, Tryd.func7, by kernel_rfl, by kernel_rfl⟩
    · exact ⟨(sSealer.ok N).gt (gtL_sub (by repeat (first | exact subG_nil _ | refine subG_cons (by kernel_rfl) ?_))) (gtL_ok (by decide)), _, Tryd.func17, by kernel_rfl, by kernel_rfl⟩
    · exact ⟨(r22Sealer.ok N).gt (gtL_sub (by repeat (first | exact subG_nil _ | refine subG_cons (by kernel_rfl) ?_))) (gtL_ok (by decide)), _, Tryd.func18, by kernel_rfl, by kernel_rfl⟩
    · exact ⟨(sExport.ok N).gt (gtL_sub (by repeat (first | exact subG_nil _ | refine subG_cons (by kernel_rfl) ?_))) (gtL_ok (by decide)), _, Tryd.func15, by kernel_rfl, by kernel_rfl⟩
    · exact ⟨(r22Export.ok N).gt (gtL_sub (by repeat (first | exact subG_nil _ | refine subG_cons (by kernel_rfl) ?_))) (gtL_ok (by decide)), _, Tryd.func19, by kernel_rfl, by kernel_rfl⟩
    · exact ⟨(sTag.ok N).gt (gtL_sub (by repeat (first | exact subG_nil _ | refine subG_cons (by kernel_rfl) ?_))) (gtL_ok (by decide)), _, Tryd.func14, by kernel_rfl, by kernel_rfl⟩
    · exact ⟨(r22Tag.ok N).gt (gtL_sub (by repeat (first | exact subG_nil _ | refine subG_cons (by kernel_rfl) ?_))) (gtL_ok (by decide)), _, Tryd.func20, by kernel_rfl, by kernel_rfl⟩
    · exact ⟨(Num.ok N).gt (gtL_sub (by repeat (first | exact subG_nil _ | refine subG_cons (by kernel_rfl) ?_))) (gtL_ok (by decide)), _, Tryd.func16, by kernel_rfl, by kernel_rfl⟩
)) 1)
theorem ok (N : Nat) : SoundC Tryd.prog (gtL gts) 6 (con (M N)) := by
  refine SoundC.mono (evF_ok (gok N) hm an N Tryd.func6) fun R args bs κ r h => ?_
  unfold con at h
  split at h
  · exact (eq (alive22.M N) (sSealer.M N) (r22Sealer.M N) (sExport.M N) (r22Export.M N) (sTag.M N) (r22Tag.M N) (Num.M N) N κ _ _ _ _ _ _ _ _ _ _).trans h
  · cases h
end ScheduleGives

end Go.Proofs.YtjaekdcbjfgcpaaDoor.fn
