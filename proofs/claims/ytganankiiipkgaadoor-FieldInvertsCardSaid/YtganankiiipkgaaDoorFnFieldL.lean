/- What the field's laws compute, with the proof; printed by a program. -/
import Derived.Test.YtganankiiipkgaaDoorProg
import Derived.Test.YtganankiiipkgaaDoorEv4
import Derived.Test.YtganankiiipkgaaDoorFnFieldR
import Derived.Test.YtganankiiipkgaaDoorFnNum
namespace Go.Proofs.YtganankiiipkgaaDoor.fn
open Go Go.Proofs Go.Ev

/-! ### Tryd.f11: alive09 -/
namespace alive09
def an : Anns := ⟨fun i => findA i [], fun i => findA i [], false, fun _ => none⟩
noncomputable def g (mSmall : Small.Ty) (meBytes : eBytes.Ty) : Gi := giD Tryd.prog (gtL [(0, .ints .u64 10 [134216512, 134217726, 134217726, 134217726, 134217726, 134217726, 134217726, 134217726, 134217726, 134217726])]) (fun _ => an) 0 [] (ovL [(27, Small.con mSmall), (50, eBytes.con meBytes)]) 1
noncomputable def m (mSmall : Small.Ty) (meBytes : eBytes.Ty) {R : Type} (_N : Nat) (kr0 : Bool → Option R) : Option R :=
  mSmall R (-1)
   (fun v_c2 => meBytes R v_c2
    (fun v_c3 => cond (v_c3.getD 0 0 == 236)
     (cond (v_c3.getD 1 0 == 255)
      (kr0 (v_c3.getD 31 0 == 127))
      (kr0 false))
     (kr0 false)))
theorem tree (mSmall : Small.Ty) (meBytes : eBytes.Ty) {R : Type} (N : Nat) (κ : AV → List Blk → Option R) : evF (g mSmall meBytes) an N Tryd.f11 [] [] κ =
  mSmall R (-1)
   (fun v_c2 => meBytes R v_c2
    (fun v_c3 => cond (v_c3.getD 0 0 == 236)
     (cond (v_c3.getD 1 0 == 255)
      (κ (AV.bool (v_c3.getD 31 0 == 127)) [])
      (κ (AV.bool false) []))
     (κ (AV.bool false) []))) := by kernel_rfl
theorem eq (mSmall : Small.Ty) (meBytes : eBytes.Ty) {R : Type} (N : Nat) (κ : AV → List Blk → Option R) : evF (g mSmall meBytes) an N Tryd.f11 [] [] κ =
  m mSmall meBytes N (fun v => κ (AV.bool v) []) := by
  rw [tree]
  kernel_rfl
abbrev Ty : Type 1 := ∀ R : Type, (Bool → Option R) → Option R
def con (f : Ty) : Con := fun R args bs κ => match args, bs with
  | [], [] => f R (fun v => κ (AV.bool v) [])
  | _, _ => none
theorem con_eq (f : Ty) (R : Type) (κ : AV → List Blk → Option R) : con f R [] [] κ = f R (fun v => κ (AV.bool v) []) := rfl
noncomputable def M (N : Nat) : Ty := fun R kr0 => m (Small.M N) (eBytes.M N) (R := R) N kr0
def gts : List (Nat × AV) := [(0, .ints .u64 10 [134216512, 134217726, 134217726, 134217726, 134217726, 134217726, 134217726, 134217726, 134217726, 134217726])]
theorem gok (N : Nat) : GOk (g (Small.M N) (eBytes.M N)) := giD_ok hm (by intro p hp; cases hp) (gtL_ok (by decide)) (ovL_ok (by
    intro p hp
    simp only [List.mem_cons, List.not_mem_nil, or_false] at hp
    rcases hp with rfl | rfl
    · exact ⟨(Small.ok N).gt (gtL_sub (by repeat (first | exact subG_nil _ | refine subG_cons (by kernel_rfl) ?_))) (gtL_ok (by decide)), _, Tryd.func27, by kernel_rfl, by kernel_rfl⟩
    · exact ⟨(eBytes.ok N).gt (gtL_sub (by repeat (first | exact subG_nil _ | refine subG_cons (by kernel_rfl) ?_))) (gtL_ok (by decide)), _, Tryd.func50, by kernel_rfl, by kernel_rfl⟩
)) 1
theorem ok (N : Nat) : SoundC Tryd.prog (gtL gts) 11 (con (M N)) := by
  refine SoundC.mono (evF_ok (gok N) hm an N Tryd.func11) fun R args bs κ r h => ?_
  unfold con at h
  split at h
  · exact (eq (Small.M N) (eBytes.M N) N κ).trans h
  · cases h
end alive09


/-! ### Tryd.f14: same -/
namespace same
def an : Anns := ⟨fun i => findA i [], fun i => findA i [], false, fun _ => none⟩
noncomputable def g (meBytes : eBytes.Ty) (mrBytes : rBytes.Ty) : Gi := giD Tryd.prog (gtL []) (fun _ => an) 0 [] (ovL [(50, eBytes.con meBytes), (23, rBytes.con mrBytes)]) 1
noncomputable def m (meBytes : eBytes.Ty) (mrBytes : rBytes.Ty) {R : Type} (_N : Nat) (a1 : List Int) (w2 : List Int) (kr0 : Bool → Option R) : Option R :=
  meBytes R a1
   (fun v_c2 => mrBytes R w2
    (fun v_c3 => kr0 (v_c2 == v_c3)))
theorem tree (meBytes : eBytes.Ty) (mrBytes : rBytes.Ty) {R : Type} (N : Nat) (κ : AV → List Blk → Option R) (a1 : List Int) (w2 : List Int) : evF (g meBytes mrBytes) an N Tryd.f14 [AV.agg [AV.ints IntKind.u64 10 a1], AV.ints IntKind.u32 8 w2] [] κ =
  meBytes R a1
   (fun v_c2 => mrBytes R w2
    (fun v_c3 => κ (AV.bool (v_c2 == v_c3)) [])) := by kernel_rfl
theorem eq (meBytes : eBytes.Ty) (mrBytes : rBytes.Ty) {R : Type} (N : Nat) (κ : AV → List Blk → Option R) (a1 : List Int) (w2 : List Int) : evF (g meBytes mrBytes) an N Tryd.f14 [AV.agg [AV.ints IntKind.u64 10 a1], AV.ints IntKind.u32 8 w2] [] κ =
  m meBytes mrBytes N a1 w2 (fun v => κ (AV.bool v) []) := by
  rw [tree]
  kernel_rfl
abbrev Ty : Type 1 := ∀ R : Type, (List Int) → (List Int) → (Bool → Option R) → Option R
def con (f : Ty) : Con := fun R args bs κ => match args, bs with
  | [AV.agg [AV.ints IntKind.u64 10 a1], AV.ints IntKind.u32 8 w2], [] => f R a1 w2 (fun v => κ (AV.bool v) [])
  | _, _ => none
theorem con_eq (f : Ty) (R : Type) (κ : AV → List Blk → Option R) (a1 : List Int) (w2 : List Int) : con f R [AV.agg [AV.ints IntKind.u64 10 a1], AV.ints IntKind.u32 8 w2] [] κ = f R a1 w2 (fun v => κ (AV.bool v) []) := rfl
noncomputable def M (N : Nat) : Ty := fun R a1 w2 kr0 => m (eBytes.M N) (rBytes.M N) (R := R) N a1 w2 kr0
def gts : List (Nat × AV) := []
theorem gok (N : Nat) : GOk (g (eBytes.M N) (rBytes.M N)) := giD_ok hm (by intro p hp; cases hp) (gtL_ok (by decide)) (ovL_ok (by
    intro p hp
    simp only [List.mem_cons, List.not_mem_nil, or_false] at hp
    rcases hp with rfl | rfl
    · exact ⟨(eBytes.ok N).gt (gtL_sub (by repeat (first | exact subG_nil _ | refine subG_cons (by kernel_rfl) ?_))) (gtL_ok (by decide)), _, Tryd.func50, by kernel_rfl, by kernel_rfl⟩
    · exact ⟨(rBytes.ok N).gt (gtL_sub (by repeat (first | exact subG_nil _ | refine subG_cons (by kernel_rfl) ?_))) (gtL_ok (by decide)), _, Tryd.func23, by kernel_rfl, by kernel_rfl⟩
)) 1
theorem ok (N : Nat) : SoundC Tryd.prog (gtL gts) 14 (con (M N)) := by
  refine SoundC.mono (evF_ok (gok N) hm an N Tryd.func14) fun R args bs κ r h => ?_
  unfold con at h
  split at h
  · exact (eq (eBytes.M N) (rBytes.M N) N κ _ _).trans h
  · cases h
end same


/-! ### Tryd.f3: FieldSums -/
namespace FieldSums
def an : Anns := ⟨fun i => findA i [], fun i => findA i [], false, fun _ => none⟩
noncomputable def g (malive09 : alive09.Ty) (mfRead : fRead.Ty) (mrMasked : rMasked.Ty) (meAdd : eAdd.Ty) (mrAdd : rAdd.Ty) (msame : same.Ty) (meSub : eSub.Ty) (mrSub : rSub.Ty) (meTimes : eTimes.Ty) (mrTimes : rTimes.Ty) (mSquare : Square.Ty) (mSame : Same.Ty) : Gi := giD Tryd.prog (gtL [(0, .ints .u64 10 [134216512, 134217726, 134217726, 134217726, 134217726, 134217726, 134217726, 134217726, 134217726, 134217726])]) (fun _ => an) 0 [] (ovL [(11, alive09.con malive09), (12, fRead.con mfRead), (13, rMasked.con mrMasked), (15, eAdd.con meAdd), (16, rAdd.con mrAdd), (14, same.con msame), (17, eSub.con meSub), (18, rSub.con mrSub), (19, eTimes.con meTimes), (20, rTimes.con mrTimes), (21, Square.con mSquare), (22, Same.con mSame)]) 1
noncomputable def m (malive09 : alive09.Ty) (mfRead : fRead.Ty) (mrMasked : rMasked.Ty) (meAdd : eAdd.Ty) (mrAdd : rAdd.Ty) (msame : same.Ty) (meSub : eSub.Ty) (mrSub : rSub.Ty) (meTimes : eTimes.Ty) (mrTimes : rTimes.Ty) (mSquare : Square.Ty) (mSame : Same.Ty) {R : Type} (_N : Nat) (a1 : List Int) (b2 : List Int) (kr0 : Bool → Option R) : Option R :=
  malive09 R
   (fun v_c20 => cond (!v_c20)
    (kr0 false)
    (mfRead R a1
     (fun v_c21 => mfRead R b2
      (fun v_c22 => mrMasked R a1
       (fun v_c23 => mrMasked R b2
        (fun v_c24 => meAdd R v_c21 v_c22
         (fun v_c25 => mrAdd R v_c23 v_c24
          (fun v_c26 => msame R v_c25 v_c26
           (fun v_c27 => cond v_c27
            (meSub R v_c21 v_c22
             (fun v_c28 => mrSub R v_c23 v_c24
              (fun v_c29 => msame R v_c28 v_c29
               (fun v_c30 => cond v_c30
                (meTimes R v_c21 v_c22
                 (fun v_c31 => mrTimes R v_c23 v_c24
                  (fun v_c32 => msame R v_c31 v_c32
                   (fun v_c33 => cond v_c33
                    (mSquare R v_c21
                     (fun v_c34 => mrTimes R v_c23 v_c23
                      (fun v_c35 => msame R v_c34 v_c35
                       (fun v_c36 => cond v_c36
                        (mSame R v_c21 v_c22
                         (fun v_c37 => cond (v_c37 == (v_c23 == v_c24))
                          (mSame R v_c21 v_c21
                           (fun v_c38 => kr0 v_c38))
                          (kr0 false)))
                        (kr0 false)))))
                    (kr0 false)))))
                (kr0 false)))))
            (kr0 false))))))))))
theorem tree (malive09 : alive09.Ty) (mfRead : fRead.Ty) (mrMasked : rMasked.Ty) (meAdd : eAdd.Ty) (mrAdd : rAdd.Ty) (msame : same.Ty) (meSub : eSub.Ty) (mrSub : rSub.Ty) (meTimes : eTimes.Ty) (mrTimes : rTimes.Ty) (mSquare : Square.Ty) (mSame : Same.Ty) {R : Type} (N : Nat) (κ : AV → List Blk → Option R) (a1 : List Int) (b2 : List Int) : evF (g malive09 mfRead mrMasked meAdd mrAdd msame meSub mrSub meTimes mrTimes mSquare mSame) an N Tryd.f3 [AV.ints IntKind.u8 32 a1, AV.ints IntKind.u8 32 b2] [] κ =
  malive09 R
   (fun v_c20 => cond (!v_c20)
    (κ (AV.bool false) [])
    (mfRead R a1
     (fun v_c21 => mfRead R b2
      (fun v_c22 => mrMasked R a1
       (fun v_c23 => mrMasked R b2
        (fun v_c24 => meAdd R v_c21 v_c22
         (fun v_c25 => mrAdd R v_c23 v_c24
          (fun v_c26 => msame R v_c25 v_c26
           (fun v_c27 => cond v_c27
            (meSub R v_c21 v_c22
             (fun v_c28 => mrSub R v_c23 v_c24
              (fun v_c29 => msame R v_c28 v_c29
               (fun v_c30 => cond v_c30
                (meTimes R v_c21 v_c22
                 (fun v_c31 => mrTimes R v_c23 v_c24
                  (fun v_c32 => msame R v_c31 v_c32
                   (fun v_c33 => cond v_c33
                    (mSquare R v_c21
                     (fun v_c34 => mrTimes R v_c23 v_c23
                      (fun v_c35 => msame R v_c34 v_c35
                       (fun v_c36 => cond v_c36
                        (mSame R v_c21 v_c22
                         (fun v_c37 => cond (v_c37 == (v_c23 == v_c24))
                          (mSame R v_c21 v_c21
                           (fun v_c38 => κ (AV.bool v_c38) []))
                          (κ (AV.bool false) [])))
                        (κ (AV.bool false) [])))))
                    (κ (AV.bool false) [])))))
                (κ (AV.bool false) [])))))
            (κ (AV.bool false) [])))))))))) := by kernel_rfl
theorem eq (malive09 : alive09.Ty) (mfRead : fRead.Ty) (mrMasked : rMasked.Ty) (meAdd : eAdd.Ty) (mrAdd : rAdd.Ty) (msame : same.Ty) (meSub : eSub.Ty) (mrSub : rSub.Ty) (meTimes : eTimes.Ty) (mrTimes : rTimes.Ty) (mSquare : Square.Ty) (mSame : Same.Ty) {R : Type} (N : Nat) (κ : AV → List Blk → Option R) (a1 : List Int) (b2 : List Int) : evF (g malive09 mfRead mrMasked meAdd mrAdd msame meSub mrSub meTimes mrTimes mSquare mSame) an N Tryd.f3 [AV.ints IntKind.u8 32 a1, AV.ints IntKind.u8 32 b2] [] κ =
  m malive09 mfRead mrMasked meAdd mrAdd msame meSub mrSub meTimes mrTimes mSquare mSame N a1 b2 (fun v => κ (AV.bool v) []) := by
  rw [tree]
  kernel_rfl
abbrev Ty : Type 1 := ∀ R : Type, (List Int) → (List Int) → (Bool → Option R) → Option R
def con (f : Ty) : Con := fun R args bs κ => match args, bs with
  | [AV.ints IntKind.u8 32 a1, AV.ints IntKind.u8 32 b2], [] => f R a1 b2 (fun v => κ (AV.bool v) [])
  | _, _ => none
theorem con_eq (f : Ty) (R : Type) (κ : AV → List Blk → Option R) (a1 : List Int) (b2 : List Int) : con f R [AV.ints IntKind.u8 32 a1, AV.ints IntKind.u8 32 b2] [] κ = f R a1 b2 (fun v => κ (AV.bool v) []) := rfl
noncomputable def M (N : Nat) : Ty := fun R a1 b2 kr0 => m (alive09.M N) (fRead.M N) (rMasked.M N) (eAdd.M N) (rAdd.M N) (same.M N) (eSub.M N) (rSub.M N) (eTimes.M N) (rTimes.M N) (Square.M N) (Same.M N) (R := R) N a1 b2 kr0
def gts : List (Nat × AV) := [(0, .ints .u64 10 [134216512, 134217726, 134217726, 134217726, 134217726, 134217726, 134217726, 134217726, 134217726, 134217726])]
theorem gok (N : Nat) : GOk (g (alive09.M N) (fRead.M N) (rMasked.M N) (eAdd.M N) (rAdd.M N) (same.M N) (eSub.M N) (rSub.M N) (eTimes.M N) (rTimes.M N) (Square.M N) (Same.M N)) := giD_ok hm (by intro p hp; cases hp) (gtL_ok (by decide)) (ovL_ok (by
    intro p hp
    simp only [List.mem_cons, List.not_mem_nil, or_false] at hp
    rcases hp with rfl | rfl | rfl | rfl | rfl | rfl | rfl | rfl | rfl | rfl | rfl | rfl
    · exact ⟨(alive09.ok N).gt (gtL_sub (by repeat (first | exact subG_nil _ | refine subG_cons (by kernel_rfl) ?_))) (gtL_ok (by decide)), _, Tryd.func11, by kernel_rfl, by kernel_rfl⟩
    · exact ⟨(fRead.ok N).gt (gtL_sub (by repeat (first | exact subG_nil _ | refine subG_cons (by kernel_rfl) ?_))) (gtL_ok (by decide)), _, Tryd.func12, by kernel_rfl, by kernel_rfl⟩
    · exact ⟨(rMasked.ok N).gt (gtL_sub (by repeat (first | exact subG_nil _ | refine subG_cons (by kernel_rfl) ?_))) (gtL_ok (by decide)), _, Tryd.func13, by kernel_rfl, by kernel_rfl⟩
    · exact ⟨(eAdd.ok N).gt (gtL_sub (by repeat (first | exact subG_nil _ | refine subG_cons (by kernel_rfl) ?_))) (gtL_ok (by decide)), _, Tryd.func15, by kernel_rfl, by kernel_rfl⟩
    · exact ⟨(rAdd.ok N).gt (gtL_sub (by repeat (first | exact subG_nil _ | refine subG_cons (by kernel_rfl) ?_))) (gtL_ok (by decide)), _, Tryd.func16, by kernel_rfl, by kernel_rfl⟩
    · exact ⟨(same.ok N).gt (gtL_sub (by repeat (first | exact subG_nil _ | refine subG_cons (by kernel_rfl) ?_))) (gtL_ok (by decide)), _, Tryd.func14, by kernel_rfl, by kernel_rfl⟩
    · exact ⟨(eSub.ok N).gt (gtL_sub (by repeat (first | exact subG_nil _ | refine subG_cons (by kernel_rfl) ?_))) (gtL_ok (by decide)), _, Tryd.func17, by kernel_rfl, by kernel_rfl⟩
    · exact ⟨(rSub.ok N).gt (gtL_sub (by repeat (first | exact subG_nil _ | refine subG_cons (by kernel_rfl) ?_))) (gtL_ok (by decide)), _, Tryd.func18, by kernel_rfl, by kernel_rfl⟩
    · exact ⟨(eTimes.ok N).gt (gtL_sub (by repeat (first | exact subG_nil _ | refine subG_cons (by kernel_rfl) ?_))) (gtL_ok (by decide)), _, Tryd.func19, by kernel_rfl, by kernel_rfl⟩
    · exact ⟨(rTimes.ok N).gt (gtL_sub (by repeat (first | exact subG_nil _ | refine subG_cons (by kernel_rfl) ?_))) (gtL_ok (by decide)), _, Tryd.func20, by kernel_rfl, by kernel_rfl⟩
    · exact ⟨(Square.ok N).gt (gtL_sub (by repeat (first | exact subG_nil _ | refine subG_cons (by kernel_rfl) ?_))) (gtL_ok (by decide)), _, Tryd.func21, by kernel_rfl, by kernel_rfl⟩
    · exact ⟨(Same.ok N).gt (gtL_sub (by repeat (first | exact subG_nil _ | refine subG_cons (by kernel_rfl) ?_))) (gtL_ok (by decide)), _, Tryd.func22, by kernel_rfl, by kernel_rfl⟩
)) 1
theorem ok (N : Nat) : SoundC Tryd.prog (gtL gts) 3 (con (M N)) := by
  refine SoundC.mono (evF_ok (gok N) hm an N Tryd.func3) fun R args bs κ r h => ?_
  unfold con at h
  split at h
  · exact (eq (alive09.M N) (fRead.M N) (rMasked.M N) (eAdd.M N) (rAdd.M N) (same.M N) (eSub.M N) (rSub.M N) (eTimes.M N) (rTimes.M N) (Square.M N) (Same.M N) N κ _ _).trans h
  · cases h
end FieldSums


/-! ### Tryd.f4: FieldReads -/
namespace FieldReads
def an : Anns := ⟨fun i => findA i [], fun i => findA i [], false, fun _ => none⟩
noncomputable def g (malive09 : alive09.Ty) (mrMasked : rMasked.Ty) (mfRead : fRead.Ty) (mrBytes : rBytes.Ty) (mStrict : Strict.Ty) (msame : same.Ty) (meZero : eZero.Ty) (mNum : Num.Ty) (mSmall : Small.Ty) (mrSmall : rSmall.Ty) (mOdd : Odd.Ty) : Gi := giD Tryd.prog (gtL [(0, .ints .u64 10 [134216512, 134217726, 134217726, 134217726, 134217726, 134217726, 134217726, 134217726, 134217726, 134217726]), (1, .err 4), (2, .err 1), (3, .err 2), (4, .err 3), (5, .err 5), (6, .err 6), (7, .err 7), (8, .err 8), (9, .err 9), (10, .err 10), (11, .err 11), (12, .err 12), (13, .err 13), (14, .err 14), (15, .err 15), (16, .err 16), (17, .err 17), (18, .err 18), (19, .err 19)]) (fun _ => an) 0 [] (ovL [(11, alive09.con malive09), (13, rMasked.con mrMasked), (12, fRead.con mfRead), (23, rBytes.con mrBytes), (24, Strict.con mStrict), (14, same.con msame), (25, eZero.con meZero), (26, Num.con mNum), (27, Small.con mSmall), (28, rSmall.con mrSmall), (29, Odd.con mOdd)]) 1
noncomputable def m (malive09 : alive09.Ty) (mrMasked : rMasked.Ty) (mfRead : fRead.Ty) (mrBytes : rBytes.Ty) (mStrict : Strict.Ty) (msame : same.Ty) (meZero : eZero.Ty) (mNum : Num.Ty) (mSmall : Small.Ty) (mrSmall : rSmall.Ty) (mOdd : Odd.Ty) {R : Type} (_N : Nat) (b1 : List Int) (n2 : Int) (kr0 : Bool → Option R) : Option R :=
  malive09 R
   (fun v_c16 => cond (!v_c16)
    (kr0 false)
    (mrMasked R b1
     (fun v_c17 => mfRead R b1
      (fun v_c18 => mrBytes R v_c17
       (fun v_c19 => mStrict R b1
        (fun v_c20 v_1_c21 => msame R v_c18 v_c17
         (fun v_c22 => cond (!v_c22)
          (kr0 false)
          (cond (!v_1_c21.beq 0 == (v_c19 == b1))
           (kr0 false)
           (cond (v_c19 == b1)
            (msame R v_c20 v_c17
             (fun v_c23 => cond (!v_c23)
              (kr0 false)
              (cond (!v_c19 == b1)
               (meZero R v_c20
                (fun v_c24 => cond (!v_c24)
                 (kr0 false)
                 (mNum R v_1_c21
                  (fun v_c25 => cond (v_c25 != 4)
                   (kr0 false)
                   (mSmall R n2
                    (fun v_c26 => mrSmall R n2
                     (fun v_c27 => msame R v_c26 v_c27
                      (fun v_c28 => cond v_c28
                       (mOdd R v_c18
                        (fun v_c29 => cond (v_c29 == ((v_c17.getD 0 0).tmod 2 == 1))
                         (meZero R v_c18
                          (fun v_c30 => kr0 (v_c30 == (v_c17 == [0, 0, 0, 0, 0, 0, 0, 0]))))
                         (kr0 false)))
                       (kr0 false)))))))))
               (mSmall R n2
                (fun v_c31 => mrSmall R n2
                 (fun v_c32 => msame R v_c31 v_c32
                  (fun v_c33 => cond v_c33
                   (mOdd R v_c18
                    (fun v_c34 => cond (v_c34 == ((v_c17.getD 0 0).tmod 2 == 1))
                     (meZero R v_c18
                      (fun v_c35 => kr0 (v_c35 == (v_c17 == [0, 0, 0, 0, 0, 0, 0, 0]))))
                     (kr0 false)))
                   (kr0 false))))))))
            (cond (!v_c19 == b1)
             (meZero R v_c20
              (fun v_c36 => cond (!v_c36)
               (kr0 false)
               (mNum R v_1_c21
                (fun v_c37 => cond (v_c37 != 4)
                 (kr0 false)
                 (mSmall R n2
                  (fun v_c38 => mrSmall R n2
                   (fun v_c39 => msame R v_c38 v_c39
                    (fun v_c40 => cond v_c40
                     (mOdd R v_c18
                      (fun v_c41 => cond (v_c41 == ((v_c17.getD 0 0).tmod 2 == 1))
                       (meZero R v_c18
                        (fun v_c42 => kr0 (v_c42 == (v_c17 == [0, 0, 0, 0, 0, 0, 0, 0]))))
                       (kr0 false)))
                     (kr0 false)))))))))
             (mSmall R n2
              (fun v_c43 => mrSmall R n2
               (fun v_c44 => msame R v_c43 v_c44
                (fun v_c45 => cond v_c45
                 (mOdd R v_c18
                  (fun v_c46 => cond (v_c46 == ((v_c17.getD 0 0).tmod 2 == 1))
                   (meZero R v_c18
                    (fun v_c47 => kr0 (v_c47 == (v_c17 == [0, 0, 0, 0, 0, 0, 0, 0]))))
                   (kr0 false)))
                 (kr0 false)))))))))))))))
theorem tree (malive09 : alive09.Ty) (mrMasked : rMasked.Ty) (mfRead : fRead.Ty) (mrBytes : rBytes.Ty) (mStrict : Strict.Ty) (msame : same.Ty) (meZero : eZero.Ty) (mNum : Num.Ty) (mSmall : Small.Ty) (mrSmall : rSmall.Ty) (mOdd : Odd.Ty) {R : Type} (N : Nat) (κ : AV → List Blk → Option R) (b1 : List Int) (n2 : Int) : evF (g malive09 mrMasked mfRead mrBytes mStrict msame meZero mNum mSmall mrSmall mOdd) an N Tryd.f4 [AV.ints IntKind.u8 32 b1, AV.int IntKind.i64 n2] [] κ =
  malive09 R
   (fun v_c16 => cond (!v_c16)
    (κ (AV.bool false) [])
    (mrMasked R b1
     (fun v_c17 => mfRead R b1
      (fun v_c18 => mrBytes R v_c17
       (fun v_c19 => mStrict R b1
        (fun v_c20 v_1_c21 => msame R v_c18 v_c17
         (fun v_c22 => cond (!v_c22)
          (κ (AV.bool false) [])
          (cond (!v_1_c21.beq 0 == (v_c19 == b1))
           (κ (AV.bool false) [])
           (cond (v_c19 == b1)
            (msame R v_c20 v_c17
             (fun v_c23 => cond (!v_c23)
              (κ (AV.bool false) [])
              (cond (!v_c19 == b1)
               (meZero R v_c20
                (fun v_c24 => cond (!v_c24)
                 (κ (AV.bool false) [])
                 (mNum R v_1_c21
                  (fun v_c25 => cond (v_c25 != 4)
                   (κ (AV.bool false) [])
                   (mSmall R n2
                    (fun v_c26 => mrSmall R n2
                     (fun v_c27 => msame R v_c26 v_c27
                      (fun v_c28 => cond v_c28
                       (mOdd R v_c18
                        (fun v_c29 => cond (v_c29 == ((v_c17.getD 0 0).tmod 2 == 1))
                         (meZero R v_c18
                          (fun v_c30 => κ (AV.bool (v_c30 == (v_c17 == [0, 0, 0, 0, 0, 0, 0, 0]))) []))
                         (κ (AV.bool false) [])))
                       (κ (AV.bool false) [])))))))))
               (mSmall R n2
                (fun v_c31 => mrSmall R n2
                 (fun v_c32 => msame R v_c31 v_c32
                  (fun v_c33 => cond v_c33
                   (mOdd R v_c18
                    (fun v_c34 => cond (v_c34 == ((v_c17.getD 0 0).tmod 2 == 1))
                     (meZero R v_c18
                      (fun v_c35 => κ (AV.bool (v_c35 == (v_c17 == [0, 0, 0, 0, 0, 0, 0, 0]))) []))
                     (κ (AV.bool false) [])))
                   (κ (AV.bool false) []))))))))
            (cond (!v_c19 == b1)
             (meZero R v_c20
              (fun v_c36 => cond (!v_c36)
               (κ (AV.bool false) [])
               (mNum R v_1_c21
                (fun v_c37 => cond (v_c37 != 4)
                 (κ (AV.bool false) [])
                 (mSmall R n2
                  (fun v_c38 => mrSmall R n2
                   (fun v_c39 => msame R v_c38 v_c39
                    (fun v_c40 => cond v_c40
                     (mOdd R v_c18
                      (fun v_c41 => cond (v_c41 == ((v_c17.getD 0 0).tmod 2 == 1))
                       (meZero R v_c18
                        (fun v_c42 => κ (AV.bool (v_c42 == (v_c17 == [0, 0, 0, 0, 0, 0, 0, 0]))) []))
                       (κ (AV.bool false) [])))
                     (κ (AV.bool false) [])))))))))
             (mSmall R n2
              (fun v_c43 => mrSmall R n2
               (fun v_c44 => msame R v_c43 v_c44
                (fun v_c45 => cond v_c45
                 (mOdd R v_c18
                  (fun v_c46 => cond (v_c46 == ((v_c17.getD 0 0).tmod 2 == 1))
                   (meZero R v_c18
                    (fun v_c47 => κ (AV.bool (v_c47 == (v_c17 == [0, 0, 0, 0, 0, 0, 0, 0]))) []))
                   (κ (AV.bool false) [])))
                 (κ (AV.bool false) []))))))))))))))) := by kernel_rfl
theorem eq (malive09 : alive09.Ty) (mrMasked : rMasked.Ty) (mfRead : fRead.Ty) (mrBytes : rBytes.Ty) (mStrict : Strict.Ty) (msame : same.Ty) (meZero : eZero.Ty) (mNum : Num.Ty) (mSmall : Small.Ty) (mrSmall : rSmall.Ty) (mOdd : Odd.Ty) {R : Type} (N : Nat) (κ : AV → List Blk → Option R) (b1 : List Int) (n2 : Int) : evF (g malive09 mrMasked mfRead mrBytes mStrict msame meZero mNum mSmall mrSmall mOdd) an N Tryd.f4 [AV.ints IntKind.u8 32 b1, AV.int IntKind.i64 n2] [] κ =
  m malive09 mrMasked mfRead mrBytes mStrict msame meZero mNum mSmall mrSmall mOdd N b1 n2 (fun v => κ (AV.bool v) []) := by
  rw [tree]
  kernel_rfl
abbrev Ty : Type 1 := ∀ R : Type, (List Int) → Int → (Bool → Option R) → Option R
def con (f : Ty) : Con := fun R args bs κ => match args, bs with
  | [AV.ints IntKind.u8 32 b1, AV.int IntKind.i64 n2], [] => f R b1 n2 (fun v => κ (AV.bool v) [])
  | _, _ => none
theorem con_eq (f : Ty) (R : Type) (κ : AV → List Blk → Option R) (b1 : List Int) (n2 : Int) : con f R [AV.ints IntKind.u8 32 b1, AV.int IntKind.i64 n2] [] κ = f R b1 n2 (fun v => κ (AV.bool v) []) := rfl
noncomputable def M (N : Nat) : Ty := fun R b1 n2 kr0 => m (alive09.M N) (rMasked.M N) (fRead.M N) (rBytes.M N) (Strict.M N) (same.M N) (eZero.M N) (Num.M N) (Small.M N) (rSmall.M N) (Odd.M N) (R := R) N b1 n2 kr0
def gts : List (Nat × AV) := [(0, .ints .u64 10 [134216512, 134217726, 134217726, 134217726, 134217726, 134217726, 134217726, 134217726, 134217726, 134217726]), (1, .err 4), (2, .err 1), (3, .err 2), (4, .err 3), (5, .err 5), (6, .err 6), (7, .err 7), (8, .err 8), (9, .err 9), (10, .err 10), (11, .err 11), (12, .err 12), (13, .err 13), (14, .err 14), (15, .err 15), (16, .err 16), (17, .err 17), (18, .err 18), (19, .err 19)]
theorem gok (N : Nat) : GOk (g (alive09.M N) (rMasked.M N) (fRead.M N) (rBytes.M N) (Strict.M N) (same.M N) (eZero.M N) (Num.M N) (Small.M N) (rSmall.M N) (Odd.M N)) := giD_ok hm (by intro p hp; cases hp) (gtL_ok (by decide)) (ovL_ok (by
    intro p hp
    simp only [List.mem_cons, List.not_mem_nil, or_false] at hp
    rcases hp with rfl | rfl | rfl | rfl | rfl | rfl | rfl | rfl | rfl | rfl | rfl
    · exact ⟨(alive09.ok N).gt (gtL_sub (by repeat (first | exact subG_nil _ | refine subG_cons (by kernel_rfl) ?_))) (gtL_ok (by decide)), _, Tryd.func11, by kernel_rfl, by kernel_rfl⟩
    · exact ⟨(rMasked.ok N).gt (gtL_sub (by repeat (first | exact subG_nil _ | refine subG_cons (by kernel_rfl) ?_))) (gtL_ok (by decide)), _, Tryd.func13, by kernel_rfl, by kernel_rfl⟩
    · exact ⟨(fRead.ok N).gt (gtL_sub (by repeat (first | exact subG_nil _ | refine subG_cons (by kernel_rfl) ?_))) (gtL_ok (by decide)), _, Tryd.func12, by kernel_rfl, by kernel_rfl⟩
    · exact ⟨(rBytes.ok N).gt (gtL_sub (by repeat (first | exact subG_nil _ | refine subG_cons (by kernel_rfl) ?_))) (gtL_ok (by decide)), _, Tryd.func23, by kernel_rfl, by kernel_rfl⟩
    · exact ⟨(Strict.ok N).gt (gtL_sub (by repeat (first | exact subG_nil _ | refine subG_cons (by kernel_rfl) ?_))) (gtL_ok (by decide)), _, Tryd.func24, by kernel_rfl, by kernel_rfl⟩
    · exact ⟨(same.ok N).gt (gtL_sub (by repeat (first | exact subG_nil _ | refine subG_cons (by kernel_rfl) ?_))) (gtL_ok (by decide)), _, Tryd.func14, by kernel_rfl, by kernel_rfl⟩
    · exact ⟨(eZero.ok N).gt (gtL_sub (by repeat (first | exact subG_nil _ | refine subG_cons (by kernel_rfl) ?_))) (gtL_ok (by decide)), _, Tryd.func25, by kernel_rfl, by kernel_rfl⟩
    · exact ⟨(Num.ok N).gt (gtL_sub (by repeat (first | exact subG_nil _ | refine subG_cons (by kernel_rfl) ?_))) (gtL_ok (by decide)), _, Tryd.func26, by kernel_rfl, by kernel_rfl⟩
    · exact ⟨(Small.ok N).gt (gtL_sub (by repeat (first | exact subG_nil _ | refine subG_cons (by kernel_rfl) ?_))) (gtL_ok (by decide)), _, Tryd.func27, by kernel_rfl, by kernel_rfl⟩
    · exact ⟨(rSmall.ok N).gt (gtL_sub (by repeat (first | exact subG_nil _ | refine subG_cons (by kernel_rfl) ?_))) (gtL_ok (by decide)), _, Tryd.func28, by kernel_rfl, by kernel_rfl⟩
    · exact ⟨(Odd.ok N).gt (gtL_sub (by repeat (first | exact subG_nil _ | refine subG_cons (by kernel_rfl) ?_))) (gtL_ok (by decide)), _, Tryd.func29, by kernel_rfl, by kernel_rfl⟩
)) 1
theorem ok (N : Nat) : SoundC Tryd.prog (gtL gts) 4 (con (M N)) := by
  refine SoundC.mono (evF_ok (gok N) hm an N Tryd.func4) fun R args bs κ r h => ?_
  unfold con at h
  split at h
  · exact (eq (alive09.M N) (rMasked.M N) (fRead.M N) (rBytes.M N) (Strict.M N) (same.M N) (eZero.M N) (Num.M N) (Small.M N) (rSmall.M N) (Odd.M N) N κ _ _).trans h
  · cases h
end FieldReads


/-! ### Tryd.f5: FieldInverts -/
namespace FieldInverts
def an : Anns := ⟨fun i => findA i [], fun i => findA i [], false, fun _ => none⟩
noncomputable def g (malive09 : alive09.Ty) (mfRead : fRead.Ty) (mrMasked : rMasked.Ty) (meInvert : eInvert.Ty) (mrInvert : rInvert.Ty) (msame : same.Ty) (meRoot : eRoot.Ty) (mrRoot : rRoot.Ty) : Gi := giD Tryd.prog (gtL [(0, .ints .u64 10 [134216512, 134217726, 134217726, 134217726, 134217726, 134217726, 134217726, 134217726, 134217726, 134217726]), (20, .ints .u64 10 [34513072, 59165138, 38243406, 1750207, 53429016, 58652137, 13633939, 58469549, 8409025, 712905])]) (fun _ => an) 0 [] (ovL [(11, alive09.con malive09), (12, fRead.con mfRead), (13, rMasked.con mrMasked), (30, eInvert.con meInvert), (31, rInvert.con mrInvert), (14, same.con msame), (32, eRoot.con meRoot), (33, rRoot.con mrRoot)]) 1
noncomputable def m (malive09 : alive09.Ty) (mfRead : fRead.Ty) (mrMasked : rMasked.Ty) (meInvert : eInvert.Ty) (mrInvert : rInvert.Ty) (msame : same.Ty) (meRoot : eRoot.Ty) (mrRoot : rRoot.Ty) {R : Type} (_N : Nat) (a1 : List Int) (kr0 : Bool → Option R) : Option R :=
  malive09 R
   (fun v_c12 => cond (!v_c12)
    (kr0 false)
    (mfRead R a1
     (fun v_c13 => mrMasked R a1
      (fun v_c14 => meInvert R v_c13
       (fun v_c15 => mrInvert R v_c14
        (fun v_c16 => msame R v_c15 v_c16
         (fun v_c17 => cond (!v_c17)
          (kr0 false)
          (meRoot R v_c13
           (fun v_c18 v_1_c19 => mrRoot R v_c14
            (fun v_c20 v_1_c21 => cond (v_1_c19 == v_1_c21)
             (msame R v_c18 v_c20
              (fun v_c22 => kr0 v_c22))
             (kr0 false)))))))))))
theorem tree (malive09 : alive09.Ty) (mfRead : fRead.Ty) (mrMasked : rMasked.Ty) (meInvert : eInvert.Ty) (mrInvert : rInvert.Ty) (msame : same.Ty) (meRoot : eRoot.Ty) (mrRoot : rRoot.Ty) {R : Type} (N : Nat) (κ : AV → List Blk → Option R) (a1 : List Int) : evF (g malive09 mfRead mrMasked meInvert mrInvert msame meRoot mrRoot) an N Tryd.f5 [AV.ints IntKind.u8 32 a1] [] κ =
  malive09 R
   (fun v_c12 => cond (!v_c12)
    (κ (AV.bool false) [])
    (mfRead R a1
     (fun v_c13 => mrMasked R a1
      (fun v_c14 => meInvert R v_c13
       (fun v_c15 => mrInvert R v_c14
        (fun v_c16 => msame R v_c15 v_c16
         (fun v_c17 => cond (!v_c17)
          (κ (AV.bool false) [])
          (meRoot R v_c13
           (fun v_c18 v_1_c19 => mrRoot R v_c14
            (fun v_c20 v_1_c21 => cond (v_1_c19 == v_1_c21)
             (msame R v_c18 v_c20
              (fun v_c22 => κ (AV.bool v_c22) []))
             (κ (AV.bool false) []))))))))))) := by kernel_rfl
theorem eq (malive09 : alive09.Ty) (mfRead : fRead.Ty) (mrMasked : rMasked.Ty) (meInvert : eInvert.Ty) (mrInvert : rInvert.Ty) (msame : same.Ty) (meRoot : eRoot.Ty) (mrRoot : rRoot.Ty) {R : Type} (N : Nat) (κ : AV → List Blk → Option R) (a1 : List Int) : evF (g malive09 mfRead mrMasked meInvert mrInvert msame meRoot mrRoot) an N Tryd.f5 [AV.ints IntKind.u8 32 a1] [] κ =
  m malive09 mfRead mrMasked meInvert mrInvert msame meRoot mrRoot N a1 (fun v => κ (AV.bool v) []) := by
  rw [tree]
  kernel_rfl
abbrev Ty : Type 1 := ∀ R : Type, (List Int) → (Bool → Option R) → Option R
def con (f : Ty) : Con := fun R args bs κ => match args, bs with
  | [AV.ints IntKind.u8 32 a1], [] => f R a1 (fun v => κ (AV.bool v) [])
  | _, _ => none
theorem con_eq (f : Ty) (R : Type) (κ : AV → List Blk → Option R) (a1 : List Int) : con f R [AV.ints IntKind.u8 32 a1] [] κ = f R a1 (fun v => κ (AV.bool v) []) := rfl
noncomputable def M (N : Nat) : Ty := fun R a1 kr0 => m (alive09.M N) (fRead.M N) (rMasked.M N) (eInvert.M N) (rInvert.M N) (same.M N) (eRoot.M N) (rRoot.M N) (R := R) N a1 kr0
def gts : List (Nat × AV) := [(0, .ints .u64 10 [134216512, 134217726, 134217726, 134217726, 134217726, 134217726, 134217726, 134217726, 134217726, 134217726]), (20, .ints .u64 10 [34513072, 59165138, 38243406, 1750207, 53429016, 58652137, 13633939, 58469549, 8409025, 712905])]
theorem gok (N : Nat) : GOk (g (alive09.M N) (fRead.M N) (rMasked.M N) (eInvert.M N) (rInvert.M N) (same.M N) (eRoot.M N) (rRoot.M N)) := giD_ok hm (by intro p hp; cases hp) (gtL_ok (by decide)) (ovL_ok (by
    intro p hp
    simp only [List.mem_cons, List.not_mem_nil, or_false] at hp
    rcases hp with rfl | rfl | rfl | rfl | rfl | rfl | rfl | rfl
    · exact ⟨(alive09.ok N).gt (gtL_sub (by repeat (first | exact subG_nil _ | refine subG_cons (by kernel_rfl) ?_))) (gtL_ok (by decide)), _, Tryd.func11, by kernel_rfl, by kernel_rfl⟩
    · exact ⟨(fRead.ok N).gt (gtL_sub (by repeat (first | exact subG_nil _ | refine subG_cons (by kernel_rfl) ?_))) (gtL_ok (by decide)), _, Tryd.func12, by kernel_rfl, by kernel_rfl⟩
    · exact ⟨(rMasked.ok N).gt (gtL_sub (by repeat (first | exact subG_nil _ | refine subG_cons (by kernel_rfl) ?_))) (gtL_ok (by decide)), _, Tryd.func13, by kernel_rfl, by kernel_rfl⟩
    · exact ⟨(eInvert.ok N).gt (gtL_sub (by repeat (first | exact subG_nil _ | refine subG_cons (by kernel_rfl) ?_))) (gtL_ok (by decide)), _, Tryd.func30, by kernel_rfl, by kernel_rfl⟩
    · exact ⟨(rInvert.ok N).gt (gtL_sub (by repeat (first | exact subG_nil _ | refine subG_cons (by kernel_rfl) ?_))) (gtL_ok (by decide)), _, Tryd.func31, by kernel_rfl, by kernel_rfl⟩
    · exact ⟨(same.ok N).gt (gtL_sub (by repeat (first | exact subG_nil _ | refine subG_cons (by kernel_rfl) ?_))) (gtL_ok (by decide)), _, Tryd.func14, by kernel_rfl, by kernel_rfl⟩
    · exact ⟨(eRoot.ok N).gt (gtL_sub (by repeat (first | exact subG_nil _ | refine subG_cons (by kernel_rfl) ?_))) (gtL_ok (by decide)), _, Tryd.func32, by kernel_rfl, by kernel_rfl⟩
    · exact ⟨(rRoot.ok N).gt (gtL_sub (by repeat (first | exact subG_nil _ | refine subG_cons (by kernel_rfl) ?_))) (gtL_ok (by decide)), _, Tryd.func33, by kernel_rfl, by kernel_rfl⟩
)) 1
theorem ok (N : Nat) : SoundC Tryd.prog (gtL gts) 5 (con (M N)) := by
  refine SoundC.mono (evF_ok (gok N) hm an N Tryd.func5) fun R args bs κ r h => ?_
  unfold con at h
  split at h
  · exact (eq (alive09.M N) (fRead.M N) (rMasked.M N) (eInvert.M N) (rInvert.M N) (same.M N) (eRoot.M N) (rRoot.M N) N κ _).trans h
  · cases h
end FieldInverts


/-! ### Tryd.f6: FieldChains -/
namespace FieldChains
def an : Anns := ⟨fun i => findA i [(7, ⟨[7, 8, 9, 10, 11, 25], [⟨7, 0, .u8⟩, ⟨8, 1, .u8⟩, ⟨9, 2, .u8⟩, ⟨10, 3, .u8⟩, ⟨11, 4, .u8⟩], 5⟩), (13, ⟨[7, 8, 9, 11, 12, 39], [⟨7, 0, .u8⟩, ⟨8, 1, .u8⟩, ⟨9, 2, .u8⟩, ⟨11, 3, .u8⟩, ⟨12, 4, .u8⟩], 5⟩)], fun i => findA i [], false, fun _ => none⟩
noncomputable def g (malive09 : alive09.Ty) (mfRead : fRead.Ty) (meAdd : eAdd.Ty) (meSub : eSub.Ty) (meTimes : eTimes.Ty) (mSame : Same.Ty) (mSmall : Small.Ty) (meZero : eZero.Ty) (meInvert : eInvert.Ty) : Gi := giD Tryd.prog (gtL [(0, .ints .u64 10 [134216512, 134217726, 134217726, 134217726, 134217726, 134217726, 134217726, 134217726, 134217726, 134217726])]) (fun _ => an) 0 [] (ovL [(11, alive09.con malive09), (12, fRead.con mfRead), (15, eAdd.con meAdd), (17, eSub.con meSub), (19, eTimes.con meTimes), (22, Same.con mSame), (27, Small.con mSmall), (25, eZero.con meZero), (30, eInvert.con meInvert)]) 1
noncomputable def c_L7 : Code := loopOf Tryd.f6 0
noncomputable def c_L13 : Code := loopOf Tryd.f6 1
def s_L7 (t25 : Int) (h0 : List Int) (h1 : List Int) (h2 : List Int) (h3 : List Int) (h4 : List Int) : St := ⟨List.replicate 7 .dead ++ [AV.ptr 0 [], AV.ptr 1 [], AV.ptr 2 [], AV.ptr 3 [], AV.ptr 4 []] ++ List.replicate 13 .dead ++ [AV.int IntKind.i64 t25] ++ List.replicate 73 .dead, [Blk.var (AV.agg [AV.ints IntKind.u64 10 h0]), Blk.var (AV.agg [AV.ints IntKind.u64 10 h1]), Blk.var (AV.agg [AV.ints IntKind.u64 10 h2]), Blk.var (AV.agg [AV.ints IntKind.u64 10 h3]), Blk.var (AV.agg [AV.ints IntKind.u64 10 h4])]⟩
def s_L13 (t39 : Int) (h0v1 : List Int) (h1v1 : List Int) (h2v1 : List Int) (h3v1 : List Int) (h4v1 : List Int) : St := ⟨List.replicate 7 .dead ++ [AV.ptr 0 [], AV.ptr 1 [], AV.ptr 2 [], AV.dead, AV.ptr 3 [], AV.ptr 4 []] ++ List.replicate 26 .dead ++ [AV.int IntKind.i64 t39] ++ List.replicate 59 .dead, [Blk.var (AV.agg [AV.ints IntKind.u64 10 h0v1]), Blk.var (AV.agg [AV.ints IntKind.u64 10 h1v1]), Blk.var (AV.agg [AV.ints IntKind.u64 10 h2v1]), Blk.var (AV.agg [AV.ints IntKind.u64 10 h3v1]), Blk.var (AV.agg [AV.ints IntKind.u64 10 h4v1])]⟩
def x_L7_0 (t25 : Int) (h0 : List Int) (h1 : List Int) (h2 : List Int) (h3 : List Int) (h4 : List Int) : St := ⟨List.replicate 7 .dead ++ [AV.ptr 0 [], AV.ptr 1 [], AV.ptr 2 [], AV.ptr 3 [], AV.ptr 4 []] ++ List.replicate 13 .dead ++ [AV.int IntKind.i64 t25, AV.bool (decide (t25 < 40))] ++ List.replicate 72 .dead, [Blk.var (AV.agg [AV.ints IntKind.u64 10 h0]), Blk.var (AV.agg [AV.ints IntKind.u64 10 h1]), Blk.var (AV.agg [AV.ints IntKind.u64 10 h2]), Blk.var (AV.agg [AV.ints IntKind.u64 10 h3]), Blk.var (AV.agg [AV.ints IntKind.u64 10 h4])]⟩
def x_L13_0 (t39 : Int) (h0v1 : List Int) (h1v1 : List Int) (h2v1 : List Int) (h3v1 : List Int) (h4v1 : List Int) : St := ⟨List.replicate 7 .dead ++ [AV.ptr 0 [], AV.ptr 1 [], AV.ptr 2 [], AV.dead, AV.ptr 3 [], AV.ptr 4 []] ++ List.replicate 26 .dead ++ [AV.int IntKind.i64 t39, AV.bool (decide (t39 < 40))] ++ List.replicate 58 .dead, [Blk.var (AV.agg [AV.ints IntKind.u64 10 h0v1]), Blk.var (AV.agg [AV.ints IntKind.u64 10 h1v1]), Blk.var (AV.agg [AV.ints IntKind.u64 10 h2v1]), Blk.var (AV.agg [AV.ints IntKind.u64 10 h3v1]), Blk.var (AV.agg [AV.ints IntKind.u64 10 h4v1])]⟩
noncomputable def L7 (malive09 : alive09.Ty) (mfRead : fRead.Ty) (meAdd : eAdd.Ty) (meSub : eSub.Ty) (meTimes : eTimes.Ty) (mSame : Same.Ty) (mSmall : Small.Ty) (meZero : eZero.Ty) (meInvert : eInvert.Ty) {R : Type} (N : Nat) (ke0 : Int → (List Int) → (List Int) → (List Int) → (List Int) → (List Int) → Option R) : Nat → Int → (List Int) → (List Int) → (List Int) → (List Int) → (List Int) → Option R
  | 0, _, _, _, _, _, _ => none
  | m + 1, t25, h0, h1, h2, h3, h4 =>
    cond (decide (t25 < 40))
     (meAdd R h3 h1
      (fun v_c67 => meSub R v_c67 h2
       (fun v_c68 => meTimes R h4 h1
        (fun v_c69 => meAdd R v_c69 h2
         (fun v_c70 => L7 malive09 mfRead meAdd meSub meTimes mSame mSmall meZero meInvert N ke0 m (IntKind.i64.wrap (t25 + 1)) h0 h1 h2 v_c68 v_c70)))))
     (ke0 t25 h0 h1 h2 h3 h4)
theorem round_L7 (malive09 : alive09.Ty) (mfRead : fRead.Ty) (meAdd : eAdd.Ty) (meSub : eSub.Ty) (meTimes : eTimes.Ty) (mSame : Same.Ty) (mSmall : Small.Ty) (meZero : eZero.Ty) (meInvert : eInvert.Ty) {R : Type} (N : Nat) (Rn : St → Option R) (k : K R) (t25 : Int) (h0 : List Int) (h1 : List Int) (h2 : List Int) (h3 : List Int) (h4 : List Int) : evC (g malive09 mfRead meAdd meSub meTimes mSame mSmall meZero meInvert) an 0 N c_L7 none (roundK (nmOf 0 (an.loop 7)) Rn k) (s_L7 t25 h0 h1 h2 h3 h4) =
  cond (decide (t25 < 40))
   (meAdd R h3 h1
    (fun v_c67 => meSub R v_c67 h2
     (fun v_c68 => meTimes R h4 h1
      (fun v_c69 => meAdd R v_c69 h2
       (fun v_c70 => Rn (s_L7 (IntKind.i64.wrap (t25 + 1)) h0 h1 h2 v_c68 v_c70))))))
   (k.ext 0 (x_L7_0 t25 h0 h1 h2 h3 h4)) := by kernel_rfl
theorem run_L7 (malive09 : alive09.Ty) (mfRead : fRead.Ty) (meAdd : eAdd.Ty) (meSub : eSub.Ty) (meTimes : eTimes.Ty) (mSame : Same.Ty) (mSmall : Small.Ty) (meZero : eZero.Ty) (meInvert : eInvert.Ty) {R : Type} (N : Nat) (k : K R) : ∀ (m : Nat) (t25 : Int) (h0 : List Int) (h1 : List Int) (h2 : List Int) (h3 : List Int) (h4 : List Int), loopN (evC (g malive09 mfRead meAdd meSub meTimes mSame mSmall meZero meInvert) an 0 N c_L7 none) k (nmOf 0 (an.loop 7)) m (s_L7 t25 h0 h1 h2 h3 h4) =
    L7 malive09 mfRead meAdd meSub meTimes mSame mSmall meZero meInvert N (fun t25 h0 h1 h2 h3 h4 => (k).ext 0 (x_L7_0 t25 h0 h1 h2 h3 h4)) m t25 h0 h1 h2 h3 h4 := by
  intro m
  induction m with
  | zero => intros; rfl
  | succ m ih =>
    intros
    rw [loopN_succ, round_L7]
    simp only [ih]
    kernel_rfl
noncomputable def L13 (malive09 : alive09.Ty) (mfRead : fRead.Ty) (meAdd : eAdd.Ty) (meSub : eSub.Ty) (meTimes : eTimes.Ty) (mSame : Same.Ty) (mSmall : Small.Ty) (meZero : eZero.Ty) (meInvert : eInvert.Ty) {R : Type} (N : Nat) (ke0 : Int → (List Int) → (List Int) → (List Int) → (List Int) → (List Int) → Option R) : Nat → Int → (List Int) → (List Int) → (List Int) → (List Int) → (List Int) → Option R
  | 0, _, _, _, _, _, _ => none
  | m + 1, t39, h0v1, h1v1, h2v1, h3v1, h4v1 =>
    cond (decide (t39 < 40))
     (meSub R h4v1 h1v1
      (fun v_c77 => meAdd R v_c77 h2v1
       (fun v_c78 => L13 malive09 mfRead meAdd meSub meTimes mSame mSmall meZero meInvert N ke0 m (IntKind.i64.wrap (t39 + 1)) h0v1 h1v1 h2v1 h3v1 v_c78)))
     (ke0 t39 h0v1 h1v1 h2v1 h3v1 h4v1)
theorem round_L13 (malive09 : alive09.Ty) (mfRead : fRead.Ty) (meAdd : eAdd.Ty) (meSub : eSub.Ty) (meTimes : eTimes.Ty) (mSame : Same.Ty) (mSmall : Small.Ty) (meZero : eZero.Ty) (meInvert : eInvert.Ty) {R : Type} (N : Nat) (Rn : St → Option R) (k : K R) (t39 : Int) (h0v1 : List Int) (h1v1 : List Int) (h2v1 : List Int) (h3v1 : List Int) (h4v1 : List Int) : evC (g malive09 mfRead meAdd meSub meTimes mSame mSmall meZero meInvert) an 0 N c_L13 none (roundK (nmOf 0 (an.loop 13)) Rn k) (s_L13 t39 h0v1 h1v1 h2v1 h3v1 h4v1) =
  cond (decide (t39 < 40))
   (meSub R h4v1 h1v1
    (fun v_c77 => meAdd R v_c77 h2v1
     (fun v_c78 => Rn (s_L13 (IntKind.i64.wrap (t39 + 1)) h0v1 h1v1 h2v1 h3v1 v_c78))))
   (k.ext 2 (x_L13_0 t39 h0v1 h1v1 h2v1 h3v1 h4v1)) := by kernel_rfl
theorem run_L13 (malive09 : alive09.Ty) (mfRead : fRead.Ty) (meAdd : eAdd.Ty) (meSub : eSub.Ty) (meTimes : eTimes.Ty) (mSame : Same.Ty) (mSmall : Small.Ty) (meZero : eZero.Ty) (meInvert : eInvert.Ty) {R : Type} (N : Nat) (k : K R) : ∀ (m : Nat) (t39 : Int) (h0v1 : List Int) (h1v1 : List Int) (h2v1 : List Int) (h3v1 : List Int) (h4v1 : List Int), loopN (evC (g malive09 mfRead meAdd meSub meTimes mSame mSmall meZero meInvert) an 0 N c_L13 none) k (nmOf 0 (an.loop 13)) m (s_L13 t39 h0v1 h1v1 h2v1 h3v1 h4v1) =
    L13 malive09 mfRead meAdd meSub meTimes mSame mSmall meZero meInvert N (fun t39 h0v1 h1v1 h2v1 h3v1 h4v1 => (k).ext 2 (x_L13_0 t39 h0v1 h1v1 h2v1 h3v1 h4v1)) m t39 h0v1 h1v1 h2v1 h3v1 h4v1 := by
  intro m
  induction m with
  | zero => intros; rfl
  | succ m ih =>
    intros
    rw [loopN_succ, round_L13]
    simp only [ih]
    kernel_rfl
noncomputable def m (malive09 : alive09.Ty) (mfRead : fRead.Ty) (meAdd : eAdd.Ty) (meSub : eSub.Ty) (meTimes : eTimes.Ty) (mSame : Same.Ty) (mSmall : Small.Ty) (meZero : eZero.Ty) (meInvert : eInvert.Ty) {R : Type} (N : Nat) (a1 : List Int) (b2 : List Int) (c3 : List Int) (kr0 : Bool → Option R) : Option R :=
  malive09 R
   (fun v_c63 => cond (!v_c63)
    (kr0 false)
    (mfRead R a1
     (fun v_c64 => mfRead R b2
      (fun v_c65 => mfRead R c3
       (fun v_c66 => L7 malive09 mfRead meAdd meSub meTimes mSame mSmall meZero meInvert N
        (fun _t25_c71 h0_c72 h1_c73 h2_c74 h3_c75 h4_c76 => L13 malive09 mfRead meAdd meSub meTimes mSame mSmall meZero meInvert N
         (fun _t39_c79 h0_c80 h1_c81 h2_c82 h3_c83 h4_c84 => meAdd R h0_c80 h1_c81
          (fun v_c85 => meTimes R v_c85 h2_c82
           (fun v_c86 => meTimes R h2_c82 h1_c81
            (fun v_c87 => meTimes R h0_c80 h2_c82
             (fun v_c88 => meAdd R v_c87 v_c88
              (fun v_c89 => mSame R h4_c84 h0_c80
               (fun v_c90 => cond v_c90
                (mSame R v_c86 v_c89
                 (fun v_c91 => cond v_c91
                  (meSub R h0_c80 h1_c81
                   (fun v_c92 => mSmall R 0
                    (fun v_c93 => meSub R h1_c81 h0_c80
                     (fun v_c94 => meSub R v_c93 v_c94
                      (fun v_c95 => mSame R v_c92 v_c95
                       (fun v_c96 => cond v_c96
                        (meTimes R h3_c83 h2_c82
                         (fun v_c97 => meTimes R h2_c82 h3_c83
                          (fun v_c98 => mSame R v_c97 v_c98
                           (fun v_c99 => cond v_c99
                            (meZero R h0_c80
                             (fun v_c100 => cond v_c100
                              (kr0 true)
                              (meInvert R h0_c80
                               (fun v_c101 => meTimes R h0_c80 v_c101
                                (fun v_c102 => mSmall R 1
                                 (fun v_c103 => mSame R v_c102 v_c103
                                  (fun v_c104 => kr0 v_c104)))))))
                            (kr0 false)))))
                        (kr0 false)))))))
                  (kr0 false)))
                (kr0 false)))))))) N 0 h0_c72 h1_c73 h2_c74 h4_c76 h3_c75) N 0 v_c64 v_c65 v_c66 v_c64 v_c64)))))
theorem tree (malive09 : alive09.Ty) (mfRead : fRead.Ty) (meAdd : eAdd.Ty) (meSub : eSub.Ty) (meTimes : eTimes.Ty) (mSame : Same.Ty) (mSmall : Small.Ty) (meZero : eZero.Ty) (meInvert : eInvert.Ty) {R : Type} (N : Nat) (κ : AV → List Blk → Option R) (a1 : List Int) (b2 : List Int) (c3 : List Int) : evF (g malive09 mfRead meAdd meSub meTimes mSame mSmall meZero meInvert) an N Tryd.f6 [AV.ints IntKind.u8 32 a1, AV.ints IntKind.u8 32 b2, AV.ints IntKind.u8 32 c3] [] κ =
  malive09 R
   (fun v_c63 => cond (!v_c63)
    (κ (AV.bool false) [])
    (mfRead R a1
     (fun v_c64 => mfRead R b2
      (fun v_c65 => mfRead R c3
       (fun v_c66 => loopN (evC (g malive09 mfRead meAdd meSub meTimes mSame mSmall meZero meInvert) an 0 N c_L7 none) (ctx (g malive09 mfRead meAdd meSub meTimes mSame mSmall meZero meInvert) an 0 N (bodyOf Tryd.f6) [1, 1, 1, 1, 1, 0, 1, 0] (endK (g malive09 mfRead meAdd meSub meTimes mSame mSmall meZero meInvert) an Tryd.f6 [] κ)) (nmOf 0 (an.loop 7)) N (s_L7 0 v_c64 v_c65 v_c66 v_c64 v_c64)))))) := by kernel_rfl
theorem tree_e0 (malive09 : alive09.Ty) (mfRead : fRead.Ty) (meAdd : eAdd.Ty) (meSub : eSub.Ty) (meTimes : eTimes.Ty) (mSame : Same.Ty) (mSmall : Small.Ty) (meZero : eZero.Ty) (meInvert : eInvert.Ty) {R : Type} (N : Nat) (κ : AV → List Blk → Option R) (t25_c71 : Int) (h0_c72 : List Int) (h1_c73 : List Int) (h2_c74 : List Int) (h3_c75 : List Int) (h4_c76 : List Int) : (ctx (g malive09 mfRead meAdd meSub meTimes mSame mSmall meZero meInvert) an 0 N (bodyOf Tryd.f6) [1, 1, 1, 1, 1, 0, 1, 0] (endK (g malive09 mfRead meAdd meSub meTimes mSame mSmall meZero meInvert) an Tryd.f6 [] κ)).ext 0 (x_L7_0 t25_c71 h0_c72 h1_c73 h2_c74 h3_c75 h4_c76) =
  loopN (evC (g malive09 mfRead meAdd meSub meTimes mSame mSmall meZero meInvert) an 0 N c_L13 none) (ctx (g malive09 mfRead meAdd meSub meTimes mSame mSmall meZero meInvert) an 0 N (bodyOf Tryd.f6) [1, 1, 1, 1, 1, 1, 1, 0, 1, 0] (endK (g malive09 mfRead meAdd meSub meTimes mSame mSmall meZero meInvert) an Tryd.f6 [] κ)) (nmOf 0 (an.loop 13)) N (s_L13 0 h0_c72 h1_c73 h2_c74 h4_c76 h3_c75) := by kernel_rfl
theorem eq (malive09 : alive09.Ty) (mfRead : fRead.Ty) (meAdd : eAdd.Ty) (meSub : eSub.Ty) (meTimes : eTimes.Ty) (mSame : Same.Ty) (mSmall : Small.Ty) (meZero : eZero.Ty) (meInvert : eInvert.Ty) {R : Type} (N : Nat) (κ : AV → List Blk → Option R) (a1 : List Int) (b2 : List Int) (c3 : List Int) : evF (g malive09 mfRead meAdd meSub meTimes mSame mSmall meZero meInvert) an N Tryd.f6 [AV.ints IntKind.u8 32 a1, AV.ints IntKind.u8 32 b2, AV.ints IntKind.u8 32 c3] [] κ =
  m malive09 mfRead meAdd meSub meTimes mSame mSmall meZero meInvert N a1 b2 c3 (fun v => κ (AV.bool v) []) := by
  rw [tree]
  simp only [run_L7, run_L13, tree_e0]
  kernel_rfl
abbrev Ty : Type 1 := ∀ R : Type, (List Int) → (List Int) → (List Int) → (Bool → Option R) → Option R
def con (f : Ty) : Con := fun R args bs κ => match args, bs with
  | [AV.ints IntKind.u8 32 a1, AV.ints IntKind.u8 32 b2, AV.ints IntKind.u8 32 c3], [] => f R a1 b2 c3 (fun v => κ (AV.bool v) [])
  | _, _ => none
theorem con_eq (f : Ty) (R : Type) (κ : AV → List Blk → Option R) (a1 : List Int) (b2 : List Int) (c3 : List Int) : con f R [AV.ints IntKind.u8 32 a1, AV.ints IntKind.u8 32 b2, AV.ints IntKind.u8 32 c3] [] κ = f R a1 b2 c3 (fun v => κ (AV.bool v) []) := rfl
noncomputable def M (N : Nat) : Ty := fun R a1 b2 c3 kr0 => m (alive09.M N) (fRead.M N) (eAdd.M N) (eSub.M N) (eTimes.M N) (Same.M N) (Small.M N) (eZero.M N) (eInvert.M N) (R := R) N a1 b2 c3 kr0
def gts : List (Nat × AV) := [(0, .ints .u64 10 [134216512, 134217726, 134217726, 134217726, 134217726, 134217726, 134217726, 134217726, 134217726, 134217726])]
theorem gok (N : Nat) : GOk (g (alive09.M N) (fRead.M N) (eAdd.M N) (eSub.M N) (eTimes.M N) (Same.M N) (Small.M N) (eZero.M N) (eInvert.M N)) := giD_ok hm (by intro p hp; cases hp) (gtL_ok (by decide)) (ovL_ok (by
    intro p hp
    simp only [List.mem_cons, List.not_mem_nil, or_false] at hp
    rcases hp with rfl | rfl | rfl | rfl | rfl | rfl | rfl | rfl | rfl
    · exact ⟨(alive09.ok N).gt (gtL_sub (by repeat (first | exact subG_nil _ | refine subG_cons (by kernel_rfl) ?_))) (gtL_ok (by decide)), _, Tryd.func11, by kernel_rfl, by kernel_rfl⟩
    · exact ⟨(fRead.ok N).gt (gtL_sub (by repeat (first | exact subG_nil _ | refine subG_cons (by kernel_rfl) ?_))) (gtL_ok (by decide)), _, Tryd.func12, by kernel_rfl, by kernel_rfl⟩
    · exact ⟨(eAdd.ok N).gt (gtL_sub (by repeat (first | exact subG_nil _ | refine subG_cons (by kernel_rfl) ?_))) (gtL_ok (by decide)), _, Tryd.func15, by kernel_rfl, by kernel_rfl⟩
    · exact ⟨(eSub.ok N).gt (gtL_sub (by repeat (first | exact subG_nil _ | refine subG_cons (by kernel_rfl) ?_))) (gtL_ok (by decide)), _, Tryd.func17, by kernel_rfl, by kernel_rfl⟩
    · exact ⟨(eTimes.ok N).gt (gtL_sub (by repeat (first | exact subG_nil _ | refine subG_cons (by kernel_rfl) ?_))) (gtL_ok (by decide)), _, Tryd.func19, by kernel_rfl, by kernel_rfl⟩
    · exact ⟨(Same.ok N).gt (gtL_sub (by repeat (first | exact subG_nil _ | refine subG_cons (by kernel_rfl) ?_))) (gtL_ok (by decide)), _, Tryd.func22, by kernel_rfl, by kernel_rfl⟩
    · exact ⟨(Small.ok N).gt (gtL_sub (by repeat (first | exact subG_nil _ | refine subG_cons (by kernel_rfl) ?_))) (gtL_ok (by decide)), _, Tryd.func27, by kernel_rfl, by kernel_rfl⟩
    · exact ⟨(eZero.ok N).gt (gtL_sub (by repeat (first | exact subG_nil _ | refine subG_cons (by kernel_rfl) ?_))) (gtL_ok (by decide)), _, Tryd.func25, by kernel_rfl, by kernel_rfl⟩
    · exact ⟨(eInvert.ok N).gt (gtL_sub (by repeat (first | exact subG_nil _ | refine subG_cons (by kernel_rfl) ?_))) (gtL_ok (by decide)), _, Tryd.func30, by kernel_rfl, by kernel_rfl⟩
)) 1
theorem ok (N : Nat) : SoundC Tryd.prog (gtL gts) 6 (con (M N)) := by
  refine SoundC.mono (evF_ok (gok N) hm an N Tryd.func6) fun R args bs κ r h => ?_
  unfold con at h
  split at h
  · exact (eq (alive09.M N) (fRead.M N) (eAdd.M N) (eSub.M N) (eTimes.M N) (Same.M N) (Small.M N) (eZero.M N) (eInvert.M N) N κ _ _ _).trans h
  · cases h
end FieldChains

end Go.Proofs.YtganankiiipkgaaDoor.fn
