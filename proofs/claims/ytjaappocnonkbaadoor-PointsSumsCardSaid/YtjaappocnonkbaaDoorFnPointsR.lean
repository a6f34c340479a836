/- What the points' references compute, with the proof; printed by a program. -/
import Derived.Test.YtjaappocnonkbaaDoorProg
import Derived.Test.YtjaappocnonkbaaDoorEv4
import Derived.Test.YtjaappocnonkbaaDoorFnFieldR
namespace Go.Proofs.YtjaappocnonkbaaDoor.fn
open Go Go.Proofs Go.Ev

/-! ### Tryd.f44: one -/
namespace one
def an : Anns := ⟨fun i => findA i [], fun i => findA i [], false, fun _ => none⟩
noncomputable def g : Gi := giD Tryd.prog (gtL []) (fun _ => an) 0 [] (ovL []) 1
noncomputable def m {R : Type} (_N : Nat) (kr0 : Option R) : Option R :=
  kr0
theorem tree {R : Type} (N : Nat) (κ : AV → List Blk → Option R) : evF (g) an N Tryd.f44 [] [] κ =
  κ (AV.ints IntKind.u32 8 [1, 0, 0, 0, 0, 0, 0, 0]) [] := by kernel_rfl
theorem eq {R : Type} (N : Nat) (κ : AV → List Blk → Option R) : evF (g) an N Tryd.f44 [] [] κ =
  m N (κ (AV.ints IntKind.u32 8 [1, 0, 0, 0, 0, 0, 0, 0]) []) := by
  rw [tree]
  kernel_rfl
abbrev Ty : Type 1 := ∀ R : Type, Option R → Option R
def con (f : Ty) : Con := fun R args bs κ => match args, bs with
  | [], [] => f R (κ (AV.ints IntKind.u32 8 [1, 0, 0, 0, 0, 0, 0, 0]) [])
  | _, _ => none
theorem con_eq (f : Ty) (R : Type) (κ : AV → List Blk → Option R) : con f R [] [] κ = f R (κ (AV.ints IntKind.u32 8 [1, 0, 0, 0, 0, 0, 0, 0]) []) := rfl
noncomputable def M (N : Nat) : Ty := fun R kr0 => m (R := R) N kr0
def gts : List (Nat × AV) := []
theorem gok (_N : Nat) : GOk (g) := giD_ok hm (by intro p hp; cases hp) (gtL_ok (by decide)) (ovL_ok (by intro p hp; cases hp)) 1
theorem ok (N : Nat) : SoundC Tryd.prog (gtL gts) 44 (con (M N)) := by
  refine SoundC.mono (evF_ok (gok N) hm an N Tryd.func44) fun R args bs κ r h => ?_
  unfold con at h
  split at h
  · exact (eq N κ).trans h
  · cases h
end one


/-! ### Tryd.f58: qZero -/
namespace qZero
def an : Anns := ⟨fun i => findA i [], fun i => findA i [], false, fun _ => none⟩
noncomputable def g (mone : one.Ty) : Gi := giD Tryd.prog (gtL []) (fun _ => an) 0 [] (ovL [(44, one.con mone)]) 1
noncomputable def m (mone : one.Ty) {R : Type} (_N : Nat) (kr0 : Option R) : Option R :=
  mone R
   (mone R
    (kr0))
theorem tree (mone : one.Ty) {R : Type} (N : Nat) (κ : AV → List Blk → Option R) : evF (g mone) an N Tryd.f58 [] [] κ =
  mone R
   (mone R
    (κ (AV.agg [AV.ints IntKind.u32 8 [0, 0, 0, 0, 0, 0, 0, 0], AV.ints IntKind.u32 8 [1, 0, 0, 0, 0, 0, 0, 0], AV.ints IntKind.u32 8 [1, 0, 0, 0, 0, 0, 0, 0]]) [])) := by kernel_rfl
theorem eq (mone : one.Ty) {R : Type} (N : Nat) (κ : AV → List Blk → Option R) : evF (g mone) an N Tryd.f58 [] [] κ =
  m mone N (κ (AV.agg [AV.ints IntKind.u32 8 [0, 0, 0, 0, 0, 0, 0, 0], AV.ints IntKind.u32 8 [1, 0, 0, 0, 0, 0, 0, 0], AV.ints IntKind.u32 8 [1, 0, 0, 0, 0, 0, 0, 0]]) []) := by
  rw [tree]
  kernel_rfl
abbrev Ty : Type 1 := ∀ R : Type, Option R → Option R
def con (f : Ty) : Con := fun R args bs κ => match args, bs with
  | [], [] => f R (κ (AV.agg [AV.ints IntKind.u32 8 [0, 0, 0, 0, 0, 0, 0, 0], AV.ints IntKind.u32 8 [1, 0, 0, 0, 0, 0, 0, 0], AV.ints IntKind.u32 8 [1, 0, 0, 0, 0, 0, 0, 0]]) [])
  | _, _ => none
theorem con_eq (f : Ty) (R : Type) (κ : AV → List Blk → Option R) : con f R [] [] κ = f R (κ (AV.agg [AV.ints IntKind.u32 8 [0, 0, 0, 0, 0, 0, 0, 0], AV.ints IntKind.u32 8 [1, 0, 0, 0, 0, 0, 0, 0], AV.ints IntKind.u32 8 [1, 0, 0, 0, 0, 0, 0, 0]]) []) := rfl
noncomputable def M (N : Nat) : Ty := fun R kr0 => m (one.M N) (R := R) N kr0
def gts : List (Nat × AV) := []
theorem gok (N : Nat) : GOk (g (one.M N)) := giD_ok hm (by intro p hp; cases hp) (gtL_ok (by decide)) (ovL_ok (by
    intro p hp
    simp only [List.mem_cons, List.not_mem_nil, or_false] at hp
    rcases hp with rfl
    · exact ⟨(one.ok N).gt (gtL_sub (by repeat (first | exact subG_nil _ | refine subG_cons (by kernel_rfl) ?_))) (gtL_ok (by decide)), _, Tryd.func44, by kernel_rfl, by kernel_rfl⟩
)) 1
theorem ok (N : Nat) : SoundC Tryd.prog (gtL gts) 58 (con (M N)) := by
  refine SoundC.mono (evF_ok (gok N) hm an N Tryd.func58) fun R args bs κ r h => ?_
  unfold con at h
  split at h
  · exact (eq (one.M N) N κ).trans h
  · cases h
end qZero


/-! ### Tryd.f53: qBase -/
namespace qBase
def an : Anns := ⟨fun i => findA i [], fun i => findA i [], false, fun _ => none⟩
noncomputable def g (mrBaseX : rBaseX.Ty) (mrBaseY : rBaseY.Ty) (mone : one.Ty) : Gi := giD Tryd.prog (gtL []) (fun _ => an) 0 [] (ovL [(77, rBaseX.con mrBaseX), (78, rBaseY.con mrBaseY), (44, one.con mone)]) 1
noncomputable def m (mrBaseX : rBaseX.Ty) (mrBaseY : rBaseY.Ty) (mone : one.Ty) {R : Type} (_N : Nat) (kr0 : Option R) : Option R :=
  mrBaseX R
   (mrBaseY R
    (mone R
     (kr0)))
theorem tree (mrBaseX : rBaseX.Ty) (mrBaseY : rBaseY.Ty) (mone : one.Ty) {R : Type} (N : Nat) (κ : AV → List Blk → Option R) : evF (g mrBaseX mrBaseY mone) an N Tryd.f53 [] [] κ =
  mrBaseX R
   (mrBaseY R
    (mone R
     (κ (AV.agg [AV.ints IntKind.u32 8 [2401621274, 3377868128, 2502272946, 1764542304, 4258716764, 3232031281, 3446559742, 560543443], AV.ints IntKind.u32 8 [1717986904, 1717986918, 1717986918, 1717986918, 1717986918, 1717986918, 1717986918, 1717986918], AV.ints IntKind.u32 8 [1, 0, 0, 0, 0, 0, 0, 0]]) []))) := by kernel_rfl
theorem eq (mrBaseX : rBaseX.Ty) (mrBaseY : rBaseY.Ty) (mone : one.Ty) {R : Type} (N : Nat) (κ : AV → List Blk → Option R) : evF (g mrBaseX mrBaseY mone) an N Tryd.f53 [] [] κ =
  m mrBaseX mrBaseY mone N (κ (AV.agg [AV.ints IntKind.u32 8 [2401621274, 3377868128, 2502272946, 1764542304, 4258716764, 3232031281, 3446559742, 560543443], AV.ints IntKind.u32 8 [1717986904, 1717986918, 1717986918, 1717986918, 1717986918, 1717986918, 1717986918, 1717986918], AV.ints IntKind.u32 8 [1, 0, 0, 0, 0, 0, 0, 0]]) []) := by
  rw [tree]
  kernel_rfl
abbrev Ty : Type 1 := ∀ R : Type, Option R → Option R
def con (f : Ty) : Con := fun R args bs κ => match args, bs with
  | [], [] => f R (κ (AV.agg [AV.ints IntKind.u32 8 [2401621274, 3377868128, 2502272946, 1764542304, 4258716764, 3232031281, 3446559742, 560543443], AV.ints IntKind.u32 8 [1717986904, 1717986918, 1717986918, 1717986918, 1717986918, 1717986918, 1717986918, 1717986918], AV.ints IntKind.u32 8 [1, 0, 0, 0, 0, 0, 0, 0]]) [])
  | _, _ => none
theorem con_eq (f : Ty) (R : Type) (κ : AV → List Blk → Option R) : con f R [] [] κ = f R (κ (AV.agg [AV.ints IntKind.u32 8 [2401621274, 3377868128, 2502272946, 1764542304, 4258716764, 3232031281, 3446559742, 560543443], AV.ints IntKind.u32 8 [1717986904, 1717986918, 1717986918, 1717986918, 1717986918, 1717986918, 1717986918, 1717986918], AV.ints IntKind.u32 8 [1, 0, 0, 0, 0, 0, 0, 0]]) []) := rfl
noncomputable def M (N : Nat) : Ty := fun R kr0 => m (rBaseX.M N) (rBaseY.M N) (one.M N) (R := R) N kr0
def gts : List (Nat × AV) := []
theorem gok (N : Nat) : GOk (g (rBaseX.M N) (rBaseY.M N) (one.M N)) := giD_ok hm (by intro p hp; cases hp) (gtL_ok (by decide)) (ovL_ok (by
    intro p hp
    simp only [List.mem_cons, List.not_mem_nil, or_false] at hp
    rcases hp with rfl | rfl | rfl
    · exact ⟨(rBaseX.ok N).gt (gtL_sub (by repeat (first | exact subG_nil _ | refine subG_cons (by kernel_rfl) ?_))) (gtL_ok (by decide)), _, Tryd.func77, by kernel_rfl, by kernel_rfl⟩
    · exact ⟨(rBaseY.ok N).gt (gtL_sub (by repeat (first | exact subG_nil _ | refine subG_cons (by kernel_rfl) ?_))) (gtL_ok (by decide)), _, Tryd.func78, by kernel_rfl, by kernel_rfl⟩
    · exact ⟨(one.ok N).gt (gtL_sub (by repeat (first | exact subG_nil _ | refine subG_cons (by kernel_rfl) ?_))) (gtL_ok (by decide)), _, Tryd.func44, by kernel_rfl, by kernel_rfl⟩
)) 1
theorem ok (N : Nat) : SoundC Tryd.prog (gtL gts) 53 (con (M N)) := by
  refine SoundC.mono (evF_ok (gok N) hm an N Tryd.func53) fun R args bs κ r h => ?_
  unfold con at h
  split at h
  · exact (eq (rBaseX.M N) (rBaseY.M N) (one.M N) N κ).trans h
  · cases h
end qBase


/-! ### Tryd.f59: qSum -/
namespace qSum
def an : Anns := ⟨fun i => findA i [], fun i => findA i [], false, fun _ => none⟩
noncomputable def g (mrTimes : rTimes.Ty) (mrAdd : rAdd.Ty) (mrSub : rSub.Ty) : Gi := giD Tryd.prog (gtL []) (fun _ => an) 0 [] (ovL [(41, rTimes.con mrTimes), (46, rAdd.con mrAdd), (43, rSub.con mrSub)]) 1
noncomputable def m (mrTimes : rTimes.Ty) (mrAdd : rAdd.Ty) (mrSub : rSub.Ty) {R : Type} (_N : Nat) (p1 : List Int) (p2 : List Int) (p3 : List Int) (q4 : List Int) (q5 : List Int) (q6 : List Int) (d7 : List Int) (kr0 : (List Int) → (List Int) → (List Int) → Option R) : Option R :=
  mrTimes R p3 q6
   (fun v_c17 => mrTimes R v_c17 v_c17
    (fun v_c18 => mrTimes R p1 q4
     (fun v_c19 => mrTimes R p2 q5
      (fun v_c20 => mrTimes R v_c19 v_c20
       (fun v_c21 => mrTimes R d7 v_c21
        (fun v_c22 => mrAdd R v_c18 v_c22
         (fun v_c23 => mrSub R v_c18 v_c22
          (fun v_c24 => mrTimes R p1 q5
           (fun v_c25 => mrTimes R q4 p2
            (fun v_c26 => mrAdd R v_c25 v_c26
             (fun v_c27 => mrTimes R v_c17 v_c27
              (fun v_c28 => mrTimes R v_c28 v_c24
               (fun v_c29 => mrAdd R v_c20 v_c19
                (fun v_c30 => mrTimes R v_c17 v_c30
                 (fun v_c31 => mrTimes R v_c31 v_c23
                  (fun v_c32 => mrTimes R v_c23 v_c24
                   (fun v_c33 => kr0 v_c29 v_c32 v_c33)))))))))))))))))
theorem tree (mrTimes : rTimes.Ty) (mrAdd : rAdd.Ty) (mrSub : rSub.Ty) {R : Type} (N : Nat) (κ : AV → List Blk → Option R) (p1 : List Int) (p2 : List Int) (p3 : List Int) (q4 : List Int) (q5 : List Int) (q6 : List Int) (d7 : List Int) : evF (g mrTimes mrAdd mrSub) an N Tryd.f59 [AV.agg [AV.ints IntKind.u32 8 p1, AV.ints IntKind.u32 8 p2, AV.ints IntKind.u32 8 p3], AV.agg [AV.ints IntKind.u32 8 q4, AV.ints IntKind.u32 8 q5, AV.ints IntKind.u32 8 q6], AV.ints IntKind.u32 8 d7] [] κ =
  mrTimes R p3 q6
   (fun v_c17 => mrTimes R v_c17 v_c17
    (fun v_c18 => mrTimes R p1 q4
     (fun v_c19 => mrTimes R p2 q5
      (fun v_c20 => mrTimes R v_c19 v_c20
       (fun v_c21 => mrTimes R d7 v_c21
        (fun v_c22 => mrAdd R v_c18 v_c22
         (fun v_c23 => mrSub R v_c18 v_c22
          (fun v_c24 => mrTimes R p1 q5
           (fun v_c25 => mrTimes R q4 p2
            (fun v_c26 => mrAdd R v_c25 v_c26
             (fun v_c27 => mrTimes R v_c17 v_c27
              (fun v_c28 => mrTimes R v_c28 v_c24
               (fun v_c29 => mrAdd R v_c20 v_c19
                (fun v_c30 => mrTimes R v_c17 v_c30
                 (fun v_c31 => mrTimes R v_c31 v_c23
                  (fun v_c32 => mrTimes R v_c23 v_c24
                   (fun v_c33 => κ (AV.agg [AV.ints IntKind.u32 8 v_c29, AV.ints IntKind.u32 8 v_c32, AV.ints IntKind.u32 8 v_c33]) []))))))))))))))))) := by kernel_rfl
theorem eq (mrTimes : rTimes.Ty) (mrAdd : rAdd.Ty) (mrSub : rSub.Ty) {R : Type} (N : Nat) (κ : AV → List Blk → Option R) (p1 : List Int) (p2 : List Int) (p3 : List Int) (q4 : List Int) (q5 : List Int) (q6 : List Int) (d7 : List Int) : evF (g mrTimes mrAdd mrSub) an N Tryd.f59 [AV.agg [AV.ints IntKind.u32 8 p1, AV.ints IntKind.u32 8 p2, AV.ints IntKind.u32 8 p3], AV.agg [AV.ints IntKind.u32 8 q4, AV.ints IntKind.u32 8 q5, AV.ints IntKind.u32 8 q6], AV.ints IntKind.u32 8 d7] [] κ =
  m mrTimes mrAdd mrSub N p1 p2 p3 q4 q5 q6 d7 (fun v v_1 v_2 => κ (AV.agg [AV.ints IntKind.u32 8 v, AV.ints IntKind.u32 8 v_1, AV.ints IntKind.u32 8 v_2]) []) := by
  rw [tree]
  kernel_rfl
abbrev Ty : Type 1 := ∀ R : Type, (List Int) → (List Int) → (List Int) → (List Int) → (List Int) → (List Int) → (List Int) → ((List Int) → (List Int) → (List Int) → Option R) → Option R
def con (f : Ty) : Con := fun R args bs κ => match args, bs with
  | [AV.agg [AV.ints IntKind.u32 8 p1, AV.ints IntKind.u32 8 p2, AV.ints IntKind.u32 8 p3], AV.agg [AV.ints IntKind.u32 8 q4, AV.ints IntKind.u32 8 q5, AV.ints IntKind.u32 8 q6], AV.ints IntKind.u32 8 d7], [] => f R p1 p2 p3 q4 q5 q6 d7 (fun v v_1 v_2 => κ (AV.agg [AV.ints IntKind.u32 8 v, AV.ints IntKind.u32 8 v_1, AV.ints IntKind.u32 8 v_2]) [])
  | _, _ => none
theorem con_eq (f : Ty) (R : Type) (κ : AV → List Blk → Option R) (p1 : List Int) (p2 : List Int) (p3 : List Int) (q4 : List Int) (q5 : List Int) (q6 : List Int) (d7 : List Int) : con f R [AV.agg [AV.ints IntKind.u32 8 p1, AV.ints IntKind.u32 8 p2, AV.ints IntKind.u32 8 p3], AV.agg [AV.ints IntKind.u32 8 q4, AV.ints IntKind.u32 8 q5, AV.ints IntKind.u32 8 q6], AV.ints IntKind.u32 8 d7] [] κ = f R p1 p2 p3 q4 q5 q6 d7 (fun v v_1 v_2 => κ (AV.agg [AV.ints IntKind.u32 8 v, AV.ints IntKind.u32 8 v_1, AV.ints IntKind.u32 8 v_2]) []) := rfl
noncomputable def M (N : Nat) : Ty := fun R p1 p2 p3 q4 q5 q6 d7 kr0 => m (rTimes.M N) (rAdd.M N) (rSub.M N) (R := R) N p1 p2 p3 q4 q5 q6 d7 kr0
def gts : List (Nat × AV) := []
theorem gok (N : Nat) : GOk (g (rTimes.M N) (rAdd.M N) (rSub.M N)) := giD_ok hm (by intro p hp; cases hp) (gtL_ok (by decide)) (ovL_ok (by
    intro p hp
    simp only [List.mem_cons, List.not_mem_nil, or_false] at hp
    rcases hp with rfl | rfl | rfl
    · exact ⟨(rTimes.ok N).gt (gtL_sub (by repeat (first | exact subG_nil _ | refine subG_cons (by kernel_rfl) ?_))) (gtL_ok (by decide)), _, Tryd.func41, by kernel_rfl, by kernel_rfl⟩
    · exact ⟨(rAdd.ok N).gt (gtL_sub (by repeat (first | exact subG_nil _ | refine subG_cons (by kernel_rfl) ?_))) (gtL_ok (by decide)), _, Tryd.func46, by kernel_rfl, by kernel_rfl⟩
    · exact ⟨(rSub.ok N).gt (gtL_sub (by repeat (first | exact subG_nil _ | refine subG_cons (by kernel_rfl) ?_))) (gtL_ok (by decide)), _, Tryd.func43, by kernel_rfl, by kernel_rfl⟩
)) 1
theorem ok (N : Nat) : SoundC Tryd.prog (gtL gts) 59 (con (M N)) := by
  refine SoundC.mono (evF_ok (gok N) hm an N Tryd.func59) fun R args bs κ r h => ?_
  unfold con at h
  split at h
  · exact (eq (rTimes.M N) (rAdd.M N) (rSub.M N) N κ _ _ _ _ _ _ _).trans h
  · cases h
end qSum


/-! ### Tryd.f24: qAdd -/
namespace qAdd
def an : Anns := ⟨fun i => findA i [], fun i => findA i [], false, fun _ => none⟩
noncomputable def g (mrCurve : rCurve.Ty) (mqSum : qSum.Ty) : Gi := giD Tryd.prog (gtL []) (fun _ => an) 0 [] (ovL [(47, rCurve.con mrCurve), (59, qSum.con mqSum)]) 1
noncomputable def m (mrCurve : rCurve.Ty) (mqSum : qSum.Ty) {R : Type} (_N : Nat) (p1 : List Int) (p2 : List Int) (p3 : List Int) (q4 : List Int) (q5 : List Int) (q6 : List Int) (kr0 : (List Int) → (List Int) → (List Int) → Option R) : Option R :=
  mrCurve R
   (mqSum R p1 p2 p3 q4 q5 q6 ([324630691, 1978355146, 1094834347, 7342669, 2004478104, 2361868409, 728759923, 1375956206])
    (fun v_c3 v_1_c4 v_2_c5 => kr0 v_c3 v_1_c4 v_2_c5))
theorem tree (mrCurve : rCurve.Ty) (mqSum : qSum.Ty) {R : Type} (N : Nat) (κ : AV → List Blk → Option R) (p1 : List Int) (p2 : List Int) (p3 : List Int) (q4 : List Int) (q5 : List Int) (q6 : List Int) : evF (g mrCurve mqSum) an N Tryd.f24 [AV.agg [AV.ints IntKind.u32 8 p1, AV.ints IntKind.u32 8 p2, AV.ints IntKind.u32 8 p3], AV.agg [AV.ints IntKind.u32 8 q4, AV.ints IntKind.u32 8 q5, AV.ints IntKind.u32 8 q6]] [] κ =
  mrCurve R
   (mqSum R p1 p2 p3 q4 q5 q6 ([324630691, 1978355146, 1094834347, 7342669, 2004478104, 2361868409, 728759923, 1375956206])
    (fun v_c3 v_1_c4 v_2_c5 => κ (AV.agg [AV.ints IntKind.u32 8 v_c3, AV.ints IntKind.u32 8 v_1_c4, AV.ints IntKind.u32 8 v_2_c5]) [])) := by kernel_rfl
theorem eq (mrCurve : rCurve.Ty) (mqSum : qSum.Ty) {R : Type} (N : Nat) (κ : AV → List Blk → Option R) (p1 : List Int) (p2 : List Int) (p3 : List Int) (q4 : List Int) (q5 : List Int) (q6 : List Int) : evF (g mrCurve mqSum) an N Tryd.f24 [AV.agg [AV.ints IntKind.u32 8 p1, AV.ints IntKind.u32 8 p2, AV.ints IntKind.u32 8 p3], AV.agg [AV.ints IntKind.u32 8 q4, AV.ints IntKind.u32 8 q5, AV.ints IntKind.u32 8 q6]] [] κ =
  m mrCurve mqSum N p1 p2 p3 q4 q5 q6 (fun v v_1 v_2 => κ (AV.agg [AV.ints IntKind.u32 8 v, AV.ints IntKind.u32 8 v_1, AV.ints IntKind.u32 8 v_2]) []) := by
  rw [tree]
  kernel_rfl
abbrev Ty : Type 1 := ∀ R : Type, (List Int) → (List Int) → (List Int) → (List Int) → (List Int) → (List Int) → ((List Int) → (List Int) → (List Int) → Option R) → Option R
def con (f : Ty) : Con := fun R args bs κ => match args, bs with
  | [AV.agg [AV.ints IntKind.u32 8 p1, AV.ints IntKind.u32 8 p2, AV.ints IntKind.u32 8 p3], AV.agg [AV.ints IntKind.u32 8 q4, AV.ints IntKind.u32 8 q5, AV.ints IntKind.u32 8 q6]], [] => f R p1 p2 p3 q4 q5 q6 (fun v v_1 v_2 => κ (AV.agg [AV.ints IntKind.u32 8 v, AV.ints IntKind.u32 8 v_1, AV.ints IntKind.u32 8 v_2]) [])
  | _, _ => none
theorem con_eq (f : Ty) (R : Type) (κ : AV → List Blk → Option R) (p1 : List Int) (p2 : List Int) (p3 : List Int) (q4 : List Int) (q5 : List Int) (q6 : List Int) : con f R [AV.agg [AV.ints IntKind.u32 8 p1, AV.ints IntKind.u32 8 p2, AV.ints IntKind.u32 8 p3], AV.agg [AV.ints IntKind.u32 8 q4, AV.ints IntKind.u32 8 q5, AV.ints IntKind.u32 8 q6]] [] κ = f R p1 p2 p3 q4 q5 q6 (fun v v_1 v_2 => κ (AV.agg [AV.ints IntKind.u32 8 v, AV.ints IntKind.u32 8 v_1, AV.ints IntKind.u32 8 v_2]) []) := rfl
noncomputable def M (N : Nat) : Ty := fun R p1 p2 p3 q4 q5 q6 kr0 => m (rCurve.M N) (qSum.M N) (R := R) N p1 p2 p3 q4 q5 q6 kr0
def gts : List (Nat × AV) := []
theorem gok (N : Nat) : GOk (g (rCurve.M N) (qSum.M N)) := giD_ok hm (by intro p hp; cases hp) (gtL_ok (by decide)) (ovL_ok (by
    intro p hp
    simp only [List.mem_cons, List.not_mem_nil, or_false] at hp
    rcases hp with rfl | rfl
    · exact ⟨(rCurve.ok N).gt (gtL_sub (by repeat (first | exact subG_nil _ | refine subG_cons (by kernel_rfl) ?_))) (gtL_ok (by decide)), _, Tryd.func47, by kernel_rfl, by kernel_rfl⟩
    · exact ⟨(qSum.ok N).gt (gtL_sub (by repeat (first | exact subG_nil _ | refine subG_cons (by kernel_rfl) ?_))) (gtL_ok (by decide)), _, Tryd.func59, by kernel_rfl, by kernel_rfl⟩
)) 1
theorem ok (N : Nat) : SoundC Tryd.prog (gtL gts) 24 (con (M N)) := by
  refine SoundC.mono (evF_ok (gok N) hm an N Tryd.func24) fun R args bs κ r h => ?_
  unfold con at h
  split at h
  · exact (eq (rCurve.M N) (qSum.M N) N κ _ _ _ _ _ _).trans h
  · cases h
end qAdd


/-! ### Tryd.f25: qNegate -/
namespace qNegate
def an : Anns := ⟨fun i => findA i [], fun i => findA i [], false, fun _ => none⟩
noncomputable def g (mrSub : rSub.Ty) : Gi := giD Tryd.prog (gtL []) (fun _ => an) 0 [] (ovL [(43, rSub.con mrSub)]) 1
noncomputable def m (mrSub : rSub.Ty) {R : Type} (_N : Nat) (p1 : List Int) (p2 : List Int) (p3 : List Int) (kr0 : (List Int) → (List Int) → (List Int) → Option R) : Option R :=
  mrSub R ([0, 0, 0, 0, 0, 0, 0, 0]) p1
   (fun v_c1 => kr0 v_c1 p2 p3)
theorem tree (mrSub : rSub.Ty) {R : Type} (N : Nat) (κ : AV → List Blk → Option R) (p1 : List Int) (p2 : List Int) (p3 : List Int) : evF (g mrSub) an N Tryd.f25 [AV.agg [AV.ints IntKind.u32 8 p1, AV.ints IntKind.u32 8 p2, AV.ints IntKind.u32 8 p3]] [] κ =
  mrSub R ([0, 0, 0, 0, 0, 0, 0, 0]) p1
   (fun v_c1 => κ (AV.agg [AV.ints IntKind.u32 8 v_c1, AV.ints IntKind.u32 8 p2, AV.ints IntKind.u32 8 p3]) []) := by kernel_rfl
theorem eq (mrSub : rSub.Ty) {R : Type} (N : Nat) (κ : AV → List Blk → Option R) (p1 : List Int) (p2 : List Int) (p3 : List Int) : evF (g mrSub) an N Tryd.f25 [AV.agg [AV.ints IntKind.u32 8 p1, AV.ints IntKind.u32 8 p2, AV.ints IntKind.u32 8 p3]] [] κ =
  m mrSub N p1 p2 p3 (fun v v_1 v_2 => κ (AV.agg [AV.ints IntKind.u32 8 v, AV.ints IntKind.u32 8 v_1, AV.ints IntKind.u32 8 v_2]) []) := by
  rw [tree]
  kernel_rfl
abbrev Ty : Type 1 := ∀ R : Type, (List Int) → (List Int) → (List Int) → ((List Int) → (List Int) → (List Int) → Option R) → Option R
def con (f : Ty) : Con := fun R args bs κ => match args, bs with
  | [AV.agg [AV.ints IntKind.u32 8 p1, AV.ints IntKind.u32 8 p2, AV.ints IntKind.u32 8 p3]], [] => f R p1 p2 p3 (fun v v_1 v_2 => κ (AV.agg [AV.ints IntKind.u32 8 v, AV.ints IntKind.u32 8 v_1, AV.ints IntKind.u32 8 v_2]) [])
  | _, _ => none
theorem con_eq (f : Ty) (R : Type) (κ : AV → List Blk → Option R) (p1 : List Int) (p2 : List Int) (p3 : List Int) : con f R [AV.agg [AV.ints IntKind.u32 8 p1, AV.ints IntKind.u32 8 p2, AV.ints IntKind.u32 8 p3]] [] κ = f R p1 p2 p3 (fun v v_1 v_2 => κ (AV.agg [AV.ints IntKind.u32 8 v, AV.ints IntKind.u32 8 v_1, AV.ints IntKind.u32 8 v_2]) []) := rfl
noncomputable def M (N : Nat) : Ty := fun R p1 p2 p3 kr0 => m (rSub.M N) (R := R) N p1 p2 p3 kr0
def gts : List (Nat × AV) := []
theorem gok (N : Nat) : GOk (g (rSub.M N)) := giD_ok hm (by intro p hp; cases hp) (gtL_ok (by decide)) (ovL_ok (by
    intro p hp
    simp only [List.mem_cons, List.not_mem_nil, or_false] at hp
    rcases hp with rfl
    · exact ⟨(rSub.ok N).gt (gtL_sub (by repeat (first | exact subG_nil _ | refine subG_cons (by kernel_rfl) ?_))) (gtL_ok (by decide)), _, Tryd.func43, by kernel_rfl, by kernel_rfl⟩
)) 1
theorem ok (N : Nat) : SoundC Tryd.prog (gtL gts) 25 (con (M N)) := by
  refine SoundC.mono (evF_ok (gok N) hm an N Tryd.func25) fun R args bs κ r h => ?_
  unfold con at h
  split at h
  · exact (eq (rSub.M N) N κ _ _ _).trans h
  · cases h
end qNegate


/-! ### Tryd.f18: qTimes -/
namespace qTimes
def an : Anns := ⟨fun i => findA i [(4, ⟨[2, 3, 4, 5, 6, 7], [⟨2, 0, .u8⟩, ⟨3, 1, .u8⟩, ⟨4, 2, .u8⟩, ⟨5, 3, .u8⟩, ⟨6, 4, .u8⟩], 5⟩)], fun i => findA i [], false, fun _ => none⟩
noncomputable def g (mrCurve : rCurve.Ty) (mqZero : qZero.Ty) (mqSum : qSum.Ty) : Gi := giD Tryd.prog (gtL []) (fun _ => an) 0 [] (ovL [(47, rCurve.con mrCurve), (58, qZero.con mqZero), (59, qSum.con mqSum)]) 1
noncomputable def c_L4 : Code := loopOf Tryd.f18 0
def s_L4 (i7 : Int) (h0 : List Int) (h0_2 : List Int) (h0_3 : List Int) (h1 : List Int) (h4 : List Int) (h4_6 : List Int) (h4_7 : List Int) : St := ⟨[AV.dead, AV.dead, AV.ptr 0 [], AV.ptr 1 [], AV.ptr 2 [], AV.ptr 3 [], AV.ptr 4 [], AV.int IntKind.i64 i7] ++ List.replicate 25 .dead, [Blk.var (AV.agg [AV.ints IntKind.u32 8 h0, AV.ints IntKind.u32 8 h0_2, AV.ints IntKind.u32 8 h0_3]), Blk.var (AV.ints IntKind.u8 32 h1), Blk.var (AV.agg [AV.ints IntKind.u32 8 [0, 0, 0, 0, 0, 0, 0, 0], AV.ints IntKind.u32 8 [0, 0, 0, 0, 0, 0, 0, 0], AV.ints IntKind.u32 8 [0, 0, 0, 0, 0, 0, 0, 0]]), Blk.var (AV.ints IntKind.u32 8 [324630691, 1978355146, 1094834347, 7342669, 2004478104, 2361868409, 728759923, 1375956206]), Blk.var (AV.agg [AV.ints IntKind.u32 8 h4, AV.ints IntKind.u32 8 h4_6, AV.ints IntKind.u32 8 h4_7])]⟩
def x_L4_0 (i7 : Int) (h0 : List Int) (h0_2 : List Int) (h0_3 : List Int) (h1 : List Int) (h4 : List Int) (h4_6 : List Int) (h4_7 : List Int) : St := ⟨[AV.dead, AV.dead, AV.ptr 0 [], AV.ptr 1 [], AV.ptr 2 [], AV.ptr 3 [], AV.ptr 4 [], AV.int IntKind.i64 i7, AV.dead, AV.dead, AV.int IntKind.i64 i7, AV.bool (decide (i7 ≥ 0))] ++ List.replicate 21 .dead, [Blk.var (AV.agg [AV.ints IntKind.u32 8 h0, AV.ints IntKind.u32 8 h0_2, AV.ints IntKind.u32 8 h0_3]), Blk.var (AV.ints IntKind.u8 32 h1), Blk.var (AV.agg [AV.ints IntKind.u32 8 [0, 0, 0, 0, 0, 0, 0, 0], AV.ints IntKind.u32 8 [0, 0, 0, 0, 0, 0, 0, 0], AV.ints IntKind.u32 8 [0, 0, 0, 0, 0, 0, 0, 0]]), Blk.var (AV.ints IntKind.u32 8 [324630691, 1978355146, 1094834347, 7342669, 2004478104, 2361868409, 728759923, 1375956206]), Blk.var (AV.agg [AV.ints IntKind.u32 8 h4, AV.ints IntKind.u32 8 h4_6, AV.ints IntKind.u32 8 h4_7])]⟩
noncomputable def L4 (mrCurve : rCurve.Ty) (mqZero : qZero.Ty) (mqSum : qSum.Ty) {R : Type} (N : Nat) (ke0 : Int → (List Int) → (List Int) → (List Int) → (List Int) → (List Int) → (List Int) → (List Int) → Option R) : Nat → Int → (List Int) → (List Int) → (List Int) → (List Int) → (List Int) → (List Int) → (List Int) → Option R
  | 0, _, _, _, _, _, _, _, _ => none
  | m + 1, i7, h0, h0_2, h0_3, h1, h4, h4_6, h4_7 =>
    cond (decide (i7 ≥ 0))
     (mqSum R h4 h4_6 h4_7 h4 h4_6 h4_7 ([324630691, 1978355146, 1094834347, 7342669, 2004478104, 2361868409, 728759923, 1375956206])
      (fun v_c20 v_1_c21 v_2_c22 => cond (decide (0 ≤ IntKind.i64.wrap (i7.tdiv 8)))
       (cond (decide (IntKind.i64.wrap (i7.tdiv 8) < 32))
        (cond (iand IntKind.u8 (ishr IntKind.u8 (h1.getD (IntKind.i64.wrap (i7.tdiv 8)).toNat 0) (IntKind.u64.wrap (i7.tmod 8))) 1 == 1)
         (mqSum R v_c20 v_1_c21 v_2_c22 h0 h0_2 h0_3 ([324630691, 1978355146, 1094834347, 7342669, 2004478104, 2361868409, 728759923, 1375956206])
          (fun v_c23 v_1_c24 v_2_c25 => L4 mrCurve mqZero mqSum N ke0 m (IntKind.i64.wrap (i7 - 1)) h0 h0_2 h0_3 h1 v_c23 v_1_c24 v_2_c25))
         (L4 mrCurve mqZero mqSum N ke0 m (IntKind.i64.wrap (i7 - 1)) h0 h0_2 h0_3 h1 v_c20 v_1_c21 v_2_c22))
        (none))
       (none)))
     (ke0 i7 h0 h0_2 h0_3 h1 h4 h4_6 h4_7)
theorem round_L4 (mrCurve : rCurve.Ty) (mqZero : qZero.Ty) (mqSum : qSum.Ty) {R : Type} (N : Nat) (Rn : St → Option R) (k : K R) (i7 : Int) (h0 : List Int) (h0_2 : List Int) (h0_3 : List Int) (h1 : List Int) (h4 : List Int) (h4_6 : List Int) (h4_7 : List Int) : evC (g mrCurve mqZero mqSum) an 0 N c_L4 none (roundK (nmOf 0 (an.loop 4)) Rn k) (s_L4 i7 h0 h0_2 h0_3 h1 h4 h4_6 h4_7) =
  cond (decide (i7 ≥ 0))
   (mqSum R h4 h4_6 h4_7 h4 h4_6 h4_7 ([324630691, 1978355146, 1094834347, 7342669, 2004478104, 2361868409, 728759923, 1375956206])
    (fun v_c20 v_1_c21 v_2_c22 => cond (decide (0 ≤ IntKind.i64.wrap (i7.tdiv 8)))
     (cond (decide (IntKind.i64.wrap (i7.tdiv 8) < 32))
      (cond (iand IntKind.u8 (ishr IntKind.u8 (h1.getD (IntKind.i64.wrap (i7.tdiv 8)).toNat 0) (IntKind.u64.wrap (i7.tmod 8))) 1 == 1)
       (mqSum R v_c20 v_1_c21 v_2_c22 h0 h0_2 h0_3 ([324630691, 1978355146, 1094834347, 7342669, 2004478104, 2361868409, 728759923, 1375956206])
        (fun v_c23 v_1_c24 v_2_c25 => Rn (s_L4 (IntKind.i64.wrap (i7 - 1)) h0 h0_2 h0_3 h1 v_c23 v_1_c24 v_2_c25)))
       (Rn (s_L4 (IntKind.i64.wrap (i7 - 1)) h0 h0_2 h0_3 h1 v_c20 v_1_c21 v_2_c22)))
      (none))
     (none)))
   (k.ext 0 (x_L4_0 i7 h0 h0_2 h0_3 h1 h4 h4_6 h4_7)) := by kernel_rfl
theorem run_L4 (mrCurve : rCurve.Ty) (mqZero : qZero.Ty) (mqSum : qSum.Ty) {R : Type} (N : Nat) (k : K R) : ∀ (m : Nat) (i7 : Int) (h0 : List Int) (h0_2 : List Int) (h0_3 : List Int) (h1 : List Int) (h4 : List Int) (h4_6 : List Int) (h4_7 : List Int), loopN (evC (g mrCurve mqZero mqSum) an 0 N c_L4 none) k (nmOf 0 (an.loop 4)) m (s_L4 i7 h0 h0_2 h0_3 h1 h4 h4_6 h4_7) =
    L4 mrCurve mqZero mqSum N (fun i7 h0 h0_2 h0_3 h1 h4 h4_6 h4_7 => (k).ext 0 (x_L4_0 i7 h0 h0_2 h0_3 h1 h4 h4_6 h4_7)) m i7 h0 h0_2 h0_3 h1 h4 h4_6 h4_7 := by
  intro m
  induction m with
  | zero => intros; rfl
  | succ m ih =>
    intros
    rw [loopN_succ, round_L4]
    simp only [ih]
    kernel_rfl
noncomputable def m (mrCurve : rCurve.Ty) (mqZero : qZero.Ty) (mqSum : qSum.Ty) {R : Type} (N : Nat) (p1 : List Int) (p2 : List Int) (p3 : List Int) (s4 : List Int) (kr0 : (List Int) → (List Int) → (List Int) → Option R) : Option R :=
  mrCurve R
   (mqZero R
    (L4 mrCurve mqZero mqSum N
     (fun _i7_c26 _h0_c27 _h0_2_c28 _h0_3_c29 _h1_c30 h4_c31 h4_6_c32 h4_7_c33 => kr0 h4_c31 h4_6_c32 h4_7_c33) N 255 p1 p2 p3 s4 ([0, 0, 0, 0, 0, 0, 0, 0]) ([1, 0, 0, 0, 0, 0, 0, 0]) ([1, 0, 0, 0, 0, 0, 0, 0])))
theorem tree (mrCurve : rCurve.Ty) (mqZero : qZero.Ty) (mqSum : qSum.Ty) {R : Type} (N : Nat) (κ : AV → List Blk → Option R) (p1 : List Int) (p2 : List Int) (p3 : List Int) (s4 : List Int) : evF (g mrCurve mqZero mqSum) an N Tryd.f18 [AV.agg [AV.ints IntKind.u32 8 p1, AV.ints IntKind.u32 8 p2, AV.ints IntKind.u32 8 p3], AV.ints IntKind.u8 32 s4] [] κ =
  mrCurve R
   (mqZero R
    (loopN (evC (g mrCurve mqZero mqSum) an 0 N c_L4 none) (ctx (g mrCurve mqZero mqSum) an 0 N (bodyOf Tryd.f18) [1, 1, 1, 0, 1, 0] (endK (g mrCurve mqZero mqSum) an Tryd.f18 [] κ)) (nmOf 0 (an.loop 4)) N (s_L4 255 p1 p2 p3 s4 ([0, 0, 0, 0, 0, 0, 0, 0]) ([1, 0, 0, 0, 0, 0, 0, 0]) ([1, 0, 0, 0, 0, 0, 0, 0])))) := by kernel_rfl
theorem eq (mrCurve : rCurve.Ty) (mqZero : qZero.Ty) (mqSum : qSum.Ty) {R : Type} (N : Nat) (κ : AV → List Blk → Option R) (p1 : List Int) (p2 : List Int) (p3 : List Int) (s4 : List Int) : evF (g mrCurve mqZero mqSum) an N Tryd.f18 [AV.agg [AV.ints IntKind.u32 8 p1, AV.ints IntKind.u32 8 p2, AV.ints IntKind.u32 8 p3], AV.ints IntKind.u8 32 s4] [] κ =
  m mrCurve mqZero mqSum N p1 p2 p3 s4 (fun v v_1 v_2 => κ (AV.agg [AV.ints IntKind.u32 8 v, AV.ints IntKind.u32 8 v_1, AV.ints IntKind.u32 8 v_2]) []) := by
  rw [tree]
  simp only [run_L4]
  kernel_rfl
abbrev Ty : Type 1 := ∀ R : Type, (List Int) → (List Int) → (List Int) → (List Int) → ((List Int) → (List Int) → (List Int) → Option R) → Option R
def con (f : Ty) : Con := fun R args bs κ => match args, bs with
  | [AV.agg [AV.ints IntKind.u32 8 p1, AV.ints IntKind.u32 8 p2, AV.ints IntKind.u32 8 p3], AV.ints IntKind.u8 32 s4], [] => f R p1 p2 p3 s4 (fun v v_1 v_2 => κ (AV.agg [AV.ints IntKind.u32 8 v, AV.ints IntKind.u32 8 v_1, AV.ints IntKind.u32 8 v_2]) [])
  | _, _ => none
theorem con_eq (f : Ty) (R : Type) (κ : AV → List Blk → Option R) (p1 : List Int) (p2 : List Int) (p3 : List Int) (s4 : List Int) : con f R [AV.agg [AV.ints IntKind.u32 8 p1, AV.ints IntKind.u32 8 p2, AV.ints IntKind.u32 8 p3], AV.ints IntKind.u8 32 s4] [] κ = f R p1 p2 p3 s4 (fun v v_1 v_2 => κ (AV.agg [AV.ints IntKind.u32 8 v, AV.ints IntKind.u32 8 v_1, AV.ints IntKind.u32 8 v_2]) []) := rfl
noncomputable def M (N : Nat) : Ty := fun R p1 p2 p3 s4 kr0 => m (rCurve.M N) (qZero.M N) (qSum.M N) (R := R) N p1 p2 p3 s4 kr0
def gts : List (Nat × AV) := []
theorem gok (N : Nat) : GOk (g (rCurve.M N) (qZero.M N) (qSum.M N)) := giD_ok hm (by intro p hp; cases hp) (gtL_ok (by decide)) (ovL_ok (by
    intro p hp
    simp only [List.mem_cons, List.not_mem_nil, or_false] at hp
    rcases hp with rfl | rfl | rfl
    · exact ⟨(rCurve.ok N).gt (gtL_sub (by repeat (first | exact subG_nil _ | refine subG_cons (by kernel_rfl) ?_))) (gtL_ok (by decide)), _, Tryd.func47, by kernel_rfl, by kernel_rfl⟩
    · exact ⟨(qZero.ok N).gt (gtL_sub (by repeat (first | exact subG_nil _ | refine subG_cons (by kernel_rfl) ?_))) (gtL_ok (by decide)), _, Tryd.func58, by kernel_rfl, by kernel_rfl⟩
    · exact ⟨(qSum.ok N).gt (gtL_sub (by repeat (first | exact subG_nil _ | refine subG_cons (by kernel_rfl) ?_))) (gtL_ok (by decide)), _, Tryd.func59, by kernel_rfl, by kernel_rfl⟩
)) 1
theorem ok (N : Nat) : SoundC Tryd.prog (gtL gts) 18 (con (M N)) := by
  refine SoundC.mono (evF_ok (gok N) hm an N Tryd.func18) fun R args bs κ r h => ?_
  unfold con at h
  split at h
  · exact (eq (rCurve.M N) (qZero.M N) (qSum.M N) N κ _ _ _ _).trans h
  · cases h
end qTimes


/-! ### Tryd.f27: qWith -/
namespace qWith
def an : Anns := ⟨fun i => findA i [(6, ⟨[3, 4, 5, 6, 7, 8, 9, 10, 11], [⟨3, 0, .u8⟩, ⟨4, 1, .u8⟩, ⟨5, 2, .u8⟩, ⟨6, 3, .u8⟩, ⟨7, 4, .u8⟩, ⟨8, 5, .u8⟩, ⟨9, 6, .u8⟩, ⟨10, 7, .u8⟩], 8⟩)], fun i => findA i [], false, fun _ => none⟩
noncomputable def g (mrCurve : rCurve.Ty) (mqBase : qBase.Ty) (mqSum : qSum.Ty) (mqZero : qZero.Ty) : Gi := giD Tryd.prog (gtL []) (fun _ => an) 0 [] (ovL [(47, rCurve.con mrCurve), (53, qBase.con mqBase), (59, qSum.con mqSum), (58, qZero.con mqZero)]) 1
noncomputable def c_L6 : Code := loopOf Tryd.f27 0
def s_L6 (i11 : Int) (h0 : List Int) (h0_2 : List Int) (h0_3 : List Int) (h1 : List Int) (h2 : List Int) (h6 : List Int) (h6_7 : List Int) (h6_8 : List Int) (h7 : List Int) (h7_10 : List Int) (h7_11 : List Int) : St := ⟨[AV.dead, AV.dead, AV.dead, AV.ptr 0 [], AV.ptr 1 [], AV.ptr 2 [], AV.ptr 3 [], AV.ptr 4 [], AV.ptr 5 [], AV.ptr 6 [], AV.ptr 7 [], AV.int IntKind.i64 i11] ++ List.replicate 59 .dead, [Blk.var (AV.agg [AV.ints IntKind.u32 8 h0, AV.ints IntKind.u32 8 h0_2, AV.ints IntKind.u32 8 h0_3]), Blk.var (AV.ints IntKind.u8 32 h1), Blk.var (AV.ints IntKind.u8 32 h2), Blk.var (AV.agg [AV.ints IntKind.u32 8 [0, 0, 0, 0, 0, 0, 0, 0], AV.ints IntKind.u32 8 [0, 0, 0, 0, 0, 0, 0, 0], AV.ints IntKind.u32 8 [0, 0, 0, 0, 0, 0, 0, 0]]), Blk.var (AV.ints IntKind.u32 8 [324630691, 1978355146, 1094834347, 7342669, 2004478104, 2361868409, 728759923, 1375956206]), Blk.var (AV.agg [AV.ints IntKind.u32 8 [2401621274, 3377868128, 2502272946, 1764542304, 4258716764, 3232031281, 3446559742, 560543443], AV.ints IntKind.u32 8 [1717986904, 1717986918, 1717986918, 1717986918, 1717986918, 1717986918, 1717986918, 1717986918], AV.ints IntKind.u32 8 [1, 0, 0, 0, 0, 0, 0, 0]]), Blk.var (AV.agg [AV.ints IntKind.u32 8 h6, AV.ints IntKind.u32 8 h6_7, AV.ints IntKind.u32 8 h6_8]), Blk.var (AV.agg [AV.ints IntKind.u32 8 h7, AV.ints IntKind.u32 8 h7_10, AV.ints IntKind.u32 8 h7_11])]⟩
def x_L6_0 (i11 : Int) (h0 : List Int) (h0_2 : List Int) (h0_3 : List Int) (h1 : List Int) (h2 : List Int) (h6 : List Int) (h6_7 : List Int) (h6_8 : List Int) (h7 : List Int) (h7_10 : List Int) (h7_11 : List Int) : St := ⟨[AV.dead, AV.dead, AV.dead, AV.ptr 0 [], AV.ptr 1 [], AV.ptr 2 [], AV.ptr 3 [], AV.ptr 4 [], AV.ptr 5 [], AV.ptr 6 [], AV.ptr 7 [], AV.int IntKind.i64 i11] ++ List.replicate 9 .dead ++ [AV.int IntKind.i64 i11, AV.bool (decide (i11 ≥ 0))] ++ List.replicate 48 .dead, [Blk.var (AV.agg [AV.ints IntKind.u32 8 h0, AV.ints IntKind.u32 8 h0_2, AV.ints IntKind.u32 8 h0_3]), Blk.var (AV.ints IntKind.u8 32 h1), Blk.var (AV.ints IntKind.u8 32 h2), Blk.var (AV.agg [AV.ints IntKind.u32 8 [0, 0, 0, 0, 0, 0, 0, 0], AV.ints IntKind.u32 8 [0, 0, 0, 0, 0, 0, 0, 0], AV.ints IntKind.u32 8 [0, 0, 0, 0, 0, 0, 0, 0]]), Blk.var (AV.ints IntKind.u32 8 [324630691, 1978355146, 1094834347, 7342669, 2004478104, 2361868409, 728759923, 1375956206]), Blk.var (AV.agg [AV.ints IntKind.u32 8 [2401621274, 3377868128, 2502272946, 1764542304, 4258716764, 3232031281, 3446559742, 560543443], AV.ints IntKind.u32 8 [1717986904, 1717986918, 1717986918, 1717986918, 1717986918, 1717986918, 1717986918, 1717986918], AV.ints IntKind.u32 8 [1, 0, 0, 0, 0, 0, 0, 0]]), Blk.var (AV.agg [AV.ints IntKind.u32 8 h6, AV.ints IntKind.u32 8 h6_7, AV.ints IntKind.u32 8 h6_8]), Blk.var (AV.agg [AV.ints IntKind.u32 8 h7, AV.ints IntKind.u32 8 h7_10, AV.ints IntKind.u32 8 h7_11])]⟩
noncomputable def L6 (mrCurve : rCurve.Ty) (mqBase : qBase.Ty) (mqSum : qSum.Ty) (mqZero : qZero.Ty) {R : Type} (N : Nat) (ke0 : Int → (List Int) → (List Int) → (List Int) → (List Int) → (List Int) → (List Int) → (List Int) → (List Int) → (List Int) → (List Int) → (List Int) → Option R) : Nat → Int → (List Int) → (List Int) → (List Int) → (List Int) → (List Int) → (List Int) → (List Int) → (List Int) → (List Int) → (List Int) → (List Int) → Option R
  | 0, _, _, _, _, _, _, _, _, _, _, _, _ => none
  | m + 1, i11, h0, h0_2, h0_3, h1, h2, h6, h6_7, h6_8, h7, h7_10, h7_11 =>
    cond (decide (i11 ≥ 0))
     (mqSum R h7 h7_10 h7_11 h7 h7_10 h7_11 ([324630691, 1978355146, 1094834347, 7342669, 2004478104, 2361868409, 728759923, 1375956206])
      (fun v_c45 v_1_c46 v_2_c47 => cond (decide (0 ≤ IntKind.i64.wrap (i11.tdiv 8)))
       (cond (decide (IntKind.i64.wrap (i11.tdiv 8) < 32))
        (cond (decide (0 ≤ IntKind.i64.wrap (i11.tdiv 8)))
         (cond (decide (IntKind.i64.wrap (i11.tdiv 8) < 32))
          (cond (iand IntKind.u8 (ishr IntKind.u8 (h1.getD (IntKind.i64.wrap (i11.tdiv 8)).toNat 0) (IntKind.u64.wrap (i11.tmod 8))) 1 == 1)
           (cond (iand IntKind.u8 (ishr IntKind.u8 (h2.getD (IntKind.i64.wrap (i11.tdiv 8)).toNat 0) (IntKind.u64.wrap (i11.tmod 8))) 1 == 1)
            (mqSum R v_c45 v_1_c46 v_2_c47 h6 h6_7 h6_8 ([324630691, 1978355146, 1094834347, 7342669, 2004478104, 2361868409, 728759923, 1375956206])
             (fun v_c48 v_1_c49 v_2_c50 => L6 mrCurve mqBase mqSum mqZero N ke0 m (IntKind.i64.wrap (i11 - 1)) h0 h0_2 h0_3 h1 h2 h6 h6_7 h6_8 v_c48 v_1_c49 v_2_c50))
            (cond (iand IntKind.u8 (ishr IntKind.u8 (h1.getD (IntKind.i64.wrap (i11.tdiv 8)).toNat 0) (IntKind.u64.wrap (i11.tmod 8))) 1 == 1)
             (mqSum R v_c45 v_1_c46 v_2_c47 h0 h0_2 h0_3 ([324630691, 1978355146, 1094834347, 7342669, 2004478104, 2361868409, 728759923, 1375956206])
              (fun v_c51 v_1_c52 v_2_c53 => L6 mrCurve mqBase mqSum mqZero N ke0 m (IntKind.i64.wrap (i11 - 1)) h0 h0_2 h0_3 h1 h2 h6 h6_7 h6_8 v_c51 v_1_c52 v_2_c53))
             (cond (iand IntKind.u8 (ishr IntKind.u8 (h2.getD (IntKind.i64.wrap (i11.tdiv 8)).toNat 0) (IntKind.u64.wrap (i11.tmod 8))) 1 == 1)
              (mqSum R v_c45 v_1_c46 v_2_c47 ([2401621274, 3377868128, 2502272946, 1764542304, 4258716764, 3232031281, 3446559742, 560543443]) ([1717986904, 1717986918, 1717986918, 1717986918, 1717986918, 1717986918, 1717986918, 1717986918]) ([1, 0, 0, 0, 0, 0, 0, 0]) ([324630691, 1978355146, 1094834347, 7342669, 2004478104, 2361868409, 728759923, 1375956206])
               (fun v_c54 v_1_c55 v_2_c56 => L6 mrCurve mqBase mqSum mqZero N ke0 m (IntKind.i64.wrap (i11 - 1)) h0 h0_2 h0_3 h1 h2 h6 h6_7 h6_8 v_c54 v_1_c55 v_2_c56))
              (L6 mrCurve mqBase mqSum mqZero N ke0 m (IntKind.i64.wrap (i11 - 1)) h0 h0_2 h0_3 h1 h2 h6 h6_7 h6_8 v_c45 v_1_c46 v_2_c47))))
           (cond (iand IntKind.u8 (ishr IntKind.u8 (h1.getD (IntKind.i64.wrap (i11.tdiv 8)).toNat 0) (IntKind.u64.wrap (i11.tmod 8))) 1 == 1)
            (mqSum R v_c45 v_1_c46 v_2_c47 h0 h0_2 h0_3 ([324630691, 1978355146, 1094834347, 7342669, 2004478104, 2361868409, 728759923, 1375956206])
             (fun v_c57 v_1_c58 v_2_c59 => L6 mrCurve mqBase mqSum mqZero N ke0 m (IntKind.i64.wrap (i11 - 1)) h0 h0_2 h0_3 h1 h2 h6 h6_7 h6_8 v_c57 v_1_c58 v_2_c59))
            (cond (iand IntKind.u8 (ishr IntKind.u8 (h2.getD (IntKind.i64.wrap (i11.tdiv 8)).toNat 0) (IntKind.u64.wrap (i11.tmod 8))) 1 == 1)
             (mqSum R v_c45 v_1_c46 v_2_c47 ([2401621274, 3377868128, 2502272946, 1764542304, 4258716764, 3232031281, 3446559742, 560543443]) ([1717986904, 1717986918, 1717986918, 1717986918, 1717986918, 1717986918, 1717986918, 1717986918]) ([1, 0, 0, 0, 0, 0, 0, 0]) ([324630691, 1978355146, 1094834347, 7342669, 2004478104, 2361868409, 728759923, 1375956206])
              (fun v_c60 v_1_c61 v_2_c62 => L6 mrCurve mqBase mqSum mqZero N ke0 m (IntKind.i64.wrap (i11 - 1)) h0 h0_2 h0_3 h1 h2 h6 h6_7 h6_8 v_c60 v_1_c61 v_2_c62))
             (L6 mrCurve mqBase mqSum mqZero N ke0 m (IntKind.i64.wrap (i11 - 1)) h0 h0_2 h0_3 h1 h2 h6 h6_7 h6_8 v_c45 v_1_c46 v_2_c47))))
          (none))
         (none))
        (none))
       (none)))
     (ke0 i11 h0 h0_2 h0_3 h1 h2 h6 h6_7 h6_8 h7 h7_10 h7_11)
theorem round_L6 (mrCurve : rCurve.Ty) (mqBase : qBase.Ty) (mqSum : qSum.Ty) (mqZero : qZero.Ty) {R : Type} (N : Nat) (Rn : St → Option R) (k : K R) (i11 : Int) (h0 : List Int) (h0_2 : List Int) (h0_3 : List Int) (h1 : List Int) (h2 : List Int) (h6 : List Int) (h6_7 : List Int) (h6_8 : List Int) (h7 : List Int) (h7_10 : List Int) (h7_11 : List Int) : evC (g mrCurve mqBase mqSum mqZero) an 0 N c_L6 none (roundK (nmOf 0 (an.loop 6)) Rn k) (s_L6 i11 h0 h0_2 h0_3 h1 h2 h6 h6_7 h6_8 h7 h7_10 h7_11) =
  cond (decide (i11 ≥ 0))
   (mqSum R h7 h7_10 h7_11 h7 h7_10 h7_11 ([324630691, 1978355146, 1094834347, 7342669, 2004478104, 2361868409, 728759923, 1375956206])
    (fun v_c45 v_1_c46 v_2_c47 => cond (decide (0 ≤ IntKind.i64.wrap (i11.tdiv 8)))
     (cond (decide (IntKind.i64.wrap (i11.tdiv 8) < 32))
      (cond (decide (0 ≤ IntKind.i64.wrap (i11.tdiv 8)))
       (cond (decide (IntKind.i64.wrap (i11.tdiv 8) < 32))
        (cond (iand IntKind.u8 (ishr IntKind.u8 (h1.getD (IntKind.i64.wrap (i11.tdiv 8)).toNat 0) (IntKind.u64.wrap (i11.tmod 8))) 1 == 1)
         (cond (iand IntKind.u8 (ishr IntKind.u8 (h2.getD (IntKind.i64.wrap (i11.tdiv 8)).toNat 0) (IntKind.u64.wrap (i11.tmod 8))) 1 == 1)
          (mqSum R v_c45 v_1_c46 v_2_c47 h6 h6_7 h6_8 ([324630691, 1978355146, 1094834347, 7342669, 2004478104, 2361868409, 728759923, 1375956206])
           (fun v_c48 v_1_c49 v_2_c50 => Rn (s_L6 (IntKind.i64.wrap (i11 - 1)) h0 h0_2 h0_3 h1 h2 h6 h6_7 h6_8 v_c48 v_1_c49 v_2_c50)))
          (cond (iand IntKind.u8 (ishr IntKind.u8 (h1.getD (IntKind.i64.wrap (i11.tdiv 8)).toNat 0) (IntKind.u64.wrap (i11.tmod 8))) 1 == 1)
           (mqSum R v_c45 v_1_c46 v_2_c47 h0 h0_2 h0_3 ([324630691, 1978355146, 1094834347, 7342669, 2004478104, 2361868409, 728759923, 1375956206])
            (fun v_c51 v_1_c52 v_2_c53 => Rn (s_L6 (IntKind.i64.wrap (i11 - 1)) h0 h0_2 h0_3 h1 h2 h6 h6_7 h6_8 v_c51 v_1_c52 v_2_c53)))
           (cond (iand IntKind.u8 (ishr IntKind.u8 (h2.getD (IntKind.i64.wrap (i11.tdiv 8)).toNat 0) (IntKind.u64.wrap (i11.tmod 8))) 1 == 1)
            (mqSum R v_c45 v_1_c46 v_2_c47 ([2401621274, 3377868128, 2502272946, 1764542304, 4258716764, 3232031281, 3446559742, 560543443]) ([1717986904, 1717986918, 1717986918, 1717986918, 1717986918, 1717986918, 1717986918, 1717986918]) ([1, 0, 0, 0, 0, 0, 0, 0]) ([324630691, 1978355146, 1094834347, 7342669, 2004478104, 2361868409, 728759923, 1375956206])
             (fun v_c54 v_1_c55 v_2_c56 => Rn (s_L6 (IntKind.i64.wrap (i11 - 1)) h0 h0_2 h0_3 h1 h2 h6 h6_7 h6_8 v_c54 v_1_c55 v_2_c56)))
            (Rn (s_L6 (IntKind.i64.wrap (i11 - 1)) h0 h0_2 h0_3 h1 h2 h6 h6_7 h6_8 v_c45 v_1_c46 v_2_c47)))))
         (cond (iand IntKind.u8 (ishr IntKind.u8 (h1.getD (IntKind.i64.wrap (i11.tdiv 8)).toNat 0) (IntKind.u64.wrap (i11.tmod 8))) 1 == 1)
          (mqSum R v_c45 v_1_c46 v_2_c47 h0 h0_2 h0_3 ([324630691, 1978355146, 1094834347, 7342669, 2004478104, 2361868409, 728759923, 1375956206])
           (fun v_c57 v_1_c58 v_2_c59 => Rn (s_L6 (IntKind.i64.wrap (i11 - 1)) h0 h0_2 h0_3 h1 h2 h6 h6_7 h6_8 v_c57 v_1_c58 v_2_c59)))
          (cond (iand IntKind.u8 (ishr IntKind.u8 (h2.getD (IntKind.i64.wrap (i11.tdiv 8)).toNat 0) (IntKind.u64.wrap (i11.tmod 8))) 1 == 1)
           (mqSum R v_c45 v_1_c46 v_2_c47 ([2401621274, 3377868128, 2502272946, 1764542304, 4258716764, 3232031281, 3446559742, 560543443]) ([1717986904, 1717986918, 1717986918, 1717986918, 1717986918, 1717986918, 1717986918, 1717986918]) ([1, 0, 0, 0, 0, 0, 0, 0]) ([324630691, 1978355146, 1094834347, 7342669, 2004478104, 2361868409, 728759923, 1375956206])
            (fun v_c60 v_1_c61 v_2_c62 => Rn (s_L6 (IntKind.i64.wrap (i11 - 1)) h0 h0_2 h0_3 h1 h2 h6 h6_7 h6_8 v_c60 v_1_c61 v_2_c62)))
           (Rn (s_L6 (IntKind.i64.wrap (i11 - 1)) h0 h0_2 h0_3 h1 h2 h6 h6_7 h6_8 v_c45 v_1_c46 v_2_c47)))))
        (none))
       (none))
      (none))
     (none)))
   (k.ext 0 (x_L6_0 i11 h0 h0_2 h0_3 h1 h2 h6 h6_7 h6_8 h7 h7_10 h7_11)) := by kernel_rfl
theorem run_L6 (mrCurve : rCurve.Ty) (mqBase : qBase.Ty) (mqSum : qSum.Ty) (mqZero : qZero.Ty) {R : Type} (N : Nat) (k : K R) : ∀ (m : Nat) (i11 : Int) (h0 : List Int) (h0_2 : List Int) (h0_3 : List Int) (h1 : List Int) (h2 : List Int) (h6 : List Int) (h6_7 : List Int) (h6_8 : List Int) (h7 : List Int) (h7_10 : List Int) (h7_11 : List Int), loopN (evC (g mrCurve mqBase mqSum mqZero) an 0 N c_L6 none) k (nmOf 0 (an.loop 6)) m (s_L6 i11 h0 h0_2 h0_3 h1 h2 h6 h6_7 h6_8 h7 h7_10 h7_11) =
    L6 mrCurve mqBase mqSum mqZero N (fun i11 h0 h0_2 h0_3 h1 h2 h6 h6_7 h6_8 h7 h7_10 h7_11 => (k).ext 0 (x_L6_0 i11 h0 h0_2 h0_3 h1 h2 h6 h6_7 h6_8 h7 h7_10 h7_11)) m i11 h0 h0_2 h0_3 h1 h2 h6 h6_7 h6_8 h7 h7_10 h7_11 := by
  intro m
  induction m with
  | zero => intros; rfl
  | succ m ih =>
    intros
    rw [loopN_succ, round_L6]
    simp only [ih]
    kernel_rfl
noncomputable def m (mrCurve : rCurve.Ty) (mqBase : qBase.Ty) (mqSum : qSum.Ty) (mqZero : qZero.Ty) {R : Type} (N : Nat) (p1 : List Int) (p2 : List Int) (p3 : List Int) (h4 : List Int) (s5 : List Int) (kr0 : (List Int) → (List Int) → (List Int) → Option R) : Option R :=
  mrCurve R
   (mqBase R
    (mqSum R p1 p2 p3 ([2401621274, 3377868128, 2502272946, 1764542304, 4258716764, 3232031281, 3446559742, 560543443]) ([1717986904, 1717986918, 1717986918, 1717986918, 1717986918, 1717986918, 1717986918, 1717986918]) ([1, 0, 0, 0, 0, 0, 0, 0]) ([324630691, 1978355146, 1094834347, 7342669, 2004478104, 2361868409, 728759923, 1375956206])
     (fun v_c42 v_1_c43 v_2_c44 => mqZero R
      (L6 mrCurve mqBase mqSum mqZero N
       (fun _i11_c63 _h0_c64 _h0_2_c65 _h0_3_c66 _h1_c67 _h2_c68 _h6_c69 _h6_7_c70 _h6_8_c71 h7_c72 h7_10_c73 h7_11_c74 => kr0 h7_c72 h7_10_c73 h7_11_c74) N 255 p1 p2 p3 h4 s5 v_c42 v_1_c43 v_2_c44 ([0, 0, 0, 0, 0, 0, 0, 0]) ([1, 0, 0, 0, 0, 0, 0, 0]) ([1, 0, 0, 0, 0, 0, 0, 0])))))
theorem tree (mrCurve : rCurve.Ty) (mqBase : qBase.Ty) (mqSum : qSum.Ty) (mqZero : qZero.Ty) {R : Type} (N : Nat) (κ : AV → List Blk → Option R) (p1 : List Int) (p2 : List Int) (p3 : List Int) (h4 : List Int) (s5 : List Int) : evF (g mrCurve mqBase mqSum mqZero) an N Tryd.f27 [AV.agg [AV.ints IntKind.u32 8 p1, AV.ints IntKind.u32 8 p2, AV.ints IntKind.u32 8 p3], AV.ints IntKind.u8 32 h4, AV.ints IntKind.u8 32 s5] [] κ =
  mrCurve R
   (mqBase R
    (mqSum R p1 p2 p3 ([2401621274, 3377868128, 2502272946, 1764542304, 4258716764, 3232031281, 3446559742, 560543443]) ([1717986904, 1717986918, 1717986918, 1717986918, 1717986918, 1717986918, 1717986918, 1717986918]) ([1, 0, 0, 0, 0, 0, 0, 0]) ([324630691, 1978355146, 1094834347, 7342669, 2004478104, 2361868409, 728759923, 1375956206])
     (fun v_c42 v_1_c43 v_2_c44 => mqZero R
      (loopN (evC (g mrCurve mqBase mqSum mqZero) an 0 N c_L6 none) (ctx (g mrCurve mqBase mqSum mqZero) an 0 N (bodyOf Tryd.f27) [1, 1, 1, 1, 1, 0, 1, 0] (endK (g mrCurve mqBase mqSum mqZero) an Tryd.f27 [] κ)) (nmOf 0 (an.loop 6)) N (s_L6 255 p1 p2 p3 h4 s5 v_c42 v_1_c43 v_2_c44 ([0, 0, 0, 0, 0, 0, 0, 0]) ([1, 0, 0, 0, 0, 0, 0, 0]) ([1, 0, 0, 0, 0, 0, 0, 0])))))) := by kernel_rfl
theorem eq (mrCurve : rCurve.Ty) (mqBase : qBase.Ty) (mqSum : qSum.Ty) (mqZero : qZero.Ty) {R : Type} (N : Nat) (κ : AV → List Blk → Option R) (p1 : List Int) (p2 : List Int) (p3 : List Int) (h4 : List Int) (s5 : List Int) : evF (g mrCurve mqBase mqSum mqZero) an N Tryd.f27 [AV.agg [AV.ints IntKind.u32 8 p1, AV.ints IntKind.u32 8 p2, AV.ints IntKind.u32 8 p3], AV.ints IntKind.u8 32 h4, AV.ints IntKind.u8 32 s5] [] κ =
  m mrCurve mqBase mqSum mqZero N p1 p2 p3 h4 s5 (fun v v_1 v_2 => κ (AV.agg [AV.ints IntKind.u32 8 v, AV.ints IntKind.u32 8 v_1, AV.ints IntKind.u32 8 v_2]) []) := by
  rw [tree]
  simp only [run_L6]
  kernel_rfl
abbrev Ty : Type 1 := ∀ R : Type, (List Int) → (List Int) → (List Int) → (List Int) → (List Int) → ((List Int) → (List Int) → (List Int) → Option R) → Option R
def con (f : Ty) : Con := fun R args bs κ => match args, bs with
  | [AV.agg [AV.ints IntKind.u32 8 p1, AV.ints IntKind.u32 8 p2, AV.ints IntKind.u32 8 p3], AV.ints IntKind.u8 32 h4, AV.ints IntKind.u8 32 s5], [] => f R p1 p2 p3 h4 s5 (fun v v_1 v_2 => κ (AV.agg [AV.ints IntKind.u32 8 v, AV.ints IntKind.u32 8 v_1, AV.ints IntKind.u32 8 v_2]) [])
  | _, _ => none
theorem con_eq (f : Ty) (R : Type) (κ : AV → List Blk → Option R) (p1 : List Int) (p2 : List Int) (p3 : List Int) (h4 : List Int) (s5 : List Int) : con f R [AV.agg [AV.ints IntKind.u32 8 p1, AV.ints IntKind.u32 8 p2, AV.ints IntKind.u32 8 p3], AV.ints IntKind.u8 32 h4, AV.ints IntKind.u8 32 s5] [] κ = f R p1 p2 p3 h4 s5 (fun v v_1 v_2 => κ (AV.agg [AV.ints IntKind.u32 8 v, AV.ints IntKind.u32 8 v_1, AV.ints IntKind.u32 8 v_2]) []) := rfl
noncomputable def M (N : Nat) : Ty := fun R p1 p2 p3 h4 s5 kr0 => m (rCurve.M N) (qBase.M N) (qSum.M N) (qZero.M N) (R := R) N p1 p2 p3 h4 s5 kr0
def gts : List (Nat × AV) := []
theorem gok (N : Nat) : GOk (g (rCurve.M N) (qBase.M N) (qSum.M N) (qZero.M N)) := giD_ok hm (by intro p hp; cases hp) (gtL_ok (by decide)) (ovL_ok (by
    intro p hp
    simp only [List.mem_cons, List.not_mem_nil, or_false] at hp
    rcases hp with rfl | rfl | rfl | rfl
    · exact ⟨(rCurve.ok N).gt (gtL_sub (by repeat (first | exact subG_nil _ | refine subG_cons (by kernel_rfl) ?_))) (gtL_ok (by decide)), _, Tryd.func47, by kernel_rfl, by kernel_rfl⟩
    · exact ⟨(qBase.ok N).gt (gtL_sub (by repeat (first | exact subG_nil _ | refine subG_cons (by kernel_rfl) ?_))) (gtL_ok (by decide)), _, Tryd.func53, by kernel_rfl, by kernel_rfl⟩
    · exact ⟨(qSum.ok N).gt (gtL_sub (by repeat (first | exact subG_nil _ | refine subG_cons (by kernel_rfl) ?_))) (gtL_ok (by decide)), _, Tryd.func59, by kernel_rfl, by kernel_rfl⟩
    · exact ⟨(qZero.ok N).gt (gtL_sub (by repeat (first | exact subG_nil _ | refine subG_cons (by kernel_rfl) ?_))) (gtL_ok (by decide)), _, Tryd.func58, by kernel_rfl, by kernel_rfl⟩
)) 1
theorem ok (N : Nat) : SoundC Tryd.prog (gtL gts) 27 (con (M N)) := by
  refine SoundC.mono (evF_ok (gok N) hm an N Tryd.func27) fun R args bs κ r h => ?_
  unfold con at h
  split at h
  · exact (eq (rCurve.M N) (qBase.M N) (qSum.M N) (qZero.M N) N κ _ _ _ _ _).trans h
  · cases h
end qWith


/-! ### Tryd.f13: qBytes -/
namespace qBytes
def an : Anns := ⟨fun i => findA i [], fun i => findA i [], false, fun _ => none⟩
noncomputable def g (mrInvert : rInvert.Ty) (mrTimes : rTimes.Ty) (mrBytes : rBytes.Ty) : Gi := giD Tryd.prog (gtL []) (fun _ => an) 0 [] (ovL [(45, rInvert.con mrInvert), (41, rTimes.con mrTimes), (51, rBytes.con mrBytes)]) 1
noncomputable def m (mrInvert : rInvert.Ty) (mrTimes : rTimes.Ty) (mrBytes : rBytes.Ty) {R : Type} (_N : Nat) (p1 : List Int) (p2 : List Int) (p3 : List Int) (kr0 : (List Int) → Option R) : Option R :=
  mrInvert R p3
   (fun v_c4 => mrTimes R p1 v_c4
    (fun v_c5 => mrTimes R p2 v_c4
     (fun v_c6 => mrBytes R v_c6
      (fun v_c7 => cond ((v_c5.getD 0 0).tmod 2 == 1)
       (kr0 (v_c7.set 31 (IntKind.u8.wrap (v_c7.getD 31 0 + 128))))
       (kr0 v_c7)))))
theorem tree (mrInvert : rInvert.Ty) (mrTimes : rTimes.Ty) (mrBytes : rBytes.Ty) {R : Type} (N : Nat) (κ : AV → List Blk → Option R) (p1 : List Int) (p2 : List Int) (p3 : List Int) : evF (g mrInvert mrTimes mrBytes) an N Tryd.f13 [AV.agg [AV.ints IntKind.u32 8 p1, AV.ints IntKind.u32 8 p2, AV.ints IntKind.u32 8 p3]] [] κ =
  mrInvert R p3
   (fun v_c4 => mrTimes R p1 v_c4
    (fun v_c5 => mrTimes R p2 v_c4
     (fun v_c6 => mrBytes R v_c6
      (fun v_c7 => cond ((v_c5.getD 0 0).tmod 2 == 1)
       (κ (AV.ints IntKind.u8 32 (v_c7.set 31 (IntKind.u8.wrap (v_c7.getD 31 0 + 128)))) [])
       (κ (AV.ints IntKind.u8 32 v_c7) []))))) := by kernel_rfl
theorem eq (mrInvert : rInvert.Ty) (mrTimes : rTimes.Ty) (mrBytes : rBytes.Ty) {R : Type} (N : Nat) (κ : AV → List Blk → Option R) (p1 : List Int) (p2 : List Int) (p3 : List Int) : evF (g mrInvert mrTimes mrBytes) an N Tryd.f13 [AV.agg [AV.ints IntKind.u32 8 p1, AV.ints IntKind.u32 8 p2, AV.ints IntKind.u32 8 p3]] [] κ =
  m mrInvert mrTimes mrBytes N p1 p2 p3 (fun v => κ (AV.ints IntKind.u8 32 v) []) := by
  rw [tree]
  kernel_rfl
abbrev Ty : Type 1 := ∀ R : Type, (List Int) → (List Int) → (List Int) → ((List Int) → Option R) → Option R
def con (f : Ty) : Con := fun R args bs κ => match args, bs with
  | [AV.agg [AV.ints IntKind.u32 8 p1, AV.ints IntKind.u32 8 p2, AV.ints IntKind.u32 8 p3]], [] => f R p1 p2 p3 (fun v => κ (AV.ints IntKind.u8 32 v) [])
  | _, _ => none
theorem con_eq (f : Ty) (R : Type) (κ : AV → List Blk → Option R) (p1 : List Int) (p2 : List Int) (p3 : List Int) : con f R [AV.agg [AV.ints IntKind.u32 8 p1, AV.ints IntKind.u32 8 p2, AV.ints IntKind.u32 8 p3]] [] κ = f R p1 p2 p3 (fun v => κ (AV.ints IntKind.u8 32 v) []) := rfl
noncomputable def M (N : Nat) : Ty := fun R p1 p2 p3 kr0 => m (rInvert.M N) (rTimes.M N) (rBytes.M N) (R := R) N p1 p2 p3 kr0
def gts : List (Nat × AV) := []
theorem gok (N : Nat) : GOk (g (rInvert.M N) (rTimes.M N) (rBytes.M N)) := giD_ok hm (by intro p hp; cases hp) (gtL_ok (by decide)) (ovL_ok (by
    intro p hp
    simp only [List.mem_cons, List.not_mem_nil, or_false] at hp
    rcases hp with rfl | rfl | rfl
    · exact ⟨(rInvert.ok N).gt (gtL_sub (by repeat (first | exact subG_nil _ | refine subG_cons (by kernel_rfl) ?_))) (gtL_ok (by decide)), _, Tryd.func45, by kernel_rfl, by kernel_rfl⟩
    · exact ⟨(rTimes.ok N).gt (gtL_sub (by repeat (first | exact subG_nil _ | refine subG_cons (by kernel_rfl) ?_))) (gtL_ok (by decide)), _, Tryd.func41, by kernel_rfl, by kernel_rfl⟩
    · exact ⟨(rBytes.ok N).gt (gtL_sub (by repeat (first | exact subG_nil _ | refine subG_cons (by kernel_rfl) ?_))) (gtL_ok (by decide)), _, Tryd.func51, by kernel_rfl, by kernel_rfl⟩
)) 1
theorem ok (N : Nat) : SoundC Tryd.prog (gtL gts) 13 (con (M N)) := by
  refine SoundC.mono (evF_ok (gok N) hm an N Tryd.func13) fun R args bs κ r h => ?_
  unfold con at h
  split at h
  · exact (eq (rInvert.M N) (rTimes.M N) (rBytes.M N) N κ _ _ _).trans h
  · cases h
end qBytes


/-! ### Tryd.f10: qRead -/
namespace qRead
def an : Anns := ⟨fun i => findA i [], fun i => findA i [], false, fun _ => none⟩
noncomputable def g (mrRead : rRead.Ty) (mrLeast : rLeast.Ty) (mrTimes : rTimes.Ty) (mone : one.Ty) (mrSub : rSub.Ty) (mrCurve : rCurve.Ty) (mrAdd : rAdd.Ty) (mrInvert : rInvert.Ty) (mrRoot : rRoot.Ty) : Gi := giD Tryd.prog (gtL []) (fun _ => an) 0 [] (ovL [(39, rRead.con mrRead), (40, rLeast.con mrLeast), (41, rTimes.con mrTimes), (44, one.con mone), (43, rSub.con mrSub), (47, rCurve.con mrCurve), (46, rAdd.con mrAdd), (45, rInvert.con mrInvert), (42, rRoot.con mrRoot)]) 1
noncomputable def m (mrRead : rRead.Ty) (mrLeast : rLeast.Ty) (mrTimes : rTimes.Ty) (mone : one.Ty) (mrSub : rSub.Ty) (mrCurve : rCurve.Ty) (mrAdd : rAdd.Ty) (mrInvert : rInvert.Ty) (mrRoot : rRoot.Ty) {R : Type} (_N : Nat) (b1 : List Int) (kr0 : (List Int) → (List Int) → (List Int) → Int → Option R) : Option R :=
  mrRead R (b1.set 31 ((b1.getD 31 0).tmod 128))
   (fun v_c13 => mrLeast R v_c13
    (fun v_c14 => cond (!v_c14 == v_c13)
     (kr0 ([0, 0, 0, 0, 0, 0, 0, 0]) ([0, 0, 0, 0, 0, 0, 0, 0]) ([0, 0, 0, 0, 0, 0, 0, 0]) 4)
     (mrTimes R v_c13 v_c13
      (fun v_c15 => mone R
       (mrSub R v_c15 ([1, 0, 0, 0, 0, 0, 0, 0])
        (fun v_c16 => mrCurve R
         (mrTimes R ([324630691, 1978355146, 1094834347, 7342669, 2004478104, 2361868409, 728759923, 1375956206]) v_c15
          (fun v_c17 => mone R
           (mrAdd R v_c17 ([1, 0, 0, 0, 0, 0, 0, 0])
            (fun v_c18 => mrInvert R v_c18
             (fun v_c19 => mrTimes R v_c16 v_c19
              (fun v_c20 => mrRoot R v_c20
               (fun v_c21 v_1_c22 => cond (!v_1_c22)
                (kr0 ([0, 0, 0, 0, 0, 0, 0, 0]) ([0, 0, 0, 0, 0, 0, 0, 0]) ([0, 0, 0, 0, 0, 0, 0, 0]) 4)
                (cond (decide (b1.getD 31 0 ≥ 128))
                 (cond (v_c21 == [0, 0, 0, 0, 0, 0, 0, 0])
                  (kr0 ([0, 0, 0, 0, 0, 0, 0, 0]) ([0, 0, 0, 0, 0, 0, 0, 0]) ([0, 0, 0, 0, 0, 0, 0, 0]) 4)
                  (cond (decide (b1.getD 31 0 ≥ 128))
                   (mrSub R ([0, 0, 0, 0, 0, 0, 0, 0]) v_c21
                    (fun v_c23 => mone R
                     (kr0 v_c23 v_c13 ([1, 0, 0, 0, 0, 0, 0, 0]) 0)))
                   (mone R
                    (kr0 v_c21 v_c13 ([1, 0, 0, 0, 0, 0, 0, 0]) 0))))
                 (cond (decide (b1.getD 31 0 ≥ 128))
                  (mrSub R ([0, 0, 0, 0, 0, 0, 0, 0]) v_c21
                   (fun v_c24 => mone R
                    (kr0 v_c24 v_c13 ([1, 0, 0, 0, 0, 0, 0, 0]) 0)))
                  (mone R
                   (kr0 v_c21 v_c13 ([1, 0, 0, 0, 0, 0, 0, 0]) 0)))))))))))))))))
theorem tree (mrRead : rRead.Ty) (mrLeast : rLeast.Ty) (mrTimes : rTimes.Ty) (mone : one.Ty) (mrSub : rSub.Ty) (mrCurve : rCurve.Ty) (mrAdd : rAdd.Ty) (mrInvert : rInvert.Ty) (mrRoot : rRoot.Ty) {R : Type} (N : Nat) (κ : AV → List Blk → Option R) (b1 : List Int) : evF (g mrRead mrLeast mrTimes mone mrSub mrCurve mrAdd mrInvert mrRoot) an N Tryd.f10 [AV.ints IntKind.u8 32 b1] [] κ =
  mrRead R (b1.set 31 ((b1.getD 31 0).tmod 128))
   (fun v_c13 => mrLeast R v_c13
    (fun v_c14 => cond (!v_c14 == v_c13)
     (κ (AV.tup [AV.agg [AV.ints IntKind.u32 8 [0, 0, 0, 0, 0, 0, 0, 0], AV.ints IntKind.u32 8 [0, 0, 0, 0, 0, 0, 0, 0], AV.ints IntKind.u32 8 [0, 0, 0, 0, 0, 0, 0, 0]], AV.int IntKind.i64 4]) [])
     (mrTimes R v_c13 v_c13
      (fun v_c15 => mone R
       (mrSub R v_c15 ([1, 0, 0, 0, 0, 0, 0, 0])
        (fun v_c16 => mrCurve R
         (mrTimes R ([324630691, 1978355146, 1094834347, 7342669, 2004478104, 2361868409, 728759923, 1375956206]) v_c15
          (fun v_c17 => mone R
           (mrAdd R v_c17 ([1, 0, 0, 0, 0, 0, 0, 0])
            (fun v_c18 => mrInvert R v_c18
             (fun v_c19 => mrTimes R v_c16 v_c19
              (fun v_c20 => mrRoot R v_c20
               (fun v_c21 v_1_c22 => cond (!v_1_c22)
                (κ (AV.tup [AV.agg [AV.ints IntKind.u32 8 [0, 0, 0, 0, 0, 0, 0, 0], AV.ints IntKind.u32 8 [0, 0, 0, 0, 0, 0, 0, 0], AV.ints IntKind.u32 8 [0, 0, 0, 0, 0, 0, 0, 0]], AV.int IntKind.i64 4]) [])
                (cond (decide (b1.getD 31 0 ≥ 128))
                 (cond (v_c21 == [0, 0, 0, 0, 0, 0, 0, 0])
                  (κ (AV.tup [AV.agg [AV.ints IntKind.u32 8 [0, 0, 0, 0, 0, 0, 0, 0], AV.ints IntKind.u32 8 [0, 0, 0, 0, 0, 0, 0, 0], AV.ints IntKind.u32 8 [0, 0, 0, 0, 0, 0, 0, 0]], AV.int IntKind.i64 4]) [])
                  (cond (decide (b1.getD 31 0 ≥ 128))
                   (mrSub R ([0, 0, 0, 0, 0, 0, 0, 0]) v_c21
                    (fun v_c23 => mone R
                     (κ (AV.tup [AV.agg [AV.ints IntKind.u32 8 v_c23, AV.ints IntKind.u32 8 v_c13, AV.ints IntKind.u32 8 [1, 0, 0, 0, 0, 0, 0, 0]], AV.int IntKind.i64 0]) [])))
                   (mone R
                    (κ (AV.tup [AV.agg [AV.ints IntKind.u32 8 v_c21, AV.ints IntKind.u32 8 v_c13, AV.ints IntKind.u32 8 [1, 0, 0, 0, 0, 0, 0, 0]], AV.int IntKind.i64 0]) []))))
                 (cond (decide (b1.getD 31 0 ≥ 128))
                  (mrSub R ([0, 0, 0, 0, 0, 0, 0, 0]) v_c21
                   (fun v_c24 => mone R
                    (κ (AV.tup [AV.agg [AV.ints IntKind.u32 8 v_c24, AV.ints IntKind.u32 8 v_c13, AV.ints IntKind.u32 8 [1, 0, 0, 0, 0, 0, 0, 0]], AV.int IntKind.i64 0]) [])))
                  (mone R
                   (κ (AV.tup [AV.agg [AV.ints IntKind.u32 8 v_c21, AV.ints IntKind.u32 8 v_c13, AV.ints IntKind.u32 8 [1, 0, 0, 0, 0, 0, 0, 0]], AV.int IntKind.i64 0]) []))))))))))))))))) := by kernel_rfl
theorem eq (mrRead : rRead.Ty) (mrLeast : rLeast.Ty) (mrTimes : rTimes.Ty) (mone : one.Ty) (mrSub : rSub.Ty) (mrCurve : rCurve.Ty) (mrAdd : rAdd.Ty) (mrInvert : rInvert.Ty) (mrRoot : rRoot.Ty) {R : Type} (N : Nat) (κ : AV → List Blk → Option R) (b1 : List Int) : evF (g mrRead mrLeast mrTimes mone mrSub mrCurve mrAdd mrInvert mrRoot) an N Tryd.f10 [AV.ints IntKind.u8 32 b1] [] κ =
  m mrRead mrLeast mrTimes mone mrSub mrCurve mrAdd mrInvert mrRoot N b1 (fun v v_1 v_2 v_3 => κ (AV.tup [AV.agg [AV.ints IntKind.u32 8 v, AV.ints IntKind.u32 8 v_1, AV.ints IntKind.u32 8 v_2], AV.int IntKind.i64 v_3]) []) := by
  rw [tree]
  kernel_rfl
abbrev Ty : Type 1 := ∀ R : Type, (List Int) → ((List Int) → (List Int) → (List Int) → Int → Option R) → Option R
def con (f : Ty) : Con := fun R args bs κ => match args, bs with
  | [AV.ints IntKind.u8 32 b1], [] => f R b1 (fun v v_1 v_2 v_3 => κ (AV.tup [AV.agg [AV.ints IntKind.u32 8 v, AV.ints IntKind.u32 8 v_1, AV.ints IntKind.u32 8 v_2], AV.int IntKind.i64 v_3]) [])
  | _, _ => none
theorem con_eq (f : Ty) (R : Type) (κ : AV → List Blk → Option R) (b1 : List Int) : con f R [AV.ints IntKind.u8 32 b1] [] κ = f R b1 (fun v v_1 v_2 v_3 => κ (AV.tup [AV.agg [AV.ints IntKind.u32 8 v, AV.ints IntKind.u32 8 v_1, AV.ints IntKind.u32 8 v_2], AV.int IntKind.i64 v_3]) []) := rfl
noncomputable def M (N : Nat) : Ty := fun R b1 kr0 => m (rRead.M N) (rLeast.M N) (rTimes.M N) (one.M N) (rSub.M N) (rCurve.M N) (rAdd.M N) (rInvert.M N) (rRoot.M N) (R := R) N b1 kr0
def gts : List (Nat × AV) := []
theorem gok (N : Nat) : GOk (g (rRead.M N) (rLeast.M N) (rTimes.M N) (one.M N) (rSub.M N) (rCurve.M N) (rAdd.M N) (rInvert.M N) (rRoot.M N)) := giD_ok hm (by intro p hp; cases hp) (gtL_ok (by decide)) (ovL_ok (by
    intro p hp
    simp only [List.mem_cons, List.not_mem_nil, or_false] at hp
    rcases hp with rfl | rfl | rfl | rfl | rfl | rfl | rfl | rfl | rfl
    · exact ⟨(rRead.ok N).gt (gtL_sub (by repeat (first | exact subG_nil _ | refine subG_cons (by kernel_rfl) ?_))) (gtL_ok (by decide)), _, Tryd.func39, by kernel_rfl, by kernel_rfl⟩
    · exact ⟨(rLeast.ok N).gt (gtL_sub (by repeat (first | exact subG_nil _ | refine subG_cons (by kernel_rfl) ?_))) (gtL_ok (by decide)), _, Tryd.func40, by kernel_rfl, by kernel_rfl⟩
    · exact ⟨(rTimes.ok N).gt (gtL_sub (by repeat (first | exact subG_nil _ | refine subG_cons (by kernel_rfl) ?_))) (gtL_ok (by decide)), _, Tryd.func41, by kernel_rfl, by kernel_rfl⟩
    · exact ⟨(one.ok N).gt (gtL_sub (by repeat (first | exact subG_nil _ | refine subG_cons (by kernel_rfl) ?_))) (gtL_ok (by decide)), _, Tryd.func44, by kernel_rfl, by kernel_rfl⟩
    · exact ⟨(rSub.ok N).gt (gtL_sub (by repeat (first | exact subG_nil _ | refine subG_cons (by kernel_rfl) ?_))) (gtL_ok (by decide)), _, Tryd.func43, by kernel_rfl, by kernel_rfl⟩
    · exact ⟨(rCurve.ok N).gt (gtL_sub (by repeat (first | exact subG_nil _ | refine subG_cons (by kernel_rfl) ?_))) (gtL_ok (by decide)), _, Tryd.func47, by kernel_rfl, by kernel_rfl⟩
    · exact ⟨(rAdd.ok N).gt (gtL_sub (by repeat (first | exact subG_nil _ | refine subG_cons (by kernel_rfl) ?_))) (gtL_ok (by decide)), _, Tryd.func46, by kernel_rfl, by kernel_rfl⟩
    · exact ⟨(rInvert.ok N).gt (gtL_sub (by repeat (first | exact subG_nil _ | refine subG_cons (by kernel_rfl) ?_))) (gtL_ok (by decide)), _, Tryd.func45, by kernel_rfl, by kernel_rfl⟩
    · exact ⟨(rRoot.ok N).gt (gtL_sub (by repeat (first | exact subG_nil _ | refine subG_cons (by kernel_rfl) ?_))) (gtL_ok (by decide)), _, Tryd.func42, by kernel_rfl, by kernel_rfl⟩
)) 1
theorem ok (N : Nat) : SoundC Tryd.prog (gtL gts) 10 (con (M N)) := by
  refine SoundC.mono (evF_ok (gok N) hm an N Tryd.func10) fun R args bs κ r h => ?_
  unfold con at h
  split at h
  · exact (eq (rRead.M N) (rLeast.M N) (rTimes.M N) (one.M N) (rSub.M N) (rCurve.M N) (rAdd.M N) (rInvert.M N) (rRoot.M N) N κ _).trans h
  · cases h
end qRead

end Go.Proofs.YtjaappocnonkbaaDoor.fn
