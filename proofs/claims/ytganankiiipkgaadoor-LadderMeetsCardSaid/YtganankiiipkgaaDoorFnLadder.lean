/- What the ladder computes, with the proof; printed by a program. -/
import Derived.Test.YtganankiiipkgaaDoorProg
import Derived.Test.YtganankiiipkgaaDoorEv4
import Derived.Test.YtganankiiipkgaaDoorFnFieldR
import Derived.Test.YtganankiiipkgaaDoorFnNum
namespace Go.Proofs.YtganankiiipkgaaDoor.fn
open Go Go.Proofs Go.Ev

/-! ### Tryd.f46: Clamp -/
namespace Clamp
def an : Anns := ⟨fun i => findA i [], fun i => findA i [], false, fun _ => none⟩
noncomputable def g : Gi := giD Tryd.prog (gtL []) (fun _ => an) 0 [] (ovL []) 1
noncomputable def m {R : Type} (_N : Nat) (k1 : List Int) (kr0 : (List Int) → Option R) : Option R :=
  kr0 (((k1.set 0 (iand IntKind.u8 (k1.getD 0 0) 248)).set 31 (iand IntKind.u8 ((k1.set 0 (iand IntKind.u8 (k1.getD 0 0) 248)).getD 31 0) 127)).set 31 (ior IntKind.u8 (((k1.set 0 (iand IntKind.u8 (k1.getD 0 0) 248)).set 31 (iand IntKind.u8 ((k1.set 0 (iand IntKind.u8 (k1.getD 0 0) 248)).getD 31 0) 127)).getD 31 0) 64))
theorem tree {R : Type} (N : Nat) (κ : AV → List Blk → Option R) (k1 : List Int) : evF (g) an N Tryd.f46 [AV.ints IntKind.u8 32 k1] [] κ =
  κ (AV.ints IntKind.u8 32 (((k1.set 0 (iand IntKind.u8 (k1.getD 0 0) 248)).set 31 (iand IntKind.u8 ((k1.set 0 (iand IntKind.u8 (k1.getD 0 0) 248)).getD 31 0) 127)).set 31 (ior IntKind.u8 (((k1.set 0 (iand IntKind.u8 (k1.getD 0 0) 248)).set 31 (iand IntKind.u8 ((k1.set 0 (iand IntKind.u8 (k1.getD 0 0) 248)).getD 31 0) 127)).getD 31 0) 64))) [] := by kernel_rfl
theorem eq {R : Type} (N : Nat) (κ : AV → List Blk → Option R) (k1 : List Int) : evF (g) an N Tryd.f46 [AV.ints IntKind.u8 32 k1] [] κ =
  m N k1 (fun v => κ (AV.ints IntKind.u8 32 v) []) := by
  rw [tree]
  kernel_rfl
abbrev Ty : Type 1 := ∀ R : Type, (List Int) → ((List Int) → Option R) → Option R
def con (f : Ty) : Con := fun R args bs κ => match args, bs with
  | [AV.ints IntKind.u8 32 k1], [] => f R k1 (fun v => κ (AV.ints IntKind.u8 32 v) [])
  | _, _ => none
theorem con_eq (f : Ty) (R : Type) (κ : AV → List Blk → Option R) (k1 : List Int) : con f R [AV.ints IntKind.u8 32 k1] [] κ = f R k1 (fun v => κ (AV.ints IntKind.u8 32 v) []) := rfl
noncomputable def M (N : Nat) : Ty := fun R k1 kr0 => m (R := R) N k1 kr0
def gts : List (Nat × AV) := []
theorem gok (_N : Nat) : GOk (g) := giD_ok hm (by intro p hp; cases hp) (gtL_ok (by decide)) (ovL_ok (by intro p hp; cases hp)) 1
theorem ok (N : Nat) : SoundC Tryd.prog (gtL gts) 46 (con (M N)) := by
  refine SoundC.mono (evF_ok (gok N) hm an N Tryd.func46) fun R args bs κ r h => ?_
  unfold con at h
  split at h
  · exact (eq N κ _).trans h
  · cases h
end Clamp


/-! ### Tryd.f66: swapped -/
namespace swapped
def an : Anns := ⟨fun i => findA i [], fun i => findA i [], false, fun _ => none⟩
noncomputable def g (mePick : ePick.Ty) : Gi := giD Tryd.prog (gtL []) (fun _ => an) 0 [] (ovL [(34, ePick.con mePick)]) 1
noncomputable def m (mePick : ePick.Ty) {R : Type} (_N : Nat) (s1 : List Int) (s2 : List Int) (s3 : List Int) (s4 : List Int) (yes5 : Bool) (kr0 : (List Int) → (List Int) → (List Int) → (List Int) → Option R) : Option R :=
  mePick R yes5 s3 s1
   (fun v_c4 => mePick R yes5 s4 s2
    (fun v_c5 => mePick R yes5 s1 s3
     (fun v_c6 => mePick R yes5 s2 s4
      (fun v_c7 => kr0 v_c4 v_c5 v_c6 v_c7))))
theorem tree (mePick : ePick.Ty) {R : Type} (N : Nat) (κ : AV → List Blk → Option R) (s1 : List Int) (s2 : List Int) (s3 : List Int) (s4 : List Int) (yes5 : Bool) : evF (g mePick) an N Tryd.f66 [AV.agg [AV.agg [AV.ints IntKind.u64 10 s1], AV.agg [AV.ints IntKind.u64 10 s2], AV.agg [AV.ints IntKind.u64 10 s3], AV.agg [AV.ints IntKind.u64 10 s4]], AV.bool yes5] [] κ =
  mePick R yes5 s3 s1
   (fun v_c4 => mePick R yes5 s4 s2
    (fun v_c5 => mePick R yes5 s1 s3
     (fun v_c6 => mePick R yes5 s2 s4
      (fun v_c7 => κ (AV.agg [AV.agg [AV.ints IntKind.u64 10 v_c4], AV.agg [AV.ints IntKind.u64 10 v_c5], AV.agg [AV.ints IntKind.u64 10 v_c6], AV.agg [AV.ints IntKind.u64 10 v_c7]]) [])))) := by kernel_rfl
theorem eq (mePick : ePick.Ty) {R : Type} (N : Nat) (κ : AV → List Blk → Option R) (s1 : List Int) (s2 : List Int) (s3 : List Int) (s4 : List Int) (yes5 : Bool) : evF (g mePick) an N Tryd.f66 [AV.agg [AV.agg [AV.ints IntKind.u64 10 s1], AV.agg [AV.ints IntKind.u64 10 s2], AV.agg [AV.ints IntKind.u64 10 s3], AV.agg [AV.ints IntKind.u64 10 s4]], AV.bool yes5] [] κ =
  m mePick N s1 s2 s3 s4 yes5 (fun v v_1 v_2 v_3 => κ (AV.agg [AV.agg [AV.ints IntKind.u64 10 v], AV.agg [AV.ints IntKind.u64 10 v_1], AV.agg [AV.ints IntKind.u64 10 v_2], AV.agg [AV.ints IntKind.u64 10 v_3]]) []) := by
  rw [tree]
  kernel_rfl
abbrev Ty : Type 1 := ∀ R : Type, (List Int) → (List Int) → (List Int) → (List Int) → Bool → ((List Int) → (List Int) → (List Int) → (List Int) → Option R) → Option R
def con (f : Ty) : Con := fun R args bs κ => match args, bs with
  | [AV.agg [AV.agg [AV.ints IntKind.u64 10 s1], AV.agg [AV.ints IntKind.u64 10 s2], AV.agg [AV.ints IntKind.u64 10 s3], AV.agg [AV.ints IntKind.u64 10 s4]], AV.bool yes5], [] => f R s1 s2 s3 s4 yes5 (fun v v_1 v_2 v_3 => κ (AV.agg [AV.agg [AV.ints IntKind.u64 10 v], AV.agg [AV.ints IntKind.u64 10 v_1], AV.agg [AV.ints IntKind.u64 10 v_2], AV.agg [AV.ints IntKind.u64 10 v_3]]) [])
  | _, _ => none
theorem con_eq (f : Ty) (R : Type) (κ : AV → List Blk → Option R) (s1 : List Int) (s2 : List Int) (s3 : List Int) (s4 : List Int) (yes5 : Bool) : con f R [AV.agg [AV.agg [AV.ints IntKind.u64 10 s1], AV.agg [AV.ints IntKind.u64 10 s2], AV.agg [AV.ints IntKind.u64 10 s3], AV.agg [AV.ints IntKind.u64 10 s4]], AV.bool yes5] [] κ = f R s1 s2 s3 s4 yes5 (fun v v_1 v_2 v_3 => κ (AV.agg [AV.agg [AV.ints IntKind.u64 10 v], AV.agg [AV.ints IntKind.u64 10 v_1], AV.agg [AV.ints IntKind.u64 10 v_2], AV.agg [AV.ints IntKind.u64 10 v_3]]) []) := rfl
noncomputable def M (N : Nat) : Ty := fun R s1 s2 s3 s4 yes5 kr0 => m (ePick.M N) (R := R) N s1 s2 s3 s4 yes5 kr0
def gts : List (Nat × AV) := []
theorem gok (N : Nat) : GOk (g (ePick.M N)) := giD_ok hm (by intro p hp; cases hp) (gtL_ok (by decide)) (ovL_ok (by
    intro p hp
    simp only [List.mem_cons, List.not_mem_nil, or_false] at hp
    rcases hp with rfl
    · exact ⟨(ePick.ok N).gt (gtL_sub (by repeat (first | exact subG_nil _ | refine subG_cons (by kernel_rfl) ?_))) (gtL_ok (by decide)), _, Tryd.func34, by kernel_rfl, by kernel_rfl⟩
)) 1
theorem ok (N : Nat) : SoundC Tryd.prog (gtL gts) 66 (con (M N)) := by
  refine SoundC.mono (evF_ok (gok N) hm an N Tryd.func66) fun R args bs κ r h => ?_
  unfold con at h
  split at h
  · exact (eq (ePick.M N) N κ _ _ _ _ _).trans h
  · cases h
end swapped


/-! ### Tryd.f67: next -/
namespace next
def an : Anns := ⟨fun i => findA i [], fun i => findA i [], false, fun _ => none⟩
noncomputable def g (meAdd : eAdd.Ty) (meSub : eSub.Ty) (mSquare : Square.Ty) (meTimes : eTimes.Ty) (mSmall : Small.Ty) : Gi := giD Tryd.prog (gtL [(0, .ints .u64 10 [134216512, 134217726, 134217726, 134217726, 134217726, 134217726, 134217726, 134217726, 134217726, 134217726])]) (fun _ => an) 0 [] (ovL [(15, eAdd.con meAdd), (17, eSub.con meSub), (21, Square.con mSquare), (19, eTimes.con meTimes), (27, Small.con mSmall)]) 1
noncomputable def m (meAdd : eAdd.Ty) (meSub : eSub.Ty) (mSquare : Square.Ty) (meTimes : eTimes.Ty) (mSmall : Small.Ty) {R : Type} (_N : Nat) (s1 : List Int) (s2 : List Int) (s3 : List Int) (s4 : List Int) (u5 : List Int) (kr0 : (List Int) → (List Int) → (List Int) → (List Int) → Option R) : Option R :=
  meAdd R s1 s2
   (fun v_c19 => meSub R s1 s2
    (fun v_c20 => mSquare R v_c19
     (fun v_c21 => mSquare R v_c20
      (fun v_c22 => meSub R v_c21 v_c22
       (fun v_c23 => meSub R s3 s4
        (fun v_c24 => meTimes R v_c24 v_c19
         (fun v_c25 => meAdd R s3 s4
          (fun v_c26 => meTimes R v_c26 v_c20
           (fun v_c27 => meTimes R v_c21 v_c22
            (fun v_c28 => mSmall R 121665
             (fun v_c29 => meTimes R v_c23 v_c29
              (fun v_c30 => meAdd R v_c21 v_c30
               (fun v_c31 => meTimes R v_c23 v_c31
                (fun v_c32 => meAdd R v_c25 v_c27
                 (fun v_c33 => mSquare R v_c33
                  (fun v_c34 => meSub R v_c25 v_c27
                   (fun v_c35 => mSquare R v_c35
                    (fun v_c36 => meTimes R v_c36 u5
                     (fun v_c37 => kr0 v_c28 v_c32 v_c34 v_c37)))))))))))))))))))
theorem tree (meAdd : eAdd.Ty) (meSub : eSub.Ty) (mSquare : Square.Ty) (meTimes : eTimes.Ty) (mSmall : Small.Ty) {R : Type} (N : Nat) (κ : AV → List Blk → Option R) (s1 : List Int) (s2 : List Int) (s3 : List Int) (s4 : List Int) (u5 : List Int) : evF (g meAdd meSub mSquare meTimes mSmall) an N Tryd.f67 [AV.agg [AV.agg [AV.ints IntKind.u64 10 s1], AV.agg [AV.ints IntKind.u64 10 s2], AV.agg [AV.ints IntKind.u64 10 s3], AV.agg [AV.ints IntKind.u64 10 s4]], AV.agg [AV.ints IntKind.u64 10 u5]] [] κ =
  meAdd R s1 s2
   (fun v_c19 => meSub R s1 s2
    (fun v_c20 => mSquare R v_c19
     (fun v_c21 => mSquare R v_c20
      (fun v_c22 => meSub R v_c21 v_c22
       (fun v_c23 => meSub R s3 s4
        (fun v_c24 => meTimes R v_c24 v_c19
         (fun v_c25 => meAdd R s3 s4
          (fun v_c26 => meTimes R v_c26 v_c20
           (fun v_c27 => meTimes R v_c21 v_c22
            (fun v_c28 => mSmall R 121665
             (fun v_c29 => meTimes R v_c23 v_c29
              (fun v_c30 => meAdd R v_c21 v_c30
               (fun v_c31 => meTimes R v_c23 v_c31
                (fun v_c32 => meAdd R v_c25 v_c27
                 (fun v_c33 => mSquare R v_c33
                  (fun v_c34 => meSub R v_c25 v_c27
                   (fun v_c35 => mSquare R v_c35
                    (fun v_c36 => meTimes R v_c36 u5
                     (fun v_c37 => κ (AV.agg [AV.agg [AV.ints IntKind.u64 10 v_c28], AV.agg [AV.ints IntKind.u64 10 v_c32], AV.agg [AV.ints IntKind.u64 10 v_c34], AV.agg [AV.ints IntKind.u64 10 v_c37]]) []))))))))))))))))))) := by kernel_rfl
theorem eq (meAdd : eAdd.Ty) (meSub : eSub.Ty) (mSquare : Square.Ty) (meTimes : eTimes.Ty) (mSmall : Small.Ty) {R : Type} (N : Nat) (κ : AV → List Blk → Option R) (s1 : List Int) (s2 : List Int) (s3 : List Int) (s4 : List Int) (u5 : List Int) : evF (g meAdd meSub mSquare meTimes mSmall) an N Tryd.f67 [AV.agg [AV.agg [AV.ints IntKind.u64 10 s1], AV.agg [AV.ints IntKind.u64 10 s2], AV.agg [AV.ints IntKind.u64 10 s3], AV.agg [AV.ints IntKind.u64 10 s4]], AV.agg [AV.ints IntKind.u64 10 u5]] [] κ =
  m meAdd meSub mSquare meTimes mSmall N s1 s2 s3 s4 u5 (fun v v_1 v_2 v_3 => κ (AV.agg [AV.agg [AV.ints IntKind.u64 10 v], AV.agg [AV.ints IntKind.u64 10 v_1], AV.agg [AV.ints IntKind.u64 10 v_2], AV.agg [AV.ints IntKind.u64 10 v_3]]) []) := by
  rw [tree]
  kernel_rfl
abbrev Ty : Type 1 := ∀ R : Type, (List Int) → (List Int) → (List Int) → (List Int) → (List Int) → ((List Int) → (List Int) → (List Int) → (List Int) → Option R) → Option R
def con (f : Ty) : Con := fun R args bs κ => match args, bs with
  | [AV.agg [AV.agg [AV.ints IntKind.u64 10 s1], AV.agg [AV.ints IntKind.u64 10 s2], AV.agg [AV.ints IntKind.u64 10 s3], AV.agg [AV.ints IntKind.u64 10 s4]], AV.agg [AV.ints IntKind.u64 10 u5]], [] => f R s1 s2 s3 s4 u5 (fun v v_1 v_2 v_3 => κ (AV.agg [AV.agg [AV.ints IntKind.u64 10 v], AV.agg [AV.ints IntKind.u64 10 v_1], AV.agg [AV.ints IntKind.u64 10 v_2], AV.agg [AV.ints IntKind.u64 10 v_3]]) [])
  | _, _ => none
theorem con_eq (f : Ty) (R : Type) (κ : AV → List Blk → Option R) (s1 : List Int) (s2 : List Int) (s3 : List Int) (s4 : List Int) (u5 : List Int) : con f R [AV.agg [AV.agg [AV.ints IntKind.u64 10 s1], AV.agg [AV.ints IntKind.u64 10 s2], AV.agg [AV.ints IntKind.u64 10 s3], AV.agg [AV.ints IntKind.u64 10 s4]], AV.agg [AV.ints IntKind.u64 10 u5]] [] κ = f R s1 s2 s3 s4 u5 (fun v v_1 v_2 v_3 => κ (AV.agg [AV.agg [AV.ints IntKind.u64 10 v], AV.agg [AV.ints IntKind.u64 10 v_1], AV.agg [AV.ints IntKind.u64 10 v_2], AV.agg [AV.ints IntKind.u64 10 v_3]]) []) := rfl
noncomputable def M (N : Nat) : Ty := fun R s1 s2 s3 s4 u5 kr0 => m (eAdd.M N) (eSub.M N) (Square.M N) (eTimes.M N) (Small.M N) (R := R) N s1 s2 s3 s4 u5 kr0
def gts : List (Nat × AV) := [(0, .ints .u64 10 [134216512, 134217726, 134217726, 134217726, 134217726, 134217726, 134217726, 134217726, 134217726, 134217726])]
theorem gok (N : Nat) : GOk (g (eAdd.M N) (eSub.M N) (Square.M N) (eTimes.M N) (Small.M N)) := giD_ok hm (by intro p hp; cases hp) (gtL_ok (by decide)) (ovL_ok (by
    intro p hp
    simp only [List.mem_cons, List.not_mem_nil, or_false] at hp
    rcases hp with rfl | rfl | rfl | rfl | rfl
    · exact ⟨(eAdd.ok N).gt (gtL_sub (by repeat (first | exact subG_nil _ | refine subG_cons (by kernel_rfl) ?_))) (gtL_ok (by decide)), _, Tryd.func15, by kernel_rfl, by kernel_rfl⟩
    · exact ⟨(eSub.ok N).gt (gtL_sub (by repeat (first | exact subG_nil _ | refine subG_cons (by kernel_rfl) ?_))) (gtL_ok (by decide)), _, Tryd.func17, by kernel_rfl, by kernel_rfl⟩
    · exact ⟨(Square.ok N).gt (gtL_sub (by repeat (first | exact subG_nil _ | refine subG_cons (by kernel_rfl) ?_))) (gtL_ok (by decide)), _, Tryd.func21, by kernel_rfl, by kernel_rfl⟩
    · exact ⟨(eTimes.ok N).gt (gtL_sub (by repeat (first | exact subG_nil _ | refine subG_cons (by kernel_rfl) ?_))) (gtL_ok (by decide)), _, Tryd.func19, by kernel_rfl, by kernel_rfl⟩
    · exact ⟨(Small.ok N).gt (gtL_sub (by repeat (first | exact subG_nil _ | refine subG_cons (by kernel_rfl) ?_))) (gtL_ok (by decide)), _, Tryd.func27, by kernel_rfl, by kernel_rfl⟩
)) 1
theorem ok (N : Nat) : SoundC Tryd.prog (gtL gts) 67 (con (M N)) := by
  refine SoundC.mono (evF_ok (gok N) hm an N Tryd.func67) fun R args bs κ r h => ?_
  unfold con at h
  split at h
  · exact (eq (eAdd.M N) (eSub.M N) (Square.M N) (eTimes.M N) (Small.M N) N κ _ _ _ _ _).trans h
  · cases h
end next


/-! ### Tryd.f45: Mult -/
namespace Mult
def an : Anns := ⟨fun i => findA i [], fun i => findA i [(0, ⟨[2, 4, 5, 6, 7], [⟨2, 0, .u8⟩, ⟨4, 1, .u8⟩, ⟨5, 2, .u8⟩, ⟨6, 3, .u8⟩], 4⟩)], false, fun _ => none⟩
noncomputable def g (mClamp : Clamp.Ty) (mfRead : fRead.Ty) (mSmall : Small.Ty) (mswapped : swapped.Ty) (mnext : next.Ty) (meInvert : eInvert.Ty) (meTimes : eTimes.Ty) (meBytes : eBytes.Ty) : Gi := giD Tryd.prog (gtL [(0, .ints .u64 10 [134216512, 134217726, 134217726, 134217726, 134217726, 134217726, 134217726, 134217726, 134217726, 134217726])]) (fun _ => an) 0 [] (ovL [(46, Clamp.con mClamp), (12, fRead.con mfRead), (27, Small.con mSmall), (66, swapped.con mswapped), (67, next.con mnext), (30, eInvert.con meInvert), (19, eTimes.con meTimes), (50, eBytes.con meBytes)]) 1
noncomputable def c_S1 : Code := scopeOf Tryd.f45 0
def s_J1_0 (i7 : Int) (h0 : List Int) (h2 : List Int) (h3 : List Int) (h3_4 : List Int) (h3_5 : List Int) (h3_6 : List Int) : St := ⟨[AV.dead, AV.dead, AV.ptr 0 [], AV.dead, AV.ptr 1 [], AV.ptr 2 [], AV.ptr 3 [], AV.int IntKind.i64 i7] ++ List.replicate 36 .dead, [Blk.var (AV.ints IntKind.u8 32 h0), Blk.var (AV.ints IntKind.u8 32 [0, 0, 0, 0, 0, 0, 0, 0, 0, 0, 0, 0, 0, 0, 0, 0, 0, 0, 0, 0, 0, 0, 0, 0, 0, 0, 0, 0, 0, 0, 0, 0]), Blk.var (AV.agg [AV.ints IntKind.u64 10 h2]), Blk.var (AV.agg [AV.agg [AV.ints IntKind.u64 10 h3], AV.agg [AV.ints IntKind.u64 10 h3_4], AV.agg [AV.ints IntKind.u64 10 h3_5], AV.agg [AV.ints IntKind.u64 10 h3_6]])]⟩
def x_S1_0 (i7 : Int) (h0 : List Int) (h2 : List Int) (h3 : List Int) (h3_4 : List Int) (h3_5 : List Int) (h3_6 : List Int) (v_c97 : List Int) (v_c98 : List Int) (v_c99 : List Int) : St := ⟨[AV.dead, AV.dead, AV.ptr 0 [], AV.dead, AV.ptr 1 [], AV.ptr 2 [], AV.ptr 3 [], AV.int IntKind.i64 i7] ++ List.replicate 9 .dead ++ [AV.int IntKind.i64 i7, AV.bool (decide (i7 ≥ 0))] ++ List.replicate 18 .dead ++ [AV.ptr 3 [0], AV.agg [AV.ints IntKind.u64 10 h3], AV.ptr 3 [1], AV.agg [AV.ints IntKind.u64 10 h3_4], AV.agg [AV.ints IntKind.u64 10 v_c97], AV.agg [AV.ints IntKind.u64 10 v_c98], AV.ints IntKind.u8 32 v_c99], [Blk.var (AV.ints IntKind.u8 32 h0), Blk.var (AV.ints IntKind.u8 32 v_c99), Blk.var (AV.agg [AV.ints IntKind.u64 10 h2]), Blk.var (AV.agg [AV.agg [AV.ints IntKind.u64 10 h3], AV.agg [AV.ints IntKind.u64 10 h3_4], AV.agg [AV.ints IntKind.u64 10 h3_5], AV.agg [AV.ints IntKind.u64 10 h3_6]]), Blk.rsv, Blk.rsv, Blk.rsv, Blk.rsv, Blk.rsv, Blk.rsv, Blk.rsv, Blk.rsv, Blk.rsv, Blk.rsv, Blk.rsv, Blk.rsv]⟩
noncomputable def J1_0 (mClamp : Clamp.Ty) (mfRead : fRead.Ty) (mSmall : Small.Ty) (mswapped : swapped.Ty) (mnext : next.Ty) (meInvert : eInvert.Ty) (meTimes : eTimes.Ty) (meBytes : eBytes.Ty) {R : Type} (N : Nat) (ke0 : Int → (List Int) → (List Int) → (List Int) → (List Int) → (List Int) → (List Int) → (List Int) → (List Int) → (List Int) → Option R) : Nat → Int → (List Int) → (List Int) → (List Int) → (List Int) → (List Int) → (List Int) → Option R
  | 0, _, _, _, _, _, _, _ => none
  | m + 1, i7, h0, h2, h3, h3_4, h3_5, h3_6 =>
    cond (decide (i7 ≥ 0))
     (cond (decide (0 ≤ IntKind.i64.wrap (i7.tdiv 8)))
      (cond (decide (IntKind.i64.wrap (i7.tdiv 8) < 32))
       (cond (true && decide (i7.tmod 8 < 0))
        (none)
        (mswapped R h3 h3_4 h3_5 h3_6 (iand IntKind.u8 (ishr IntKind.u8 (h0.getD (IntKind.i64.wrap (i7.tdiv 8)).toNat 0) (i7.tmod 8)) 1 == 1)
         (fun v_c85 v_1_c86 v_2_c87 v_3_c88 => mnext R v_c85 v_1_c86 v_2_c87 v_3_c88 h2
          (fun v_c89 v_1_c90 v_2_c91 v_3_c92 => mswapped R v_c89 v_1_c90 v_2_c91 v_3_c92 (iand IntKind.u8 (ishr IntKind.u8 (h0.getD (IntKind.i64.wrap (i7.tdiv 8)).toNat 0) (i7.tmod 8)) 1 == 1)
           (fun v_c93 v_1_c94 v_2_c95 v_3_c96 => J1_0 mClamp mfRead mSmall mswapped mnext meInvert meTimes meBytes N ke0 m (IntKind.i64.wrap (i7 - 1)) h0 h2 v_c93 v_1_c94 v_2_c95 v_3_c96)))))
       (none))
      (none))
     (meInvert R h3_4
      (fun v_c97 => meTimes R h3 v_c97
       (fun v_c98 => meBytes R v_c98
        (fun v_c99 => ke0 i7 h0 h2 h3 h3_4 h3_5 h3_6 v_c97 v_c98 v_c99))))
theorem round_J1_0 (mClamp : Clamp.Ty) (mfRead : fRead.Ty) (mSmall : Small.Ty) (mswapped : swapped.Ty) (mnext : next.Ty) (meInvert : eInvert.Ty) (meTimes : eTimes.Ty) (meBytes : eBytes.Ty) {R : Type} (N : Nat) (J : Nat → St → Option R) (k : K R) (i7 : Int) (h0 : List Int) (h2 : List Int) (h3 : List Int) (h3_4 : List Int) (h3_5 : List Int) (h3_6 : List Int) : evC (g mClamp mfRead mSmall mswapped mnext meInvert meTimes meBytes) an 0 N c_S1 (some 0) { k with gto := gotoK (hasL c_S1) (fun l => nmOf 0 (an.label l)) k J } (s_J1_0 i7 h0 h2 h3 h3_4 h3_5 h3_6) =
  cond (decide (i7 ≥ 0))
   (cond (decide (0 ≤ IntKind.i64.wrap (i7.tdiv 8)))
    (cond (decide (IntKind.i64.wrap (i7.tdiv 8) < 32))
     (cond (true && decide (i7.tmod 8 < 0))
      (none)
      (mswapped R h3 h3_4 h3_5 h3_6 (iand IntKind.u8 (ishr IntKind.u8 (h0.getD (IntKind.i64.wrap (i7.tdiv 8)).toNat 0) (i7.tmod 8)) 1 == 1)
       (fun v_c85 v_1_c86 v_2_c87 v_3_c88 => mnext R v_c85 v_1_c86 v_2_c87 v_3_c88 h2
        (fun v_c89 v_1_c90 v_2_c91 v_3_c92 => mswapped R v_c89 v_1_c90 v_2_c91 v_3_c92 (iand IntKind.u8 (ishr IntKind.u8 (h0.getD (IntKind.i64.wrap (i7.tdiv 8)).toNat 0) (i7.tmod 8)) 1 == 1)
         (fun v_c93 v_1_c94 v_2_c95 v_3_c96 => J 0 (s_J1_0 (IntKind.i64.wrap (i7 - 1)) h0 h2 v_c93 v_1_c94 v_2_c95 v_3_c96))))))
     (none))
    (none))
   (meInvert R h3_4
    (fun v_c97 => meTimes R h3 v_c97
     (fun v_c98 => meBytes R v_c98
      (fun v_c99 => k.ret (x_S1_0 i7 h0 h2 h3 h3_4 h3_5 h3_6 v_c97 v_c98 v_c99))))) := by kernel_rfl
theorem run_S1 (mClamp : Clamp.Ty) (mfRead : fRead.Ty) (mSmall : Small.Ty) (mswapped : swapped.Ty) (mnext : next.Ty) (meInvert : eInvert.Ty) (meTimes : eTimes.Ty) (meBytes : eBytes.Ty) {R : Type} (N : Nat) (k : K R) : ∀ (m : Nat), (∀ (i7 : Int) (h0 : List Int) (h2 : List Int) (h3 : List Int) (h3_4 : List Int) (h3_5 : List Int) (h3_6 : List Int), jumpN (fun l => evC (g mClamp mfRead mSmall mswapped mnext meInvert meTimes meBytes) an 0 N c_S1 (some l)) (hasL c_S1) k (fun l => nmOf 0 (an.label l)) m 0 (s_J1_0 i7 h0 h2 h3 h3_4 h3_5 h3_6) =
    J1_0 mClamp mfRead mSmall mswapped mnext meInvert meTimes meBytes N (fun i7 h0 h2 h3 h3_4 h3_5 h3_6 v_c97 v_c98 v_c99 => (k).ret (x_S1_0 i7 h0 h2 h3 h3_4 h3_5 h3_6 v_c97 v_c98 v_c99)) m i7 h0 h2 h3 h3_4 h3_5 h3_6) := by
  intro m
  induction m with
  | zero => exact by intros; rfl
  | succ m ih =>
    · intros; rw [jumpN_succ, round_J1_0]
      simp only [ih]
      kernel_rfl
theorem run_J1_0 (mClamp : Clamp.Ty) (mfRead : fRead.Ty) (mSmall : Small.Ty) (mswapped : swapped.Ty) (mnext : next.Ty) (meInvert : eInvert.Ty) (meTimes : eTimes.Ty) (meBytes : eBytes.Ty) {R : Type} (N : Nat) (k : K R) (m : Nat) : (∀ (i7 : Int) (h0 : List Int) (h2 : List Int) (h3 : List Int) (h3_4 : List Int) (h3_5 : List Int) (h3_6 : List Int), jumpN (fun l => evC (g mClamp mfRead mSmall mswapped mnext meInvert meTimes meBytes) an 0 N c_S1 (some l)) (hasL c_S1) k (fun l => nmOf 0 (an.label l)) m 0 (s_J1_0 i7 h0 h2 h3 h3_4 h3_5 h3_6) =
    J1_0 mClamp mfRead mSmall mswapped mnext meInvert meTimes meBytes N (fun i7 h0 h2 h3 h3_4 h3_5 h3_6 v_c97 v_c98 v_c99 => (k).ret (x_S1_0 i7 h0 h2 h3 h3_4 h3_5 h3_6 v_c97 v_c98 v_c99)) m i7 h0 h2 h3 h3_4 h3_5 h3_6) := (run_S1 mClamp mfRead mSmall mswapped mnext meInvert meTimes meBytes N k m)
noncomputable def m (mClamp : Clamp.Ty) (mfRead : fRead.Ty) (mSmall : Small.Ty) (mswapped : swapped.Ty) (mnext : next.Ty) (meInvert : eInvert.Ty) (meTimes : eTimes.Ty) (meBytes : eBytes.Ty) {R : Type} (N : Nat) (k1 : List Int) (u2 : List Int) (kr0 : (List Int) → Option R) : Option R :=
  mClamp R k1
   (fun v_c69 => mfRead R u2
    (fun v_c70 => mSmall R 1
     (fun v_c71 => mSmall R 1
      (fun v_c72 => mswapped R v_c71 ([0, 0, 0, 0, 0, 0, 0, 0, 0, 0]) v_c70 v_c72 (iand IntKind.u8 (ishr IntKind.u8 (v_c69.getD 31 0) 6) 1 == 1)
       (fun v_c73 v_1_c74 v_2_c75 v_3_c76 => mnext R v_c73 v_1_c74 v_2_c75 v_3_c76 v_c70
        (fun v_c77 v_1_c78 v_2_c79 v_3_c80 => mswapped R v_c77 v_1_c78 v_2_c79 v_3_c80 (iand IntKind.u8 (ishr IntKind.u8 (v_c69.getD 31 0) 6) 1 == 1)
         (fun v_c81 v_1_c82 v_2_c83 v_3_c84 => J1_0 mClamp mfRead mSmall mswapped mnext meInvert meTimes meBytes N
          (fun _i7_c100 _h0_c101 _h2_c102 _h3_c103 _h3_4_c104 _h3_5_c105 _h3_6_c106 _v_c107 _v_c108 v_c109 => kr0 v_c109) N 253 v_c69 v_c70 v_c81 v_1_c82 v_2_c83 v_3_c84)))))))
theorem tree (mClamp : Clamp.Ty) (mfRead : fRead.Ty) (mSmall : Small.Ty) (mswapped : swapped.Ty) (mnext : next.Ty) (meInvert : eInvert.Ty) (meTimes : eTimes.Ty) (meBytes : eBytes.Ty) {R : Type} (N : Nat) (κ : AV → List Blk → Option R) (k1 : List Int) (u2 : List Int) : evF (g mClamp mfRead mSmall mswapped mnext meInvert meTimes meBytes) an N Tryd.f45 [AV.ints IntKind.u8 32 k1, AV.ints IntKind.u8 32 u2] [] κ =
  mClamp R k1
   (fun v_c69 => mfRead R u2
    (fun v_c70 => mSmall R 1
     (fun v_c71 => mSmall R 1
      (fun v_c72 => mswapped R v_c71 ([0, 0, 0, 0, 0, 0, 0, 0, 0, 0]) v_c70 v_c72 (iand IntKind.u8 (ishr IntKind.u8 (v_c69.getD 31 0) 6) 1 == 1)
       (fun v_c73 v_1_c74 v_2_c75 v_3_c76 => mnext R v_c73 v_1_c74 v_2_c75 v_3_c76 v_c70
        (fun v_c77 v_1_c78 v_2_c79 v_3_c80 => mswapped R v_c77 v_1_c78 v_2_c79 v_3_c80 (iand IntKind.u8 (ishr IntKind.u8 (v_c69.getD 31 0) 6) 1 == 1)
         (fun v_c81 v_1_c82 v_2_c83 v_3_c84 => jumpN (fun l => evC (g mClamp mfRead mSmall mswapped mnext meInvert meTimes meBytes) an 0 N c_S1 (some l)) (hasL c_S1) (ctx (g mClamp mfRead mSmall mswapped mnext meInvert meTimes meBytes) an 0 N (bodyOf Tryd.f45) [1] (endK (g mClamp mfRead mSmall mswapped mnext meInvert meTimes meBytes) an Tryd.f45 [] κ)) (fun l => nmOf 0 (an.label l)) N 0 (s_J1_0 253 v_c69 v_c70 v_c81 v_1_c82 v_2_c83 v_3_c84)))))))) := by kernel_rfl
theorem eq (mClamp : Clamp.Ty) (mfRead : fRead.Ty) (mSmall : Small.Ty) (mswapped : swapped.Ty) (mnext : next.Ty) (meInvert : eInvert.Ty) (meTimes : eTimes.Ty) (meBytes : eBytes.Ty) {R : Type} (N : Nat) (κ : AV → List Blk → Option R) (k1 : List Int) (u2 : List Int) : evF (g mClamp mfRead mSmall mswapped mnext meInvert meTimes meBytes) an N Tryd.f45 [AV.ints IntKind.u8 32 k1, AV.ints IntKind.u8 32 u2] [] κ =
  m mClamp mfRead mSmall mswapped mnext meInvert meTimes meBytes N k1 u2 (fun v => κ (AV.ints IntKind.u8 32 v) []) := by
  rw [tree]
  simp only [run_J1_0]
  kernel_rfl
abbrev Ty : Type 1 := ∀ R : Type, (List Int) → (List Int) → ((List Int) → Option R) → Option R
def con (f : Ty) : Con := fun R args bs κ => match args, bs with
  | [AV.ints IntKind.u8 32 k1, AV.ints IntKind.u8 32 u2], [] => f R k1 u2 (fun v => κ (AV.ints IntKind.u8 32 v) [])
  | _, _ => none
theorem con_eq (f : Ty) (R : Type) (κ : AV → List Blk → Option R) (k1 : List Int) (u2 : List Int) : con f R [AV.ints IntKind.u8 32 k1, AV.ints IntKind.u8 32 u2] [] κ = f R k1 u2 (fun v => κ (AV.ints IntKind.u8 32 v) []) := rfl
noncomputable def M (N : Nat) : Ty := fun R k1 u2 kr0 => m (Clamp.M N) (fRead.M N) (Small.M N) (swapped.M N) (next.M N) (eInvert.M N) (eTimes.M N) (eBytes.M N) (R := R) N k1 u2 kr0
def gts : List (Nat × AV) := [(0, .ints .u64 10 [134216512, 134217726, 134217726, 134217726, 134217726, 134217726, 134217726, 134217726, 134217726, 134217726])]
theorem gok (N : Nat) : GOk (g (Clamp.M N) (fRead.M N) (Small.M N) (swapped.M N) (next.M N) (eInvert.M N) (eTimes.M N) (eBytes.M N)) := giD_ok hm (by intro p hp; cases hp) (gtL_ok (by decide)) (ovL_ok (by
    intro p hp
    simp only [List.mem_cons, List.not_mem_nil, or_false] at hp
    rcases hp with rfl | rfl | rfl | rfl | rfl | rfl | rfl | rfl
    · exact ⟨(Clamp.ok N).gt (gtL_sub (by repeat (first | exact subG_nil _ | refine subG_cons (by kernel_rfl) ?_))) (gtL_ok (by decide)), _, Tryd.func46, by kernel_rfl, by kernel_rfl⟩
    · exact ⟨(fRead.ok N).gt (gtL_sub (by repeat (first | exact subG_nil _ | refine subG_cons (by kernel_rfl) ?_))) (gtL_ok (by decide)), _, Tryd.func12, by kernel_rfl, by kernel_rfl⟩
    · exact ⟨(Small.ok N).gt (gtL_sub (by repeat (first | exact subG_nil _ | refine subG_cons (by kernel_rfl) ?_))) (gtL_ok (by decide)), _, Tryd.func27, by kernel_rfl, by kernel_rfl⟩
    · exact ⟨(swapped.ok N).gt (gtL_sub (by repeat (first | exact subG_nil _ | refine subG_cons (by kernel_rfl) ?_))) (gtL_ok (by decide)), _, Tryd.func66, by kernel_rfl, by kernel_rfl⟩
    · exact ⟨(next.ok N).gt (gtL_sub (by repeat (first | exact subG_nil _ | refine subG_cons (by kernel_rfl) ?_))) (gtL_ok (by decide)), _, Tryd.func67, by kernel_rfl, by kernel_rfl⟩
    · exact ⟨(eInvert.ok N).gt (gtL_sub (by repeat (first | exact subG_nil _ | refine subG_cons (by kernel_rfl) ?_))) (gtL_ok (by decide)), _, Tryd.func30, by kernel_rfl, by kernel_rfl⟩
    · exact ⟨(eTimes.ok N).gt (gtL_sub (by repeat (first | exact subG_nil _ | refine subG_cons (by kernel_rfl) ?_))) (gtL_ok (by decide)), _, Tryd.func19, by kernel_rfl, by kernel_rfl⟩
    · exact ⟨(eBytes.ok N).gt (gtL_sub (by repeat (first | exact subG_nil _ | refine subG_cons (by kernel_rfl) ?_))) (gtL_ok (by decide)), _, Tryd.func50, by kernel_rfl, by kernel_rfl⟩
)) 1
theorem ok (N : Nat) : SoundC Tryd.prog (gtL gts) 45 (con (M N)) := by
  refine SoundC.mono (evF_ok (gok N) hm an N Tryd.func45) fun R args bs κ r h => ?_
  unfold con at h
  split at h
  · exact (eq (Clamp.M N) (fRead.M N) (Small.M N) (swapped.M N) (next.M N) (eInvert.M N) (eTimes.M N) (eBytes.M N) N κ _ _).trans h
  · cases h
end Mult


/-! ### Tryd.f48: Base -/
namespace Base
def an : Anns := ⟨fun i => findA i [], fun i => findA i [], false, fun _ => none⟩
noncomputable def g (mMult : Mult.Ty) : Gi := giD Tryd.prog (gtL [(0, .ints .u64 10 [134216512, 134217726, 134217726, 134217726, 134217726, 134217726, 134217726, 134217726, 134217726, 134217726])]) (fun _ => an) 0 [] (ovL [(45, Mult.con mMult)]) 1
noncomputable def m (mMult : Mult.Ty) {R : Type} (_N : Nat) (k1 : List Int) (kr0 : (List Int) → Option R) : Option R :=
  mMult R k1 ([9, 0, 0, 0, 0, 0, 0, 0, 0, 0, 0, 0, 0, 0, 0, 0, 0, 0, 0, 0, 0, 0, 0, 0, 0, 0, 0, 0, 0, 0, 0, 0])
   (fun v_c1 => kr0 v_c1)
theorem tree (mMult : Mult.Ty) {R : Type} (N : Nat) (κ : AV → List Blk → Option R) (k1 : List Int) : evF (g mMult) an N Tryd.f48 [AV.ints IntKind.u8 32 k1] [] κ =
  mMult R k1 ([9, 0, 0, 0, 0, 0, 0, 0, 0, 0, 0, 0, 0, 0, 0, 0, 0, 0, 0, 0, 0, 0, 0, 0, 0, 0, 0, 0, 0, 0, 0, 0])
   (fun v_c1 => κ (AV.ints IntKind.u8 32 v_c1) []) := by kernel_rfl
theorem eq (mMult : Mult.Ty) {R : Type} (N : Nat) (κ : AV → List Blk → Option R) (k1 : List Int) : evF (g mMult) an N Tryd.f48 [AV.ints IntKind.u8 32 k1] [] κ =
  m mMult N k1 (fun v => κ (AV.ints IntKind.u8 32 v) []) := by
  rw [tree]
  kernel_rfl
abbrev Ty : Type 1 := ∀ R : Type, (List Int) → ((List Int) → Option R) → Option R
def con (f : Ty) : Con := fun R args bs κ => match args, bs with
  | [AV.ints IntKind.u8 32 k1], [] => f R k1 (fun v => κ (AV.ints IntKind.u8 32 v) [])
  | _, _ => none
theorem con_eq (f : Ty) (R : Type) (κ : AV → List Blk → Option R) (k1 : List Int) : con f R [AV.ints IntKind.u8 32 k1] [] κ = f R k1 (fun v => κ (AV.ints IntKind.u8 32 v) []) := rfl
noncomputable def M (N : Nat) : Ty := fun R k1 kr0 => m (Mult.M N) (R := R) N k1 kr0
def gts : List (Nat × AV) := [(0, .ints .u64 10 [134216512, 134217726, 134217726, 134217726, 134217726, 134217726, 134217726, 134217726, 134217726, 134217726])]
theorem gok (N : Nat) : GOk (g (Mult.M N)) := giD_ok hm (by intro p hp; cases hp) (gtL_ok (by decide)) (ovL_ok (by
    intro p hp
    simp only [List.mem_cons, List.not_mem_nil, or_false] at hp
    rcases hp with rfl
    · exact ⟨(Mult.ok N).gt (gtL_sub (by repeat (first | exact subG_nil _ | refine subG_cons (by kernel_rfl) ?_))) (gtL_ok (by decide)), _, Tryd.func45, by kernel_rfl, by kernel_rfl⟩
)) 1
theorem ok (N : Nat) : SoundC Tryd.prog (gtL gts) 48 (con (M N)) := by
  refine SoundC.mono (evF_ok (gok N) hm an N Tryd.func48) fun R args bs κ r h => ?_
  unfold con at h
  split at h
  · exact (eq (Mult.M N) N κ _).trans h
  · cases h
end Base


/-! ### Tryd.f44: Shared -/
namespace Shared
def an : Anns := ⟨fun i => findA i [], fun i => findA i [], false, fun _ => none⟩
noncomputable def g (mMult : Mult.Ty) (mwZero : wZero.Ty) : Gi := giD Tryd.prog (gtL [(0, .ints .u64 10 [134216512, 134217726, 134217726, 134217726, 134217726, 134217726, 134217726, 134217726, 134217726, 134217726]), (5, .err 5)]) (fun _ => an) 0 [] (ovL [(45, Mult.con mMult), (58, wZero.con mwZero)]) 1
noncomputable def m (mMult : Mult.Ty) (mwZero : wZero.Ty) {R : Type} (_N : Nat) (k1 : List Int) (u2 : List Int) (kr0 : (List Int) → Nat → Option R) : Option R :=
  mMult R k1 u2
   (fun v_c4 => mwZero R none (cut (some 32) 0 v_c4)
    (fun v_c5 => cond v_c5
     (kr0 ([0, 0, 0, 0, 0, 0, 0, 0, 0, 0, 0, 0, 0, 0, 0, 0, 0, 0, 0, 0, 0, 0, 0, 0, 0, 0, 0, 0, 0, 0, 0, 0]) 5)
     (kr0 v_c4 0)))
theorem tree (mMult : Mult.Ty) (mwZero : wZero.Ty) {R : Type} (N : Nat) (κ : AV → List Blk → Option R) (k1 : List Int) (u2 : List Int) : evF (g mMult mwZero) an N Tryd.f44 [AV.ints IntKind.u8 32 k1, AV.ints IntKind.u8 32 u2] [] κ =
  mMult R k1 u2
   (fun v_c4 => mwZero R none (cut (some 32) 0 v_c4)
    (fun v_c5 => cond v_c5
     (κ (AV.tup [AV.ints IntKind.u8 32 [0, 0, 0, 0, 0, 0, 0, 0, 0, 0, 0, 0, 0, 0, 0, 0, 0, 0, 0, 0, 0, 0, 0, 0, 0, 0, 0, 0, 0, 0, 0, 0], AV.err 5]) [])
     (κ (AV.tup [AV.ints IntKind.u8 32 v_c4, AV.err 0]) []))) := by kernel_rfl
theorem eq (mMult : Mult.Ty) (mwZero : wZero.Ty) {R : Type} (N : Nat) (κ : AV → List Blk → Option R) (k1 : List Int) (u2 : List Int) : evF (g mMult mwZero) an N Tryd.f44 [AV.ints IntKind.u8 32 k1, AV.ints IntKind.u8 32 u2] [] κ =
  m mMult mwZero N k1 u2 (fun v v_1 => κ (AV.tup [AV.ints IntKind.u8 32 v, AV.err v_1]) []) := by
  rw [tree]
  kernel_rfl
abbrev Ty : Type 1 := ∀ R : Type, (List Int) → (List Int) → ((List Int) → Nat → Option R) → Option R
def con (f : Ty) : Con := fun R args bs κ => match args, bs with
  | [AV.ints IntKind.u8 32 k1, AV.ints IntKind.u8 32 u2], [] => f R k1 u2 (fun v v_1 => κ (AV.tup [AV.ints IntKind.u8 32 v, AV.err v_1]) [])
  | _, _ => none
theorem con_eq (f : Ty) (R : Type) (κ : AV → List Blk → Option R) (k1 : List Int) (u2 : List Int) : con f R [AV.ints IntKind.u8 32 k1, AV.ints IntKind.u8 32 u2] [] κ = f R k1 u2 (fun v v_1 => κ (AV.tup [AV.ints IntKind.u8 32 v, AV.err v_1]) []) := rfl
noncomputable def M (N : Nat) : Ty := fun R k1 u2 kr0 => m (Mult.M N) (wZero.M N) (R := R) N k1 u2 kr0
def gts : List (Nat × AV) := [(0, .ints .u64 10 [134216512, 134217726, 134217726, 134217726, 134217726, 134217726, 134217726, 134217726, 134217726, 134217726]), (5, .err 5)]
theorem gok (N : Nat) : GOk (g (Mult.M N) (wZero.M N)) := giD_ok hm (by intro p hp; cases hp) (gtL_ok (by decide)) (ovL_ok (by
    intro p hp
    simp only [List.mem_cons, List.not_mem_nil, or_false] at hp
    rcases hp with rfl | rfl
    · exact ⟨(Mult.ok N).gt (gtL_sub (by repeat (first | exact subG_nil _ | refine subG_cons (by kernel_rfl) ?_))) (gtL_ok (by decide)), _, Tryd.func45, by kernel_rfl, by kernel_rfl⟩
    · exact ⟨(wZero.ok N).gt (gtL_sub (by repeat (first | exact subG_nil _ | refine subG_cons (by kernel_rfl) ?_))) (gtL_ok (by decide)), _, Tryd.func58, by kernel_rfl, by kernel_rfl⟩
)) 1
theorem ok (N : Nat) : SoundC Tryd.prog (gtL gts) 44 (con (M N)) := by
  refine SoundC.mono (evF_ok (gok N) hm an N Tryd.func44) fun R args bs κ r h => ?_
  unfold con at h
  split at h
  · exact (eq (Mult.M N) (wZero.M N) N κ _ _).trans h
  · cases h
end Shared


/-! ### Tryd.f47: rClamp -/
namespace rClamp
def an : Anns := ⟨fun i => findA i [], fun i => findA i [], false, fun _ => none⟩
noncomputable def g : Gi := giD Tryd.prog (gtL []) (fun _ => an) 0 [] (ovL []) 1
noncomputable def m {R : Type} (_N : Nat) (k1 : List Int) (kr0 : (List Int) → Option R) : Option R :=
  kr0 ((k1.set 0 (IntKind.u8.wrap (IntKind.u8.wrap ((k1.getD 0 0).tdiv 8) * 8))).set 31 (IntKind.u8.wrap (((k1.set 0 (IntKind.u8.wrap (IntKind.u8.wrap ((k1.getD 0 0).tdiv 8) * 8))).getD 31 0).tmod 64 + 64)))
theorem tree {R : Type} (N : Nat) (κ : AV → List Blk → Option R) (k1 : List Int) : evF (g) an N Tryd.f47 [AV.ints IntKind.u8 32 k1] [] κ =
  κ (AV.ints IntKind.u8 32 ((k1.set 0 (IntKind.u8.wrap (IntKind.u8.wrap ((k1.getD 0 0).tdiv 8) * 8))).set 31 (IntKind.u8.wrap (((k1.set 0 (IntKind.u8.wrap (IntKind.u8.wrap ((k1.getD 0 0).tdiv 8) * 8))).getD 31 0).tmod 64 + 64)))) [] := by kernel_rfl
theorem eq {R : Type} (N : Nat) (κ : AV → List Blk → Option R) (k1 : List Int) : evF (g) an N Tryd.f47 [AV.ints IntKind.u8 32 k1] [] κ =
  m N k1 (fun v => κ (AV.ints IntKind.u8 32 v) []) := by
  rw [tree]
  kernel_rfl
abbrev Ty : Type 1 := ∀ R : Type, (List Int) → ((List Int) → Option R) → Option R
def con (f : Ty) : Con := fun R args bs κ => match args, bs with
  | [AV.ints IntKind.u8 32 k1], [] => f R k1 (fun v => κ (AV.ints IntKind.u8 32 v) [])
  | _, _ => none
theorem con_eq (f : Ty) (R : Type) (κ : AV → List Blk → Option R) (k1 : List Int) : con f R [AV.ints IntKind.u8 32 k1] [] κ = f R k1 (fun v => κ (AV.ints IntKind.u8 32 v) []) := rfl
noncomputable def M (N : Nat) : Ty := fun R k1 kr0 => m (R := R) N k1 kr0
def gts : List (Nat × AV) := []
theorem gok (_N : Nat) : GOk (g) := giD_ok hm (by intro p hp; cases hp) (gtL_ok (by decide)) (ovL_ok (by intro p hp; cases hp)) 1
theorem ok (N : Nat) : SoundC Tryd.prog (gtL gts) 47 (con (M N)) := by
  refine SoundC.mono (evF_ok (gok N) hm an N Tryd.func47) fun R args bs κ r h => ?_
  unfold con at h
  split at h
  · exact (eq N κ _).trans h
  · cases h
end rClamp


/-! ### Tryd.f43: rMult -/
namespace rMult
def an : Anns := ⟨fun i => findA i [(7, ⟨[2, 4, 5, 7, 8, 9, 10, 11, 12], [⟨2, 0, .u8⟩, ⟨4, 1, .u8⟩, ⟨5, 2, .u8⟩, ⟨7, 3, .u8⟩, ⟨8, 4, .u8⟩, ⟨9, 5, .u8⟩, ⟨10, 6, .u8⟩], 7⟩)], fun i => findA i [], false, fun _ => none⟩
noncomputable def g (mrClamp : rClamp.Ty) (mrMasked : rMasked.Ty) (mrAdd : rAdd.Ty) (mrTimes : rTimes.Ty) (mrSub : rSub.Ty) (mrInvert : rInvert.Ty) (mrBytes : rBytes.Ty) : Gi := giD Tryd.prog (gtL []) (fun _ => an) 0 [] (ovL [(47, rClamp.con mrClamp), (13, rMasked.con mrMasked), (16, rAdd.con mrAdd), (20, rTimes.con mrTimes), (18, rSub.con mrSub), (31, rInvert.con mrInvert), (23, rBytes.con mrBytes)]) 1
noncomputable def c_L7 : Code := loopOf Tryd.f43 0
def s_L7 (swap11 : Int) (t12 : Int) (h0 : List Int) (h2 : List Int) (h3 : List Int) (h4 : List Int) (h5 : List Int) (h6 : List Int) : St := ⟨[AV.dead, AV.dead, AV.ptr 0 [], AV.dead, AV.ptr 1 [], AV.ptr 2 [], AV.dead, AV.ptr 3 [], AV.ptr 4 [], AV.ptr 5 [], AV.ptr 6 [], AV.int IntKind.u8 swap11, AV.int IntKind.i64 t12] ++ List.replicate 102 .dead, [Blk.var (AV.ints IntKind.u8 32 h0), Blk.var (AV.ints IntKind.u8 32 [0, 0, 0, 0, 0, 0, 0, 0, 0, 0, 0, 0, 0, 0, 0, 0, 0, 0, 0, 0, 0, 0, 0, 0, 0, 0, 0, 0, 0, 0, 0, 0]), Blk.var (AV.ints IntKind.u32 8 h2), Blk.var (AV.ints IntKind.u32 8 h3), Blk.var (AV.ints IntKind.u32 8 h4), Blk.var (AV.ints IntKind.u32 8 h5), Blk.var (AV.ints IntKind.u32 8 h6)]⟩
def x_L7_0 (swap11 : Int) (t12 : Int) (h0 : List Int) (h2 : List Int) (h3 : List Int) (h4 : List Int) (h5 : List Int) (h6 : List Int) : St := ⟨[AV.dead, AV.dead, AV.ptr 0 [], AV.dead, AV.ptr 1 [], AV.ptr 2 [], AV.dead, AV.ptr 3 [], AV.ptr 4 [], AV.ptr 5 [], AV.ptr 6 [], AV.int IntKind.u8 swap11, AV.int IntKind.i64 t12] ++ List.replicate 21 .dead ++ [AV.int IntKind.i64 t12, AV.bool (decide (t12 ≥ 0))] ++ List.replicate 79 .dead, [Blk.var (AV.ints IntKind.u8 32 h0), Blk.var (AV.ints IntKind.u8 32 [0, 0, 0, 0, 0, 0, 0, 0, 0, 0, 0, 0, 0, 0, 0, 0, 0, 0, 0, 0, 0, 0, 0, 0, 0, 0, 0, 0, 0, 0, 0, 0]), Blk.var (AV.ints IntKind.u32 8 h2), Blk.var (AV.ints IntKind.u32 8 h3), Blk.var (AV.ints IntKind.u32 8 h4), Blk.var (AV.ints IntKind.u32 8 h5), Blk.var (AV.ints IntKind.u32 8 h6)]⟩
noncomputable def L7 (mrClamp : rClamp.Ty) (mrMasked : rMasked.Ty) (mrAdd : rAdd.Ty) (mrTimes : rTimes.Ty) (mrSub : rSub.Ty) (mrInvert : rInvert.Ty) (mrBytes : rBytes.Ty) {R : Type} (N : Nat) (ke0 : Int → Int → (List Int) → (List Int) → (List Int) → (List Int) → (List Int) → (List Int) → Option R) : Nat → Int → Int → (List Int) → (List Int) → (List Int) → (List Int) → (List Int) → (List Int) → Option R
  | 0, _, _, _, _, _, _, _, _ => none
  | m + 1, swap11, t12, h0, h2, h3, h4, h5, h6 =>
    cond (decide (t12 ≥ 0))
     (cond (decide (0 ≤ IntKind.i64.wrap (t12.tdiv 8)))
      (cond (decide (IntKind.i64.wrap (t12.tdiv 8) < 32))
       (cond (swap11 != iand IntKind.u8 (ishr IntKind.u8 (h0.getD (IntKind.i64.wrap (t12.tdiv 8)).toNat 0) (IntKind.u64.wrap (t12.tmod 8))) 1)
        (mrAdd R h5 h6
         (fun v_c71 => mrTimes R v_c71 v_c71
          (fun v_c72 => mrSub R h5 h6
           (fun v_c73 => mrTimes R v_c73 v_c73
            (fun v_c74 => mrSub R v_c72 v_c74
             (fun v_c75 => mrAdd R h3 h4
              (fun v_c76 => mrSub R h3 h4
               (fun v_c77 => mrTimes R v_c77 v_c71
                (fun v_c78 => mrTimes R v_c76 v_c73
                 (fun v_c79 => mrAdd R v_c78 v_c79
                  (fun v_c80 => mrSub R v_c78 v_c79
                   (fun v_c81 => mrTimes R v_c80 v_c80
                    (fun v_c82 => mrTimes R v_c81 v_c81
                     (fun v_c83 => mrTimes R h2 v_c83
                      (fun v_c84 => mrTimes R v_c72 v_c74
                       (fun v_c85 => mrTimes R ([121665, 0, 0, 0, 0, 0, 0, 0]) v_c75
                        (fun v_c86 => mrAdd R v_c72 v_c86
                         (fun v_c87 => mrTimes R v_c75 v_c87
                          (fun v_c88 => L7 mrClamp mrMasked mrAdd mrTimes mrSub mrInvert mrBytes N ke0 m (iand IntKind.u8 (ishr IntKind.u8 (h0.getD (IntKind.i64.wrap (t12.tdiv 8)).toNat 0) (IntKind.u64.wrap (t12.tmod 8))) 1) (IntKind.i64.wrap (t12 - 1)) h0 h2 v_c85 v_c88 v_c82 v_c84)))))))))))))))))))
        (mrAdd R h3 h4
         (fun v_c89 => mrTimes R v_c89 v_c89
          (fun v_c90 => mrSub R h3 h4
           (fun v_c91 => mrTimes R v_c91 v_c91
            (fun v_c92 => mrSub R v_c90 v_c92
             (fun v_c93 => mrAdd R h5 h6
              (fun v_c94 => mrSub R h5 h6
               (fun v_c95 => mrTimes R v_c95 v_c89
                (fun v_c96 => mrTimes R v_c94 v_c91
                 (fun v_c97 => mrAdd R v_c96 v_c97
                  (fun v_c98 => mrSub R v_c96 v_c97
                   (fun v_c99 => mrTimes R v_c98 v_c98
                    (fun v_c100 => mrTimes R v_c99 v_c99
                     (fun v_c101 => mrTimes R h2 v_c101
                      (fun v_c102 => mrTimes R v_c90 v_c92
                       (fun v_c103 => mrTimes R ([121665, 0, 0, 0, 0, 0, 0, 0]) v_c93
                        (fun v_c104 => mrAdd R v_c90 v_c104
                         (fun v_c105 => mrTimes R v_c93 v_c105
                          (fun v_c106 => L7 mrClamp mrMasked mrAdd mrTimes mrSub mrInvert mrBytes N ke0 m (iand IntKind.u8 (ishr IntKind.u8 (h0.getD (IntKind.i64.wrap (t12.tdiv 8)).toNat 0) (IntKind.u64.wrap (t12.tmod 8))) 1) (IntKind.i64.wrap (t12 - 1)) h0 h2 v_c103 v_c106 v_c100 v_c102))))))))))))))))))))
       (none))
      (none))
     (ke0 swap11 t12 h0 h2 h3 h4 h5 h6)
theorem round_L7 (mrClamp : rClamp.Ty) (mrMasked : rMasked.Ty) (mrAdd : rAdd.Ty) (mrTimes : rTimes.Ty) (mrSub : rSub.Ty) (mrInvert : rInvert.Ty) (mrBytes : rBytes.Ty) {R : Type} (N : Nat) (Rn : St → Option R) (k : K R) (swap11 : Int) (t12 : Int) (h0 : List Int) (h2 : List Int) (h3 : List Int) (h4 : List Int) (h5 : List Int) (h6 : List Int) : evC (g mrClamp mrMasked mrAdd mrTimes mrSub mrInvert mrBytes) an 0 N c_L7 none (roundK (nmOf 0 (an.loop 7)) Rn k) (s_L7 swap11 t12 h0 h2 h3 h4 h5 h6) =
  cond (decide (t12 ≥ 0))
   (cond (decide (0 ≤ IntKind.i64.wrap (t12.tdiv 8)))
    (cond (decide (IntKind.i64.wrap (t12.tdiv 8) < 32))
     (cond (swap11 != iand IntKind.u8 (ishr IntKind.u8 (h0.getD (IntKind.i64.wrap (t12.tdiv 8)).toNat 0) (IntKind.u64.wrap (t12.tmod 8))) 1)
      (mrAdd R h5 h6
       (fun v_c71 => mrTimes R v_c71 v_c71
        (fun v_c72 => mrSub R h5 h6
         (fun v_c73 => mrTimes R v_c73 v_c73
          (fun v_c74 => mrSub R v_c72 v_c74
           (fun v_c75 => mrAdd R h3 h4
            (fun v_c76 => mrSub R h3 h4
             (fun v_c77 => mrTimes R v_c77 v_c71
              (fun v_c78 => mrTimes R v_c76 v_c73
               (fun v_c79 => mrAdd R v_c78 v_c79
                (fun v_c80 => mrSub R v_c78 v_c79
                 (fun v_c81 => mrTimes R v_c80 v_c80
                  (fun v_c82 => mrTimes R v_c81 v_c81
                   (fun v_c83 => mrTimes R h2 v_c83
                    (fun v_c84 => mrTimes R v_c72 v_c74
                     (fun v_c85 => mrTimes R ([121665, 0, 0, 0, 0, 0, 0, 0]) v_c75
                      (fun v_c86 => mrAdd R v_c72 v_c86
                       (fun v_c87 => mrTimes R v_c75 v_c87
                        (fun v_c88 => Rn (s_L7 (iand IntKind.u8 (ishr IntKind.u8 (h0.getD (IntKind.i64.wrap (t12.tdiv 8)).toNat 0) (IntKind.u64.wrap (t12.tmod 8))) 1) (IntKind.i64.wrap (t12 - 1)) h0 h2 v_c85 v_c88 v_c82 v_c84))))))))))))))))))))
      (mrAdd R h3 h4
       (fun v_c89 => mrTimes R v_c89 v_c89
        (fun v_c90 => mrSub R h3 h4
         (fun v_c91 => mrTimes R v_c91 v_c91
          (fun v_c92 => mrSub R v_c90 v_c92
           (fun v_c93 => mrAdd R h5 h6
            (fun v_c94 => mrSub R h5 h6
             (fun v_c95 => mrTimes R v_c95 v_c89
              (fun v_c96 => mrTimes R v_c94 v_c91
               (fun v_c97 => mrAdd R v_c96 v_c97
                (fun v_c98 => mrSub R v_c96 v_c97
                 (fun v_c99 => mrTimes R v_c98 v_c98
                  (fun v_c100 => mrTimes R v_c99 v_c99
                   (fun v_c101 => mrTimes R h2 v_c101
                    (fun v_c102 => mrTimes R v_c90 v_c92
                     (fun v_c103 => mrTimes R ([121665, 0, 0, 0, 0, 0, 0, 0]) v_c93
                      (fun v_c104 => mrAdd R v_c90 v_c104
                       (fun v_c105 => mrTimes R v_c93 v_c105
                        (fun v_c106 => Rn (s_L7 (iand IntKind.u8 (ishr IntKind.u8 (h0.getD (IntKind.i64.wrap (t12.tdiv 8)).toNat 0) (IntKind.u64.wrap (t12.tmod 8))) 1) (IntKind.i64.wrap (t12 - 1)) h0 h2 v_c103 v_c106 v_c100 v_c102)))))))))))))))))))))
     (none))
    (none))
   (k.ext 0 (x_L7_0 swap11 t12 h0 h2 h3 h4 h5 h6)) := by kernel_rfl
theorem run_L7 (mrClamp : rClamp.Ty) (mrMasked : rMasked.Ty) (mrAdd : rAdd.Ty) (mrTimes : rTimes.Ty) (mrSub : rSub.Ty) (mrInvert : rInvert.Ty) (mrBytes : rBytes.Ty) {R : Type} (N : Nat) (k : K R) : ∀ (m : Nat) (swap11 : Int) (t12 : Int) (h0 : List Int) (h2 : List Int) (h3 : List Int) (h4 : List Int) (h5 : List Int) (h6 : List Int), loopN (evC (g mrClamp mrMasked mrAdd mrTimes mrSub mrInvert mrBytes) an 0 N c_L7 none) k (nmOf 0 (an.loop 7)) m (s_L7 swap11 t12 h0 h2 h3 h4 h5 h6) =
    L7 mrClamp mrMasked mrAdd mrTimes mrSub mrInvert mrBytes N (fun swap11 t12 h0 h2 h3 h4 h5 h6 => (k).ext 0 (x_L7_0 swap11 t12 h0 h2 h3 h4 h5 h6)) m swap11 t12 h0 h2 h3 h4 h5 h6 := by
  intro m
  induction m with
  | zero => intros; rfl
  | succ m ih =>
    intros
    rw [loopN_succ, round_L7]
    simp only [ih]
    kernel_rfl
noncomputable def m (mrClamp : rClamp.Ty) (mrMasked : rMasked.Ty) (mrAdd : rAdd.Ty) (mrTimes : rTimes.Ty) (mrSub : rSub.Ty) (mrInvert : rInvert.Ty) (mrBytes : rBytes.Ty) {R : Type} (N : Nat) (k1 : List Int) (u2 : List Int) (kr0 : (List Int) → Option R) : Option R :=
  mrClamp R k1
   (fun v_c69 => mrMasked R u2
    (fun v_c70 => L7 mrClamp mrMasked mrAdd mrTimes mrSub mrInvert mrBytes N
     (fun swap11_c107 _t12_c108 _h0_c109 _h2_c110 h3_c111 h4_c112 h5_c113 h6_c114 => cond (swap11_c107 == 1)
      (mrInvert R h6_c114
       (fun v_c115 => mrTimes R h5_c113 v_c115
        (fun v_c116 => mrBytes R v_c116
         (fun v_c117 => kr0 v_c117))))
      (mrInvert R h4_c112
       (fun v_c118 => mrTimes R h3_c111 v_c118
        (fun v_c119 => mrBytes R v_c119
         (fun v_c120 => kr0 v_c120))))) N 0 254 v_c69 v_c70 ([1, 0, 0, 0, 0, 0, 0, 0]) ([0, 0, 0, 0, 0, 0, 0, 0]) v_c70 ([1, 0, 0, 0, 0, 0, 0, 0])))
theorem tree (mrClamp : rClamp.Ty) (mrMasked : rMasked.Ty) (mrAdd : rAdd.Ty) (mrTimes : rTimes.Ty) (mrSub : rSub.Ty) (mrInvert : rInvert.Ty) (mrBytes : rBytes.Ty) {R : Type} (N : Nat) (κ : AV → List Blk → Option R) (k1 : List Int) (u2 : List Int) : evF (g mrClamp mrMasked mrAdd mrTimes mrSub mrInvert mrBytes) an N Tryd.f43 [AV.ints IntKind.u8 32 k1, AV.ints IntKind.u8 32 u2] [] κ =
  mrClamp R k1
   (fun v_c69 => mrMasked R u2
    (fun v_c70 => loopN (evC (g mrClamp mrMasked mrAdd mrTimes mrSub mrInvert mrBytes) an 0 N c_L7 none) (ctx (g mrClamp mrMasked mrAdd mrTimes mrSub mrInvert mrBytes) an 0 N (bodyOf Tryd.f43) [1, 1, 1, 1, 1, 1, 0, 1, 0] (endK (g mrClamp mrMasked mrAdd mrTimes mrSub mrInvert mrBytes) an Tryd.f43 [] κ)) (nmOf 0 (an.loop 7)) N (s_L7 0 254 v_c69 v_c70 ([1, 0, 0, 0, 0, 0, 0, 0]) ([0, 0, 0, 0, 0, 0, 0, 0]) v_c70 ([1, 0, 0, 0, 0, 0, 0, 0])))) := by kernel_rfl
theorem eq (mrClamp : rClamp.Ty) (mrMasked : rMasked.Ty) (mrAdd : rAdd.Ty) (mrTimes : rTimes.Ty) (mrSub : rSub.Ty) (mrInvert : rInvert.Ty) (mrBytes : rBytes.Ty) {R : Type} (N : Nat) (κ : AV → List Blk → Option R) (k1 : List Int) (u2 : List Int) : evF (g mrClamp mrMasked mrAdd mrTimes mrSub mrInvert mrBytes) an N Tryd.f43 [AV.ints IntKind.u8 32 k1, AV.ints IntKind.u8 32 u2] [] κ =
  m mrClamp mrMasked mrAdd mrTimes mrSub mrInvert mrBytes N k1 u2 (fun v => κ (AV.ints IntKind.u8 32 v) []) := by
  rw [tree]
  simp only [run_L7]
  kernel_rfl
abbrev Ty : Type 1 := ∀ R : Type, (List Int) → (List Int) → ((List Int) → Option R) → Option R
def con (f : Ty) : Con := fun R args bs κ => match args, bs with
  | [AV.ints IntKind.u8 32 k1, AV.ints IntKind.u8 32 u2], [] => f R k1 u2 (fun v => κ (AV.ints IntKind.u8 32 v) [])
  | _, _ => none
theorem con_eq (f : Ty) (R : Type) (κ : AV → List Blk → Option R) (k1 : List Int) (u2 : List Int) : con f R [AV.ints IntKind.u8 32 k1, AV.ints IntKind.u8 32 u2] [] κ = f R k1 u2 (fun v => κ (AV.ints IntKind.u8 32 v) []) := rfl
noncomputable def M (N : Nat) : Ty := fun R k1 u2 kr0 => m (rClamp.M N) (rMasked.M N) (rAdd.M N) (rTimes.M N) (rSub.M N) (rInvert.M N) (rBytes.M N) (R := R) N k1 u2 kr0
def gts : List (Nat × AV) := []
theorem gok (N : Nat) : GOk (g (rClamp.M N) (rMasked.M N) (rAdd.M N) (rTimes.M N) (rSub.M N) (rInvert.M N) (rBytes.M N)) := giD_ok hm (by intro p hp; cases hp) (gtL_ok (by decide)) (ovL_ok (by
    intro p hp
    simp only [List.mem_cons, List.not_mem_nil, or_false] at hp
    rcases hp with rfl | rfl | rfl | rfl | rfl | rfl | rfl
    · exact ⟨(rClamp.ok N).gt (gtL_sub (by repeat (first | exact subG_nil _ | refine subG_cons (by kernel_rfl) ?_))) (gtL_ok (by decide)), _, Tryd.func47, by kernel_rfl, by kernel_rfl⟩
    · exact ⟨(rMasked.ok N).gt (gtL_sub (by repeat (first | exact subG_nil _ | refine subG_cons (by kernel_rfl) ?_))) (gtL_ok (by decide)), _, Tryd.func13, by kernel_rfl, by kernel_rfl⟩
    · exact ⟨(rAdd.ok N).gt (gtL_sub (by repeat (first | exact subG_nil _ | refine subG_cons (by kernel_rfl) ?_))) (gtL_ok (by decide)), _, Tryd.func16, by kernel_rfl, by kernel_rfl⟩
    · exact ⟨(rTimes.ok N).gt (gtL_sub (by repeat (first | exact subG_nil _ | refine subG_cons (by kernel_rfl) ?_))) (gtL_ok (by decide)), _, Tryd.func20, by kernel_rfl, by kernel_rfl⟩
    · exact ⟨(rSub.ok N).gt (gtL_sub (by repeat (first | exact subG_nil _ | refine subG_cons (by kernel_rfl) ?_))) (gtL_ok (by decide)), _, Tryd.func18, by kernel_rfl, by kernel_rfl⟩
    · exact ⟨(rInvert.ok N).gt (gtL_sub (by repeat (first | exact subG_nil _ | refine subG_cons (by kernel_rfl) ?_))) (gtL_ok (by decide)), _, Tryd.func31, by kernel_rfl, by kernel_rfl⟩
    · exact ⟨(rBytes.ok N).gt (gtL_sub (by repeat (first | exact subG_nil _ | refine subG_cons (by kernel_rfl) ?_))) (gtL_ok (by decide)), _, Tryd.func23, by kernel_rfl, by kernel_rfl⟩
)) 1
theorem ok (N : Nat) : SoundC Tryd.prog (gtL gts) 43 (con (M N)) := by
  refine SoundC.mono (evF_ok (gok N) hm an N Tryd.func43) fun R args bs κ r h => ?_
  unfold con at h
  split at h
  · exact (eq (rClamp.M N) (rMasked.M N) (rAdd.M N) (rTimes.M N) (rSub.M N) (rInvert.M N) (rBytes.M N) N κ _ _).trans h
  · cases h
end rMult


/-! ### Tryd.f49: rBase -/
namespace rBase
def an : Anns := ⟨fun i => findA i [], fun i => findA i [], false, fun _ => none⟩
noncomputable def g (mrMult : rMult.Ty) : Gi := giD Tryd.prog (gtL []) (fun _ => an) 0 [] (ovL [(43, rMult.con mrMult)]) 1
noncomputable def m (mrMult : rMult.Ty) {R : Type} (_N : Nat) (k1 : List Int) (kr0 : (List Int) → Option R) : Option R :=
  mrMult R k1 ([9, 0, 0, 0, 0, 0, 0, 0, 0, 0, 0, 0, 0, 0, 0, 0, 0, 0, 0, 0, 0, 0, 0, 0, 0, 0, 0, 0, 0, 0, 0, 0])
   (fun v_c1 => kr0 v_c1)
theorem tree (mrMult : rMult.Ty) {R : Type} (N : Nat) (κ : AV → List Blk → Option R) (k1 : List Int) : evF (g mrMult) an N Tryd.f49 [AV.ints IntKind.u8 32 k1] [] κ =
  mrMult R k1 ([9, 0, 0, 0, 0, 0, 0, 0, 0, 0, 0, 0, 0, 0, 0, 0, 0, 0, 0, 0, 0, 0, 0, 0, 0, 0, 0, 0, 0, 0, 0, 0])
   (fun v_c1 => κ (AV.ints IntKind.u8 32 v_c1) []) := by kernel_rfl
theorem eq (mrMult : rMult.Ty) {R : Type} (N : Nat) (κ : AV → List Blk → Option R) (k1 : List Int) : evF (g mrMult) an N Tryd.f49 [AV.ints IntKind.u8 32 k1] [] κ =
  m mrMult N k1 (fun v => κ (AV.ints IntKind.u8 32 v) []) := by
  rw [tree]
  kernel_rfl
abbrev Ty : Type 1 := ∀ R : Type, (List Int) → ((List Int) → Option R) → Option R
def con (f : Ty) : Con := fun R args bs κ => match args, bs with
  | [AV.ints IntKind.u8 32 k1], [] => f R k1 (fun v => κ (AV.ints IntKind.u8 32 v) [])
  | _, _ => none
theorem con_eq (f : Ty) (R : Type) (κ : AV → List Blk → Option R) (k1 : List Int) : con f R [AV.ints IntKind.u8 32 k1] [] κ = f R k1 (fun v => κ (AV.ints IntKind.u8 32 v) []) := rfl
noncomputable def M (N : Nat) : Ty := fun R k1 kr0 => m (rMult.M N) (R := R) N k1 kr0
def gts : List (Nat × AV) := []
theorem gok (N : Nat) : GOk (g (rMult.M N)) := giD_ok hm (by intro p hp; cases hp) (gtL_ok (by decide)) (ovL_ok (by
    intro p hp
    simp only [List.mem_cons, List.not_mem_nil, or_false] at hp
    rcases hp with rfl
    · exact ⟨(rMult.ok N).gt (gtL_sub (by repeat (first | exact subG_nil _ | refine subG_cons (by kernel_rfl) ?_))) (gtL_ok (by decide)), _, Tryd.func43, by kernel_rfl, by kernel_rfl⟩
)) 1
theorem ok (N : Nat) : SoundC Tryd.prog (gtL gts) 49 (con (M N)) := by
  refine SoundC.mono (evF_ok (gok N) hm an N Tryd.func49) fun R args bs κ r h => ?_
  unfold con at h
  split at h
  · exact (eq (rMult.M N) N κ _).trans h
  · cases h
end rBase


/-! ### Tryd.f42: alive10 -/
namespace alive10
def an : Anns := ⟨fun i => findA i [], fun i => findA i [], false, fun _ => none⟩
noncomputable def g (mShared : Shared.Ty) (mNum : Num.Ty) (mBase : Base.Ty) : Gi := giD Tryd.prog (gtL [(0, .ints .u64 10 [134216512, 134217726, 134217726, 134217726, 134217726, 134217726, 134217726, 134217726, 134217726, 134217726]), (1, .err 4), (2, .err 1), (3, .err 2), (4, .err 3), (5, .err 5), (6, .err 6), (7, .err 7), (8, .err 8), (9, .err 9), (10, .err 10), (11, .err 11), (12, .err 12), (13, .err 13), (14, .err 14), (15, .err 15), (16, .err 16), (17, .err 17), (18, .err 18), (19, .err 19)]) (fun _ => an) 0 [] (ovL [(44, Shared.con mShared), (26, Num.con mNum), (48, Base.con mBase)]) 1
noncomputable def m (mShared : Shared.Ty) (mNum : Num.Ty) (mBase : Base.Ty) {R : Type} (_N : Nat) (kr0 : Bool → Option R) : Option R :=
  mShared R ([1, 0, 0, 0, 0, 0, 0, 0, 0, 0, 0, 0, 0, 0, 0, 0, 0, 0, 0, 0, 0, 0, 0, 0, 0, 0, 0, 0, 0, 0, 0, 0]) ([0, 0, 0, 0, 0, 0, 0, 0, 0, 0, 0, 0, 0, 0, 0, 0, 0, 0, 0, 0, 0, 0, 0, 0, 0, 0, 0, 0, 0, 0, 0, 0])
   (fun _v_c4 v_1_c5 => mNum R v_1_c5
    (fun v_c6 => cond (v_c6 == 5)
     (mBase R ([1, 0, 0, 0, 0, 0, 0, 0, 0, 0, 0, 0, 0, 0, 0, 0, 0, 0, 0, 0, 0, 0, 0, 0, 0, 0, 0, 0, 0, 0, 0, 0])
      (fun v_c7 => kr0 (!v_c7 == [0, 0, 0, 0, 0, 0, 0, 0, 0, 0, 0, 0, 0, 0, 0, 0, 0, 0, 0, 0, 0, 0, 0, 0, 0, 0, 0, 0, 0, 0, 0, 0])))
     (kr0 false)))
theorem tree (mShared : Shared.Ty) (mNum : Num.Ty) (mBase : Base.Ty) {R : Type} (N : Nat) (κ : AV → List Blk → Option R) : evF (g mShared mNum mBase) an N Tryd.f42 [] [] κ =
  mShared R ([1, 0, 0, 0, 0, 0, 0, 0, 0, 0, 0, 0, 0, 0, 0, 0, 0, 0, 0, 0, 0, 0, 0, 0, 0, 0, 0, 0, 0, 0, 0, 0]) ([0, 0, 0, 0, 0, 0, 0, 0, 0, 0, 0, 0, 0, 0, 0, 0, 0, 0, 0, 0, 0, 0, 0, 0, 0, 0, 0, 0, 0, 0, 0, 0])
   (fun _v_c4 v_1_c5 => mNum R v_1_c5
    (fun v_c6 => cond (v_c6 == 5)
     (mBase R ([1, 0, 0, 0, 0, 0, 0, 0, 0, 0, 0, 0, 0, 0, 0, 0, 0, 0, 0, 0, 0, 0, 0, 0, 0, 0, 0, 0, 0, 0, 0, 0])
      (fun v_c7 => κ (AV.bool !v_c7 == [0, 0, 0, 0, 0, 0, 0, 0, 0, 0, 0, 0, 0, 0, 0, 0, 0, 0, 0, 0, 0, 0, 0, 0, 0, 0, 0, 0, 0, 0, 0, 0]) []))
     (κ (AV.bool false) []))) := by kernel_rfl
theorem eq (mShared : Shared.Ty) (mNum : Num.Ty) (mBase : Base.Ty) {R : Type} (N : Nat) (κ : AV → List Blk → Option R) : evF (g mShared mNum mBase) an N Tryd.f42 [] [] κ =
  m mShared mNum mBase N (fun v => κ (AV.bool v) []) := by
  rw [tree]
  kernel_rfl
abbrev Ty : Type 1 := ∀ R : Type, (Bool → Option R) → Option R
def con (f : Ty) : Con := fun R args bs κ => match args, bs with
  | [], [] => f R (fun v => κ (AV.bool v) [])
  | _, _ => none
theorem con_eq (f : Ty) (R : Type) (κ : AV → List Blk → Option R) : con f R [] [] κ = f R (fun v => κ (AV.bool v) []) := rfl
noncomputable def M (N : Nat) : Ty := fun R kr0 => m (Shared.M N) (Num.M N) (Base.M N) (R := R) N kr0
def gts : List (Nat × AV) := [(0, .ints .u64 10 [134216512, 134217726, 134217726, 134217726, 134217726, 134217726, 134217726, 134217726, 134217726, 134217726]), (1, .err 4), (2, .err 1), (3, .err 2), (4, .err 3), (5, .err 5), (6, .err 6), (7, .err 7), (8, .err 8), (9, .err 9), (10, .err 10), (11, .err 11), (12, .err 12), (13, .err 13), (14, .err 14), (15, .err 15), (16, .err 16), (17, .err 17), (18, .err 18), (19, .err 19)]
theorem gok (N : Nat) : GOk (g (Shared.M N) (Num.M N) (Base.M N)) := giD_ok hm (by intro p hp; cases hp) (gtL_ok (by decide)) (ovL_ok (by
    intro p hp
    simp only [List.mem_cons, List.not_mem_nil, or_false] at hp
    rcases hp with rfl | rfl | rfl
    · exact ⟨(Shared.ok N).gt (gtL_sub (by repeat (first | exact subG_nil _ | refine subG_cons (by kernel_rfl) ?_))) (gtL_ok (by decide)), _, Tryd.func44, by kernel_rfl, by kernel_rfl⟩
    · exact ⟨(Num.ok N).gt (gtL_sub (by repeat (first | exact subG_nil _ | refine subG_cons (by kernel_rfl) ?_))) (gtL_ok (by decide)), _, Tryd.func26, by kernel_rfl, by kernel_rfl⟩
    · exact ⟨(Base.ok N).gt (gtL_sub (by repeat (first | exact subG_nil _ | refine subG_cons (by kernel_rfl) ?_))) (gtL_ok (by decide)), _, Tryd.func48, by kernel_rfl, by kernel_rfl⟩
)) 1
theorem ok (N : Nat) : SoundC Tryd.prog (gtL gts) 42 (con (M N)) := by
  refine SoundC.mono (evF_ok (gok N) hm an N Tryd.func42) fun R args bs κ r h => ?_
  unfold con at h
  split at h
  · exact (eq (Shared.M N) (Num.M N) (Base.M N) N κ).trans h
  · cases h
end alive10


/-! ### Tryd.f8: LadderMults -/
namespace LadderMults
def an : Anns := ⟨fun i => findA i [], fun i => findA i [], false, fun _ => none⟩
noncomputable def g (malive10 : alive10.Ty) (mrMult : rMult.Ty) (mShared : Shared.Ty) (mMult : Mult.Ty) (mClamp : Clamp.Ty) (mrClamp : rClamp.Ty) (mNum : Num.Ty) : Gi := giD Tryd.prog (gtL [(0, .ints .u64 10 [134216512, 134217726, 134217726, 134217726, 134217726, 134217726, 134217726, 134217726, 134217726, 134217726]), (1, .err 4), (2, .err 1), (3, .err 2), (4, .err 3), (5, .err 5), (6, .err 6), (7, .err 7), (8, .err 8), (9, .err 9), (10, .err 10), (11, .err 11), (12, .err 12), (13, .err 13), (14, .err 14), (15, .err 15), (16, .err 16), (17, .err 17), (18, .err 18), (19, .err 19)]) (fun _ => an) 0 [] (ovL [(42, alive10.con malive10), (43, rMult.con mrMult), (44, Shared.con mShared), (45, Mult.con mMult), (46, Clamp.con mClamp), (47, rClamp.con mrClamp), (26, Num.con mNum)]) 1
noncomputable def m (malive10 : alive10.Ty) (mrMult : rMult.Ty) (mShared : Shared.Ty) (mMult : Mult.Ty) (mClamp : Clamp.Ty) (mrClamp : rClamp.Ty) (mNum : Num.Ty) {R : Type} (_N : Nat) (k1 : List Int) (u2 : List Int) (kr0 : Bool → Option R) : Option R :=
  malive10 R
   (fun v_c9 => cond (!v_c9)
    (kr0 false)
    (mrMult R k1 u2
     (fun v_c10 => mShared R k1 u2
      (fun v_c11 v_1_c12 => mMult R k1 u2
       (fun v_c13 => cond (!v_c13 == v_c10)
        (kr0 false)
        (mClamp R k1
         (fun v_c14 => mrClamp R k1
          (fun v_c15 => cond (!v_c14 == v_c15)
           (kr0 false)
           (cond (v_c10 == [0, 0, 0, 0, 0, 0, 0, 0, 0, 0, 0, 0, 0, 0, 0, 0, 0, 0, 0, 0, 0, 0, 0, 0, 0, 0, 0, 0, 0, 0, 0, 0])
            (cond (v_c11 == v_c10)
             (mNum R v_1_c12
              (fun v_c16 => kr0 (v_c16 == 5)))
             (kr0 false))
            (cond (v_1_c12.beq 0)
             (kr0 (v_c11 == v_c10))
             (kr0 false)))))))))))
theorem tree (malive10 : alive10.Ty) (mrMult : rMult.Ty) (mShared : Shared.Ty) (mMult : Mult.Ty) (mClamp : Clamp.Ty) (mrClamp : rClamp.Ty) (mNum : Num.Ty) {R : Type} (N : Nat) (κ : AV → List Blk → Option R) (k1 : List Int) (u2 : List Int) : evF (g malive10 mrMult mShared mMult mClamp mrClamp mNum) an N Tryd.f8 [AV.ints IntKind.u8 32 k1, AV.ints IntKind.u8 32 u2] [] κ =
  malive10 R
   (fun v_c9 => cond (!v_c9)
    (κ (AV.bool false) [])
    (mrMult R k1 u2
     (fun v_c10 => mShared R k1 u2
      (fun v_c11 v_1_c12 => mMult R k1 u2
       (fun v_c13 => cond (!v_c13 == v_c10)
        (κ (AV.bool false) [])
        (mClamp R k1
         (fun v_c14 => mrClamp R k1
          (fun v_c15 => cond (!v_c14 == v_c15)
           (κ (AV.bool false) [])
           (cond (v_c10 == [0, 0, 0, 0, 0, 0, 0, 0, 0, 0, 0, 0, 0, 0, 0, 0, 0, 0, 0, 0, 0, 0, 0, 0, 0, 0, 0, 0, 0, 0, 0, 0])
            (cond (v_c11 == v_c10)
             (mNum R v_1_c12
              (fun v_c16 => κ (AV.bool (v_c16 == 5)) []))
             (κ (AV.bool false) []))
            (cond (v_1_c12.beq 0)
             (κ (AV.bool (v_c11 == v_c10)) [])
             (κ (AV.bool false) []))))))))))) := by kernel_rfl
theorem eq (malive10 : alive10.Ty) (mrMult : rMult.Ty) (mShared : Shared.Ty) (mMult : Mult.Ty) (mClamp : Clamp.Ty) (mrClamp : rClamp.Ty) (mNum : Num.Ty) {R : Type} (N : Nat) (κ : AV → List Blk → Option R) (k1 : List Int) (u2 : List Int) : evF (g malive10 mrMult mShared mMult mClamp mrClamp mNum) an N Tryd.f8 [AV.ints IntKind.u8 32 k1, AV.ints IntKind.u8 32 u2] [] κ =
  m malive10 mrMult mShared mMult mClamp mrClamp mNum N k1 u2 (fun v => κ (AV.bool v) []) := by
  rw [tree]
  kernel_rfl
abbrev Ty : Type 1 := ∀ R : Type, (List Int) → (List Int) → (Bool → Option R) → Option R
def con (f : Ty) : Con := fun R args bs κ => match args, bs with
  | [AV.ints IntKind.u8 32 k1, AV.ints IntKind.u8 32 u2], [] => f R k1 u2 (fun v => κ (AV.bool v) [])
  | _, _ => none
theorem con_eq (f : Ty) (R : Type) (κ : AV → List Blk → Option R) (k1 : List Int) (u2 : List Int) : con f R [AV.ints IntKind.u8 32 k1, AV.ints IntKind.u8 32 u2] [] κ = f R k1 u2 (fun v => κ (AV.bool v) []) := rfl
noncomputable def M (N : Nat) : Ty := fun R k1 u2 kr0 => m (alive10.M N) (rMult.M N) (Shared.M N) (Mult.M N) (Clamp.M N) (rClamp.M N) (Num.M N) (R := R) N k1 u2 kr0
def gts : List (Nat × AV) := [(0, .ints .u64 10 [134216512, 134217726, 134217726, 134217726, 134217726, 134217726, 134217726, 134217726, 134217726, 134217726]), (1, .err 4), (2, .err 1), (3, .err 2), (4, .err 3), (5, .err 5), (6, .err 6), (7, .err 7), (8, .err 8), (9, .err 9), (10, .err 10), (11, .err 11), (12, .err 12), (13, .err 13), (14, .err 14), (15, .err 15), (16, .err 16), (17, .err 17), (18, .err 18), (19, .err 19)]
theorem gok (N : Nat) : GOk (g (alive10.M N) (rMult.M N) (Shared.M N) (Mult.M N) (Clamp.M N) (rClamp.M N) (Num.M N)) := giD_ok hm (by intro p hp; cases hp) (gtL_ok (by decide)) (ovL_ok (by
    intro p hp
    simp only [List.mem_cons, List.not_mem_nil, or_false] at hp
    rcases hp with rfl | rfl | rfl | rfl | rfl | rfl | rfl
    · exact ⟨(alive10.ok N).gt (gtL_sub (by repeat (first | exact subG_nil _ | refine subG_cons (by kernel_rfl) ?_))) (gtL_ok (by decide)), _, Tryd.func42, by kernel_rfl, by kernel_rfl⟩
    · exact ⟨(rMult.ok N).gt (gtL_sub (by repeat (first | exact subG_nil _ | refine subG_cons (by kernel_rfl) ?_))) (gtL_ok (by decide)), _, Tryd.func43, by kernel_rfl, by kernel_rfl⟩
    · exact ⟨(Shared.ok N).gt (gtL_sub (by repeat (first | exact subG_nil _ | refine subG_cons (by kernel_rfl) ?_))) (gtL_ok (by decide)), _, Tryd.func44, by kernel_rfl, by kernel_rfl⟩
    · exact ⟨(Mult.ok N).gt (gtL_sub (by repeat (first | exact subG_nil _ | refine subG_cons (by kernel_rfl) ?_))) (gtL_ok (by decide)), _, Tryd.func45, by kernel_rfl, by kernel_rfl⟩
    · exact ⟨(Clamp.ok N).gt (gtL_sub (by repeat (first | exact subG_nil _ | refine subG_cons (by kernel_rfl) ?_))) (gtL_ok (by decide)), _, Tryd.func46, by kernel_rfl, by kernel_rfl⟩
    · exact ⟨(rClamp.ok N).gt (gtL_sub (by repeat (first | exact subG_nil _ | refine subG_cons (by kernel_rfl) ?_))) (gtL_ok (by decide)), _, Tryd.func47, by kernel_rfl, by kernel_rfl⟩
    · exact ⟨(Num.ok N).gt (gtL_sub (by repeat (first | exact subG_nil _ | refine subG_cons (by kernel_rfl) ?_))) (gtL_ok (by decide)), _, Tryd.func26, by kernel_rfl, by kernel_rfl⟩
)) 1
theorem ok (N : Nat) : SoundC Tryd.prog (gtL gts) 8 (con (M N)) := by
  refine SoundC.mono (evF_ok (gok N) hm an N Tryd.func8) fun R args bs κ r h => ?_
  unfold con at h
  split at h
  · exact (eq (alive10.M N) (rMult.M N) (Shared.M N) (Mult.M N) (Clamp.M N) (rClamp.M N) (Num.M N) N κ _ _).trans h
  · cases h
end LadderMults


/-! ### Tryd.f9: LadderBases -/
namespace LadderBases
def an : Anns := ⟨fun i => findA i [], fun i => findA i [], false, fun _ => none⟩
noncomputable def g (malive10 : alive10.Ty) (mBase : Base.Ty) (mrBase : rBase.Ty) (mClamp : Clamp.Ty) : Gi := giD Tryd.prog (gtL [(0, .ints .u64 10 [134216512, 134217726, 134217726, 134217726, 134217726, 134217726, 134217726, 134217726, 134217726, 134217726]), (1, .err 4), (2, .err 1), (3, .err 2), (4, .err 3), (5, .err 5), (6, .err 6), (7, .err 7), (8, .err 8), (9, .err 9), (10, .err 10), (11, .err 11), (12, .err 12), (13, .err 13), (14, .err 14), (15, .err 15), (16, .err 16), (17, .err 17), (18, .err 18), (19, .err 19)]) (fun _ => an) 0 [] (ovL [(42, alive10.con malive10), (48, Base.con mBase), (49, rBase.con mrBase), (46, Clamp.con mClamp)]) 1
noncomputable def m (malive10 : alive10.Ty) (mBase : Base.Ty) (mrBase : rBase.Ty) (mClamp : Clamp.Ty) {R : Type} (_N : Nat) (k1 : List Int) (kr0 : Bool → Option R) : Option R :=
  malive10 R
   (fun v_c7 => cond (!v_c7)
    (kr0 false)
    (mBase R k1
     (fun v_c8 => mrBase R k1
      (fun v_c9 => cond (v_c8 == v_c9)
       (mClamp R k1
        (fun v_c10 => mBase R v_c10
         (fun v_c11 => mBase R k1
          (fun v_c12 => kr0 (v_c11 == v_c12)))))
       (kr0 false)))))
theorem tree (malive10 : alive10.Ty) (mBase : Base.Ty) (mrBase : rBase.Ty) (mClamp : Clamp.Ty) {R : Type} (N : Nat) (κ : AV → List Blk → Option R) (k1 : List Int) : evF (g malive10 mBase mrBase mClamp) an N Tryd.f9 [AV.ints IntKind.u8 32 k1] [] κ =
  malive10 R
   (fun v_c7 => cond (!v_c7)
    (κ (AV.bool false) [])
    (mBase R k1
     (fun v_c8 => mrBase R k1
      (fun v_c9 => cond (v_c8 == v_c9)
       (mClamp R k1
        (fun v_c10 => mBase R v_c10
         (fun v_c11 => mBase R k1
          (fun v_c12 => κ (AV.bool (v_c11 == v_c12)) []))))
       (κ (AV.bool false) []))))) := by kernel_rfl
theorem eq (malive10 : alive10.Ty) (mBase : Base.Ty) (mrBase : rBase.Ty) (mClamp : Clamp.Ty) {R : Type} (N : Nat) (κ : AV → List Blk → Option R) (k1 : List Int) : evF (g malive10 mBase mrBase mClamp) an N Tryd.f9 [AV.ints IntKind.u8 32 k1] [] κ =
  m malive10 mBase mrBase mClamp N k1 (fun v => κ (AV.bool v) []) := by
  rw [tree]
  kernel_rfl
abbrev Ty : Type 1 := ∀ R : Type, (List Int) → (Bool → Option R) → Option R
def con (f : Ty) : Con := fun R args bs κ => match args, bs with
  | [AV.ints IntKind.u8 32 k1], [] => f R k1 (fun v => κ (AV.bool v) [])
  | _, _ => none
theorem con_eq (f : Ty) (R : Type) (κ : AV → List Blk → Option R) (k1 : List Int) : con f R [AV.ints IntKind.u8 32 k1] [] κ = f R k1 (fun v => κ (AV.bool v) []) := rfl
noncomputable def M (N : Nat) : Ty := fun R k1 kr0 => m (alive10.M N) (Base.M N) (rBase.M N) (Clamp.M N) (R := R) N k1 kr0
def gts : List (Nat × AV) := [(0, .ints .u64 10 [134216512, 134217726, 134217726, 134217726, 134217726, 134217726, 134217726, 134217726, 134217726, 134217726]), (1, .err 4), (2, .err 1), (3, .err 2), (4, .err 3), (5, .err 5), (6, .err 6), (7, .err 7), (8, .err 8), (9, .err 9), (10, .err 10), (11, .err 11), (12, .err 12), (13, .err 13), (14, .err 14), (15, .err 15), (16, .err 16), (17, .err 17), (18, .err 18), (19, .err 19)]
theorem gok (N : Nat) : GOk (g (alive10.M N) (Base.M N) (rBase.M N) (Clamp.M N)) := giD_ok hm (by intro p hp; cases hp) (gtL_ok (by decide)) (ovL_ok (by
    intro p hp
    simp only [List.mem_cons, List.not_mem_nil, or_false] at hp
    rcases hp with rfl | rfl | rfl | rfl
    · exact ⟨(alive10.ok N).gt (gtL_sub (by repeat (first | exact subG_nil _ | refine subG_cons (by kernel_rfl) ?_))) (gtL_ok (by decide)), _, Tryd.func42, by kernel_rfl, by kernel_rfl⟩
    · exact ⟨(Base.ok N).gt (gtL_sub (by repeat (first | exact subG_nil _ | refine subG_cons (by kernel_rfl) ?_))) (gtL_ok (by decide)), _, Tryd.func48, by kernel_rfl, by kernel_rfl⟩
    · exact ⟨(rBase.ok N).gt (gtL_sub (by repeat (first | exact subG_nil _ | refine subG_cons (by kernel_rfl) ?_))) (gtL_ok (by decide)), _, Tryd.func49, by kernel_rfl, by kernel_rfl⟩
    · exact ⟨(Clamp.ok N).gt (gtL_sub (by repeat (first | exact subG_nil _ | refine subG_cons (by kernel_rfl) ?_))) (gtL_ok (by decide)), _, Tryd.func46, by kernel_rfl, by kernel_rfl⟩
)) 1
theorem ok (N : Nat) : SoundC Tryd.prog (gtL gts) 9 (con (M N)) := by
  refine SoundC.mono (evF_ok (gok N) hm an N Tryd.func9) fun R args bs κ r h => ?_
  unfold con at h
  split at h
  · exact (eq (alive10.M N) (Base.M N) (rBase.M N) (Clamp.M N) N κ _).trans h
  · cases h
end LadderBases


/-! ### Tryd.f10: LadderMeets -/
namespace LadderMeets
def an : Anns := ⟨fun i => findA i [], fun i => findA i [], false, fun _ => none⟩
noncomputable def g (malive10 : alive10.Ty) (mBase : Base.Ty) (mShared : Shared.Ty) : Gi := giD Tryd.prog (gtL [(0, .ints .u64 10 [134216512, 134217726, 134217726, 134217726, 134217726, 134217726, 134217726, 134217726, 134217726, 134217726]), (1, .err 4), (2, .err 1), (3, .err 2), (4, .err 3), (5, .err 5), (6, .err 6), (7, .err 7), (8, .err 8), (9, .err 9), (10, .err 10), (11, .err 11), (12, .err 12), (13, .err 13), (14, .err 14), (15, .err 15), (16, .err 16), (17, .err 17), (18, .err 18), (19, .err 19)]) (fun _ => an) 0 [] (ovL [(42, alive10.con malive10), (48, Base.con mBase), (44, Shared.con mShared)]) 1
noncomputable def m (malive10 : alive10.Ty) (mBase : Base.Ty) (mShared : Shared.Ty) {R : Type} (_N : Nat) (a1 : List Int) (b2 : List Int) (kr0 : Bool → Option R) : Option R :=
  malive10 R
   (fun v_c8 => cond (!v_c8)
    (kr0 false)
    (mBase R b2
     (fun v_c9 => mShared R a1 v_c9
      (fun v_c10 v_1_c11 => mBase R a1
       (fun v_c12 => mShared R b2 v_c12
        (fun v_c13 v_1_c14 => cond (v_1_c11.beq 0)
         (cond (v_1_c14.beq 0)
          (kr0 (v_c10 == v_c13))
          (kr0 false))
         (kr0 false)))))))
theorem tree (malive10 : alive10.Ty) (mBase : Base.Ty) (mShared : Shared.Ty) {R : Type} (N : Nat) (κ : AV → List Blk → Option R) (a1 : List Int) (b2 : List Int) : evF (g malive10 mBase mShared) an N Tryd.f10 [AV.ints IntKind.u8 32 a1, AV.ints IntKind.u8 32 b2] [] κ =
  malive10 R
   (fun v_c8 => cond (!v_c8)
    (κ (AV.bool false) [])
    (mBase R b2
     (fun v_c9 => mShared R a1 v_c9
      (fun v_c10 v_1_c11 => mBase R a1
       (fun v_c12 => mShared R b2 v_c12
        (fun v_c13 v_1_c14 => cond (v_1_c11.beq 0)
         (cond (v_1_c14.beq 0)
          (κ (AV.bool (v_c10 == v_c13)) [])
          (κ (AV.bool false) []))
         (κ (AV.bool false) []))))))) := by kernel_rfl
theorem eq (malive10 : alive10.Ty) (mBase : Base.Ty) (mShared : Shared.Ty) {R : Type} (N : Nat) (κ : AV → List Blk → Option R) (a1 : List Int) (b2 : List Int) : evF (g malive10 mBase mShared) an N Tryd.f10 [AV.ints IntKind.u8 32 a1, AV.ints IntKind.u8 32 b2] [] κ =
  m malive10 mBase mShared N a1 b2 (fun v => κ (AV.bool v) []) := by
  rw [tree]
  kernel_rfl
abbrev Ty : Type 1 := ∀ R : Type, (List Int) → (List Int) → (Bool → Option R) → Option R
def con (f : Ty) : Con := fun R args bs κ => match args, bs with
  | [AV.ints IntKind.u8 32 a1, AV.ints IntKind.u8 32 b2], [] => f R a1 b2 (fun v => κ (AV.bool v) [])
  | _, _ => none
theorem con_eq (f : Ty) (R : Type) (κ : AV → List Blk → Option R) (a1 : List Int) (b2 : List Int) : con f R [AV.ints IntKind.u8 32 a1, AV.ints IntKind.u8 32 b2] [] κ = f R a1 b2 (fun v => κ (AV.bool v) []) := rfl
noncomputable def M (N : Nat) : Ty := fun R a1 b2 kr0 => m (alive10.M N) (Base.M N) (Shared.M N) (R := R) N a1 b2 kr0
def gts : List (Nat × AV) := [(0, .ints .u64 10 [134216512, 134217726, 134217726, 134217726, 134217726, 134217726, 134217726, 134217726, 134217726, 134217726]), (1, .err 4), (2, .err 1), (3, .err 2), (4, .err 3), (5, .err 5), (6, .err 6), (7, .err 7), (8, .err 8), (9, .err 9), (10, .err 10), (11, .err 11), (12, .err 12), (13, .err 13), (14, .err 14), (15, .err 15), (16, .err 16), (17, .err 17), (18, .err 18), (19, .err 19)]
theorem gok (N : Nat) : GOk (g (alive10.M N) (Base.M N) (Shared.M N)) := giD_ok hm (by intro p hp; cases hp) (gtL_ok (by decide)) (ovL_ok (by
    intro p hp
    simp only [List.mem_cons, List.not_mem_nil, or_false] at hp
    rcases hp with rfl | rfl | rfl
    · exact ⟨(alive10.ok N).gt (gtL_sub (by repeat (first | exact subG_nil _ | refine subG_cons (by kernel_rfl) ?_))) (gtL_ok (by decide)), _, Tryd.func42, by kernel_rfl, by kernel_rfl⟩
    · exact ⟨(Base.ok N).gt (gtL_sub (by repeat (first | exact subG_nil _ | refine subG_cons (by kernel_rfl) ?_))) (gtL_ok (by decide)), _, Tryd.func48, by kernel_rfl, by kernel_rfl⟩
    · exact ⟨(Shared.ok N).gt (gtL_sub (by repeat (first | exact subG_nil _ | refine subG_cons (by kernel_rfl) ?_))) (gtL_ok (by decide)), _, Tryd.func44, by kernel_rfl, by kernel_rfl⟩
)) 1
theorem ok (N : Nat) : SoundC Tryd.prog (gtL gts) 10 (con (M N)) := by
  refine SoundC.mono (evF_ok (gok N) hm an N Tryd.func10) fun R args bs κ r h => ?_
  unfold con at h
  split at h
  · exact (eq (alive10.M N) (Base.M N) (Shared.M N) N κ _ _).trans h
  · cases h
end LadderMeets

end Go.Proofs.YtganankiiipkgaaDoor.fn
