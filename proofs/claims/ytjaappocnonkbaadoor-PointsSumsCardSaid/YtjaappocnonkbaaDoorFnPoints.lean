/- What the points' functions compute, with the proof; printed by a program. -/
import Derived.Test.YtjaappocnonkbaaDoorProg
import Derived.Test.YtjaappocnonkbaaDoorEv4
import Derived.Test.YtjaappocnonkbaaDoorFnField
namespace Go.Proofs.YtjaappocnonkbaaDoor.fn
open Go Go.Proofs Go.Ev

/-! ### Tryd.f56: Bit -/
namespace Bit
def an : Anns := ⟨fun i => findA i [], fun i => findA i [], false, fun _ => none⟩
noncomputable def g : Gi := giD Tryd.prog (gtL []) (fun _ => an) 0 [] (ovL []) 1
noncomputable def m {R : Type} (_N : Nat) (s1 : List Int) (i2 : Int) (kr0 : Bool → Option R) : Option R :=
  cond (decide (i2 ≥ 0))
   (cond (decide (i2 < 256))
    (cond (decide (0 ≤ IntKind.i64.wrap (i2.tdiv 8)))
     (cond (decide (IntKind.i64.wrap (i2.tdiv 8) < 32))
      (cond (true && decide (i2.tmod 8 < 0))
       (none)
       (kr0 (iand IntKind.u8 (ishr IntKind.u8 (s1.getD (IntKind.i64.wrap (i2.tdiv 8)).toNat 0) (i2.tmod 8)) 1 == 1)))
      (none))
     (none))
    (kr0 false))
   (kr0 false)
theorem tree {R : Type} (N : Nat) (κ : AV → List Blk → Option R) (s1 : List Int) (i2 : Int) : evF (g) an N Tryd.f56 [AV.ints IntKind.u8 32 s1, AV.int IntKind.i64 i2] [] κ =
  cond (decide (i2 ≥ 0))
   (cond (decide (i2 < 256))
    (cond (decide (0 ≤ IntKind.i64.wrap (i2.tdiv 8)))
     (cond (decide (IntKind.i64.wrap (i2.tdiv 8) < 32))
      (cond (true && decide (i2.tmod 8 < 0))
       (none)
       (κ (AV.bool (iand IntKind.u8 (ishr IntKind.u8 (s1.getD (IntKind.i64.wrap (i2.tdiv 8)).toNat 0) (i2.tmod 8)) 1 == 1)) []))
      (none))
     (none))
    (κ (AV.bool false) []))
   (κ (AV.bool false) []) := by kernel_rfl
theorem eq {R : Type} (N : Nat) (κ : AV → List Blk → Option R) (s1 : List Int) (i2 : Int) : evF (g) an N Tryd.f56 [AV.ints IntKind.u8 32 s1, AV.int IntKind.i64 i2] [] κ =
  m N s1 i2 (fun v => κ (AV.bool v) []) := by
  rw [tree]
  kernel_rfl
abbrev Ty : Type 1 := ∀ R : Type, (List Int) → Int → (Bool → Option R) → Option R
def con (f : Ty) : Con := fun R args bs κ => match args, bs with
  | [AV.ints IntKind.u8 32 s1, AV.int IntKind.i64 i2], [] => f R s1 i2 (fun v => κ (AV.bool v) [])
  | _, _ => none
theorem con_eq (f : Ty) (R : Type) (κ : AV → List Blk → Option R) (s1 : List Int) (i2 : Int) : con f R [AV.ints IntKind.u8 32 s1, AV.int IntKind.i64 i2] [] κ = f R s1 i2 (fun v => κ (AV.bool v) []) := rfl
noncomputable def M (N : Nat) : Ty := fun R s1 i2 kr0 => m (R := R) N s1 i2 kr0
def gts : List (Nat × AV) := []
theorem gok (_N : Nat) : GOk (g) := giD_ok hm (by intro p hp; cases hp) (gtL_ok (by decide)) (ovL_ok (by intro p hp; cases hp)) 1
theorem ok (N : Nat) : SoundC Tryd.prog (gtL gts) 56 (con (M N)) := by
  refine SoundC.mono (evF_ok (gok N) hm an N Tryd.func56) fun R args bs κ r h => ?_
  unfold con at h
  split at h
  · exact (eq N κ _ _).trans h
  · cases h
end Bit


/-! ### Tryd.f38: pat -/
namespace pat
def an : Anns := ⟨fun i => findA i [], fun i => findA i [], false, fun _ => none⟩
noncomputable def g (mSmall : Small.Ty) (meTimes : eTimes.Ty) : Gi := giD Tryd.prog (gtL [(19, .ints .u64 10 [134216512, 134217726, 134217726, 134217726, 134217726, 134217726, 134217726, 134217726, 134217726, 134217726])]) (fun _ => an) 0 [] (ovL [(30, Small.con mSmall), (32, eTimes.con meTimes)]) 1
noncomputable def m (mSmall : Small.Ty) (meTimes : eTimes.Ty) {R : Type} (_N : Nat) (x1 : List Int) (y2 : List Int) (kr0 : (List Int) → (List Int) → (List Int) → (List Int) → Option R) : Option R :=
  mSmall R 1
   (fun v_c2 => meTimes R x1 y2
    (fun v_c3 => kr0 x1 y2 v_c2 v_c3))
theorem tree (mSmall : Small.Ty) (meTimes : eTimes.Ty) {R : Type} (N : Nat) (κ : AV → List Blk → Option R) (x1 : List Int) (y2 : List Int) : evF (g mSmall meTimes) an N Tryd.f38 [AV.agg [AV.ints IntKind.u64 10 x1], AV.agg [AV.ints IntKind.u64 10 y2]] [] κ =
  mSmall R 1
   (fun v_c2 => meTimes R x1 y2
    (fun v_c3 => κ (AV.agg [AV.agg [AV.ints IntKind.u64 10 x1], AV.agg [AV.ints IntKind.u64 10 y2], AV.agg [AV.ints IntKind.u64 10 v_c2], AV.agg [AV.ints IntKind.u64 10 v_c3]]) [])) := by kernel_rfl
theorem eq (mSmall : Small.Ty) (meTimes : eTimes.Ty) {R : Type} (N : Nat) (κ : AV → List Blk → Option R) (x1 : List Int) (y2 : List Int) : evF (g mSmall meTimes) an N Tryd.f38 [AV.agg [AV.ints IntKind.u64 10 x1], AV.agg [AV.ints IntKind.u64 10 y2]] [] κ =
  m mSmall meTimes N x1 y2 (fun v v_1 v_2 v_3 => κ (AV.agg [AV.agg [AV.ints IntKind.u64 10 v], AV.agg [AV.ints IntKind.u64 10 v_1], AV.agg [AV.ints IntKind.u64 10 v_2], AV.agg [AV.ints IntKind.u64 10 v_3]]) []) := by
  rw [tree]
  kernel_rfl
abbrev Ty : Type 1 := ∀ R : Type, (List Int) → (List Int) → ((List Int) → (List Int) → (List Int) → (List Int) → Option R) → Option R
def con (f : Ty) : Con := fun R args bs κ => match args, bs with
  | [AV.agg [AV.ints IntKind.u64 10 x1], AV.agg [AV.ints IntKind.u64 10 y2]], [] => f R x1 y2 (fun v v_1 v_2 v_3 => κ (AV.agg [AV.agg [AV.ints IntKind.u64 10 v], AV.agg [AV.ints IntKind.u64 10 v_1], AV.agg [AV.ints IntKind.u64 10 v_2], AV.agg [AV.ints IntKind.u64 10 v_3]]) [])
  | _, _ => none
theorem con_eq (f : Ty) (R : Type) (κ : AV → List Blk → Option R) (x1 : List Int) (y2 : List Int) : con f R [AV.agg [AV.ints IntKind.u64 10 x1], AV.agg [AV.ints IntKind.u64 10 y2]] [] κ = f R x1 y2 (fun v v_1 v_2 v_3 => κ (AV.agg [AV.agg [AV.ints IntKind.u64 10 v], AV.agg [AV.ints IntKind.u64 10 v_1], AV.agg [AV.ints IntKind.u64 10 v_2], AV.agg [AV.ints IntKind.u64 10 v_3]]) []) := rfl
noncomputable def M (N : Nat) : Ty := fun R x1 y2 kr0 => m (Small.M N) (eTimes.M N) (R := R) N x1 y2 kr0
def gts : List (Nat × AV) := [(19, .ints .u64 10 [134216512, 134217726, 134217726, 134217726, 134217726, 134217726, 134217726, 134217726, 134217726, 134217726])]
theorem gok (N : Nat) : GOk (g (Small.M N) (eTimes.M N)) := giD_ok hm (by intro p hp; cases hp) (gtL_ok (by decide)) (ovL_ok (by
    intro p hp
    simp only [List.mem_cons, List.not_mem_nil, or_false] at hp
    rcases hp with rfl | rfl
    · exact ⟨(Small.ok N).gt (gtL_sub (by repeat (first | exact subG_nil _ | refine subG_cons (by kernel_rfl) ?_))) (gtL_ok (by decide)), _, Tryd.func30, by kernel_rfl, by kernel_rfl⟩
    · exact ⟨(eTimes.ok N).gt (gtL_sub (by repeat (first | exact subG_nil _ | refine subG_cons (by kernel_rfl) ?_))) (gtL_ok (by decide)), _, Tryd.func32, by kernel_rfl, by kernel_rfl⟩
)) 1
theorem ok (N : Nat) : SoundC Tryd.prog (gtL gts) 38 (con (M N)) := by
  refine SoundC.mono (evF_ok (gok N) hm an N Tryd.func38) fun R args bs κ r h => ?_
  unfold con at h
  split at h
  · exact (eq (Small.M N) (eTimes.M N) N κ _ _).trans h
  · cases h
end pat


/-! ### Tryd.f20: pZero -/
namespace pZero
def an : Anns := ⟨fun i => findA i [], fun i => findA i [], false, fun _ => none⟩
noncomputable def g (mSmall : Small.Ty) (mpat : pat.Ty) : Gi := giD Tryd.prog (gtL [(19, .ints .u64 10 [134216512, 134217726, 134217726, 134217726, 134217726, 134217726, 134217726, 134217726, 134217726, 134217726])]) (fun _ => an) 0 [] (ovL [(30, Small.con mSmall), (38, pat.con mpat)]) 1
noncomputable def m (mSmall : Small.Ty) (mpat : pat.Ty) {R : Type} (_N : Nat) (kr0 : (List Int) → (List Int) → (List Int) → (List Int) → Option R) : Option R :=
  mSmall R 0
   (fun v_c6 => mSmall R 1
    (fun v_c7 => mpat R v_c6 v_c7
     (fun v_c8 v_1_c9 v_2_c10 v_3_c11 => kr0 v_c8 v_1_c9 v_2_c10 v_3_c11)))
theorem tree (mSmall : Small.Ty) (mpat : pat.Ty) {R : Type} (N : Nat) (κ : AV → List Blk → Option R) : evF (g mSmall mpat) an N Tryd.f20 [] [] κ =
  mSmall R 0
   (fun v_c6 => mSmall R 1
    (fun v_c7 => mpat R v_c6 v_c7
     (fun v_c8 v_1_c9 v_2_c10 v_3_c11 => κ (AV.agg [AV.agg [AV.ints IntKind.u64 10 v_c8], AV.agg [AV.ints IntKind.u64 10 v_1_c9], AV.agg [AV.ints IntKind.u64 10 v_2_c10], AV.agg [AV.ints IntKind.u64 10 v_3_c11]]) []))) := by kernel_rfl
theorem eq (mSmall : Small.Ty) (mpat : pat.Ty) {R : Type} (N : Nat) (κ : AV → List Blk → Option R) : evF (g mSmall mpat) an N Tryd.f20 [] [] κ =
  m mSmall mpat N (fun v v_1 v_2 v_3 => κ (AV.agg [AV.agg [AV.ints IntKind.u64 10 v], AV.agg [AV.ints IntKind.u64 10 v_1], AV.agg [AV.ints IntKind.u64 10 v_2], AV.agg [AV.ints IntKind.u64 10 v_3]]) []) := by
  rw [tree]
  kernel_rfl
abbrev Ty : Type 1 := ∀ R : Type, ((List Int) → (List Int) → (List Int) → (List Int) → Option R) → Option R
def con (f : Ty) : Con := fun R args bs κ => match args, bs with
  | [], [] => f R (fun v v_1 v_2 v_3 => κ (AV.agg [AV.agg [AV.ints IntKind.u64 10 v], AV.agg [AV.ints IntKind.u64 10 v_1], AV.agg [AV.ints IntKind.u64 10 v_2], AV.agg [AV.ints IntKind.u64 10 v_3]]) [])
  | _, _ => none
theorem con_eq (f : Ty) (R : Type) (κ : AV → List Blk → Option R) : con f R [] [] κ = f R (fun v v_1 v_2 v_3 => κ (AV.agg [AV.agg [AV.ints IntKind.u64 10 v], AV.agg [AV.ints IntKind.u64 10 v_1], AV.agg [AV.ints IntKind.u64 10 v_2], AV.agg [AV.ints IntKind.u64 10 v_3]]) []) := rfl
noncomputable def M (N : Nat) : Ty := fun R kr0 => m (Small.M N) (pat.M N) (R := R) N kr0
def gts : List (Nat × AV) := [(19, .ints .u64 10 [134216512, 134217726, 134217726, 134217726, 134217726, 134217726, 134217726, 134217726, 134217726, 134217726])]
theorem gok (N : Nat) : GOk (g (Small.M N) (pat.M N)) := giD_ok hm (by intro p hp; cases hp) (gtL_ok (by decide)) (ovL_ok (by
    intro p hp
    simp only [List.mem_cons, List.not_mem_nil, or_false] at hp
    rcases hp with rfl | rfl
    · exact ⟨(Small.ok N).gt (gtL_sub (by repeat (first | exact subG_nil _ | refine subG_cons (by kernel_rfl) ?_))) (gtL_ok (by decide)), _, Tryd.func30, by kernel_rfl, by kernel_rfl⟩
    · exact ⟨(pat.ok N).gt (gtL_sub (by repeat (first | exact subG_nil _ | refine subG_cons (by kernel_rfl) ?_))) (gtL_ok (by decide)), _, Tryd.func38, by kernel_rfl, by kernel_rfl⟩
)) 1
theorem ok (N : Nat) : SoundC Tryd.prog (gtL gts) 20 (con (M N)) := by
  refine SoundC.mono (evF_ok (gok N) hm an N Tryd.func20) fun R args bs κ r h => ?_
  unfold con at h
  split at h
  · exact (eq (Small.M N) (pat.M N) N κ).trans h
  · cases h
end pZero


/-! ### Tryd.f22: pBase -/
namespace pBase
def an : Anns := ⟨fun i => findA i [], fun i => findA i [], false, fun _ => none⟩
noncomputable def g (mBaseX : BaseX.Ty) (mBaseY : BaseY.Ty) (mpat : pat.Ty) : Gi := giD Tryd.prog (gtL [(19, .ints .u64 10 [134216512, 134217726, 134217726, 134217726, 134217726, 134217726, 134217726, 134217726, 134217726, 134217726])]) (fun _ => an) 0 [] (ovL [(60, BaseX.con mBaseX), (61, BaseY.con mBaseY), (38, pat.con mpat)]) 1
noncomputable def m (mBaseX : BaseX.Ty) (mBaseY : BaseY.Ty) (mpat : pat.Ty) {R : Type} (_N : Nat) (kr0 : (List Int) → (List Int) → (List Int) → (List Int) → Option R) : Option R :=
  mBaseX R
   (mBaseY R
    (mpat R ([52811034, 25909283, 41626773, 25318550, 6892743, 58046231, 38675231, 22018818, 47435118, 547405]) ([40265304, 26843545, 40265318, 26843545, 40265318, 26843545, 40265318, 26843545, 40265318, 1677721])
     (fun v_c4 v_1_c5 v_2_c6 v_3_c7 => kr0 v_c4 v_1_c5 v_2_c6 v_3_c7)))
theorem tree (mBaseX : BaseX.Ty) (mBaseY : BaseY.Ty) (mpat : pat.Ty) {R : Type} (N : Nat) (κ : AV → List Blk → Option R) : evF (g mBaseX mBaseY mpat) an N Tryd.f22 [] [] κ =
  mBaseX R
   (mBaseY R
    (mpat R ([52811034, 25909283, 41626773, 25318550, 6892743, 58046231, 38675231, 22018818, 47435118, 547405]) ([40265304, 26843545, 40265318, 26843545, 40265318, 26843545, 40265318, 26843545, 40265318, 1677721])
     (fun v_c4 v_1_c5 v_2_c6 v_3_c7 => κ (AV.agg [AV.agg [AV.ints IntKind.u64 10 v_c4], AV.agg [AV.ints IntKind.u64 10 v_1_c5], AV.agg [AV.ints IntKind.u64 10 v_2_c6], AV.agg [AV.ints IntKind.u64 10 v_3_c7]]) []))) := by kernel_rfl
theorem eq (mBaseX : BaseX.Ty) (mBaseY : BaseY.Ty) (mpat : pat.Ty) {R : Type} (N : Nat) (κ : AV → List Blk → Option R) : evF (g mBaseX mBaseY mpat) an N Tryd.f22 [] [] κ =
  m mBaseX mBaseY mpat N (fun v v_1 v_2 v_3 => κ (AV.agg [AV.agg [AV.ints IntKind.u64 10 v], AV.agg [AV.ints IntKind.u64 10 v_1], AV.agg [AV.ints IntKind.u64 10 v_2], AV.agg [AV.ints IntKind.u64 10 v_3]]) []) := by
  rw [tree]
  kernel_rfl
abbrev Ty : Type 1 := ∀ R : Type, ((List Int) → (List Int) → (List Int) → (List Int) → Option R) → Option R
def con (f : Ty) : Con := fun R args bs κ => match args, bs with
  | [], [] => f R (fun v v_1 v_2 v_3 => κ (AV.agg [AV.agg [AV.ints IntKind.u64 10 v], AV.agg [AV.ints IntKind.u64 10 v_1], AV.agg [AV.ints IntKind.u64 10 v_2], AV.agg [AV.ints IntKind.u64 10 v_3]]) [])
  | _, _ => none
theorem con_eq (f : Ty) (R : Type) (κ : AV → List Blk → Option R) : con f R [] [] κ = f R (fun v v_1 v_2 v_3 => κ (AV.agg [AV.agg [AV.ints IntKind.u64 10 v], AV.agg [AV.ints IntKind.u64 10 v_1], AV.agg [AV.ints IntKind.u64 10 v_2], AV.agg [AV.ints IntKind.u64 10 v_3]]) []) := rfl
noncomputable def M (N : Nat) : Ty := fun R kr0 => m (BaseX.M N) (BaseY.M N) (pat.M N) (R := R) N kr0
def gts : List (Nat × AV) := [(19, .ints .u64 10 [134216512, 134217726, 134217726, 134217726, 134217726, 134217726, 134217726, 134217726, 134217726, 134217726])]
theorem gok (N : Nat) : GOk (g (BaseX.M N) (BaseY.M N) (pat.M N)) := giD_ok hm (by intro p hp; cases hp) (gtL_ok (by decide)) (ovL_ok (by
    intro p hp
    simp only [List.mem_cons, List.not_mem_nil, or_false] at hp
    rcases hp with rfl | rfl | rfl
    · exact ⟨(BaseX.ok N).gt (gtL_sub (by repeat (first | exact subG_nil _ | refine subG_cons (by kernel_rfl) ?_))) (gtL_ok (by decide)), _, Tryd.func60, by kernel_rfl, by kernel_rfl⟩
    · exact ⟨(BaseY.ok N).gt (gtL_sub (by repeat (first | exact subG_nil _ | refine subG_cons (by kernel_rfl) ?_))) (gtL_ok (by decide)), _, Tryd.func61, by kernel_rfl, by kernel_rfl⟩
    · exact ⟨(pat.ok N).gt (gtL_sub (by repeat (first | exact subG_nil _ | refine subG_cons (by kernel_rfl) ?_))) (gtL_ok (by decide)), _, Tryd.func38, by kernel_rfl, by kernel_rfl⟩
)) 1
theorem ok (N : Nat) : SoundC Tryd.prog (gtL gts) 22 (con (M N)) := by
  refine SoundC.mono (evF_ok (gok N) hm an N Tryd.func22) fun R args bs κ r h => ?_
  unfold con at h
  split at h
  · exact (eq (BaseX.M N) (BaseY.M N) (pat.M N) N κ).trans h
  · cases h
end pBase


/-! ### Tryd.f57: plus -/
namespace plus
def an : Anns := ⟨fun i => findA i [], fun i => findA i [], false, fun _ => none⟩
noncomputable def g (meSub : eSub.Ty) (meTimes : eTimes.Ty) (meAdd : eAdd.Ty) : Gi := giD Tryd.prog (gtL [(19, .ints .u64 10 [134216512, 134217726, 134217726, 134217726, 134217726, 134217726, 134217726, 134217726, 134217726, 134217726])]) (fun _ => an) 0 [] (ovL [(31, eSub.con meSub), (32, eTimes.con meTimes), (34, eAdd.con meAdd)]) 1
noncomputable def m (meSub : eSub.Ty) (meTimes : eTimes.Ty) (meAdd : eAdd.Ty) {R : Type} (_N : Nat) (p1 : List Int) (p2 : List Int) (p3 : List Int) (p4 : List Int) (q5 : List Int) (q6 : List Int) (q7 : List Int) (q8 : List Int) (twice9 : List Int) (kr0 : (List Int) → (List Int) → (List Int) → (List Int) → Option R) : Option R :=
  meSub R p2 p1
   (fun v_c18 => meSub R q6 q5
    (fun v_c19 => meTimes R v_c18 v_c19
     (fun v_c20 => meAdd R p2 p1
      (fun v_c21 => meAdd R q6 q5
       (fun v_c22 => meTimes R v_c21 v_c22
        (fun v_c23 => meTimes R p4 q8
         (fun v_c24 => meTimes R v_c24 twice9
          (fun v_c25 => meTimes R p3 q7
           (fun v_c26 => meAdd R v_c26 v_c26
            (fun v_c27 => meSub R v_c23 v_c20
             (fun v_c28 => meSub R v_c27 v_c25
              (fun v_c29 => meAdd R v_c27 v_c25
               (fun v_c30 => meAdd R v_c23 v_c20
                (fun v_c31 => meTimes R v_c28 v_c29
                 (fun v_c32 => meTimes R v_c30 v_c31
                  (fun v_c33 => meTimes R v_c29 v_c30
                   (fun v_c34 => meTimes R v_c28 v_c31
                    (fun v_c35 => kr0 v_c32 v_c33 v_c34 v_c35))))))))))))))))))
theorem tree (meSub : eSub.Ty) (meTimes : eTimes.Ty) (meAdd : eAdd.Ty) {R : Type} (N : Nat) (κ : AV → List Blk → Option R) (p1 : List Int) (p2 : List Int) (p3 : List Int) (p4 : List Int) (q5 : List Int) (q6 : List Int) (q7 : List Int) (q8 : List Int) (twice9 : List Int) : evF (g meSub meTimes meAdd) an N Tryd.f57 [AV.agg [AV.agg [AV.ints IntKind.u64 10 p1], AV.agg [AV.ints IntKind.u64 10 p2], AV.agg [AV.ints IntKind.u64 10 p3], AV.agg [AV.ints IntKind.u64 10 p4]], AV.agg [AV.agg [AV.ints IntKind.u64 10 q5], AV.agg [AV.ints IntKind.u64 10 q6], AV.agg [AV.ints IntKind.u64 10 q7], AV.agg [AV.ints IntKind.u64 10 q8]], AV.agg [AV.ints IntKind.u64 10 twice9]] [] κ =
  meSub R p2 p1
   (fun v_c18 => meSub R q6 q5
    (fun v_c19 => meTimes R v_c18 v_c19
     (fun v_c20 => meAdd R p2 p1
      (fun v_c21 => meAdd R q6 q5
       (fun v_c22 => meTimes R v_c21 v_c22
        (fun v_c23 => meTimes R p4 q8
         (fun v_c24 => meTimes R v_c24 twice9
          (fun v_c25 => meTimes R p3 q7
           (fun v_c26 => meAdd R v_c26 v_c26
            (fun v_c27 => meSub R v_c23 v_c20
             (fun v_c28 => meSub R v_c27 v_c25
              (fun v_c29 => meAdd R v_c27 v_c25
               (fun v_c30 => meAdd R v_c23 v_c20
                (fun v_c31 => meTimes R v_c28 v_c29
                 (fun v_c32 => meTimes R v_c30 v_c31
                  (fun v_c33 => meTimes R v_c29 v_c30
                   (fun v_c34 => meTimes R v_c28 v_c31
                    (fun v_c35 => κ (AV.agg [AV.agg [AV.ints IntKind.u64 10 v_c32], AV.agg [AV.ints IntKind.u64 10 v_c33], AV.agg [AV.ints IntKind.u64 10 v_c34], AV.agg [AV.ints IntKind.u64 10 v_c35]]) [])))))))))))))))))) := by kernel_rfl
theorem eq (meSub : eSub.Ty) (meTimes : eTimes.Ty) (meAdd : eAdd.Ty) {R : Type} (N : Nat) (κ : AV → List Blk → Option R) (p1 : List Int) (p2 : List Int) (p3 : List Int) (p4 : List Int) (q5 : List Int) (q6 : List Int) (q7 : List Int) (q8 : List Int) (twice9 : List Int) : evF (g meSub meTimes meAdd) an N Tryd.f57 [AV.agg [AV.agg [AV.ints IntKind.u64 10 p1], AV.agg [AV.ints IntKind.u64 10 p2], AV.agg [AV.ints IntKind.u64 10 p3], AV.agg [AV.ints IntKind.u64 10 p4]], AV.agg [AV.agg [AV.ints IntKind.u64 10 q5], AV.agg [AV.ints IntKind.u64 10 q6], AV.agg [AV.ints IntKind.u64 10 q7], AV.agg [AV.ints IntKind.u64 10 q8]], AV.agg [AV.ints IntKind.u64 10 twice9]] [] κ =
  m meSub meTimes meAdd N p1 p2 p3 p4 q5 q6 q7 q8 twice9 (fun v v_1 v_2 v_3 => κ (AV.agg [AV.agg [AV.ints IntKind.u64 10 v], AV.agg [AV.ints IntKind.u64 10 v_1], AV.agg [AV.ints IntKind.u64 10 v_2], AV.agg [AV.ints IntKind.u64 10 v_3]]) []) := by
  rw [tree]
  kernel_rfl
abbrev Ty : Type 1 := ∀ R : Type, (List Int) → (List Int) → (List Int) → (List Int) → (List Int) → (List Int) → (List Int) → (List Int) → (List Int) → ((List Int) → (List Int) → (List Int) → (List Int) → Option R) → Option R
def con (f : Ty) : Con := fun R args bs κ => match args, bs with
  | [AV.agg [AV.agg [AV.ints IntKind.u64 10 p1], AV.agg [AV.ints IntKind.u64 10 p2], AV.agg [AV.ints IntKind.u64 10 p3], AV.agg [AV.ints IntKind.u64 10 p4]], AV.agg [AV.agg [AV.ints IntKind.u64 10 q5], AV.agg [AV.ints IntKind.u64 10 q6], AV.agg [AV.ints IntKind.u64 10 q7], AV.agg [AV.ints IntKind.u64 10 q8]], AV.agg [AV.ints IntKind.u64 10 twice9]], [] => f R p1 p2 p3 p4 q5 q6 q7 q8 twice9 (fun v v_1 v_2 v_3 => κ (AV.agg [AV.agg [AV.ints IntKind.u64 10 v], AV.agg [AV.ints IntKind.u64 10 v_1], AV.agg [AV.ints IntKind.u64 10 v_2], AV.agg [AV.ints IntKind.u64 10 v_3]]) [])
  | _, _ => none
theorem con_eq (f : Ty) (R : Type) (κ : AV → List Blk → Option R) (p1 : List Int) (p2 : List Int) (p3 : List Int) (p4 : List Int) (q5 : List Int) (q6 : List Int) (q7 : List Int) (q8 : List Int) (twice9 : List Int) : con f R [AV.agg [AV.agg [AV.ints IntKind.u64 10 p1], AV.agg [AV.ints IntKind.u64 10 p2], AV.agg [AV.ints IntKind.u64 10 p3], AV.agg [AV.ints IntKind.u64 10 p4]], AV.agg [AV.agg [AV.ints IntKind.u64 10 q5], AV.agg [AV.ints IntKind.u64 10 q6], AV.agg [AV.ints IntKind.u64 10 q7], AV.agg [AV.ints IntKind.u64 10 q8]], AV.agg [AV.ints IntKind.u64 10 twice9]] [] κ = f R p1 p2 p3 p4 q5 q6 q7 q8 twice9 (fun v v_1 v_2 v_3 => κ (AV.agg [AV.agg [AV.ints IntKind.u64 10 v], AV.agg [AV.ints IntKind.u64 10 v_1], AV.agg [AV.ints IntKind.u64 10 v_2], AV.agg [AV.ints IntKind.u64 10 v_3]]) []) := rfl
noncomputable def M (N : Nat) : Ty := fun R p1 p2 p3 p4 q5 q6 q7 q8 twice9 kr0 => m (eSub.M N) (eTimes.M N) (eAdd.M N) (R := R) N p1 p2 p3 p4 q5 q6 q7 q8 twice9 kr0
def gts : List (Nat × AV) := [(19, .ints .u64 10 [134216512, 134217726, 134217726, 134217726, 134217726, 134217726, 134217726, 134217726, 134217726, 134217726])]
theorem gok (N : Nat) : GOk (g (eSub.M N) (eTimes.M N) (eAdd.M N)) := giD_ok hm (by intro p hp; cases hp) (gtL_ok (by decide)) (ovL_ok (by
    intro p hp
    simp only [List.mem_cons, List.not_mem_nil, or_false] at hp
    rcases hp with rfl | rfl | rfl
    · exact ⟨(eSub.ok N).gt (gtL_sub (by repeat (first | exact subG_nil _ | refine subG_cons (by kernel_rfl) ?_))) (gtL_ok (by decide)), _, Tryd.func31, by kernel_rfl, by kernel_rfl⟩
    · exact ⟨(eTimes.ok N).gt (gtL_sub (by repeat (first | exact subG_nil _ | refine subG_cons (by kernel_rfl) ?_))) (gtL_ok (by decide)), _, Tryd.func32, by kernel_rfl, by kernel_rfl⟩
    · exact ⟨(eAdd.ok N).gt (gtL_sub (by repeat (first | exact subG_nil _ | refine subG_cons (by kernel_rfl) ?_))) (gtL_ok (by decide)), _, Tryd.func34, by kernel_rfl, by kernel_rfl⟩
)) 1
theorem ok (N : Nat) : SoundC Tryd.prog (gtL gts) 57 (con (M N)) := by
  refine SoundC.mono (evF_ok (gok N) hm an N Tryd.func57) fun R args bs κ r h => ?_
  unfold con at h
  split at h
  · exact (eq (eSub.M N) (eTimes.M N) (eAdd.M N) N κ _ _ _ _ _ _ _ _ _).trans h
  · cases h
end plus


/-! ### Tryd.f54: twice -/
namespace twice
def an : Anns := ⟨fun i => findA i [], fun i => findA i [], false, fun _ => none⟩
noncomputable def g (mCurve : Curve.Ty) (meAdd : eAdd.Ty) : Gi := giD Tryd.prog (gtL []) (fun _ => an) 0 [] (ovL [(33, Curve.con mCurve), (34, eAdd.con meAdd)]) 1
noncomputable def m (mCurve : Curve.Ty) (meAdd : eAdd.Ty) {R : Type} (_N : Nat) (kr0 : (List Int) → Option R) : Option R :=
  mCurve R
   (meAdd R ([56195235, 47411844, 25868126, 20251911, 28682, 31357478, 7604119, 66702899, 15608687, 1343707]) ([56195235, 47411844, 25868126, 20251911, 28682, 31357478, 7604119, 66702899, 15608687, 1343707])
    (fun v_c1 => kr0 v_c1))
theorem tree (mCurve : Curve.Ty) (meAdd : eAdd.Ty) {R : Type} (N : Nat) (κ : AV → List Blk → Option R) : evF (g mCurve meAdd) an N Tryd.f54 [] [] κ =
  mCurve R
   (meAdd R ([56195235, 47411844, 25868126, 20251911, 28682, 31357478, 7604119, 66702899, 15608687, 1343707]) ([56195235, 47411844, 25868126, 20251911, 28682, 31357478, 7604119, 66702899, 15608687, 1343707])
    (fun v_c1 => κ (AV.agg [AV.ints IntKind.u64 10 v_c1]) [])) := by kernel_rfl
theorem eq (mCurve : Curve.Ty) (meAdd : eAdd.Ty) {R : Type} (N : Nat) (κ : AV → List Blk → Option R) : evF (g mCurve meAdd) an N Tryd.f54 [] [] κ =
  m mCurve meAdd N (fun v => κ (AV.agg [AV.ints IntKind.u64 10 v]) []) := by
  rw [tree]
  kernel_rfl
abbrev Ty : Type 1 := ∀ R : Type, ((List Int) → Option R) → Option R
def con (f : Ty) : Con := fun R args bs κ => match args, bs with
  | [], [] => f R (fun v => κ (AV.agg [AV.ints IntKind.u64 10 v]) [])
  | _, _ => none
theorem con_eq (f : Ty) (R : Type) (κ : AV → List Blk → Option R) : con f R [] [] κ = f R (fun v => κ (AV.agg [AV.ints IntKind.u64 10 v]) []) := rfl
noncomputable def M (N : Nat) : Ty := fun R kr0 => m (Curve.M N) (eAdd.M N) (R := R) N kr0
def gts : List (Nat × AV) := []
theorem gok (N : Nat) : GOk (g (Curve.M N) (eAdd.M N)) := giD_ok hm (by intro p hp; cases hp) (gtL_ok (by decide)) (ovL_ok (by
    intro p hp
    simp only [List.mem_cons, List.not_mem_nil, or_false] at hp
    rcases hp with rfl | rfl
    · exact ⟨(Curve.ok N).gt (gtL_sub (by repeat (first | exact subG_nil _ | refine subG_cons (by kernel_rfl) ?_))) (gtL_ok (by decide)), _, Tryd.func33, by kernel_rfl, by kernel_rfl⟩
    · exact ⟨(eAdd.ok N).gt (gtL_sub (by repeat (first | exact subG_nil _ | refine subG_cons (by kernel_rfl) ?_))) (gtL_ok (by decide)), _, Tryd.func34, by kernel_rfl, by kernel_rfl⟩
)) 1
theorem ok (N : Nat) : SoundC Tryd.prog (gtL gts) 54 (con (M N)) := by
  refine SoundC.mono (evF_ok (gok N) hm an N Tryd.func54) fun R args bs κ r h => ?_
  unfold con at h
  split at h
  · exact (eq (Curve.M N) (eAdd.M N) N κ).trans h
  · cases h
end twice


/-! ### Tryd.f19: pAdd -/
namespace pAdd
def an : Anns := ⟨fun i => findA i [], fun i => findA i [], false, fun _ => none⟩
noncomputable def g (mtwice : twice.Ty) (mplus : plus.Ty) : Gi := giD Tryd.prog (gtL [(19, .ints .u64 10 [134216512, 134217726, 134217726, 134217726, 134217726, 134217726, 134217726, 134217726, 134217726, 134217726])]) (fun _ => an) 0 [] (ovL [(54, twice.con mtwice), (57, plus.con mplus)]) 1
noncomputable def m (mtwice : twice.Ty) (mplus : plus.Ty) {R : Type} (_N : Nat) (p1 : List Int) (p2 : List Int) (p3 : List Int) (p4 : List Int) (q5 : List Int) (q6 : List Int) (q7 : List Int) (q8 : List Int) (kr0 : (List Int) → (List Int) → (List Int) → (List Int) → Option R) : Option R :=
  mtwice R
   (fun v_c5 => mplus R p1 p2 p3 p4 q5 q6 q7 q8 v_c5
    (fun v_c6 v_1_c7 v_2_c8 v_3_c9 => kr0 v_c6 v_1_c7 v_2_c8 v_3_c9))
theorem tree (mtwice : twice.Ty) (mplus : plus.Ty) {R : Type} (N : Nat) (κ : AV → List Blk → Option R) (p1 : List Int) (p2 : List Int) (p3 : List Int) (p4 : List Int) (q5 : List Int) (q6 : List Int) (q7 : List Int) (q8 : List Int) : evF (g mtwice mplus) an N Tryd.f19 [AV.agg [AV.agg [AV.ints IntKind.u64 10 p1], AV.agg [AV.ints IntKind.u64 10 p2], AV.agg [AV.ints IntKind.u64 10 p3], AV.agg [AV.ints IntKind.u64 10 p4]], AV.agg [AV.agg [AV.ints IntKind.u64 10 q5], AV.agg [AV.ints IntKind.u64 10 q6], AV.agg [AV.ints IntKind.u64 10 q7], AV.agg [AV.ints IntKind.u64 10 q8]]] [] κ =
  mtwice R
   (fun v_c5 => mplus R p1 p2 p3 p4 q5 q6 q7 q8 v_c5
    (fun v_c6 v_1_c7 v_2_c8 v_3_c9 => κ (AV.agg [AV.agg [AV.ints IntKind.u64 10 v_c6], AV.agg [AV.ints IntKind.u64 10 v_1_c7], AV.agg [AV.ints IntKind.u64 10 v_2_c8], AV.agg [AV.ints IntKind.u64 10 v_3_c9]]) [])) := by kernel_rfl
theorem eq (mtwice : twice.Ty) (mplus : plus.Ty) {R : Type} (N : Nat) (κ : AV → List Blk → Option R) (p1 : List Int) (p2 : List Int) (p3 : List Int) (p4 : List Int) (q5 : List Int) (q6 : List Int) (q7 : List Int) (q8 : List Int) : evF (g mtwice mplus) an N Tryd.f19 [AV.agg [AV.agg [AV.ints IntKind.u64 10 p1], AV.agg [AV.ints IntKind.u64 10 p2], AV.agg [AV.ints IntKind.u64 10 p3], AV.agg [AV.ints IntKind.u64 10 p4]], AV.agg [AV.agg [AV.ints IntKind.u64 10 q5], AV.agg [AV.ints IntKind.u64 10 q6], AV.agg [AV.ints IntKind.u64 10 q7], AV.agg [AV.ints IntKind.u64 10 q8]]] [] κ =
  m mtwice mplus N p1 p2 p3 p4 q5 q6 q7 q8 (fun v v_1 v_2 v_3 => κ (AV.agg [AV.agg [AV.ints IntKind.u64 10 v], AV.agg [AV.ints IntKind.u64 10 v_1], AV.agg [AV.ints IntKind.u64 10 v_2], AV.agg [AV.ints IntKind.u64 10 v_3]]) []) := by
  rw [tree]
  kernel_rfl
abbrev Ty : Type 1 := ∀ R : Type, (List Int) → (List Int) → (List Int) → (List Int) → (List Int) → (List Int) → (List Int) → (List Int) → ((List Int) → (List Int) → (List Int) → (List Int) → Option R) → Option R
def con (f : Ty) : Con := fun R args bs κ => match args, bs with
  | [AV.agg [AV.agg [AV.ints IntKind.u64 10 p1], AV.agg [AV.ints IntKind.u64 10 p2], AV.agg [AV.ints IntKind.u64 10 p3], AV.agg [AV.ints IntKind.u64 10 p4]], AV.agg [AV.agg [AV.ints IntKind.u64 10 q5], AV.agg [AV.ints IntKind.u64 10 q6], AV.agg [AV.ints IntKind.u64 10 q7], AV.agg [AV.ints IntKind.u64 10 q8]]], [] => f R p1 p2 p3 p4 q5 q6 q7 q8 (fun v v_1 v_2 v_3 => κ (AV.agg [AV.agg [AV.ints IntKind.u64 10 v], AV.agg [AV.ints IntKind.u64 10 v_1], AV.agg [AV.ints IntKind.u64 10 v_2], AV.agg [AV.ints IntKind.u64 10 v_3]]) [])
  | _, _ => none
theorem con_eq (f : Ty) (R : Type) (κ : AV → List Blk → Option R) (p1 : List Int) (p2 : List Int) (p3 : List Int) (p4 : List Int) (q5 : List Int) (q6 : List Int) (q7 : List Int) (q8 : List Int) : con f R [AV.agg [AV.agg [AV.ints IntKind.u64 10 p1], AV.agg [AV.ints IntKind.u64 10 p2], AV.agg [AV.ints IntKind.u64 10 p3], AV.agg [AV.ints IntKind.u64 10 p4]], AV.agg [AV.agg [AV.ints IntKind.u64 10 q5], AV.agg [AV.ints IntKind.u64 10 q6], AV.agg [AV.ints IntKind.u64 10 q7], AV.agg [AV.ints IntKind.u64 10 q8]]] [] κ = f R p1 p2 p3 p4 q5 q6 q7 q8 (fun v v_1 v_2 v_3 => κ (AV.agg [AV.agg [AV.ints IntKind.u64 10 v], AV.agg [AV.ints IntKind.u64 10 v_1], AV.agg [AV.ints IntKind.u64 10 v_2], AV.agg [AV.ints IntKind.u64 10 v_3]]) []) := rfl
noncomputable def M (N : Nat) : Ty := fun R p1 p2 p3 p4 q5 q6 q7 q8 kr0 => m (twice.M N) (plus.M N) (R := R) N p1 p2 p3 p4 q5 q6 q7 q8 kr0
def gts : List (Nat × AV) := [(19, .ints .u64 10 [134216512, 134217726, 134217726, 134217726, 134217726, 134217726, 134217726, 134217726, 134217726, 134217726])]
theorem gok (N : Nat) : GOk (g (twice.M N) (plus.M N)) := giD_ok hm (by intro p hp; cases hp) (gtL_ok (by decide)) (ovL_ok (by
    intro p hp
    simp only [List.mem_cons, List.not_mem_nil, or_false] at hp
    rcases hp with rfl | rfl
    · exact ⟨(twice.ok N).gt (gtL_sub (by repeat (first | exact subG_nil _ | refine subG_cons (by kernel_rfl) ?_))) (gtL_ok (by decide)), _, Tryd.func54, by kernel_rfl, by kernel_rfl⟩
    · exact ⟨(plus.ok N).gt (gtL_sub (by repeat (first | exact subG_nil _ | refine subG_cons (by kernel_rfl) ?_))) (gtL_ok (by decide)), _, Tryd.func57, by kernel_rfl, by kernel_rfl⟩
)) 1
theorem ok (N : Nat) : SoundC Tryd.prog (gtL gts) 19 (con (M N)) := by
  refine SoundC.mono (evF_ok (gok N) hm an N Tryd.func19) fun R args bs κ r h => ?_
  unfold con at h
  split at h
  · exact (eq (twice.M N) (plus.M N) N κ _ _ _ _ _ _ _ _).trans h
  · cases h
end pAdd


/-! ### Tryd.f14: pNegate -/
namespace pNegate
def an : Anns := ⟨fun i => findA i [], fun i => findA i [], false, fun _ => none⟩
noncomputable def g (mSmall : Small.Ty) (meSub : eSub.Ty) : Gi := giD Tryd.prog (gtL [(19, .ints .u64 10 [134216512, 134217726, 134217726, 134217726, 134217726, 134217726, 134217726, 134217726, 134217726, 134217726])]) (fun _ => an) 0 [] (ovL [(30, Small.con mSmall), (31, eSub.con meSub)]) 1
noncomputable def m (mSmall : Small.Ty) (meSub : eSub.Ty) {R : Type} (_N : Nat) (p1 : List Int) (p2 : List Int) (p3 : List Int) (p4 : List Int) (kr0 : (List Int) → (List Int) → (List Int) → (List Int) → Option R) : Option R :=
  mSmall R 0
   (fun v_c3 => meSub R v_c3 p1
    (fun v_c4 => meSub R v_c3 p4
     (fun v_c5 => kr0 v_c4 p2 p3 v_c5)))
theorem tree (mSmall : Small.Ty) (meSub : eSub.Ty) {R : Type} (N : Nat) (κ : AV → List Blk → Option R) (p1 : List Int) (p2 : List Int) (p3 : List Int) (p4 : List Int) : evF (g mSmall meSub) an N Tryd.f14 [AV.agg [AV.agg [AV.ints IntKind.u64 10 p1], AV.agg [AV.ints IntKind.u64 10 p2], AV.agg [AV.ints IntKind.u64 10 p3], AV.agg [AV.ints IntKind.u64 10 p4]]] [] κ =
  mSmall R 0
   (fun v_c3 => meSub R v_c3 p1
    (fun v_c4 => meSub R v_c3 p4
     (fun v_c5 => κ (AV.agg [AV.agg [AV.ints IntKind.u64 10 v_c4], AV.agg [AV.ints IntKind.u64 10 p2], AV.agg [AV.ints IntKind.u64 10 p3], AV.agg [AV.ints IntKind.u64 10 v_c5]]) []))) := by kernel_rfl
theorem eq (mSmall : Small.Ty) (meSub : eSub.Ty) {R : Type} (N : Nat) (κ : AV → List Blk → Option R) (p1 : List Int) (p2 : List Int) (p3 : List Int) (p4 : List Int) : evF (g mSmall meSub) an N Tryd.f14 [AV.agg [AV.agg [AV.ints IntKind.u64 10 p1], AV.agg [AV.ints IntKind.u64 10 p2], AV.agg [AV.ints IntKind.u64 10 p3], AV.agg [AV.ints IntKind.u64 10 p4]]] [] κ =
  m mSmall meSub N p1 p2 p3 p4 (fun v v_1 v_2 v_3 => κ (AV.agg [AV.agg [AV.ints IntKind.u64 10 v], AV.agg [AV.ints IntKind.u64 10 v_1], AV.agg [AV.ints IntKind.u64 10 v_2], AV.agg [AV.ints IntKind.u64 10 v_3]]) []) := by
  rw [tree]
  kernel_rfl
abbrev Ty : Type 1 := ∀ R : Type, (List Int) → (List Int) → (List Int) → (List Int) → ((List Int) → (List Int) → (List Int) → (List Int) → Option R) → Option R
def con (f : Ty) : Con := fun R args bs κ => match args, bs with
  | [AV.agg [AV.agg [AV.ints IntKind.u64 10 p1], AV.agg [AV.ints IntKind.u64 10 p2], AV.agg [AV.ints IntKind.u64 10 p3], AV.agg [AV.ints IntKind.u64 10 p4]]], [] => f R p1 p2 p3 p4 (fun v v_1 v_2 v_3 => κ (AV.agg [AV.agg [AV.ints IntKind.u64 10 v], AV.agg [AV.ints IntKind.u64 10 v_1], AV.agg [AV.ints IntKind.u64 10 v_2], AV.agg [AV.ints IntKind.u64 10 v_3]]) [])
  | _, _ => none
theorem con_eq (f : Ty) (R : Type) (κ : AV → List Blk → Option R) (p1 : List Int) (p2 : List Int) (p3 : List Int) (p4 : List Int) : con f R [AV.agg [AV.agg [AV.ints IntKind.u64 10 p1], AV.agg [AV.ints IntKind.u64 10 p2], AV.agg [AV.ints IntKind.u64 10 p3], AV.agg [AV.ints IntKind.u64 10 p4]]] [] κ = f R p1 p2 p3 p4 (fun v v_1 v_2 v_3 => κ (AV.agg [AV.agg [AV.ints IntKind.u64 10 v], AV.agg [AV.ints IntKind.u64 10 v_1], AV.agg [AV.ints IntKind.u64 10 v_2], AV.agg [AV.ints IntKind.u64 10 v_3]]) []) := rfl
noncomputable def M (N : Nat) : Ty := fun R p1 p2 p3 p4 kr0 => m (Small.M N) (eSub.M N) (R := R) N p1 p2 p3 p4 kr0
def gts : List (Nat × AV) := [(19, .ints .u64 10 [134216512, 134217726, 134217726, 134217726, 134217726, 134217726, 134217726, 134217726, 134217726, 134217726])]
theorem gok (N : Nat) : GOk (g (Small.M N) (eSub.M N)) := giD_ok hm (by intro p hp; cases hp) (gtL_ok (by decide)) (ovL_ok (by
    intro p hp
    simp only [List.mem_cons, List.not_mem_nil, or_false] at hp
    rcases hp with rfl | rfl
    · exact ⟨(Small.ok N).gt (gtL_sub (by repeat (first | exact subG_nil _ | refine subG_cons (by kernel_rfl) ?_))) (gtL_ok (by decide)), _, Tryd.func30, by kernel_rfl, by kernel_rfl⟩
    · exact ⟨(eSub.ok N).gt (gtL_sub (by repeat (first | exact subG_nil _ | refine subG_cons (by kernel_rfl) ?_))) (gtL_ok (by decide)), _, Tryd.func31, by kernel_rfl, by kernel_rfl⟩
)) 1
theorem ok (N : Nat) : SoundC Tryd.prog (gtL gts) 14 (con (M N)) := by
  refine SoundC.mono (evF_ok (gok N) hm an N Tryd.func14) fun R args bs κ r h => ?_
  unfold con at h
  split at h
  · exact (eq (Small.M N) (eSub.M N) N κ _ _ _ _).trans h
  · cases h
end pNegate


/-! ### Tryd.f55: double -/
namespace double
def an : Anns := ⟨fun i => findA i [], fun i => findA i [], false, fun _ => none⟩
noncomputable def g (mSquare : Square.Ty) (meAdd : eAdd.Ty) (meSub : eSub.Ty) (meTimes : eTimes.Ty) : Gi := giD Tryd.prog (gtL [(19, .ints .u64 10 [134216512, 134217726, 134217726, 134217726, 134217726, 134217726, 134217726, 134217726, 134217726, 134217726])]) (fun _ => an) 0 [] (ovL [(29, Square.con mSquare), (34, eAdd.con meAdd), (31, eSub.con meSub), (32, eTimes.con meTimes)]) 1
noncomputable def m (mSquare : Square.Ty) (meAdd : eAdd.Ty) (meSub : eSub.Ty) (meTimes : eTimes.Ty) {R : Type} (_N : Nat) (p1 : List Int) (p2 : List Int) (p3 : List Int) (_p4 : List Int) (kr0 : (List Int) → (List Int) → (List Int) → (List Int) → Option R) : Option R :=
  mSquare R p1
   (fun v_c14 => mSquare R p2
    (fun v_c15 => mSquare R p3
     (fun v_c16 => meAdd R v_c16 v_c16
      (fun v_c17 => meAdd R v_c14 v_c15
       (fun v_c18 => meAdd R p1 p2
        (fun v_c19 => mSquare R v_c19
         (fun v_c20 => meSub R v_c18 v_c20
          (fun v_c21 => meSub R v_c14 v_c15
           (fun v_c22 => meAdd R v_c17 v_c22
            (fun v_c23 => meTimes R v_c21 v_c23
             (fun v_c24 => meTimes R v_c22 v_c18
              (fun v_c25 => meTimes R v_c23 v_c22
               (fun v_c26 => meTimes R v_c21 v_c18
                (fun v_c27 => kr0 v_c24 v_c25 v_c26 v_c27))))))))))))))
theorem tree (mSquare : Square.Ty) (meAdd : eAdd.Ty) (meSub : eSub.Ty) (meTimes : eTimes.Ty) {R : Type} (N : Nat) (κ : AV → List Blk → Option R) (p1 : List Int) (p2 : List Int) (p3 : List Int) (p4 : List Int) : evF (g mSquare meAdd meSub meTimes) an N Tryd.f55 [AV.agg [AV.agg [AV.ints IntKind.u64 10 p1], AV.agg [AV.ints IntKind.u64 10 p2], AV.agg [AV.ints IntKind.u64 10 p3], AV.agg [AV.ints IntKind.u64 10 p4]]] [] κ =
  mSquare R p1
   (fun v_c14 => mSquare R p2
    (fun v_c15 => mSquare R p3
     (fun v_c16 => meAdd R v_c16 v_c16
      (fun v_c17 => meAdd R v_c14 v_c15
       (fun v_c18 => meAdd R p1 p2
        (fun v_c19 => mSquare R v_c19
         (fun v_c20 => meSub R v_c18 v_c20
          (fun v_c21 => meSub R v_c14 v_c15
           (fun v_c22 => meAdd R v_c17 v_c22
            (fun v_c23 => meTimes R v_c21 v_c23
             (fun v_c24 => meTimes R v_c22 v_c18
              (fun v_c25 => meTimes R v_c23 v_c22
               (fun v_c26 => meTimes R v_c21 v_c18
                (fun v_c27 => κ (AV.agg [AV.agg [AV.ints IntKind.u64 10 v_c24], AV.agg [AV.ints IntKind.u64 10 v_c25], AV.agg [AV.ints IntKind.u64 10 v_c26], AV.agg [AV.ints IntKind.u64 10 v_c27]]) [])))))))))))))) := by kernel_rfl
theorem eq (mSquare : Square.Ty) (meAdd : eAdd.Ty) (meSub : eSub.Ty) (meTimes : eTimes.Ty) {R : Type} (N : Nat) (κ : AV → List Blk → Option R) (p1 : List Int) (p2 : List Int) (p3 : List Int) (p4 : List Int) : evF (g mSquare meAdd meSub meTimes) an N Tryd.f55 [AV.agg [AV.agg [AV.ints IntKind.u64 10 p1], AV.agg [AV.ints IntKind.u64 10 p2], AV.agg [AV.ints IntKind.u64 10 p3], AV.agg [AV.ints IntKind.u64 10 p4]]] [] κ =
  m mSquare meAdd meSub meTimes N p1 p2 p3 p4 (fun v v_1 v_2 v_3 => κ (AV.agg [AV.agg [AV.ints IntKind.u64 10 v], AV.agg [AV.ints IntKind.u64 10 v_1], AV.agg [AV.ints IntKind.u64 10 v_2], AV.agg [AV.ints IntKind.u64 10 v_3]]) []) := by
  rw [tree]
  kernel_rfl
abbrev Ty : Type 1 := ∀ R : Type, (List Int) → (List Int) → (List Int) → (List Int) → ((List Int) → (List Int) → (List Int) → (List Int) → Option R) → Option R
def con (f : Ty) : Con := fun R args bs κ => match args, bs with
  | [AV.agg [AV.agg [AV.ints IntKind.u64 10 p1], AV.agg [AV.ints IntKind.u64 10 p2], AV.agg [AV.ints IntKind.u64 10 p3], AV.agg [AV.ints IntKind.u64 10 p4]]], [] => f R p1 p2 p3 p4 (fun v v_1 v_2 v_3 => κ (AV.agg [AV.agg [AV.ints IntKind.u64 10 v], AV.agg [AV.ints IntKind.u64 10 v_1], AV.agg [AV.ints IntKind.u64 10 v_2], AV.agg [AV.ints IntKind.u64 10 v_3]]) [])
  | _, _ => none
theorem con_eq (f : Ty) (R : Type) (κ : AV → List Blk → Option R) (p1 : List Int) (p2 : List Int) (p3 : List Int) (p4 : List Int) : con f R [AV.agg [AV.agg [AV.ints IntKind.u64 10 p1], AV.agg [AV.ints IntKind.u64 10 p2], AV.agg [AV.ints IntKind.u64 10 p3], AV.agg [AV.ints IntKind.u64 10 p4]]] [] κ = f R p1 p2 p3 p4 (fun v v_1 v_2 v_3 => κ (AV.agg [AV.agg [AV.ints IntKind.u64 10 v], AV.agg [AV.ints IntKind.u64 10 v_1], AV.agg [AV.ints IntKind.u64 10 v_2], AV.agg [AV.ints IntKind.u64 10 v_3]]) []) := rfl
noncomputable def M (N : Nat) : Ty := fun R p1 p2 p3 p4 kr0 => m (Square.M N) (eAdd.M N) (eSub.M N) (eTimes.M N) (R := R) N p1 p2 p3 p4 kr0
def gts : List (Nat × AV) := [(19, .ints .u64 10 [134216512, 134217726, 134217726, 134217726, 134217726, 134217726, 134217726, 134217726, 134217726, 134217726])]
theorem gok (N : Nat) : GOk (g (Square.M N) (eAdd.M N) (eSub.M N) (eTimes.M N)) := giD_ok hm (by intro p hp; cases hp) (gtL_ok (by decide)) (ovL_ok (by
    intro p hp
    simp only [List.mem_cons, List.not_mem_nil, or_false] at hp
    rcases hp with rfl | rfl | rfl | rfl
    · exact ⟨(Square.ok N).gt (gtL_sub (by repeat (first | exact subG_nil _ | refine subG_cons (by kernel_rfl) ?_))) (gtL_ok (by decide)), _, Tryd.func29, by kernel_rfl, by kernel_rfl⟩
    · exact ⟨(eAdd.ok N).gt (gtL_sub (by repeat (first | exact subG_nil _ | refine subG_cons (by kernel_rfl) ?_))) (gtL_ok (by decide)), _, Tryd.func34, by kernel_rfl, by kernel_rfl⟩
    · exact ⟨(eSub.ok N).gt (gtL_sub (by repeat (first | exact subG_nil _ | refine subG_cons (by kernel_rfl) ?_))) (gtL_ok (by decide)), _, Tryd.func31, by kernel_rfl, by kernel_rfl⟩
    · exact ⟨(eTimes.ok N).gt (gtL_sub (by repeat (first | exact subG_nil _ | refine subG_cons (by kernel_rfl) ?_))) (gtL_ok (by decide)), _, Tryd.func32, by kernel_rfl, by kernel_rfl⟩
)) 1
theorem ok (N : Nat) : SoundC Tryd.prog (gtL gts) 55 (con (M N)) := by
  refine SoundC.mono (evF_ok (gok N) hm an N Tryd.func55) fun R args bs κ r h => ?_
  unfold con at h
  split at h
  · exact (eq (Square.M N) (eAdd.M N) (eSub.M N) (eTimes.M N) N κ _ _ _ _).trans h
  · cases h
end double


/-! ### Tryd.f26: pWith -/
namespace pWith
def an : Anns := ⟨fun i => findA i [], fun i => findA i [(0, ⟨[3, 4, 5, 6, 7, 8, 9, 10, 11], [⟨3, 0, .u8⟩, ⟨4, 1, .u8⟩, ⟨5, 2, .u8⟩, ⟨6, 3, .u8⟩, ⟨7, 4, .u8⟩, ⟨8, 5, .u8⟩, ⟨9, 6, .u8⟩, ⟨10, 7, .u8⟩], 8⟩)], false, fun _ => none⟩
noncomputable def g (mtwice : twice.Ty) (mpBase : pBase.Ty) (mplus : plus.Ty) (mpZero : pZero.Ty) (mdouble : double.Ty) (mBit : Bit.Ty) : Gi := giD Tryd.prog (gtL [(19, .ints .u64 10 [134216512, 134217726, 134217726, 134217726, 134217726, 134217726, 134217726, 134217726, 134217726, 134217726])]) (fun _ => an) 0 [] (ovL [(54, twice.con mtwice), (22, pBase.con mpBase), (57, plus.con mplus), (20, pZero.con mpZero), (55, double.con mdouble), (56, Bit.con mBit)]) 1
noncomputable def c_S1 : Code := scopeOf Tryd.f26 0
def s_J1_0 (i11 : Int) (h0 : List Int) (h0_2 : List Int) (h0_3 : List Int) (h0_4 : List Int) (h1 : List Int) (h2 : List Int) (h4 : List Int) (h5v1 : List Int) (h5_9 : List Int) (h5_10 : List Int) (h5_11 : List Int) (h6 : List Int) (h6_13 : List Int) (h6_14 : List Int) (h6_15 : List Int) (h7 : List Int) (h7_17 : List Int) (h7_18 : List Int) (h7_19 : List Int) : St := ⟨[AV.dead, AV.dead, AV.dead, AV.ptr 0 [], AV.ptr 1 [], AV.ptr 2 [], AV.ptr 3 [], AV.ptr 4 [], AV.ptr 5 [], AV.ptr 6 [], AV.ptr 7 [], AV.int IntKind.i64 i11] ++ List.replicate 43 .dead, [Blk.var (AV.agg [AV.agg [AV.ints IntKind.u64 10 h0], AV.agg [AV.ints IntKind.u64 10 h0_2], AV.agg [AV.ints IntKind.u64 10 h0_3], AV.agg [AV.ints IntKind.u64 10 h0_4]]), Blk.var (AV.ints IntKind.u8 32 h1), Blk.var (AV.ints IntKind.u8 32 h2), Blk.var (AV.agg [AV.agg [AV.ints IntKind.u64 10 [0, 0, 0, 0, 0, 0, 0, 0, 0, 0]], AV.agg [AV.ints IntKind.u64 10 [0, 0, 0, 0, 0, 0, 0, 0, 0, 0]], AV.agg [AV.ints IntKind.u64 10 [0, 0, 0, 0, 0, 0, 0, 0, 0, 0]], AV.agg [AV.ints IntKind.u64 10 [0, 0, 0, 0, 0, 0, 0, 0, 0, 0]]]), Blk.var (AV.agg [AV.ints IntKind.u64 10 h4]), Blk.var (AV.agg [AV.agg [AV.ints IntKind.u64 10 h5v1], AV.agg [AV.ints IntKind.u64 10 h5_9], AV.agg [AV.ints IntKind.u64 10 h5_10], AV.agg [AV.ints IntKind.u64 10 h5_11]]), Blk.var (AV.agg [AV.agg [AV.ints IntKind.u64 10 h6], AV.agg [AV.ints IntKind.u64 10 h6_13], AV.agg [AV.ints IntKind.u64 10 h6_14], AV.agg [AV.ints IntKind.u64 10 h6_15]]), Blk.var (AV.agg [AV.agg [AV.ints IntKind.u64 10 h7], AV.agg [AV.ints IntKind.u64 10 h7_17], AV.agg [AV.ints IntKind.u64 10 h7_18], AV.agg [AV.ints IntKind.u64 10 h7_19]])]⟩
def x_S1_0 (i11 : Int) (h0 : List Int) (h0_2 : List Int) (h0_3 : List Int) (h0_4 : List Int) (h1 : List Int) (h2 : List Int) (h4 : List Int) (h5v1 : List Int) (h5_9 : List Int) (h5_10 : List Int) (h5_11 : List Int) (h6 : List Int) (h6_13 : List Int) (h6_14 : List Int) (h6_15 : List Int) (h7 : List Int) (h7_17 : List Int) (h7_18 : List Int) (h7_19 : List Int) : St := ⟨[AV.dead, AV.dead, AV.dead, AV.ptr 0 [], AV.ptr 1 [], AV.ptr 2 [], AV.ptr 3 [], AV.ptr 4 [], AV.ptr 5 [], AV.ptr 6 [], AV.ptr 7 [], AV.int IntKind.i64 i11] ++ List.replicate 9 .dead ++ [AV.int IntKind.i64 i11, AV.bool (decide (i11 ≥ 0))] ++ List.replicate 31 .dead ++ [AV.agg [AV.agg [AV.ints IntKind.u64 10 h7], AV.agg [AV.ints IntKind.u64 10 h7_17], AV.agg [AV.ints IntKind.u64 10 h7_18], AV.agg [AV.ints IntKind.u64 10 h7_19]]], [Blk.var (AV.agg [AV.agg [AV.ints IntKind.u64 10 h0], AV.agg [AV.ints IntKind.u64 10 h0_2], AV.agg [AV.ints IntKind.u64 10 h0_3], AV.agg [AV.ints IntKind.u64 10 h0_4]]), Blk.var (AV.ints IntKind.u8 32 h1), Blk.var (AV.ints IntKind.u8 32 h2), Blk.var (AV.agg [AV.agg [AV.ints IntKind.u64 10 h7], AV.agg [AV.ints IntKind.u64 10 h7_17], AV.agg [AV.ints IntKind.u64 10 h7_18], AV.agg [AV.ints IntKind.u64 10 h7_19]]), Blk.var (AV.agg [AV.ints IntKind.u64 10 h4]), Blk.var (AV.agg [AV.agg [AV.ints IntKind.u64 10 h5v1], AV.agg [AV.ints IntKind.u64 10 h5_9], AV.agg [AV.ints IntKind.u64 10 h5_10], AV.agg [AV.ints IntKind.u64 10 h5_11]]), Blk.var (AV.agg [AV.agg [AV.ints IntKind.u64 10 h6], AV.agg [AV.ints IntKind.u64 10 h6_13], AV.agg [AV.ints IntKind.u64 10 h6_14], AV.agg [AV.ints IntKind.u64 10 h6_15]]), Blk.var (AV.agg [AV.agg [AV.ints IntKind.u64 10 h7], AV.agg [AV.ints IntKind.u64 10 h7_17], AV.agg [AV.ints IntKind.u64 10 h7_18], AV.agg [AV.ints IntKind.u64 10 h7_19]])]⟩
noncomputable def J1_0 (mtwice : twice.Ty) (mpBase : pBase.Ty) (mplus : plus.Ty) (mpZero : pZero.Ty) (mdouble : double.Ty) (mBit : Bit.Ty) {R : Type} (N : Nat) (ke0 : Int → (List Int) → (List Int) → (List Int) → (List Int) → (List Int) → (List Int) → (List Int) → (List Int) → (List Int) → (List Int) → (List Int) → (List Int) → (List Int) → (List Int) → (List Int) → (List Int) → (List Int) → (List Int) → (List Int) → Option R) : Nat → Int → (List Int) → (List Int) → (List Int) → (List Int) → (List Int) → (List Int) → (List Int) → (List Int) → (List Int) → (List Int) → (List Int) → (List Int) → (List Int) → (List Int) → (List Int) → (List Int) → (List Int) → (List Int) → (List Int) → Option R
  | 0, _, _, _, _, _, _, _, _, _, _, _, _, _, _, _, _, _, _, _, _ => none
  | m + 1, i11, h0, h0_2, h0_3, h0_4, h1, h2, h4, h5v1, h5_9, h5_10, h5_11, h6, h6_13, h6_14, h6_15, h7, h7_17, h7_18, h7_19 =>
    cond (decide (i11 ≥ 0))
     (mdouble R h7 h7_17 h7_18 h7_19
      (fun v_c125 v_1_c126 v_2_c127 v_3_c128 => mBit R h1 i11
       (fun v_c129 => mBit R h2 i11
        (fun v_c130 => cond v_c129
         (cond v_c130
          (mplus R v_c125 v_1_c126 v_2_c127 v_3_c128 h6 h6_13 h6_14 h6_15 h4
           (fun v_c131 v_1_c132 v_2_c133 v_3_c134 => J1_0 mtwice mpBase mplus mpZero mdouble mBit N ke0 m (IntKind.i64.wrap (i11 - 1)) h0 h0_2 h0_3 h0_4 h1 h2 h4 h5v1 h5_9 h5_10 h5_11 h6 h6_13 h6_14 h6_15 v_c131 v_1_c132 v_2_c133 v_3_c134))
          (cond v_c129
           (mplus R v_c125 v_1_c126 v_2_c127 v_3_c128 h0 h0_2 h0_3 h0_4 h4
            (fun v_c135 v_1_c136 v_2_c137 v_3_c138 => J1_0 mtwice mpBase mplus mpZero mdouble mBit N ke0 m (IntKind.i64.wrap (i11 - 1)) h0 h0_2 h0_3 h0_4 h1 h2 h4 h5v1 h5_9 h5_10 h5_11 h6 h6_13 h6_14 h6_15 v_c135 v_1_c136 v_2_c137 v_3_c138))
           (cond v_c130
            (mplus R v_c125 v_1_c126 v_2_c127 v_3_c128 h5v1 h5_9 h5_10 h5_11 h4
             (fun v_c139 v_1_c140 v_2_c141 v_3_c142 => J1_0 mtwice mpBase mplus mpZero mdouble mBit N ke0 m (IntKind.i64.wrap (i11 - 1)) h0 h0_2 h0_3 h0_4 h1 h2 h4 h5v1 h5_9 h5_10 h5_11 h6 h6_13 h6_14 h6_15 v_c139 v_1_c140 v_2_c141 v_3_c142))
            (J1_0 mtwice mpBase mplus mpZero mdouble mBit N ke0 m (IntKind.i64.wrap (i11 - 1)) h0 h0_2 h0_3 h0_4 h1 h2 h4 h5v1 h5_9 h5_10 h5_11 h6 h6_13 h6_14 h6_15 v_c125 v_1_c126 v_2_c127 v_3_c128))))
         (cond v_c129
          (mplus R v_c125 v_1_c126 v_2_c127 v_3_c128 h0 h0_2 h0_3 h0_4 h4
           (fun v_c143 v_1_c144 v_2_c145 v_3_c146 => J1_0 mtwice mpBase mplus mpZero mdouble mBit N ke0 m (IntKind.i64.wrap (i11 - 1)) h0 h0_2 h0_3 h0_4 h1 h2 h4 h5v1 h5_9 h5_10 h5_11 h6 h6_13 h6_14 h6_15 v_c143 v_1_c144 v_2_c145 v_3_c146))
          (cond v_c130
           (mplus R v_c125 v_1_c126 v_2_c127 v_3_c128 h5v1 h5_9 h5_10 h5_11 h4
            (fun v_c147 v_1_c148 v_2_c149 v_3_c150 => J1_0 mtwice mpBase mplus mpZero mdouble mBit N ke0 m (IntKind.i64.wrap (i11 - 1)) h0 h0_2 h0_3 h0_4 h1 h2 h4 h5v1 h5_9 h5_10 h5_11 h6 h6_13 h6_14 h6_15 v_c147 v_1_c148 v_2_c149 v_3_c150))
           (J1_0 mtwice mpBase mplus mpZero mdouble mBit N ke0 m (IntKind.i64.wrap (i11 - 1)) h0 h0_2 h0_3 h0_4 h1 h2 h4 h5v1 h5_9 h5_10 h5_11 h6 h6_13 h6_14 h6_15 v_c125 v_1_c126 v_2_c127 v_3_c128)))))))
     (ke0 i11 h0 h0_2 h0_3 h0_4 h1 h2 h4 h5v1 h5_9 h5_10 h5_11 h6 h6_13 h6_14 h6_15 h7 h7_17 h7_18 h7_19)
theorem round_J1_0 (mtwice : twice.Ty) (mpBase : pBase.Ty) (mplus : plus.Ty) (mpZero : pZero.Ty) (mdouble : double.Ty) (mBit : Bit.Ty) {R : Type} (N : Nat) (J : Nat → St → Option R) (k : K R) (i11 : Int) (h0 : List Int) (h0_2 : List Int) (h0_3 : List Int) (h0_4 : List Int) (h1 : List Int) (h2 : List Int) (h4 : List Int) (h5v1 : List Int) (h5_9 : List Int) (h5_10 : List Int) (h5_11 : List Int) (h6 : List Int) (h6_13 : List Int) (h6_14 : List Int) (h6_15 : List Int) (h7 : List Int) (h7_17 : List Int) (h7_18 : List Int) (h7_19 : List Int) : evC (g mtwice mpBase mplus mpZero mdouble mBit) an 0 N c_S1 (some 0) { k with gto := gotoK (hasL c_S1) (fun l => nmOf 0 (an.label l)) k J } (s_J1_0 i11 h0 h0_2 h0_3 h0_4 h1 h2 h4 h5v1 h5_9 h5_10 h5_11 h6 h6_13 h6_14 h6_15 h7 h7_17 h7_18 h7_19) =
  cond (decide (i11 ≥ 0))
   (mdouble R h7 h7_17 h7_18 h7_19
    (fun v_c125 v_1_c126 v_2_c127 v_3_c128 => mBit R h1 i11
     (fun v_c129 => mBit R h2 i11
      (fun v_c130 => cond v_c129
       (cond v_c130
        (mplus R v_c125 v_1_c126 v_2_c127 v_3_c128 h6 h6_13 h6_14 h6_15 h4
         (fun v_c131 v_1_c132 v_2_c133 v_3_c134 => J 0 (s_J1_0 (IntKind.i64.wrap (i11 - 1)) h0 h0_2 h0_3 h0_4 h1 h2 h4 h5v1 h5_9 h5_10 h5_11 h6 h6_13 h6_14 h6_15 v_c131 v_1_c132 v_2_c133 v_3_c134)))
        (cond v_c129
         (mplus R v_c125 v_1_c126 v_2_c127 v_3_c128 h0 h0_2 h0_3 h0_4 h4
          (fun v_c135 v_1_c136 v_2_c137 v_3_c138 => J 0 (s_J1_0 (IntKind.i64.wrap (i11 - 1)) h0 h0_2 h0_3 h0_4 h1 h2 h4 h5v1 h5_9 h5_10 h5_11 h6 h6_13 h6_14 h6_15 v_c135 v_1_c136 v_2_c137 v_3_c138)))
         (cond v_c130
          (mplus R v_c125 v_1_c126 v_2_c127 v_3_c128 h5v1 h5_9 h5_10 h5_11 h4
           (fun v_c139 v_1_c140 v_2_c141 v_3_c142 => J 0 (s_J1_0 (IntKind.i64.wrap (i11 - 1)) h0 h0_2 h0_3 h0_4 h1 h2 h4 h5v1 h5_9 h5_10 h5_11 h6 h6_13 h6_14 h6_15 v_c139 v_1_c140 v_2_c141 v_3_c142)))
          (J 0 (s_J1_0 (IntKind.i64.wrap (i11 - 1)) h0 h0_2 h0_3 h0_4 h1 h2 h4 h5v1 h5_9 h5_10 h5_11 h6 h6_13 h6_14 h6_15 v_c125 v_1_c126 v_2_c127 v_3_c128)))))
       (cond v_c129
        (mplus R v_c125 v_1_c126 v_2_c127 v_3_c128 h0 h0_2 h0_3 h0_4 h4
         (fun v_c143 v_1_c144 v_2_c145 v_3_c146 => J 0 (s_J1_0 (IntKind.i64.wrap (i11 - 1)) h0 h0_2 h0_3 h0_4 h1 h2 h4 h5v1 h5_9 h5_10 h5_11 h6 h6_13 h6_14 h6_15 v_c143 v_1_c144 v_2_c145 v_3_c146)))
        (cond v_c130
         (mplus R v_c125 v_1_c126 v_2_c127 v_3_c128 h5v1 h5_9 h5_10 h5_11 h4
          (fun v_c147 v_1_c148 v_2_c149 v_3_c150 => J 0 (s_J1_0 (IntKind.i64.wrap (i11 - 1)) h0 h0_2 h0_3 h0_4 h1 h2 h4 h5v1 h5_9 h5_10 h5_11 h6 h6_13 h6_14 h6_15 v_c147 v_1_c148 v_2_c149 v_3_c150)))
         (J 0 (s_J1_0 (IntKind.i64.wrap (i11 - 1)) h0 h0_2 h0_3 h0_4 h1 h2 h4 h5v1 h5_9 h5_10 h5_11 h6 h6_13 h6_14 h6_15 v_c125 v_1_c126 v_2_c127 v_3_c128))))))))
   (k.ret (x_S1_0 i11 h0 h0_2 h0_3 h0_4 h1 h2 h4 h5v1 h5_9 h5_10 h5_11 h6 h6_13 h6_14 h6_15 h7 h7_17 h7_18 h7_19)) := by kernel_rfl
theorem run_S1 (mtwice : twice.Ty) (mpBase : pBase.Ty) (mplus : plus.Ty) (mpZero : pZero.Ty) (mdouble : double.Ty) (mBit : Bit.Ty) {R : Type} (N : Nat) (k : K R) : ∀ (m : Nat), (∀ (i11 : Int) (h0 : List Int) (h0_2 : List Int) (h0_3 : List Int) (h0_4 : List Int) (h1 : List Int) (h2 : List Int) (h4 : List Int) (h5v1 : List Int) (h5_9 : List Int) (h5_10 : List Int) (h5_11 : List Int) (h6 : List Int) (h6_13 : List Int) (h6_14 : List Int) (h6_15 : List Int) (h7 : List Int) (h7_17 : List Int) (h7_18 : List Int) (h7_19 : List Int), jumpN (fun l => evC (g mtwice mpBase mplus mpZero mdouble mBit) an 0 N c_S1 (some l)) (hasL c_S1) k (fun l => nmOf 0 (an.label l)) m 0 (s_J1_0 i11 h0 h0_2 h0_3 h0_4 h1 h2 h4 h5v1 h5_9 h5_10 h5_11 h6 h6_13 h6_14 h6_15 h7 h7_17 h7_18 h7_19) =
    J1_0 mtwice mpBase mplus mpZero mdouble mBit N (fun i11 h0 h0_2 h0_3 h0_4 h1 h2 h4 h5v1 h5_9 h5_10 h5_11 h6 h6_13 h6_14 h6_15 h7 h7_17 h7_18 h7_19 => (k).ret (x_S1_0 i11 h0 h0_2 h0_3 h0_4 h1 h2 h4 h5v1 h5_9 h5_10 h5_11 h6 h6_13 h6_14 h6_15 h7 h7_17 h7_18 h7_19)) m i11 h0 h0_2 h0_3 h0_4 h1 h2 h4 h5v1 h5_9 h5_10 h5_11 h6 h6_13 h6_14 h6_15 h7 h7_17 h7_18 h7_19) := by
  intro m
  induction m with
  | zero => exact by intros; rfl
  | succ m ih =>
    · intros; rw [jumpN_succ, round_J1_0]
      simp only [ih]
      kernel_rfl
theorem run_J1_0 (mtwice : twice.Ty) (mpBase : pBase.Ty) (mplus : plus.Ty) (mpZero : pZero.Ty) (mdouble : double.Ty) (mBit : Bit.Ty) {R : Type} (N : Nat) (k : K R) (m : Nat) : (∀ (i11 : Int) (h0 : List Int) (h0_2 : List Int) (h0_3 : List Int) (h0_4 : List Int) (h1 : List Int) (h2 : List Int) (h4 : List Int) (h5v1 : List Int) (h5_9 : List Int) (h5_10 : List Int) (h5_11 : List Int) (h6 : List Int) (h6_13 : List Int) (h6_14 : List Int) (h6_15 : List Int) (h7 : List Int) (h7_17 : List Int) (h7_18 : List Int) (h7_19 : List Int), jumpN (fun l => evC (g mtwice mpBase mplus mpZero mdouble mBit) an 0 N c_S1 (some l)) (hasL c_S1) k (fun l => nmOf 0 (an.label l)) m 0 (s_J1_0 i11 h0 h0_2 h0_3 h0_4 h1 h2 h4 h5v1 h5_9 h5_10 h5_11 h6 h6_13 h6_14 h6_15 h7 h7_17 h7_18 h7_19) =
    J1_0 mtwice mpBase mplus mpZero mdouble mBit N (fun i11 h0 h0_2 h0_3 h0_4 h1 h2 h4 h5v1 h5_9 h5_10 h5_11 h6 h6_13 h6_14 h6_15 h7 h7_17 h7_18 h7_19 => (k).ret (x_S1_0 i11 h0 h0_2 h0_3 h0_4 h1 h2 h4 h5v1 h5_9 h5_10 h5_11 h6 h6_13 h6_14 h6_15 h7 h7_17 h7_18 h7_19)) m i11 h0 h0_2 h0_3 h0_4 h1 h2 h4 h5v1 h5_9 h5_10 h5_11 h6 h6_13 h6_14 h6_15 h7 h7_17 h7_18 h7_19) := (run_S1 mtwice mpBase mplus mpZero mdouble mBit N k m)
noncomputable def m (mtwice : twice.Ty) (mpBase : pBase.Ty) (mplus : plus.Ty) (mpZero : pZero.Ty) (mdouble : double.Ty) (mBit : Bit.Ty) {R : Type} (N : Nat) (p1 : List Int) (p2 : List Int) (p3 : List Int) (p4 : List Int) (h5 : List Int) (s6 : List Int) (kr0 : (List Int) → (List Int) → (List Int) → (List Int) → Option R) : Option R :=
  mtwice R
   (fun v_c102 => mpBase R
    (fun v_c103 v_1_c104 v_2_c105 v_3_c106 => mplus R p1 p2 p3 p4 v_c103 v_1_c104 v_2_c105 v_3_c106 v_c102
     (fun v_c107 v_1_c108 v_2_c109 v_3_c110 => mpZero R
      (fun v_c111 v_1_c112 v_2_c113 v_3_c114 => mdouble R v_c111 v_1_c112 v_2_c113 v_3_c114
       (fun v_c115 v_1_c116 v_2_c117 v_3_c118 => mBit R h5 255
        (fun v_c119 => mBit R s6 255
         (fun v_c120 => cond v_c119
          (cond v_c120
           (mplus R v_c115 v_1_c116 v_2_c117 v_3_c118 v_c107 v_1_c108 v_2_c109 v_3_c110 v_c102
            (fun v_c121 v_1_c122 v_2_c123 v_3_c124 => J1_0 mtwice mpBase mplus mpZero mdouble mBit N
             (fun _i11_c151 _h0_c152 _h0_2_c153 _h0_3_c154 _h0_4_c155 _h1_c156 _h2_c157 _h4_c158 _h5_c159 _h5_9_c160 _h5_10_c161 _h5_11_c162 _h6_c163 _h6_13_c164 _h6_14_c165 _h6_15_c166 h7_c167 h7_17_c168 h7_18_c169 h7_19_c170 => kr0 h7_c167 h7_17_c168 h7_18_c169 h7_19_c170) N 254 p1 p2 p3 p4 h5 s6 v_c102 v_c103 v_1_c104 v_2_c105 v_3_c106 v_c107 v_1_c108 v_2_c109 v_3_c110 v_c121 v_1_c122 v_2_c123 v_3_c124))
           (cond v_c119
            (mplus R v_c115 v_1_c116 v_2_c117 v_3_c118 p1 p2 p3 p4 v_c102
             (fun v_c171 v_1_c172 v_2_c173 v_3_c174 => J1_0 mtwice mpBase mplus mpZero mdouble mBit N
              (fun _i11_c175 _h0_c176 _h0_2_c177 _h0_3_c178 _h0_4_c179 _h1_c180 _h2_c181 _h4_c182 _h5_c183 _h5_9_c184 _h5_10_c185 _h5_11_c186 _h6_c187 _h6_13_c188 _h6_14_c189 _h6_15_c190 h7_c191 h7_17_c192 h7_18_c193 h7_19_c194 => kr0 h7_c191 h7_17_c192 h7_18_c193 h7_19_c194) N 254 p1 p2 p3 p4 h5 s6 v_c102 v_c103 v_1_c104 v_2_c105 v_3_c106 v_c107 v_1_c108 v_2_c109 v_3_c110 v_c171 v_1_c172 v_2_c173 v_3_c174))
            (cond v_c120
             (mplus R v_c115 v_1_c116 v_2_c117 v_3_c118 v_c103 v_1_c104 v_2_c105 v_3_c106 v_c102
              (fun v_c195 v_1_c196 v_2_c197 v_3_c198 => J1_0 mtwice mpBase mplus mpZero mdouble mBit N
               (fun _i11_c199 _h0_c200 _h0_2_c201 _h0_3_c202 _h0_4_c203 _h1_c204 _h2_c205 _h4_c206 _h5_c207 _h5_9_c208 _h5_10_c209 _h5_11_c210 _h6_c211 _h6_13_c212 _h6_14_c213 _h6_15_c214 h7_c215 h7_17_c216 h7_18_c217 h7_19_c218 => kr0 h7_c215 h7_17_c216 h7_18_c217 h7_19_c218) N 254 p1 p2 p3 p4 h5 s6 v_c102 v_c103 v_1_c104 v_2_c105 v_3_c106 v_c107 v_1_c108 v_2_c109 v_3_c110 v_c195 v_1_c196 v_2_c197 v_3_c198))
             (J1_0 mtwice mpBase mplus mpZero mdouble mBit N
              (fun _i11_c219 _h0_c220 _h0_2_c221 _h0_3_c222 _h0_4_c223 _h1_c224 _h2_c225 _h4_c226 _h5_c227 _h5_9_c228 _h5_10_c229 _h5_11_c230 _h6_c231 _h6_13_c232 _h6_14_c233 _h6_15_c234 h7_c235 h7_17_c236 h7_18_c237 h7_19_c238 => kr0 h7_c235 h7_17_c236 h7_18_c237 h7_19_c238) N 254 p1 p2 p3 p4 h5 s6 v_c102 v_c103 v_1_c104 v_2_c105 v_3_c106 v_c107 v_1_c108 v_2_c109 v_3_c110 v_c115 v_1_c116 v_2_c117 v_3_c118))))
          (cond v_c119
           (mplus R v_c115 v_1_c116 v_2_c117 v_3_c118 p1 p2 p3 p4 v_c102
            (fun v_c239 v_1_c240 v_2_c241 v_3_c242 => J1_0 mtwice mpBase mplus mpZero mdouble mBit N
             (fun _i11_c243 _h0_c244 _h0_2_c245 _h0_3_c246 _h0_4_c247 _h1_c248 _h2_c249 _h4_c250 _h5_c251 _h5_9_c252 _h5_10_c253 _h5_11_c254 _h6_c255 _h6_13_c256 _h6_14_c257 _h6_15_c258 h7_c259 h7_17_c260 h7_18_c261 h7_19_c262 => kr0 h7_c259 h7_17_c260 h7_18_c261 h7_19_c262) N 254 p1 p2 p3 p4 h5 s6 v_c102 v_c103 v_1_c104 v_2_c105 v_3_c106 v_c107 v_1_c108 v_2_c109 v_3_c110 v_c239 v_1_c240 v_2_c241 v_3_c242))
           (cond v_c120
            (mplus R v_c115 v_1_c116 v_2_c117 v_3_c118 v_c103 v_1_c104 v_2_c105 v_3_c106 v_c102
             (fun v_c263 v_1_c264 v_2_c265 v_3_c266 => J1_0 mtwice mpBase mplus mpZero mdouble mBit N
              (fun _i11_c267 _h0_c268 _h0_2_c269 _h0_3_c270 _h0_4_c271 _h1_c272 _h2_c273 _h4_c274 _h5_c275 _h5_9_c276 _h5_10_c277 _h5_11_c278 _h6_c279 _h6_13_c280 _h6_14_c281 _h6_15_c282 h7_c283 h7_17_c284 h7_18_c285 h7_19_c286 => kr0 h7_c283 h7_17_c284 h7_18_c285 h7_19_c286) N 254 p1 p2 p3 p4 h5 s6 v_c102 v_c103 v_1_c104 v_2_c105 v_3_c106 v_c107 v_1_c108 v_2_c109 v_3_c110 v_c263 v_1_c264 v_2_c265 v_3_c266))
            (J1_0 mtwice mpBase mplus mpZero mdouble mBit N
             (fun _i11_c287 _h0_c288 _h0_2_c289 _h0_3_c290 _h0_4_c291 _h1_c292 _h2_c293 _h4_c294 _h5_c295 _h5_9_c296 _h5_10_c297 _h5_11_c298 _h6_c299 _h6_13_c300 _h6_14_c301 _h6_15_c302 h7_c303 h7_17_c304 h7_18_c305 h7_19_c306 => kr0 h7_c303 h7_17_c304 h7_18_c305 h7_19_c306) N 254 p1 p2 p3 p4 h5 s6 v_c102 v_c103 v_1_c104 v_2_c105 v_3_c106 v_c107 v_1_c108 v_2_c109 v_3_c110 v_c115 v_1_c116 v_2_c117 v_3_c118))))))))))
theorem tree (mtwice : twice.Ty) (mpBase : pBase.Ty) (mplus : plus.Ty) (mpZero : pZero.Ty) (mdouble : double.Ty) (mBit : Bit.Ty) {R : Type} (N : Nat) (κ : AV → List Blk → Option R) (p1 : List Int) (p2 : List Int) (p3 : List Int) (p4 : List Int) (h5 : List Int) (s6 : List Int) : evF (g mtwice mpBase mplus mpZero mdouble mBit) an N Tryd.f26 [AV.agg [AV.agg [AV.ints IntKind.u64 10 p1], AV.agg [AV.ints IntKind.u64 10 p2], AV.agg [AV.ints IntKind.u64 10 p3], AV.agg [AV.ints IntKind.u64 10 p4]], AV.ints IntKind.u8 32 h5, AV.ints IntKind.u8 32 s6] [] κ =
  mtwice R
   (fun v_c102 => mpBase R
    (fun v_c103 v_1_c104 v_2_c105 v_3_c106 => mplus R p1 p2 p3 p4 v_c103 v_1_c104 v_2_c105 v_3_c106 v_c102
     (fun v_c107 v_1_c108 v_2_c109 v_3_c110 => mpZero R
      (fun v_c111 v_1_c112 v_2_c113 v_3_c114 => mdouble R v_c111 v_1_c112 v_2_c113 v_3_c114
       (fun v_c115 v_1_c116 v_2_c117 v_3_c118 => mBit R h5 255
        (fun v_c119 => mBit R s6 255
         (fun v_c120 => cond v_c119
          (cond v_c120
           (mplus R v_c115 v_1_c116 v_2_c117 v_3_c118 v_c107 v_1_c108 v_2_c109 v_3_c110 v_c102
            (fun v_c121 v_1_c122 v_2_c123 v_3_c124 => jumpN (fun l => evC (g mtwice mpBase mplus mpZero mdouble mBit) an 0 N c_S1 (some l)) (hasL c_S1) (ctx (g mtwice mpBase mplus mpZero mdouble mBit) an 0 N (bodyOf Tryd.f26) [1] (endK (g mtwice mpBase mplus mpZero mdouble mBit) an Tryd.f26 [] κ)) (fun l => nmOf 0 (an.label l)) N 0 (s_J1_0 254 p1 p2 p3 p4 h5 s6 v_c102 v_c103 v_1_c104 v_2_c105 v_3_c106 v_c107 v_1_c108 v_2_c109 v_3_c110 v_c121 v_1_c122 v_2_c123 v_3_c124)))
           (cond v_c119
            (mplus R v_c115 v_1_c116 v_2_c117 v_3_c118 p1 p2 p3 p4 v_c102
             (fun v_c171 v_1_c172 v_2_c173 v_3_c174 => jumpN (fun l => evC (g mtwice mpBase mplus mpZero mdouble mBit) an 0 N c_S1 (some l)) (hasL c_S1) (ctx (g mtwice mpBase mplus mpZero mdouble mBit) an 0 N (bodyOf Tryd.f26) [1] (endK (g mtwice mpBase mplus mpZero mdouble mBit) an Tryd.f26 [] κ)) (fun l => nmOf 0 (an.label l)) N 0 (s_J1_0 254 p1 p2 p3 p4 h5 s6 v_c102 v_c103 v_1_c104 v_2_c105 v_3_c106 v_c107 v_1_c108 v_2_c109 v_3_c110 v_c171 v_1_c172 v_2_c173 v_3_c174)))
            (cond v_c120
             (mplus R v_c115 v_1_c116 v_2_c117 v_3_c118 v_c103 v_1_c104 v_2_c105 v_3_c106 v_c102
              (fun v_c195 v_1_c196 v_2_c197 v_3_c198 => jumpN (fun l => evC (g mtwice mpBase mplus mpZero mdouble mBit) an 0 N c_S1 (some l)) (hasL c_S1) (ctx (g mtwice mpBase mplus mpZero mdouble mBit) an 0 N (bodyOf Tryd.f26) [1] (endK (g mtwice mpBase mplus mpZero mdouble mBit) an Tryd.f26 [] κ)) (fun l => nmOf 0 (an.label l)) N 0 (s_J1_0 254 p1 p2 p3 p4 h5 s6 v_c102 v_c103 v_1_c104 v_2_c105 v_3_c106 v_c107 v_1_c108 v_2_c109 v_3_c110 v_c195 v_1_c196 v_2_c197 v_3_c198)))
             (jumpN (fun l => evC (g mtwice mpBase mplus mpZero mdouble mBit) an 0 N c_S1 (some l)) (hasL c_S1) (ctx (g mtwice mpBase mplus mpZero mdouble mBit) an 0 N (bodyOf Tryd.f26) [1] (endK (g mtwice mpBase mplus mpZero mdouble mBit) an Tryd.f26 [] κ)) (fun l => nmOf 0 (an.label l)) N 0 (s_J1_0 254 p1 p2 p3 p4 h5 s6 v_c102 v_c103 v_1_c104 v_2_c105 v_3_c106 v_c107 v_1_c108 v_2_c109 v_3_c110 v_c115 v_1_c116 v_2_c117 v_3_c118)))))
          (cond v_c119
           (mplus R v_c115 v_1_c116 v_2_c117 v_3_c118 p1 p2 p3 p4 v_c102
            (fun v_c239 v_1_c240 v_2_c241 v_3_c242 => jumpN (fun l => evC (g mtwice mpBase mplus mpZero mdouble mBit) an 0 N c_S1 (some l)) (hasL c_S1) (ctx (g mtwice mpBase mplus mpZero mdouble mBit) an 0 N (bodyOf Tryd.f26) [1] (endK (g mtwice mpBase mplus mpZero mdouble mBit) an Tryd.f26 [] κ)) (fun l => nmOf 0 (an.label l)) N 0 (s_J1_0 254 p1 p2 p3 p4 h5 s6 v_c102 v_c103 v_1_c104 v_2_c105 v_3_c106 v_c107 v_1_c108 v_2_c109 v_3_c110 v_c239 v_1_c240 v_2_c241 v_3_c242)))
           (cond v_c120
            (mplus R v_c115 v_1_c116 v_2_c117 v_3_c118 v_c103 v_1_c104 v_2_c105 v_3_c106 v_c102
             (fun v_c263 v_1_c264 v_2_c265 v_3_c266 => jumpN (fun l => evC (g mtwice mpBase mplus mpZero mdouble mBit) an 0 N c_S1 (some l)) (hasL c_S1) (ctx (g mtwice mpBase mplus mpZero mdouble mBit) an 0 N (bodyOf Tryd.f26) [1] (endK (g mtwice mpBase mplus mpZero mdouble mBit) an Tryd.f26 [] κ)) (fun l => nmOf 0 (an.label l)) N 0 (s_J1_0 254 p1 p2 p3 p4 h5 s6 v_c102 v_c103 v_1_c104 v_2_c105 v_3_c106 v_c107 v_1_c108 v_2_c109 v_3_c110 v_c263 v_1_c264 v_2_c265 v_3_c266)))
            (jumpN (fun l => evC (g mtwice mpBase mplus mpZero mdouble mBit) an 0 N c_S1 (some l)) (hasL c_S1) (ctx (g mtwice mpBase mplus mpZero mdouble mBit) an 0 N (bodyOf Tryd.f26) [1] (endK (g mtwice mpBase mplus mpZero mdouble mBit) an Tryd.f26 [] κ)) (fun l => nmOf 0 (an.label l)) N 0 (s_J1_0 254 p1 p2 p3 p4 h5 s6 v_c102 v_c103 v_1_c104 v_2_c105 v_3_c106 v_c107 v_1_c108 v_2_c109 v_3_c110 v_c115 v_1_c116 v_2_c117 v_3_c118))))))))))) := by kernel_rfl
theorem eq (mtwice : twice.Ty) (mpBase : pBase.Ty) (mplus : plus.Ty) (mpZero : pZero.Ty) (mdouble : double.Ty) (mBit : Bit.Ty) {R : Type} (N : Nat) (κ : AV → List Blk → Option R) (p1 : List Int) (p2 : List Int) (p3 : List Int) (p4 : List Int) (h5 : List Int) (s6 : List Int) : evF (g mtwice mpBase mplus mpZero mdouble mBit) an N Tryd.f26 [AV.agg [AV.agg [AV.ints IntKind.u64 10 p1], AV.agg [AV.ints IntKind.u64 10 p2], AV.agg [AV.ints IntKind.u64 10 p3], AV.agg [AV.ints IntKind.u64 10 p4]], AV.ints IntKind.u8 32 h5, AV.ints IntKind.u8 32 s6] [] κ =
  m mtwice mpBase mplus mpZero mdouble mBit N p1 p2 p3 p4 h5 s6 (fun v v_1 v_2 v_3 => κ (AV.agg [AV.agg [AV.ints IntKind.u64 10 v], AV.agg [AV.ints IntKind.u64 10 v_1], AV.agg [AV.ints IntKind.u64 10 v_2], AV.agg [AV.ints IntKind.u64 10 v_3]]) []) := by
  rw [tree]
  simp only [run_J1_0]
  kernel_rfl
abbrev Ty : Type 1 := ∀ R : Type, (List Int) → (List Int) → (List Int) → (List Int) → (List Int) → (List Int) → ((List Int) → (List Int) → (List Int) → (List Int) → Option R) → Option R
def con (f : Ty) : Con := fun R args bs κ => match args, bs with
  | [AV.agg [AV.agg [AV.ints IntKind.u64 10 p1], AV.agg [AV.ints IntKind.u64 10 p2], AV.agg [AV.ints IntKind.u64 10 p3], AV.agg [AV.ints IntKind.u64 10 p4]], AV.ints IntKind.u8 32 h5, AV.ints IntKind.u8 32 s6], [] => f R p1 p2 p3 p4 h5 s6 (fun v v_1 v_2 v_3 => κ (AV.agg [AV.agg [AV.ints IntKind.u64 10 v], AV.agg [AV.ints IntKind.u64 10 v_1], AV.agg [AV.ints IntKind.u64 10 v_2], AV.agg [AV.ints IntKind.u64 10 v_3]]) [])
  | _, _ => none
theorem con_eq (f : Ty) (R : Type) (κ : AV → List Blk → Option R) (p1 : List Int) (p2 : List Int) (p3 : List Int) (p4 : List Int) (h5 : List Int) (s6 : List Int) : con f R [AV.agg [AV.agg [AV.ints IntKind.u64 10 p1], AV.agg [AV.ints IntKind.u64 10 p2], AV.agg [AV.ints IntKind.u64 10 p3], AV.agg [AV.ints IntKind.u64 10 p4]], AV.ints IntKind.u8 32 h5, AV.ints IntKind.u8 32 s6] [] κ = f R p1 p2 p3 p4 h5 s6 (fun v v_1 v_2 v_3 => κ (AV.agg [AV.agg [AV.ints IntKind.u64 10 v], AV.agg [AV.ints IntKind.u64 10 v_1], AV.agg [AV.ints IntKind.u64 10 v_2], AV.agg [AV.ints IntKind.u64 10 v_3]]) []) := rfl
noncomputable def M (N : Nat) : Ty := fun R p1 p2 p3 p4 h5 s6 kr0 => m (twice.M N) (pBase.M N) (plus.M N) (pZero.M N) (double.M N) (Bit.M N) (R := R) N p1 p2 p3 p4 h5 s6 kr0
def gts : List (Nat × AV) := [(19, .ints .u64 10 [134216512, 134217726, 134217726, 134217726, 134217726, 134217726, 134217726, 134217726, 134217726, 134217726])]
theorem gok (N : Nat) : GOk (g (twice.M N) (pBase.M N) (plus.M N) (pZero.M N) (double.M N) (Bit.M N)) := giD_ok hm (by intro p hp; cases hp) (gtL_ok (by decide)) (ovL_ok (by
    intro p hp
    simp only [List.mem_cons, List.not_mem_nil, or_false] at hp
    rcases hp with rfl | rfl | rfl | rfl | rfl | rfl
    · exact ⟨(twice.ok N).gt (gtL_sub (by repeat (first | exact subG_nil _ | refine subG_cons (by kernel_rfl) ?_))) (gtL_ok (by decide)), _, Tryd.func54, by kernel_rfl, by kernel_rfl⟩
    · exact ⟨(pBase.ok N).gt (gtL_sub (by repeat (first | exact subG_nil _ | refine subG_cons (by kernel_rfl) ?_))) (gtL_ok (by decide)), _, Tryd.func22, by kernel_rfl, by kernel_rfl⟩
    · exact ⟨(plus.ok N).gt (gtL_sub (by repeat (first | exact subG_nil _ | refine subG_cons (by kernel_rfl) ?_))) (gtL_ok (by decide)), _, Tryd.func57, by kernel_rfl, by kernel_rfl⟩
    · exact ⟨(pZero.ok N).gt (gtL_sub (by repeat (first | exact subG_nil _ | refine subG_cons (by kernel_rfl) ?_))) (gtL_ok (by decide)), _, Tryd.func20, by kernel_rfl, by kernel_rfl⟩
    · exact ⟨(double.ok N).gt (gtL_sub (by repeat (first | exact subG_nil _ | refine subG_cons (by kernel_rfl) ?_))) (gtL_ok (by decide)), _, Tryd.func55, by kernel_rfl, by kernel_rfl⟩
    · exact ⟨(Bit.ok N).gt (gtL_sub (by repeat (first | exact subG_nil _ | refine subG_cons (by kernel_rfl) ?_))) (gtL_ok (by decide)), _, Tryd.func56, by kernel_rfl, by kernel_rfl⟩
)) 1
theorem ok (N : Nat) : SoundC Tryd.prog (gtL gts) 26 (con (M N)) := by
  refine SoundC.mono (evF_ok (gok N) hm an N Tryd.func26) fun R args bs κ r h => ?_
  unfold con at h
  split at h
  · exact (eq (twice.M N) (pBase.M N) (plus.M N) (pZero.M N) (double.M N) (Bit.M N) N κ _ _ _ _ _ _).trans h
  · cases h
end pWith


/-! ### Tryd.f17: pTimes -/
namespace pTimes
def an : Anns := ⟨fun i => findA i [], fun i => findA i [(0, ⟨[2, 3, 4, 5, 6, 7], [⟨2, 0, .u8⟩, ⟨3, 1, .u8⟩, ⟨4, 2, .u8⟩, ⟨5, 3, .u8⟩, ⟨6, 4, .u8⟩], 5⟩)], false, fun _ => none⟩
noncomputable def g (mtwice : twice.Ty) (mpZero : pZero.Ty) (mdouble : double.Ty) (mBit : Bit.Ty) (mplus : plus.Ty) : Gi := giD Tryd.prog (gtL [(19, .ints .u64 10 [134216512, 134217726, 134217726, 134217726, 134217726, 134217726, 134217726, 134217726, 134217726, 134217726])]) (fun _ => an) 0 [] (ovL [(54, twice.con mtwice), (20, pZero.con mpZero), (55, double.con mdouble), (56, Bit.con mBit), (57, plus.con mplus)]) 1
noncomputable def c_S1 : Code := scopeOf Tryd.f17 0
def s_J1_0 (i7 : Int) (h0 : List Int) (h0_2 : List Int) (h0_3 : List Int) (h0_4 : List Int) (h1 : List Int) (h3 : List Int) (h4 : List Int) (h4_8 : List Int) (h4_9 : List Int) (h4_10 : List Int) : St := ⟨[AV.dead, AV.dead, AV.ptr 0 [], AV.ptr 1 [], AV.ptr 2 [], AV.ptr 3 [], AV.ptr 4 [], AV.int IntKind.i64 i7] ++ List.replicate 16 .dead, [Blk.var (AV.agg [AV.agg [AV.ints IntKind.u64 10 h0], AV.agg [AV.ints IntKind.u64 10 h0_2], AV.agg [AV.ints IntKind.u64 10 h0_3], AV.agg [AV.ints IntKind.u64 10 h0_4]]), Blk.var (AV.ints IntKind.u8 32 h1), Blk.var (AV.agg [AV.agg [AV.ints IntKind.u64 10 [0, 0, 0, 0, 0, 0, 0, 0, 0, 0]], AV.agg [AV.ints IntKind.u64 10 [0, 0, 0, 0, 0, 0, 0, 0, 0, 0]], AV.agg [AV.ints IntKind.u64 10 [0, 0, 0, 0, 0, 0, 0, 0, 0, 0]], AV.agg [AV.ints IntKind.u64 10 [0, 0, 0, 0, 0, 0, 0, 0, 0, 0]]]), Blk.var (AV.agg [AV.ints IntKind.u64 10 h3]), Blk.var (AV.agg [AV.agg [AV.ints IntKind.u64 10 h4], AV.agg [AV.ints IntKind.u64 10 h4_8], AV.agg [AV.ints IntKind.u64 10 h4_9], AV.agg [AV.ints IntKind.u64 10 h4_10]])]⟩
def x_S1_0 (i7 : Int) (h0 : List Int) (h0_2 : List Int) (h0_3 : List Int) (h0_4 : List Int) (h1 : List Int) (h3 : List Int) (h4 : List Int) (h4_8 : List Int) (h4_9 : List Int) (h4_10 : List Int) : St := ⟨[AV.dead, AV.dead, AV.ptr 0 [], AV.ptr 1 [], AV.ptr 2 [], AV.ptr 3 [], AV.ptr 4 [], AV.int IntKind.i64 i7, AV.dead, AV.dead, AV.int IntKind.i64 i7, AV.bool (decide (i7 ≥ 0))] ++ List.replicate 11 .dead ++ [AV.agg [AV.agg [AV.ints IntKind.u64 10 h4], AV.agg [AV.ints IntKind.u64 10 h4_8], AV.agg [AV.ints IntKind.u64 10 h4_9], AV.agg [AV.ints IntKind.u64 10 h4_10]]], [Blk.var (AV.agg [AV.agg [AV.ints IntKind.u64 10 h0], AV.agg [AV.ints IntKind.u64 10 h0_2], AV.agg [AV.ints IntKind.u64 10 h0_3], AV.agg [AV.ints IntKind.u64 10 h0_4]]), Blk.var (AV.ints IntKind.u8 32 h1), Blk.var (AV.agg [AV.agg [AV.ints IntKind.u64 10 h4], AV.agg [AV.ints IntKind.u64 10 h4_8], AV.agg [AV.ints IntKind.u64 10 h4_9], AV.agg [AV.ints IntKind.u64 10 h4_10]]), Blk.var (AV.agg [AV.ints IntKind.u64 10 h3]), Blk.var (AV.agg [AV.agg [AV.ints IntKind.u64 10 h4], AV.agg [AV.ints IntKind.u64 10 h4_8], AV.agg [AV.ints IntKind.u64 10 h4_9], AV.agg [AV.ints IntKind.u64 10 h4_10]])]⟩
noncomputable def J1_0 (mtwice : twice.Ty) (mpZero : pZero.Ty) (mdouble : double.Ty) (mBit : Bit.Ty) (mplus : plus.Ty) {R : Type} (N : Nat) (ke0 : Int → (List Int) → (List Int) → (List Int) → (List Int) → (List Int) → (List Int) → (List Int) → (List Int) → (List Int) → (List Int) → Option R) : Nat → Int → (List Int) → (List Int) → (List Int) → (List Int) → (List Int) → (List Int) → (List Int) → (List Int) → (List Int) → (List Int) → Option R
  | 0, _, _, _, _, _, _, _, _, _, _, _ => none
  | m + 1, i7, h0, h0_2, h0_3, h0_4, h1, h3, h4, h4_8, h4_9, h4_10 =>
    cond (decide (i7 ≥ 0))
     (mdouble R h4 h4_8 h4_9 h4_10
      (fun v_c71 v_1_c72 v_2_c73 v_3_c74 => mBit R h1 i7
       (fun v_c75 => cond v_c75
        (mplus R v_c71 v_1_c72 v_2_c73 v_3_c74 h0 h0_2 h0_3 h0_4 h3
         (fun v_c76 v_1_c77 v_2_c78 v_3_c79 => J1_0 mtwice mpZero mdouble mBit mplus N ke0 m (IntKind.i64.wrap (i7 - 1)) h0 h0_2 h0_3 h0_4 h1 h3 v_c76 v_1_c77 v_2_c78 v_3_c79))
        (J1_0 mtwice mpZero mdouble mBit mplus N ke0 m (IntKind.i64.wrap (i7 - 1)) h0 h0_2 h0_3 h0_4 h1 h3 v_c71 v_1_c72 v_2_c73 v_3_c74))))
     (ke0 i7 h0 h0_2 h0_3 h0_4 h1 h3 h4 h4_8 h4_9 h4_10)
theorem round_J1_0 (mtwice : twice.Ty) (mpZero : pZero.Ty) (mdouble : double.Ty) (mBit : Bit.Ty) (mplus : plus.Ty) {R : Type} (N : Nat) (J : Nat → St → Option R) (k : K R) (i7 : Int) (h0 : List Int) (h0_2 : List Int) (h0_3 : List Int) (h0_4 : List Int) (h1 : List Int) (h3 : List Int) (h4 : List Int) (h4_8 : List Int) (h4_9 : List Int) (h4_10 : List Int) : evC (g mtwice mpZero mdouble mBit mplus) an 0 N c_S1 (some 0) { k with gto := gotoK (hasL c_S1) (fun l => nmOf 0 (an.label l)) k J } (s_J1_0 i7 h0 h0_2 h0_3 h0_4 h1 h3 h4 h4_8 h4_9 h4_10) =
  cond (decide (i7 ≥ 0))
   (mdouble R h4 h4_8 h4_9 h4_10
    (fun v_c71 v_1_c72 v_2_c73 v_3_c74 => mBit R h1 i7
     (fun v_c75 => cond v_c75
      (mplus R v_c71 v_1_c72 v_2_c73 v_3_c74 h0 h0_2 h0_3 h0_4 h3
       (fun v_c76 v_1_c77 v_2_c78 v_3_c79 => J 0 (s_J1_0 (IntKind.i64.wrap (i7 - 1)) h0 h0_2 h0_3 h0_4 h1 h3 v_c76 v_1_c77 v_2_c78 v_3_c79)))
      (J 0 (s_J1_0 (IntKind.i64.wrap (i7 - 1)) h0 h0_2 h0_3 h0_4 h1 h3 v_c71 v_1_c72 v_2_c73 v_3_c74)))))
   (k.ret (x_S1_0 i7 h0 h0_2 h0_3 h0_4 h1 h3 h4 h4_8 h4_9 h4_10)) := by kernel_rfl
theorem run_S1 (mtwice : twice.Ty) (mpZero : pZero.Ty) (mdouble : double.Ty) (mBit : Bit.Ty) (mplus : plus.Ty) {R : Type} (N : Nat) (k : K R) : ∀ (m : Nat), (∀ (i7 : Int) (h0 : List Int) (h0_2 : List Int) (h0_3 : List Int) (h0_4 : List Int) (h1 : List Int) (h3 : List Int) (h4 : List Int) (h4_8 : List Int) (h4_9 : List Int) (h4_10 : List Int), jumpN (fun l => evC (g mtwice mpZero mdouble mBit mplus) an 0 N c_S1 (some l)) (hasL c_S1) k (fun l => nmOf 0 (an.label l)) m 0 (s_J1_0 i7 h0 h0_2 h0_3 h0_4 h1 h3 h4 h4_8 h4_9 h4_10) =
    J1_0 mtwice mpZero mdouble mBit mplus N (fun i7 h0 h0_2 h0_3 h0_4 h1 h3 h4 h4_8 h4_9 h4_10 => (k).ret (x_S1_0 i7 h0 h0_2 h0_3 h0_4 h1 h3 h4 h4_8 h4_9 h4_10)) m i7 h0 h0_2 h0_3 h0_4 h1 h3 h4 h4_8 h4_9 h4_10) := by
  intro m
  induction m with
  | zero => exact by intros; rfl
  | succ m ih =>
    · intros; rw [jumpN_succ, round_J1_0]
      simp only [ih]
      kernel_rfl
theorem run_J1_0 (mtwice : twice.Ty) (mpZero : pZero.Ty) (mdouble : double.Ty) (mBit : Bit.Ty) (mplus : plus.Ty) {R : Type} (N : Nat) (k : K R) (m : Nat) : (∀ (i7 : Int) (h0 : List Int) (h0_2 : List Int) (h0_3 : List Int) (h0_4 : List Int) (h1 : List Int) (h3 : List Int) (h4 : List Int) (h4_8 : List Int) (h4_9 : List Int) (h4_10 : List Int), jumpN (fun l => evC (g mtwice mpZero mdouble mBit mplus) an 0 N c_S1 (some l)) (hasL c_S1) k (fun l => nmOf 0 (an.label l)) m 0 (s_J1_0 i7 h0 h0_2 h0_3 h0_4 h1 h3 h4 h4_8 h4_9 h4_10) =
    J1_0 mtwice mpZero mdouble mBit mplus N (fun i7 h0 h0_2 h0_3 h0_4 h1 h3 h4 h4_8 h4_9 h4_10 => (k).ret (x_S1_0 i7 h0 h0_2 h0_3 h0_4 h1 h3 h4 h4_8 h4_9 h4_10)) m i7 h0 h0_2 h0_3 h0_4 h1 h3 h4 h4_8 h4_9 h4_10) := (run_S1 mtwice mpZero mdouble mBit mplus N k m)
noncomputable def m (mtwice : twice.Ty) (mpZero : pZero.Ty) (mdouble : double.Ty) (mBit : Bit.Ty) (mplus : plus.Ty) {R : Type} (N : Nat) (p1 : List Int) (p2 : List Int) (p3 : List Int) (p4 : List Int) (s5 : List Int) (kr0 : (List Int) → (List Int) → (List Int) → (List Int) → Option R) : Option R :=
  mtwice R
   (fun v_c57 => mpZero R
    (fun v_c58 v_1_c59 v_2_c60 v_3_c61 => mdouble R v_c58 v_1_c59 v_2_c60 v_3_c61
     (fun v_c62 v_1_c63 v_2_c64 v_3_c65 => mBit R s5 255
      (fun v_c66 => cond v_c66
       (mplus R v_c62 v_1_c63 v_2_c64 v_3_c65 p1 p2 p3 p4 v_c57
        (fun v_c67 v_1_c68 v_2_c69 v_3_c70 => J1_0 mtwice mpZero mdouble mBit mplus N
         (fun _i7_c80 _h0_c81 _h0_2_c82 _h0_3_c83 _h0_4_c84 _h1_c85 _h3_c86 h4_c87 h4_8_c88 h4_9_c89 h4_10_c90 => kr0 h4_c87 h4_8_c88 h4_9_c89 h4_10_c90) N 254 p1 p2 p3 p4 s5 v_c57 v_c67 v_1_c68 v_2_c69 v_3_c70))
       (J1_0 mtwice mpZero mdouble mBit mplus N
        (fun _i7_c91 _h0_c92 _h0_2_c93 _h0_3_c94 _h0_4_c95 _h1_c96 _h3_c97 h4_c98 h4_8_c99 h4_9_c100 h4_10_c101 => kr0 h4_c98 h4_8_c99 h4_9_c100 h4_10_c101) N 254 p1 p2 p3 p4 s5 v_c57 v_c62 v_1_c63 v_2_c64 v_3_c65)))))
theorem tree (mtwice : twice.Ty) (mpZero : pZero.Ty) (mdouble : double.Ty) (mBit : Bit.Ty) (mplus : plus.Ty) {R : Type} (N : Nat) (κ : AV → List Blk → Option R) (p1 : List Int) (p2 : List Int) (p3 : List Int) (p4 : List Int) (s5 : List Int) : evF (g mtwice mpZero mdouble mBit mplus) an N Tryd.f17 [AV.agg [AV.agg [AV.ints IntKind.u64 10 p1], AV.agg [AV.ints IntKind.u64 10 p2], AV.agg [AV.ints IntKind.u64 10 p3], AV.agg [AV.ints IntKind.u64 10 p4]], AV.ints IntKind.u8 32 s5] [] κ =
  mtwice R
   (fun v_c57 => mpZero R
    (fun v_c58 v_1_c59 v_2_c60 v_3_c61 => mdouble R v_c58 v_1_c59 v_2_c60 v_3_c61
     (fun v_c62 v_1_c63 v_2_c64 v_3_c65 => mBit R s5 255
      (fun v_c66 => cond v_c66
       (mplus R v_c62 v_1_c63 v_2_c64 v_3_c65 p1 p2 p3 p4 v_c57
        (fun v_c67 v_1_c68 v_2_c69 v_3_c70 => jumpN (fun l => evC (g mtwice mpZero mdouble mBit mplus) an 0 N c_S1 (some l)) (hasL c_S1) (ctx (g mtwice mpZero mdouble mBit mplus) an 0 N (bodyOf Tryd.f17) [1] (endK (g mtwice mpZero mdouble mBit mplus) an Tryd.f17 [] κ)) (fun l => nmOf 0 (an.label l)) N 0 (s_J1_0 254 p1 p2 p3 p4 s5 v_c57 v_c67 v_1_c68 v_2_c69 v_3_c70)))
       (jumpN (fun l => evC (g mtwice mpZero mdouble mBit mplus) an 0 N c_S1 (some l)) (hasL c_S1) (ctx (g mtwice mpZero mdouble mBit mplus) an 0 N (bodyOf Tryd.f17) [1] (endK (g mtwice mpZero mdouble mBit mplus) an Tryd.f17 [] κ)) (fun l => nmOf 0 (an.label l)) N 0 (s_J1_0 254 p1 p2 p3 p4 s5 v_c57 v_c62 v_1_c63 v_2_c64 v_3_c65)))))) := by kernel_rfl
theorem eq (mtwice : twice.Ty) (mpZero : pZero.Ty) (mdouble : double.Ty) (mBit : Bit.Ty) (mplus : plus.Ty) {R : Type} (N : Nat) (κ : AV → List Blk → Option R) (p1 : List Int) (p2 : List Int) (p3 : List Int) (p4 : List Int) (s5 : List Int) : evF (g mtwice mpZero mdouble mBit mplus) an N Tryd.f17 [AV.agg [AV.agg [AV.ints IntKind.u64 10 p1], AV.agg [AV.ints IntKind.u64 10 p2], AV.agg [AV.ints IntKind.u64 10 p3], AV.agg [AV.ints IntKind.u64 10 p4]], AV.ints IntKind.u8 32 s5] [] κ =
  m mtwice mpZero mdouble mBit mplus N p1 p2 p3 p4 s5 (fun v v_1 v_2 v_3 => κ (AV.agg [AV.agg [AV.ints IntKind.u64 10 v], AV.agg [AV.ints IntKind.u64 10 v_1], AV.agg [AV.ints IntKind.u64 10 v_2], AV.agg [AV.ints IntKind.u64 10 v_3]]) []) := by
  rw [tree]
  simp only [run_J1_0]
  kernel_rfl
abbrev Ty : Type 1 := ∀ R : Type, (List Int) → (List Int) → (List Int) → (List Int) → (List Int) → ((List Int) → (List Int) → (List Int) → (List Int) → Option R) → Option R
def con (f : Ty) : Con := fun R args bs κ => match args, bs with
  | [AV.agg [AV.agg [AV.ints IntKind.u64 10 p1], AV.agg [AV.ints IntKind.u64 10 p2], AV.agg [AV.ints IntKind.u64 10 p3], AV.agg [AV.ints IntKind.u64 10 p4]], AV.ints IntKind.u8 32 s5], [] => f R p1 p2 p3 p4 s5 (fun v v_1 v_2 v_3 => κ (AV.agg [AV.agg [AV.ints IntKind.u64 10 v], AV.agg [AV.ints IntKind.u64 10 v_1], AV.agg [AV.ints IntKind.u64 10 v_2], AV.agg [AV.ints IntKind.u64 10 v_3]]) [])
  | _, _ => none
theorem con_eq (f : Ty) (R : Type) (κ : AV → List Blk → Option R) (p1 : List Int) (p2 : List Int) (p3 : List Int) (p4 : List Int) (s5 : List Int) : con f R [AV.agg [AV.agg [AV.ints IntKind.u64 10 p1], AV.agg [AV.ints IntKind.u64 10 p2], AV.agg [AV.ints IntKind.u64 10 p3], AV.agg [AV.ints IntKind.u64 10 p4]], AV.ints IntKind.u8 32 s5] [] κ = f R p1 p2 p3 p4 s5 (fun v v_1 v_2 v_3 => κ (AV.agg [AV.agg [AV.ints IntKind.u64 10 v], AV.agg [AV.ints IntKind.u64 10 v_1], AV.agg [AV.ints IntKind.u64 10 v_2], AV.agg [AV.ints IntKind.u64 10 v_3]]) []) := rfl
noncomputable def M (N : Nat) : Ty := fun R p1 p2 p3 p4 s5 kr0 => m (twice.M N) (pZero.M N) (double.M N) (Bit.M N) (plus.M N) (R := R) N p1 p2 p3 p4 s5 kr0
def gts : List (Nat × AV) := [(19, .ints .u64 10 [134216512, 134217726, 134217726, 134217726, 134217726, 134217726, 134217726, 134217726, 134217726, 134217726])]
theorem gok (N : Nat) : GOk (g (twice.M N) (pZero.M N) (double.M N) (Bit.M N) (plus.M N)) := giD_ok hm (by intro p hp; cases hp) (gtL_ok (by decide)) (ovL_ok (by
    intro p hp
    simp only [List.mem_cons, List.not_mem_nil, or_false] at hp
    rcases hp with rfl | rfl | rfl | rfl | rfl
    · exact ⟨(twice.ok N).gt (gtL_sub (by repeat (first | exact subG_nil _ | refine subG_cons (by kernel_rfl) ?_))) (gtL_ok (by decide)), _, Tryd.func54, by kernel_rfl, by kernel_rfl⟩
    · exact ⟨(pZero.ok N).gt (gtL_sub (by repeat (first | exact subG_nil _ | refine subG_cons (by kernel_rfl) ?_))) (gtL_ok (by decide)), _, Tryd.func20, by kernel_rfl, by kernel_rfl⟩
    · exact ⟨(double.ok N).gt (gtL_sub (by repeat (first | exact subG_nil _ | refine subG_cons (by kernel_rfl) ?_))) (gtL_ok (by decide)), _, Tryd.func55, by kernel_rfl, by kernel_rfl⟩
    · exact ⟨(Bit.ok N).gt (gtL_sub (by repeat (first | exact subG_nil _ | refine subG_cons (by kernel_rfl) ?_))) (gtL_ok (by decide)), _, Tryd.func56, by kernel_rfl, by kernel_rfl⟩
    · exact ⟨(plus.ok N).gt (gtL_sub (by repeat (first | exact subG_nil _ | refine subG_cons (by kernel_rfl) ?_))) (gtL_ok (by decide)), _, Tryd.func57, by kernel_rfl, by kernel_rfl⟩
)) 1
theorem ok (N : Nat) : SoundC Tryd.prog (gtL gts) 17 (con (M N)) := by
  refine SoundC.mono (evF_ok (gok N) hm an N Tryd.func17) fun R args bs κ r h => ?_
  unfold con at h
  split at h
  · exact (eq (twice.M N) (pZero.M N) (double.M N) (Bit.M N) (plus.M N) N κ _ _ _ _ _).trans h
  · cases h
end pTimes


/-! ### Tryd.f12: pBytes -/
namespace pBytes
def an : Anns := ⟨fun i => findA i [], fun i => findA i [], false, fun _ => none⟩
noncomputable def g (meInvert : eInvert.Ty) (meTimes : eTimes.Ty) (meBytes : eBytes.Ty) (mOdd : Odd.Ty) : Gi := giD Tryd.prog (gtL []) (fun _ => an) 0 [] (ovL [(35, eInvert.con meInvert), (32, eTimes.con meTimes), (49, eBytes.con meBytes), (50, Odd.con mOdd)]) 1
noncomputable def m (meInvert : eInvert.Ty) (meTimes : eTimes.Ty) (meBytes : eBytes.Ty) (mOdd : Odd.Ty) {R : Type} (_N : Nat) (p1 : List Int) (p2 : List Int) (p3 : List Int) (_p4 : List Int) (kr0 : (List Int) → Option R) : Option R :=
  meInvert R p3
   (fun v_c5 => meTimes R p1 v_c5
    (fun v_c6 => meTimes R p2 v_c5
     (fun v_c7 => meBytes R v_c7
      (fun v_c8 => mOdd R v_c6
       (fun v_c9 => cond v_c9
        (kr0 (v_c8.set 31 (ior IntKind.u8 (v_c8.getD 31 0) 128)))
        (kr0 v_c8))))))
theorem tree (meInvert : eInvert.Ty) (meTimes : eTimes.Ty) (meBytes : eBytes.Ty) (mOdd : Odd.Ty) {R : Type} (N : Nat) (κ : AV → List Blk → Option R) (p1 : List Int) (p2 : List Int) (p3 : List Int) (p4 : List Int) : evF (g meInvert meTimes meBytes mOdd) an N Tryd.f12 [AV.agg [AV.agg [AV.ints IntKind.u64 10 p1], AV.agg [AV.ints IntKind.u64 10 p2], AV.agg [AV.ints IntKind.u64 10 p3], AV.agg [AV.ints IntKind.u64 10 p4]]] [] κ =
  meInvert R p3
   (fun v_c5 => meTimes R p1 v_c5
    (fun v_c6 => meTimes R p2 v_c5
     (fun v_c7 => meBytes R v_c7
      (fun v_c8 => mOdd R v_c6
       (fun v_c9 => cond v_c9
        (κ (AV.ints IntKind.u8 32 (v_c8.set 31 (ior IntKind.u8 (v_c8.getD 31 0) 128))) [])
        (κ (AV.ints IntKind.u8 32 v_c8) [])))))) := by kernel_rfl
theorem eq (meInvert : eInvert.Ty) (meTimes : eTimes.Ty) (meBytes : eBytes.Ty) (mOdd : Odd.Ty) {R : Type} (N : Nat) (κ : AV → List Blk → Option R) (p1 : List Int) (p2 : List Int) (p3 : List Int) (p4 : List Int) : evF (g meInvert meTimes meBytes mOdd) an N Tryd.f12 [AV.agg [AV.agg [AV.ints IntKind.u64 10 p1], AV.agg [AV.ints IntKind.u64 10 p2], AV.agg [AV.ints IntKind.u64 10 p3], AV.agg [AV.ints IntKind.u64 10 p4]]] [] κ =
  m meInvert meTimes meBytes mOdd N p1 p2 p3 p4 (fun v => κ (AV.ints IntKind.u8 32 v) []) := by
  rw [tree]
  kernel_rfl
abbrev Ty : Type 1 := ∀ R : Type, (List Int) → (List Int) → (List Int) → (List Int) → ((List Int) → Option R) → Option R
def con (f : Ty) : Con := fun R args bs κ => match args, bs with
  | [AV.agg [AV.agg [AV.ints IntKind.u64 10 p1], AV.agg [AV.ints IntKind.u64 10 p2], AV.agg [AV.ints IntKind.u64 10 p3], AV.agg [AV.ints IntKind.u64 10 p4]]], [] => f R p1 p2 p3 p4 (fun v => κ (AV.ints IntKind.u8 32 v) [])
  | _, _ => none
theorem con_eq (f : Ty) (R : Type) (κ : AV → List Blk → Option R) (p1 : List Int) (p2 : List Int) (p3 : List Int) (p4 : List Int) : con f R [AV.agg [AV.agg [AV.ints IntKind.u64 10 p1], AV.agg [AV.ints IntKind.u64 10 p2], AV.agg [AV.ints IntKind.u64 10 p3], AV.agg [AV.ints IntKind.u64 10 p4]]] [] κ = f R p1 p2 p3 p4 (fun v => κ (AV.ints IntKind.u8 32 v) []) := rfl
noncomputable def M (N : Nat) : Ty := fun R p1 p2 p3 p4 kr0 => m (eInvert.M N) (eTimes.M N) (eBytes.M N) (Odd.M N) (R := R) N p1 p2 p3 p4 kr0
def gts : List (Nat × AV) := []
theorem gok (N : Nat) : GOk (g (eInvert.M N) (eTimes.M N) (eBytes.M N) (Odd.M N)) := giD_ok hm (by intro p hp; cases hp) (gtL_ok (by decide)) (ovL_ok (by
    intro p hp
    simp only [List.mem_cons, List.not_mem_nil, or_false] at hp
    rcases hp with rfl | rfl | rfl | rfl
    · exact ⟨(eInvert.ok N).gt (gtL_sub (by repeat (first | exact subG_nil _ | refine subG_cons (by kernel_rfl) ?_))) (gtL_ok (by decide)), _, Tryd.func35, by kernel_rfl, by kernel_rfl⟩
    · exact ⟨(eTimes.ok N).gt (gtL_sub (by repeat (first | exact subG_nil _ | refine subG_cons (by kernel_rfl) ?_))) (gtL_ok (by decide)), _, Tryd.func32, by kernel_rfl, by kernel_rfl⟩
    · exact ⟨(eBytes.ok N).gt (gtL_sub (by repeat (first | exact subG_nil _ | refine subG_cons (by kernel_rfl) ?_))) (gtL_ok (by decide)), _, Tryd.func49, by kernel_rfl, by kernel_rfl⟩
    · exact ⟨(Odd.ok N).gt (gtL_sub (by repeat (first | exact subG_nil _ | refine subG_cons (by kernel_rfl) ?_))) (gtL_ok (by decide)), _, Tryd.func50, by kernel_rfl, by kernel_rfl⟩
)) 1
theorem ok (N : Nat) : SoundC Tryd.prog (gtL gts) 12 (con (M N)) := by
  refine SoundC.mono (evF_ok (gok N) hm an N Tryd.func12) fun R args bs κ r h => ?_
  unfold con at h
  split at h
  · exact (eq (eInvert.M N) (eTimes.M N) (eBytes.M N) (Odd.M N) N κ _ _ _ _).trans h
  · cases h
end pBytes


/-! ### Tryd.f15: pSame -/
namespace pSame
def an : Anns := ⟨fun i => findA i [], fun i => findA i [], false, fun _ => none⟩
noncomputable def g (meTimes : eTimes.Ty) (mSame : Same.Ty) : Gi := giD Tryd.prog (gtL []) (fun _ => an) 0 [] (ovL [(32, eTimes.con meTimes), (52, Same.con mSame)]) 1
noncomputable def m (meTimes : eTimes.Ty) (mSame : Same.Ty) {R : Type} (_N : Nat) (p1 : List Int) (p2 : List Int) (p3 : List Int) (_p4 : List Int) (q5 : List Int) (q6 : List Int) (q7 : List Int) (_q8 : List Int) (kr0 : Bool → Option R) : Option R :=
  meTimes R p1 q7
   (fun v_c6 => meTimes R q5 p3
    (fun v_c7 => mSame R v_c6 v_c7
     (fun v_c8 => cond v_c8
      (meTimes R p2 q7
       (fun v_c9 => meTimes R q6 p3
        (fun v_c10 => mSame R v_c9 v_c10
         (fun v_c11 => kr0 v_c11))))
      (kr0 false))))
theorem tree (meTimes : eTimes.Ty) (mSame : Same.Ty) {R : Type} (N : Nat) (κ : AV → List Blk → Option R) (p1 : List Int) (p2 : List Int) (p3 : List Int) (p4 : List Int) (q5 : List Int) (q6 : List Int) (q7 : List Int) (q8 : List Int) : evF (g meTimes mSame) an N Tryd.f15 [AV.agg [AV.agg [AV.ints IntKind.u64 10 p1], AV.agg [AV.ints IntKind.u64 10 p2], AV.agg [AV.ints IntKind.u64 10 p3], AV.agg [AV.ints IntKind.u64 10 p4]], AV.agg [AV.agg [AV.ints IntKind.u64 10 q5], AV.agg [AV.ints IntKind.u64 10 q6], AV.agg [AV.ints IntKind.u64 10 q7], AV.agg [AV.ints IntKind.u64 10 q8]]] [] κ =
  meTimes R p1 q7
   (fun v_c6 => meTimes R q5 p3
    (fun v_c7 => mSame R v_c6 v_c7
     (fun v_c8 => cond v_c8
      (meTimes R p2 q7
       (fun v_c9 => meTimes R q6 p3
        (fun v_c10 => mSame R v_c9 v_c10
         (fun v_c11 => κ (AV.bool v_c11) []))))
      (κ (AV.bool false) [])))) := by kernel_rfl
theorem eq (meTimes : eTimes.Ty) (mSame : Same.Ty) {R : Type} (N : Nat) (κ : AV → List Blk → Option R) (p1 : List Int) (p2 : List Int) (p3 : List Int) (p4 : List Int) (q5 : List Int) (q6 : List Int) (q7 : List Int) (q8 : List Int) : evF (g meTimes mSame) an N Tryd.f15 [AV.agg [AV.agg [AV.ints IntKind.u64 10 p1], AV.agg [AV.ints IntKind.u64 10 p2], AV.agg [AV.ints IntKind.u64 10 p3], AV.agg [AV.ints IntKind.u64 10 p4]], AV.agg [AV.agg [AV.ints IntKind.u64 10 q5], AV.agg [AV.ints IntKind.u64 10 q6], AV.agg [AV.ints IntKind.u64 10 q7], AV.agg [AV.ints IntKind.u64 10 q8]]] [] κ =
  m meTimes mSame N p1 p2 p3 p4 q5 q6 q7 q8 (fun v => κ (AV.bool v) []) := by
  rw [tree]
  kernel_rfl
abbrev Ty : Type 1 := ∀ R : Type, (List Int) → (List Int) → (List Int) → (List Int) → (List Int) → (List Int) → (List Int) → (List Int) → (Bool → Option R) → Option R
def con (f : Ty) : Con := fun R args bs κ => match args, bs with
  | [AV.agg [AV.agg [AV.ints IntKind.u64 10 p1], AV.agg [AV.ints IntKind.u64 10 p2], AV.agg [AV.ints IntKind.u64 10 p3], AV.agg [AV.ints IntKind.u64 10 p4]], AV.agg [AV.agg [AV.ints IntKind.u64 10 q5], AV.agg [AV.ints IntKind.u64 10 q6], AV.agg [AV.ints IntKind.u64 10 q7], AV.agg [AV.ints IntKind.u64 10 q8]]], [] => f R p1 p2 p3 p4 q5 q6 q7 q8 (fun v => κ (AV.bool v) [])
  | _, _ => none
theorem con_eq (f : Ty) (R : Type) (κ : AV → List Blk → Option R) (p1 : List Int) (p2 : List Int) (p3 : List Int) (p4 : List Int) (q5 : List Int) (q6 : List Int) (q7 : List Int) (q8 : List Int) : con f R [AV.agg [AV.agg [AV.ints IntKind.u64 10 p1], AV.agg [AV.ints IntKind.u64 10 p2], AV.agg [AV.ints IntKind.u64 10 p3], AV.agg [AV.ints IntKind.u64 10 p4]], AV.agg [AV.agg [AV.ints IntKind.u64 10 q5], AV.agg [AV.ints IntKind.u64 10 q6], AV.agg [AV.ints IntKind.u64 10 q7], AV.agg [AV.ints IntKind.u64 10 q8]]] [] κ = f R p1 p2 p3 p4 q5 q6 q7 q8 (fun v => κ (AV.bool v) []) := rfl
noncomputable def M (N : Nat) : Ty := fun R p1 p2 p3 p4 q5 q6 q7 q8 kr0 => m (eTimes.M N) (Same.M N) (R := R) N p1 p2 p3 p4 q5 q6 q7 q8 kr0
def gts : List (Nat × AV) := []
theorem gok (N : Nat) : GOk (g (eTimes.M N) (Same.M N)) := giD_ok hm (by intro p hp; cases hp) (gtL_ok (by decide)) (ovL_ok (by
    intro p hp
    simp only [List.mem_cons, List.not_mem_nil, or_false] at hp
    rcases hp with rfl | rfl
    · exact ⟨(eTimes.ok N).gt (gtL_sub (by repeat (first | exact subG_nil _ | refine subG_cons (by kernel_rfl) ?_))) (gtL_ok (by decide)), _, Tryd.func32, by kernel_rfl, by kernel_rfl⟩
    · exact ⟨(Same.ok N).gt (gtL_sub (by repeat (first | exact subG_nil _ | refine subG_cons (by kernel_rfl) ?_))) (gtL_ok (by decide)), _, Tryd.func52, by kernel_rfl, by kernel_rfl⟩
)) 1
theorem ok (N : Nat) : SoundC Tryd.prog (gtL gts) 15 (con (M N)) := by
  refine SoundC.mono (evF_ok (gok N) hm an N Tryd.func15) fun R args bs κ r h => ?_
  unfold con at h
  split at h
  · exact (eq (eTimes.M N) (Same.M N) N κ _ _ _ _ _ _ _ _).trans h
  · cases h
end pSame


/-! ### Tryd.f9: pRead -/
namespace pRead
def an : Anns := ⟨fun i => findA i [], fun i => findA i [], false, fun _ => none⟩
noncomputable def g (mStrict : Strict.Ty) (mSquare : Square.Ty) (mSmall : Small.Ty) (meSub : eSub.Ty) (mCurve : Curve.Ty) (meTimes : eTimes.Ty) (meAdd : eAdd.Ty) (meInvert : eInvert.Ty) (meRoot : eRoot.Ty) (meZero : eZero.Ty) (mpat : pat.Ty) : Gi := giD Tryd.prog (gtL [(0, .err 4), (19, .ints .u64 10 [134216512, 134217726, 134217726, 134217726, 134217726, 134217726, 134217726, 134217726, 134217726, 134217726]), (20, .ints .u64 10 [34513072, 59165138, 38243406, 1750207, 53429016, 58652137, 13633939, 58469549, 8409025, 712905])]) (fun _ => an) 0 [] (ovL [(28, Strict.con mStrict), (29, Square.con mSquare), (30, Small.con mSmall), (31, eSub.con meSub), (33, Curve.con mCurve), (32, eTimes.con meTimes), (34, eAdd.con meAdd), (35, eInvert.con meInvert), (36, eRoot.con meRoot), (37, eZero.con meZero), (38, pat.con mpat)]) 1
noncomputable def m (mStrict : Strict.Ty) (mSquare : Square.Ty) (mSmall : Small.Ty) (meSub : eSub.Ty) (mCurve : Curve.Ty) (meTimes : eTimes.Ty) (meAdd : eAdd.Ty) (meInvert : eInvert.Ty) (meRoot : eRoot.Ty) (meZero : eZero.Ty) (mpat : pat.Ty) {R : Type} (_N : Nat) (b1 : List Int) (kr0 : (List Int) → (List Int) → (List Int) → (List Int) → Nat → Option R) : Option R :=
  mStrict R (b1.set 31 (iandn IntKind.u8 (b1.getD 31 0) 128))
   (fun v_c20 v_1_c21 => cond (!v_1_c21.beq 0)
    (kr0 ([0, 0, 0, 0, 0, 0, 0, 0, 0, 0]) ([0, 0, 0, 0, 0, 0, 0, 0, 0, 0]) ([0, 0, 0, 0, 0, 0, 0, 0, 0, 0]) ([0, 0, 0, 0, 0, 0, 0, 0, 0, 0]) v_1_c21)
    (mSquare R v_c20
     (fun v_c22 => mSmall R 1
      (fun v_c23 => meSub R v_c22 v_c23
       (fun v_c24 => mCurve R
        (meTimes R ([56195235, 47411844, 25868126, 20251911, 28682, 31357478, 7604119, 66702899, 15608687, 1343707]) v_c22
         (fun v_c25 => meAdd R v_c25 v_c23
          (fun v_c26 => meInvert R v_c26
           (fun v_c27 => meTimes R v_c24 v_c27
            (fun v_c28 => meRoot R v_c28
             (fun v_c29 v_1_c30 => cond (!v_1_c30)
              (kr0 ([0, 0, 0, 0, 0, 0, 0, 0, 0, 0]) ([0, 0, 0, 0, 0, 0, 0, 0, 0, 0]) ([0, 0, 0, 0, 0, 0, 0, 0, 0, 0]) ([0, 0, 0, 0, 0, 0, 0, 0, 0, 0]) 4)
              (cond (iand IntKind.u8 (b1.getD 31 0) 128 != 0)
               (meZero R v_c29
                (fun v_c31 => cond v_c31
                 (kr0 ([0, 0, 0, 0, 0, 0, 0, 0, 0, 0]) ([0, 0, 0, 0, 0, 0, 0, 0, 0, 0]) ([0, 0, 0, 0, 0, 0, 0, 0, 0, 0]) ([0, 0, 0, 0, 0, 0, 0, 0, 0, 0]) 4)
                 (cond (iand IntKind.u8 (b1.getD 31 0) 128 != 0)
                  (mSmall R 0
                   (fun v_c32 => meSub R v_c32 v_c29
                    (fun v_c33 => mpat R v_c33 v_c20
                     (fun v_c34 v_1_c35 v_2_c36 v_3_c37 => kr0 v_c34 v_1_c35 v_2_c36 v_3_c37 0))))
                  (mpat R v_c29 v_c20
                   (fun v_c38 v_1_c39 v_2_c40 v_3_c41 => kr0 v_c38 v_1_c39 v_2_c40 v_3_c41 0)))))
               (cond (iand IntKind.u8 (b1.getD 31 0) 128 != 0)
                (mSmall R 0
                 (fun v_c42 => meSub R v_c42 v_c29
                  (fun v_c43 => mpat R v_c43 v_c20
                   (fun v_c44 v_1_c45 v_2_c46 v_3_c47 => kr0 v_c44 v_1_c45 v_2_c46 v_3_c47 0))))
                (mpat R v_c29 v_c20
                 (fun v_c48 v_1_c49 v_2_c50 v_3_c51 => kr0 v_c48 v_1_c49 v_2_c50 v_3_c51 0)))))))))))))))
theorem tree (mStrict : Strict.Ty) (mSquare : Square.Ty) (mSmall : Small.Ty) (meSub : eSub.Ty) (mCurve : Curve.Ty) (meTimes : eTimes.Ty) (meAdd : eAdd.Ty) (meInvert : eInvert.Ty) (meRoot : eRoot.Ty) (meZero : eZero.Ty) (mpat : pat.Ty) {R : Type} (N : Nat) (κ : AV → List Blk → Option R) (b1 : List Int) : evF (g mStrict mSquare mSmall meSub mCurve meTimes meAdd meInvert meRoot meZero mpat) an N Tryd.f9 [AV.ints IntKind.u8 32 b1] [] κ =
  mStrict R (b1.set 31 (iandn IntKind.u8 (b1.getD 31 0) 128))
   (fun v_c20 v_1_c21 => cond (!v_1_c21.beq 0)
    (κ (AV.tup [AV.agg [AV.agg [AV.ints IntKind.u64 10 [0, 0, 0, 0, 0, 0, 0, 0, 0, 0]], AV.agg [AV.ints IntKind.u64 10 [0, 0, 0, 0, 0, 0, 0, 0, 0, 0]], AV.agg [AV.ints IntKind.u64 10 [0, 0, 0, 0, 0, 0, 0, 0, 0, 0]], AV.agg [AV.ints IntKind.u64 10 [0, 0, 0, 0, 0, 0, 0, 0, 0, 0]]], AV.err v_1_c21]) [])
    (mSquare R v_c20
     (fun v_c22 => mSmall R 1
      (fun v_c23 => meSub R v_c22 v_c23
       (fun v_c24 => mCurve R
        (meTimes R ([56195235, 47411844, 25868126, 20251911, 28682, 31357478, 7604119, 66702899, 15608687, 1343707]) v_c22
         (fun v_c25 => meAdd R v_c25 v_c23
          (fun v_c26 => meInvert R v_c26
           (fun v_c27 => meTimes R v_c24 v_c27
            (fun v_c28 => meRoot R v_c28
             (fun v_c29 v_1_c30 => cond (!v_1_c30)
              (κ (AV.tup [AV.agg [AV.agg [AV.ints IntKind.u64 10 [0, 0, 0, 0, 0, 0, 0, 0, 0, 0]], AV.agg [AV.ints IntKind.u64 10 [0, 0, 0, 0, 0, 0, 0, 0, 0, 0]], AV.agg [AV.ints IntKind.u64 10 [0, 0, 0, 0, 0, 0, 0, 0, 0, 0]], AV.agg [AV.ints IntKind.u64 10 [0, 0, 0, 0, 0, 0, 0, 0, 0, 0]]], AV.err 4]) [])
              (cond (iand IntKind.u8 (b1.getD 31 0) 128 != 0)
               (meZero R v_c29
                (fun v_c31 => cond v_c31
                 (κ (AV.tup [AV.agg [AV.agg [AV.ints IntKind.u64 10 [0, 0, 0, 0, 0, 0, 0, 0, 0, 0]], AV.agg [AV.ints IntKind.u64 10 [0, 0, 0, 0, 0, 0, 0, 0, 0, 0]], AV.agg [AV.ints IntKind.u64 10 [0, 0, 0, 0, 0, 0, 0, 0, 0, 0]], AV.agg [AV.ints IntKind.u64 10 [0, 0, 0, 0, 0, 0, 0, 0, 0, 0]]], AV.err 4]) [])
                 (cond (iand IntKind.u8 (b1.getD 31 0) 128 != 0)
                  (mSmall R 0
                   (fun v_c32 => meSub R v_c32 v_c29
                    (fun v_c33 => mpat R v_c33 v_c20
                     (fun v_c34 v_1_c35 v_2_c36 v_3_c37 => κ (AV.tup [AV.agg [AV.agg [AV.ints IntKind.u64 10 v_c34], AV.agg [AV.ints IntKind.u64 10 v_1_c35], AV.agg [AV.ints IntKind.u64 10 v_2_c36], AV.agg [AV.ints IntKind.u64 10 v_3_c37]], AV.err 0]) []))))
                  (mpat R v_c29 v_c20
                   (fun v_c38 v_1_c39 v_2_c40 v_3_c41 => κ (AV.tup [AV.agg [AV.agg [AV.ints IntKind.u64 10 v_c38], AV.agg [AV.ints IntKind.u64 10 v_1_c39], AV.agg [AV.ints IntKind.u64 10 v_2_c40], AV.agg [AV.ints IntKind.u64 10 v_3_c41]], AV.err 0]) [])))))
               (cond (iand IntKind.u8 (b1.getD 31 0) 128 != 0)
                (mSmall R 0
                 (fun v_c42 => meSub R v_c42 v_c29
                  (fun v_c43 => mpat R v_c43 v_c20
                   (fun v_c44 v_1_c45 v_2_c46 v_3_c47 => κ (AV.tup [AV.agg [AV.agg [AV.ints IntKind.u64 10 v_c44], AV.agg [AV.ints IntKind.u64 10 v_1_c45], AV.agg [AV.ints IntKind.u64 10 v_2_c46], AV.agg [AV.ints IntKind.u64 10 v_3_c47]], AV.err 0]) []))))
                (mpat R v_c29 v_c20
                 (fun v_c48 v_1_c49 v_2_c50 v_3_c51 => κ (AV.tup [AV.agg [AV.agg [AV.ints IntKind.u64 10 v_c48], AV.agg [AV.ints IntKind.u64 10 v_1_c49], AV.agg [AV.ints IntKind.u64 10 v_2_c50], AV.agg [AV.ints IntKind.u64 10 v_3_c51]], AV.err 0]) []))))))))))))))) := by kernel_rfl
theorem eq (mStrict : Strict.Ty) (mSquare : Square.Ty) (mSmall : Small.Ty) (meSub : eSub.Ty) (mCurve : Curve.Ty) (meTimes : eTimes.Ty) (meAdd : eAdd.Ty) (meInvert : eInvert.Ty) (meRoot : eRoot.Ty) (meZero : eZero.Ty) (mpat : pat.Ty) {R : Type} (N : Nat) (κ : AV → List Blk → Option R) (b1 : List Int) : evF (g mStrict mSquare mSmall meSub mCurve meTimes meAdd meInvert meRoot meZero mpat) an N Tryd.f9 [AV.ints IntKind.u8 32 b1] [] κ =
  m mStrict mSquare mSmall meSub mCurve meTimes meAdd meInvert meRoot meZero mpat N b1 (fun v v_1 v_2 v_3 v_4 => κ (AV.tup [AV.agg [AV.agg [AV.ints IntKind.u64 10 v], AV.agg [AV.ints IntKind.u64 10 v_1], AV.agg [AV.ints IntKind.u64 10 v_2], AV.agg [AV.ints IntKind.u64 10 v_3]], AV.err v_4]) []) := by
  rw [tree]
  kernel_rfl
abbrev Ty : Type 1 := ∀ R : Type, (List Int) → ((List Int) → (List Int) → (List Int) → (List Int) → Nat → Option R) → Option R
def con (f : Ty) : Con := fun R args bs κ => match args, bs with
  | [AV.ints IntKind.u8 32 b1], [] => f R b1 (fun v v_1 v_2 v_3 v_4 => κ (AV.tup [AV.agg [AV.agg [AV.ints IntKind.u64 10 v], AV.agg [AV.ints IntKind.u64 10 v_1], AV.agg [AV.ints IntKind.u64 10 v_2], AV.agg [AV.ints IntKind.u64 10 v_3]], AV.err v_4]) [])
  | _, _ => none
theorem con_eq (f : Ty) (R : Type) (κ : AV → List Blk → Option R) (b1 : List Int) : con f R [AV.ints IntKind.u8 32 b1] [] κ = f R b1 (fun v v_1 v_2 v_3 v_4 => κ (AV.tup [AV.agg [AV.agg [AV.ints IntKind.u64 10 v], AV.agg [AV.ints IntKind.u64 10 v_1], AV.agg [AV.ints IntKind.u64 10 v_2], AV.agg [AV.ints IntKind.u64 10 v_3]], AV.err v_4]) []) := rfl
noncomputable def M (N : Nat) : Ty := fun R b1 kr0 => m (Strict.M N) (Square.M N) (Small.M N) (eSub.M N) (Curve.M N) (eTimes.M N) (eAdd.M N) (eInvert.M N) (eRoot.M N) (eZero.M N) (pat.M N) (R := R) N b1 kr0
def gts : List (Nat × AV) := [(0, .err 4), (19, .ints .u64 10 [134216512, 134217726, 134217726, 134217726, 134217726, 134217726, 134217726, 134217726, 134217726, 134217726]), (20, .ints .u64 10 [34513072, 59165138, 38243406, 1750207, 53429016, 58652137, 13633939, 58469549, 8409025, 712905])]
theorem gok (N : Nat) : GOk (g (Strict.M N) (Square.M N) (Small.M N) (eSub.M N) (Curve.M N) (eTimes.M N) (eAdd.M N) (eInvert.M N) (eRoot.M N) (eZero.M N) (pat.M N)) := giD_ok hm (by intro p hp; cases hp) (gtL_ok (by decide)) (ovL_ok (by
    intro p hp
    simp only [List.mem_cons, List.not_mem_nil, or_false] at hp
    rcases hp with rfl | rfl | rfl | rfl | rfl | rfl | rfl | rfl | rfl | rfl | rfl
    · exact ⟨(Strict.ok N).gt (gtL_sub (by repeat (first | exact subG_nil _ | refine subG_cons (by kernel_rfl) ?_))) (gtL_ok (by decide)), _, Tryd.func28, by kernel_rfl, by kernel_rfl⟩
    · exact ⟨(Square.ok N).gt (gtL_sub (by repeat (first | exact subG_nil _ | refine subG_cons (by kernel_rfl) ?_))) (gtL_ok (by decide)), _, Tryd.func29, by kernel_rfl, by kernel_rfl⟩
    · exact ⟨(Small.ok N).gt (gtL_sub (by repeat (first | exact subG_nil _ | refine subG_cons (by kernel_rfl) ?_))) (gtL_ok (by decide)), _, Tryd.func30, by kernel_rfl, by kernel_rfl⟩
    · exact ⟨(eSub.ok N).gt (gtL_sub (by repeat (first | exact subG_nil _ | refine subG_cons (by kernel_rfl) ?_))) (gtL_ok (by decide)), _, Tryd.func31, by kernel_rfl, by kernel_rfl⟩
    · exact ⟨(Curve.ok N).gt (gtL_sub (by repeat (first | exact subG_nil _ | refine subG_cons (by kernel_rfl) ?_))) (gtL_ok (by decide)), _, Tryd.func33, by kernel_rfl, by kernel_rfl⟩
    · exact ⟨(eTimes.ok N).gt (gtL_sub (by repeat (first | exact subG_nil _ | refine subG_cons (by kernel_rfl) ?_))) (gtL_ok (by decide)), _, Tryd.func32, by kernel_rfl, by kernel_rfl⟩
    · exact ⟨(eAdd.ok N).gt (gtL_sub (by repeat (first | exact subG_nil _ | refine subG_cons (by kernel_rfl) ?_))) (gtL_ok (by decide)), _, Tryd.func34, by kernel_rfl, by kernel_rfl⟩
    · exact ⟨(eInvert.ok N).gt (gtL_sub (by repeat (first | exact subG_nil _ | refine subG_cons (by kernel_rfl) ?_))) (gtL_ok (by decide)), _, Tryd.func35, by kernel_rfl, by kernel_rfl⟩
    · exact ⟨(eRoot.ok N).gt (gtL_sub (by repeat (first | exact subG_nil _ | refine subG_cons (by kernel_rfl) ?_))) (gtL_ok (by decide)), _, Tryd.func36, by kernel_rfl, by kernel_rfl⟩
    · exact ⟨(eZero.ok N).gt (gtL_sub (by repeat (first | exact subG_nil _ | refine subG_cons (by kernel_rfl) ?_))) (gtL_ok (by decide)), _, Tryd.func37, by kernel_rfl, by kernel_rfl⟩
    · exact ⟨(pat.ok N).gt (gtL_sub (by repeat (first | exact subG_nil _ | refine subG_cons (by kernel_rfl) ?_))) (gtL_ok (by decide)), _, Tryd.func38, by kernel_rfl, by kernel_rfl⟩
)) 1
theorem ok (N : Nat) : SoundC Tryd.prog (gtL gts) 9 (con (M N)) := by
  refine SoundC.mono (evF_ok (gok N) hm an N Tryd.func9) fun R args bs κ r h => ?_
  unfold con at h
  split at h
  · exact (eq (Strict.M N) (Square.M N) (Small.M N) (eSub.M N) (Curve.M N) (eTimes.M N) (eAdd.M N) (eInvert.M N) (eRoot.M N) (eZero.M N) (pat.M N) N κ _).trans h
  · cases h
end pRead

end Go.Proofs.YtjaappocnonkbaaDoor.fn
