/- What the bytes of leaves, packages, proposals and contexts are, with the proof; printed by a program. -/
import Derived.Test.YthajoenmfppenaaDoorProg
import Derived.Test.YthajoenmfppenaaDoorEv4
import Derived.Test.YthajoenmfppenaaDoorFnForms
namespace Go.Proofs.YthajoenmfppenaaDoor.fn
open Go Go.Proofs Go.Ev
/-! ### Tryd.f35: isName -/
namespace isName
def an : Anns := ⟨fun i => findA i [], fun i => findA i [], false, fun _ => none, []⟩
noncomputable def g : Gi := giD Tryd.prog (gtL []) (fun _ => an) 0 [] (ovL []) 1
noncomputable def m {R : Type} (_N : Nat) (_bN1 : Option Bool) (b2 : List Int) (kr0 : Bool → Option R) : Option R :=
  cond (decide ((↑b2.length : Int) ≥ 1))
   (kr0 (decide ((↑b2.length : Int) ≤ 32)))
   (kr0 false)
theorem tree {R : Type} (N : Nat) (κ : AV → List Blk → Option R) (bN1 : Option Bool) (b2 : List Int) : evF g an N Tryd.f35 [AV.isl IntKind.u8 bN1 b2] [] κ =
  cond (decide ((↑b2.length : Int) ≥ 1))
   (κ (AV.bool (decide ((↑b2.length : Int) ≤ 32))) [])
   (κ (AV.bool false) []) := by kernel_rfl
theorem eq {R : Type} (N : Nat) (κ : AV → List Blk → Option R) (bN1 : Option Bool) (b2 : List Int) : evF g an N Tryd.f35 [AV.isl IntKind.u8 bN1 b2] [] κ =
  m N bN1 b2 (fun v => κ (AV.bool v) []) := by
  rw [tree]
  kernel_rfl
abbrev Ty : Type 1 := ∀ R : Type, (Option Bool) → (List Int) → (Bool → Option R) → Option R
def con (f : Ty) : Con := fun R args bs κ => match args, bs with
  | [AV.isl IntKind.u8 bN1 b2], [] => f R bN1 b2 (fun v => κ (AV.bool v) [])
  | _, _ => none
theorem con_eq (f : Ty) (R : Type) (κ : AV → List Blk → Option R) (bN1 : Option Bool) (b2 : List Int) : con f R [AV.isl IntKind.u8 bN1 b2] [] κ = f R bN1 b2 (fun v => κ (AV.bool v) []) := rfl
noncomputable def M (N : Nat) : Ty := fun R bN1 b2 kr0 => m (R := R) N bN1 b2 kr0
def gts : List (Nat × AV) := []
theorem gok (_N : Nat) : GOk g := giD_ok hm (by intro p hp; cases hp) (gtL_ok (by decide)) (ovL_ok (by intro p hp; cases hp)) 1
theorem ok (N : Nat) : SoundC Tryd.prog (gtL gts) 35 (con (M N)) := by
  refine SoundC.mono (evF_ok (gok N) hm an N Tryd.func35) fun R args bs κ r h => ?_
  unfold con at h
  split at h
  · exact (eq N κ _ _).trans h
  · cases h
end isName

/-! ### Tryd.f10: fLeaf -/
namespace fLeaf
def an : Anns := ⟨fun i => findA i [], fun i => findA i [], false, fun _ => none, []⟩
noncomputable def g (misName : isName.Ty) (mwneed0 : wneed0.Ty) (mwneed1 : wneed1.Ty) (mwput0 : wput0.Ty) (mwput1 : wput1.Ty) (mwdone0 : wdone0.Ty) (mwdone1 : wdone1.Ty) : Gi := giF (giD Tryd.prog (gtL [(0, .err 1), (2, .err 3), (3, .err 4)]) (fun _ => an) 0 [] (ovL [(35, isName.con misName), (34, wneed.con mwneed0 mwneed1), (36, wput.con mwput0 mwput1), (37, wdone.con mwdone0 mwdone1)]) 1)
noncomputable def m (misName : isName.Ty) (mwneed0 : wneed0.Ty) (_mwneed1 : wneed1.Ty) (mwput0 : wput0.Ty) (mwput1 : wput1.Ty) (_mwdone0 : wdone0.Ty) (mwdone1 : wdone1.Ty) {R : Type} (_N : Nat) (x1 : List Int) (x2 : List Int) (_xN3 : Option Bool) (x4 : List Int) (x5 : List Int) (x6 : List Int) (kr0 : (Option Bool) → (List Int) → Nat → Option R) : Option R :=
  misName R none x4
   (fun v_c34 => mwneed0 R 0 v_c34
    (fun b_c35 => mwput0 R b_c35 none (List.drop 0 (List.take 32 x1))
     (fun b_c36 b_1_c37 => mwput1 R b_c36 b_1_c37 none (List.drop 0 (List.take 32 x2))
      (fun b_c38 b_1_c39 => mwput1 R b_c38 b_1_c39 none x4
       (fun b_c40 b_1_c41 => mwput1 R b_c40 b_1_c41 none (List.drop 0 (List.take 32 x5))
        (fun b_c42 b_1_c43 => mwput1 R b_c42 b_1_c43 none (List.drop 0 (List.take 64 x6))
         (fun b_c44 b_1_c45 => mwdone1 R b_c44 b_1_c45
          (fun v_c46 _b_c47 _b_2_c48 => kr0 (some true) [] v_c46)
          (fun vg1_c49 v_1_c50 v_2_c51 _bg1_c52 => kr0 vg1_c49 v_1_c50 v_2_c51))))))))
theorem tree (misName : isName.Ty) (mwneed0 : wneed0.Ty) (mwneed1 : wneed1.Ty) (mwput0 : wput0.Ty) (mwput1 : wput1.Ty) (mwdone0 : wdone0.Ty) (mwdone1 : wdone1.Ty) {R : Type} (N : Nat) (κ : AV → List Blk → Option R) (x1 : List Int) (x2 : List Int) (xN3 : Option Bool) (x4 : List Int) (x5 : List Int) (x6 : List Int) : evF (g misName mwneed0 mwneed1 mwput0 mwput1 mwdone0 mwdone1) an N Tryd.f10 [AV.agg [AV.ints IntKind.u8 32 x1, AV.ints IntKind.u8 32 x2, AV.isl IntKind.u8 xN3 x4, AV.ints IntKind.u8 32 x5, AV.ints IntKind.u8 64 x6]] [] κ =
  misName R none x4
   (fun v_c34 => mwneed0 R 0 v_c34
    (fun b_c35 => mwput0 R b_c35 none (List.drop 0 (List.take 32 x1))
     (fun b_c36 b_1_c37 => mwput1 R b_c36 b_1_c37 none (List.drop 0 (List.take 32 x2))
      (fun b_c38 b_1_c39 => mwput1 R b_c38 b_1_c39 none x4
       (fun b_c40 b_1_c41 => mwput1 R b_c40 b_1_c41 none (List.drop 0 (List.take 32 x5))
        (fun b_c42 b_1_c43 => mwput1 R b_c42 b_1_c43 none (List.drop 0 (List.take 64 x6))
         (fun b_c44 b_1_c45 => mwdone1 R b_c44 b_1_c45
          (fun v_c46 _b_c47 _b_2_c48 => κ (AV.tup [AV.isl IntKind.u8 (some true) [], AV.err v_c46]) [])
          (fun vg1_c49 v_1_c50 v_2_c51 _bg1_c52 => κ (AV.tup [AV.isl IntKind.u8 vg1_c49 v_1_c50, AV.err v_2_c51]) [])))))))) := by kernel_rfl
theorem eq (misName : isName.Ty) (mwneed0 : wneed0.Ty) (mwneed1 : wneed1.Ty) (mwput0 : wput0.Ty) (mwput1 : wput1.Ty) (mwdone0 : wdone0.Ty) (mwdone1 : wdone1.Ty) {R : Type} (N : Nat) (κ : AV → List Blk → Option R) (x1 : List Int) (x2 : List Int) (xN3 : Option Bool) (x4 : List Int) (x5 : List Int) (x6 : List Int) : evF (g misName mwneed0 mwneed1 mwput0 mwput1 mwdone0 mwdone1) an N Tryd.f10 [AV.agg [AV.ints IntKind.u8 32 x1, AV.ints IntKind.u8 32 x2, AV.isl IntKind.u8 xN3 x4, AV.ints IntKind.u8 32 x5, AV.ints IntKind.u8 64 x6]] [] κ =
  m misName mwneed0 mwneed1 mwput0 mwput1 mwdone0 mwdone1 N x1 x2 xN3 x4 x5 x6 (fun v v_1 v_2 => κ (AV.tup [AV.isl IntKind.u8 v v_1, AV.err v_2]) []) := by
  rw [tree]
  kernel_rfl
abbrev Ty : Type 1 := ∀ R : Type, (List Int) → (List Int) → (Option Bool) → (List Int) → (List Int) → (List Int) → ((Option Bool) → (List Int) → Nat → Option R) → Option R
def con (f : Ty) : Con := fun R args bs κ => match args, bs with
  | [AV.agg [AV.ints IntKind.u8 32 x1, AV.ints IntKind.u8 32 x2, AV.isl IntKind.u8 xN3 x4, AV.ints IntKind.u8 32 x5, AV.ints IntKind.u8 64 x6]], [] => f R x1 x2 xN3 x4 x5 x6 (fun v v_1 v_2 => κ (AV.tup [AV.isl IntKind.u8 v v_1, AV.err v_2]) [])
  | _, _ => none
theorem con_eq (f : Ty) (R : Type) (κ : AV → List Blk → Option R) (x1 : List Int) (x2 : List Int) (xN3 : Option Bool) (x4 : List Int) (x5 : List Int) (x6 : List Int) : con f R [AV.agg [AV.ints IntKind.u8 32 x1, AV.ints IntKind.u8 32 x2, AV.isl IntKind.u8 xN3 x4, AV.ints IntKind.u8 32 x5, AV.ints IntKind.u8 64 x6]] [] κ = f R x1 x2 xN3 x4 x5 x6 (fun v v_1 v_2 => κ (AV.tup [AV.isl IntKind.u8 v v_1, AV.err v_2]) []) := rfl
noncomputable def M (N : Nat) : Ty := fun R x1 x2 xN3 x4 x5 x6 kr0 => m (isName.M N) (wneed0.M N) (wneed1.M N) (wput0.M N) (wput1.M N) (wdone0.M N) (wdone1.M N) (R := R) N x1 x2 xN3 x4 x5 x6 kr0
def gts : List (Nat × AV) := [(0, .err 1), (2, .err 3), (3, .err 4)]
theorem gok (N : Nat) : GOk (g (isName.M N) (wneed0.M N) (wneed1.M N) (wput0.M N) (wput1.M N) (wdone0.M N) (wdone1.M N)) := giF_ok (giD_ok hm (by intro p hp; cases hp) (gtL_ok (by decide)) (ovL_ok (by
    intro p hp
    simp only [List.mem_cons, List.not_mem_nil, or_false] at hp
    rcases hp with rfl | rfl | rfl | rfl
    · exact ⟨(isName.ok N).gt (gtL_sub (by repeat (first | exact subG_nil _ | refine subG_cons (by kernel_rfl) ?_))) (gtL_ok (by decide)), _, Tryd.func35, by kernel_rfl, by kernel_rfl⟩
    · exact ⟨(wneed.ok N).gt (gtL_sub (by repeat (first | exact subG_nil _ | refine subG_cons (by kernel_rfl) ?_))) (gtL_ok (by decide)), _, Tryd.func34, by kernel_rfl, by kernel_rfl⟩
    · exact ⟨(wput.ok N).gt (gtL_sub (by repeat (first | exact subG_nil _ | refine subG_cons (by kernel_rfl) ?_))) (gtL_ok (by decide)), _, Tryd.func36, by kernel_rfl, by kernel_rfl⟩
    · exact ⟨(wdone.ok N).gt (gtL_sub (by repeat (first | exact subG_nil _ | refine subG_cons (by kernel_rfl) ?_))) (gtL_ok (by decide)), _, Tryd.func37, by kernel_rfl, by kernel_rfl⟩
)) 1)
theorem ok (N : Nat) : SoundC Tryd.prog (gtL gts) 10 (con (M N)) := by
  refine SoundC.mono (evF_ok (gok N) hm an N Tryd.func10) fun R args bs κ r h => ?_
  unfold con at h
  split at h
  · exact (eq (isName.M N) (wneed0.M N) (wneed1.M N) (wput0.M N) (wput1.M N) (wdone0.M N) (wdone1.M N) N κ _ _ _ _ _ _).trans h
  · cases h
end fLeaf

/-! ### Tryd.f53: fContext -/
namespace fContext
def an : Anns := ⟨fun i => findA i [], fun i => findA i [], false, fun _ => none, []⟩
noncomputable def g (mwput0 : wput0.Ty) (mwput1 : wput1.Ty) (mwnum0 : wnum0.Ty) (mwnum1 : wnum1.Ty) (mwdone0 : wdone0.Ty) (mwdone1 : wdone1.Ty) : Gi := giF (giD Tryd.prog (gtL [(0, .err 1), (2, .err 3), (3, .err 4)]) (fun _ => an) 0 [] (ovL [(36, wput.con mwput0 mwput1), (41, wnum.con mwnum0 mwnum1), (37, wdone.con mwdone0 mwdone1)]) 1)
noncomputable def m (mwput0 : wput0.Ty) (mwput1 : wput1.Ty) (_mwnum0 : wnum0.Ty) (mwnum1 : wnum1.Ty) (_mwdone0 : wdone0.Ty) (mwdone1 : wdone1.Ty) {R : Type} (_N : Nat) (x1 : List Int) (x2 : Int) (x3 : List Int) (x4 : List Int) (kr0 : (Option Bool) → (List Int) → Nat → Option R) : Option R :=
  mwput0 R 0 none (List.drop 0 (List.take 32 x1))
   (fun b_c26 b_1_c27 => mwnum1 R b_c26 b_1_c27 x2 1099511627776
    (fun b_c28 b_1_c29 => mwput1 R b_c28 b_1_c29 none (List.drop 0 (List.take 32 x3))
     (fun b_c30 b_1_c31 => mwput1 R b_c30 b_1_c31 none (List.drop 0 (List.take 32 x4))
      (fun b_c32 b_1_c33 => mwdone1 R b_c32 b_1_c33
       (fun v_c34 _b_c35 _b_2_c36 => kr0 (some true) [] v_c34)
       (fun vg1_c37 v_1_c38 v_2_c39 _bg1_c40 => kr0 vg1_c37 v_1_c38 v_2_c39)))))
theorem tree (mwput0 : wput0.Ty) (mwput1 : wput1.Ty) (mwnum0 : wnum0.Ty) (mwnum1 : wnum1.Ty) (mwdone0 : wdone0.Ty) (mwdone1 : wdone1.Ty) {R : Type} (N : Nat) (κ : AV → List Blk → Option R) (x1 : List Int) (x2 : Int) (x3 : List Int) (x4 : List Int) : evF (g mwput0 mwput1 mwnum0 mwnum1 mwdone0 mwdone1) an N Tryd.f53 [AV.agg [AV.ints IntKind.u8 32 x1, AV.int IntKind.i64 x2, AV.ints IntKind.u8 32 x3, AV.ints IntKind.u8 32 x4]] [] κ =
  mwput0 R 0 none (List.drop 0 (List.take 32 x1))
   (fun b_c26 b_1_c27 => mwnum1 R b_c26 b_1_c27 x2 1099511627776
    (fun b_c28 b_1_c29 => mwput1 R b_c28 b_1_c29 none (List.drop 0 (List.take 32 x3))
     (fun b_c30 b_1_c31 => mwput1 R b_c30 b_1_c31 none (List.drop 0 (List.take 32 x4))
      (fun b_c32 b_1_c33 => mwdone1 R b_c32 b_1_c33
       (fun v_c34 _b_c35 _b_2_c36 => κ (AV.tup [AV.isl IntKind.u8 (some true) [], AV.err v_c34]) [])
       (fun vg1_c37 v_1_c38 v_2_c39 _bg1_c40 => κ (AV.tup [AV.isl IntKind.u8 vg1_c37 v_1_c38, AV.err v_2_c39]) []))))) := by kernel_rfl
theorem eq (mwput0 : wput0.Ty) (mwput1 : wput1.Ty) (mwnum0 : wnum0.Ty) (mwnum1 : wnum1.Ty) (mwdone0 : wdone0.Ty) (mwdone1 : wdone1.Ty) {R : Type} (N : Nat) (κ : AV → List Blk → Option R) (x1 : List Int) (x2 : Int) (x3 : List Int) (x4 : List Int) : evF (g mwput0 mwput1 mwnum0 mwnum1 mwdone0 mwdone1) an N Tryd.f53 [AV.agg [AV.ints IntKind.u8 32 x1, AV.int IntKind.i64 x2, AV.ints IntKind.u8 32 x3, AV.ints IntKind.u8 32 x4]] [] κ =
  m mwput0 mwput1 mwnum0 mwnum1 mwdone0 mwdone1 N x1 x2 x3 x4 (fun v v_1 v_2 => κ (AV.tup [AV.isl IntKind.u8 v v_1, AV.err v_2]) []) := by
  rw [tree]
  kernel_rfl
abbrev Ty : Type 1 := ∀ R : Type, (List Int) → Int → (List Int) → (List Int) → ((Option Bool) → (List Int) → Nat → Option R) → Option R
def con (f : Ty) : Con := fun R args bs κ => match args, bs with
  | [AV.agg [AV.ints IntKind.u8 32 x1, AV.int IntKind.i64 x2, AV.ints IntKind.u8 32 x3, AV.ints IntKind.u8 32 x4]], [] => f R x1 x2 x3 x4 (fun v v_1 v_2 => κ (AV.tup [AV.isl IntKind.u8 v v_1, AV.err v_2]) [])
  | _, _ => none
theorem con_eq (f : Ty) (R : Type) (κ : AV → List Blk → Option R) (x1 : List Int) (x2 : Int) (x3 : List Int) (x4 : List Int) : con f R [AV.agg [AV.ints IntKind.u8 32 x1, AV.int IntKind.i64 x2, AV.ints IntKind.u8 32 x3, AV.ints IntKind.u8 32 x4]] [] κ = f R x1 x2 x3 x4 (fun v v_1 v_2 => κ (AV.tup [AV.isl IntKind.u8 v v_1, AV.err v_2]) []) := rfl
noncomputable def M (N : Nat) : Ty := fun R x1 x2 x3 x4 kr0 => m (wput0.M N) (wput1.M N) (wnum0.M N) (wnum1.M N) (wdone0.M N) (wdone1.M N) (R := R) N x1 x2 x3 x4 kr0
def gts : List (Nat × AV) := [(0, .err 1), (2, .err 3), (3, .err 4)]
theorem gok (N : Nat) : GOk (g (wput0.M N) (wput1.M N) (wnum0.M N) (wnum1.M N) (wdone0.M N) (wdone1.M N)) := giF_ok (giD_ok hm (by intro p hp; cases hp) (gtL_ok (by decide)) (ovL_ok (by
    intro p hp
    simp only [List.mem_cons, List.not_mem_nil, or_false] at hp
    rcases hp with rfl | rfl | rfl
    · exact ⟨(wput.ok N).gt (gtL_sub (by repeat (first | exact subG_nil _ | refine subG_cons (by kernel_rfl) ?_))) (gtL_ok (by decide)), _, Tryd.func36, by kernel_rfl, by kernel_rfl⟩
    · exact ⟨(wnum.ok N).gt (gtL_sub (by repeat (first | exact subG_nil _ | refine subG_cons (by kernel_rfl) ?_))) (gtL_ok (by decide)), _, Tryd.func41, by kernel_rfl, by kernel_rfl⟩
    · exact ⟨(wdone.ok N).gt (gtL_sub (by repeat (first | exact subG_nil _ | refine subG_cons (by kernel_rfl) ?_))) (gtL_ok (by decide)), _, Tryd.func37, by kernel_rfl, by kernel_rfl⟩
)) 1)
theorem ok (N : Nat) : SoundC Tryd.prog (gtL gts) 53 (con (M N)) := by
  refine SoundC.mono (evF_ok (gok N) hm an N Tryd.func53) fun R args bs κ r h => ?_
  unfold con at h
  split at h
  · exact (eq (wput0.M N) (wput1.M N) (wnum0.M N) (wnum1.M N) (wdone0.M N) (wdone1.M N) N κ _ _ _ _).trans h
  · cases h
end fContext

end Go.Proofs.YthajoenmfppenaaDoor.fn
