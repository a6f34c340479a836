/- What the bytes of leaves, packages, proposals and contexts are, with the proof; printed by a program. -/
import Derived.Test.YthajoenmfppenaaDoorProg
import Derived.Test.YthajoenmfppenaaDoorEv4
import Derived.Test.YthajoenmfppenaaDoorFnForms
namespace Go.Proofs.YthajoenmfppenaaDoor.fn
open Go Go.Proofs Go.Ev

/-! ### Tryd.f35: isName -/
namespace isName
def an : Anns := ⟨fun i => findA i [], fun i => findA i [], false, fun _ => none, []⟩
noncomputable def g : Gi := giD Tryd.prog (gtL []) (fun _ => an) 0 [] (ovL []) 1
noncomputable def m {R : Type} (_N : Nat) (_bN1 : Option Bool) (b2 : List Int) (kr0 : Bool → Option R) : Option R :=
  cond (decide ((↑b2.length : Int) ≥ 1))
   (kr0 (decide ((↑b2.length : Int) ≤ 32)))
   (kr0 false)
theorem tree {R : Type} (N : Nat) (κ : AV → List Blk → Option R) (bN1 : Option Bool) (b2 : List Int) : evF g an N Tryd.f35 [AV.isl IntKind.u8 bN1 b2] [] κ =
  cond (decide ((↑b2.length : Int) ≥ 1))
   (κ (AV.bool (decide ((↑b2.length : Int) ≤ 32))) [])
   (κ (AV.bool false) []) := by kernel_rfl
theorem eq {R : Type} (N : Nat) (κ : AV → List Blk → Option R) (bN1 : Option Bool) (b2 : List Int) : evF g an N Tryd.f35 [AV.isl IntKind.u8 bN1 b2] [] κ =
  m N bN1 b2 (fun v => κ (AV.bool v) []) := by
  rw [tree]
  kernel_rfl
abbrev Ty : Type 1 := ∀ R : Type, (Option Bool) → (List Int) → (Bool → Option R) → Option R
def con (f : Ty) : Con := fun R args bs κ => match args, bs with
  | [AV.isl IntKind.u8 bN1 b2], [] => f R bN1 b2 (fun v => κ (AV.bool v) [])
  | _, _ => none
theorem con_eq (f : Ty) (R : Type) (κ : AV → List Blk → Option R) (bN1 : Option Bool) (b2 : List Int) : con f R [AV.isl IntKind.u8 bN1 b2] [] κ = f R bN1 b2 (fun v => κ (AV.bool v) []) := rfl
noncomputable def M (N : Nat) : Ty := fun R bN1 b2 kr0 => m (R := R) N bN1 b2 kr0
def gts : List (Nat × AV) := []
theorem gok (_N : Nat) : GOk g := giD_ok hm (by intro p hp; cases hp) (gtL_ok (by decide)) (ovL_ok (by intro p hp; cases hp)) 1
theorem ok (N : Nat) : SoundC Tryd.prog (gtL gts) 35 (con (M N)) := by
  refine SoundC.mono (evF_ok (gok N) hm an N Tryd.func35) fun R args bs κ r h => ?_
  unfold con at h
  split at h
  · exact (eq N κ _ _).trans h
  · cases h
end isName


/-! ### Tryd.f10: fLeaf -/
namespace fLeaf
def an : Anns := ⟨fun i => findA i [], fun i => findA i [], false, fun _ => none, []⟩
noncomputable def g (misName : isName.Ty) (mwneed0 : wneed0.Ty) (mwneed1 : wneed1.Ty) (mwput0 : wput0.Ty) (mwput1 : wput1.Ty) (mwdone0 : wdone0.Ty) (mwdone1 : wdone1.Ty) : Gi := giF (giD Tryd.prog (gtL [(0, .err 1), (2, .err 3), (3, .err 4)]) (fun _ => an) 0 [] (ovL [(35, isName.con misName), (34, wneed.con mwneed0 mwneed1), (36, wput.con mwput0 mwput1), (37, wdone.con mwdone0 mwdone1)]) 1)
noncomputable def m (misName : isName.Ty) (mwneed0 : wneed0.Ty) (_mwneed1 : wneed1.Ty) (mwput0 : wput0.Ty) (mwput1 : wput1.Ty) (_mwdone0 : wdone0.Ty) (mwdone1 : wdone1.Ty) {R : Type} (_N : Nat) (x1 : List Int) (x2 : List Int) (_xN3 : Option Bool) (x4 : List Int) (x5 : List Int) (x6 : List Int) (kr0 : (Option Bool) → (List Int) → Nat → Option R) : Option R :=
  misName R none x4
   (fun v_c34 => mwneed0 R 0 v_c34
    (fun b_c35 => mwput0 R b_c35 none (List.drop 0 (List.take 32 x1))
     (fun b_c36 b_1_c37 => mwput1 R b_c36 b_1_c37 none (List.drop 0 (List.take 32 x2))
      (fun b_c38 b_1_c39 => mwput1 R b_c38 b_1_c39 none x4
       (fun b_c40 b_1_c41 => mwput1 R b_c40 b_1_c41 none (List.drop 0 (List.take 32 x5))
        (fun b_c42 b_1_c43 => mwput1 R b_c42 b_1_c43 none (List.drop 0 (List.take 64 x6))
         (fun b_c44 b_1_c45 => mwdone1 R b_c44 b_1_c45
          (fun v_c46 _b_c47 _b_2_c48 => kr0 (some true) [] v_c46)
          (fun vg1_c49 v_1_c50 v_2_c51 _bg1_c52 => kr0 vg1_c49 v_1_c50 v_2_c51))))))))
theorem tree (misName : isName.Ty) (mwneed0 : wneed0.Ty) (mwneed1 : wneed1.Ty) (mwput0 : wput0.Ty) (mwput1 : wput1.Ty) (mwdone0 : wdone0.Ty) (mwdone1 : wdone1.Ty) {R : Type} (N : Nat) (κ : AV → List Blk → Option R) (x1 : List Int) (x2 : List Int) (xN3 : Option Bool) (x4 : List Int) (x5 : List Int) (x6 : List Int) : evF (g misName mwneed0 mwneed1 mwput0 mwput1 mwdone0 mwdone1) an N Tryd.f10 [AV.agg [AV.ints IntKind.u8 32 x1, AV.ints IntKind.u8 32 x2, AV.isl IntKind.u8 xN3 x4, AV.ints IntKind.u8 32 x5, AV.ints IntKind.u8 64 x6]] [] κ =
  misName R none x4
   (fun v_c34 => mwneed0 R 0 v_c34
    (fun b_c35 => mwput0 R b_c35 none (List.drop 0 (List.take 32 x1))
     (fun b_c36 b_1_c37 => mwput1 R b_c36 b_1_c37 none (List.drop 0 (List.take 32 x2))
      (fun b_c38 b_1_c39 => mwput1 R b_c38 b_1_c39 none x4
       (fun b_c40 b_1_c41 => mwput1 R b_c40 b_1_c41 none (List.drop 0 (List.take 32 x5))
        (fun b_c42 b_1_c43 => mwput1 R b_c42 b_1_c43 none (List.drop 0 (List.take 64 x6))
         (fun b_c44 b_1_c45 => mwdone1 R b_c44 b_1_c45
          (fun v_c46 _b_c47 _b_2_c48 => κ (AV.tup [AV.isl IntKind.u8 (some true) [], AV.err v_c46]) [])
          (fun vg1_c49 v_1_c50 v_2_c51 _bg1_c52 => κ (AV.tup [AV.isl IntKind.u8 vg1_c49 v_1_c50, AV.err v_2_c51]) [])))))))) := by kernel_rfl
theorem eq (misName : isName.Ty) (mwneed0 : wneed0.Ty) (mwneed1 : wneed1.Ty) (mwput0 : wput0.Ty) (mwput1 : wput1.Ty) (mwdone0 : wdone0.Ty) (mwdone1 : wdone1.Ty) {R : Type} (N : Nat) (κ : AV → List Blk → Option R) (x1 : List Int) (x2 : List Int) (xN3 : Option Bool) (x4 : List Int) (x5 : List Int) (x6 : List Int) : evF (g misName mwneed0 mwneed1 mwput0 mwput1 mwdone0 mwdone1) an N Tryd.f10 [AV.agg [AV.ints IntKind.u8 32 x1, AV.ints IntKind.u8 32 x2, AV.isl IntKind.u8 xN3 x4, AV.ints IntKind.u8 32 x5, AV.ints IntKind.u8 64 x6]] [] κ =
  m misName mwneed0 mwneed1 mwput0 mwput1 mwdone0 mwdone1 N x1 x2 xN3 x4 x5 x6 (fun v v_1 v_2 => κ (AV.tup [AV.isl IntKind.u8 v v_1, AV.err v_2]) []) := by
  rw [tree]
  kernel_rfl
abbrev Ty : Type 1 := ∀ R : Type, (List Int) → (List Int) → (Option Bool) → (List Int) → (List Int) → (List Int) → ((Option Bool) → (List Int) → Nat → Option R) → Option R
def con (f : Ty) : Con := fun R args bs κ => match args, bs with
  | [AV.agg [AV.ints IntKind.u8 32 x1, AV.ints IntKind.u8 32 x2, AV.isl IntKind.u8 xN3 x4, AV.ints IntKind.u8 32 x5, AV.ints IntKind.u8 64 x6]], [] => f R x1 x2 xN3 x4 x5 x6 (fun v v_1 v_2 => κ (AV.tup [AV.isl IntKind.u8 v v_1, AV.err v_2]) [])
  | _, _ => none
theorem con_eq (f : Ty) (R : Type) (κ : AV → List Blk → Option R) (x1 : List Int) (x2 : List Int) (xN3 : Option Bool) (x4 : List Int) (x5 : List Int) (x6 : List Int) : con f R [AV.agg [AV.ints IntKind.u8 32 x1, AV.ints IntKind.u8 32 x2, AV.isl IntKind.u8 xN3 x4, AV.ints IntKind.u8 32 x5, AV.ints IntKind.u8 64 x6]] [] κ = f R x1 x2 xN3 x4 x5 x6 (fun v v_1 v_2 => κ (AV.tup [AV.isl IntKind.u8 v v_1, AV.err v_2]) []) := rfl
noncomputable def M (N : Nat) : Ty := fun R x1 x2 xN3 x4 x5 x6 kr0 => m (isName.M N) (wneed0.M N) (wneed1.M N) (wput0.M N) (wput1.M N) (wdone0.M N) (wdone1.M N) (R := R) N x1 x2 xN3 x4 x5 x6 kr0
def gts : List (Nat × AV) := [(0, .err 1), (2, .err 3), (3, .err 4)]
theorem gok (N : Nat) : GOk (g (isName.M N) (wneed0.M N) (wneed1.M N) (wput0.M N) (wput1.M N) (wdone0.M N) (wdone1.M N)) := giF_ok (giD_ok hm (by intro p hp; cases hp) (gtL_ok (by decide)) (ovL_ok (by
    intro p hp
    simp only [List.mem_cons, List.not_mem_nil, or_false] at hp
    rcases hp with rfl | rfl | rfl | rfl
    · exact ⟨(isName.ok N).gt (gtL_sub (by repeat (first | exact subG_nil _ | refine subG_cons (by kernel_rfl) ?_))) (gtL_ok (by decide)), _, Tryd.func35, by kernel_rfl, by kernel_rfl⟩
    · exact ⟨(wneed.ok N).gt (gtL_sub (by repeat (first | exact subG_nil _ | refine subG_cons (by kernel_rfl) ?_))) (gtL_ok (by decide)), _, Tryd.func34, by kernel_rfl, by kernel_rfl⟩
    · exact ⟨(wput.ok N).gt (gtL_sub (by repeat (first | exact subG_nil _ | refine subG_cons (by kernel_rfl) ?_))) (gtL_ok (by decide)), _, Tryd.func36, by kernel_rfl, by kernel_rfl⟩
    · exact ⟨(wdone.ok N).gt (gtL_sub (by repeat (first | exact subG_nil _ | refine subG_cons (by kernel_rfl) ?_))) (gtL_ok (by decide)), _, Tryd.func37, by kernel_rfl, by kernel_rfl⟩
)) 1)
theorem ok (N : Nat) : SoundC Tryd.prog (gtL gts) 10 (con (M N)) := by
  refine SoundC.mono (evF_ok (gok N) hm an N Tryd.func10) fun R args bs κ r h => ?_
  unfold con at h
  split at h
  · exact (eq (isName.M N) (wneed0.M N) (wneed1.M N) (wput0.M N) (wput1.M N) (wdone0.M N) (wdone1.M N) N κ _ _ _ _ _ _).trans h
  · cases h
end fLeaf


/-! ### Tryd.f40: fPackage -/
namespace fPackage
def an : Anns := ⟨fun i => findA i [], fun i => findA i [], false, fun _ => none, []⟩
noncomputable def g (mwput0 : wput0.Ty) (mwput1 : wput1.Ty) (mfLeaf : fLeaf.Ty) (mwsub0 : wsub0.Ty) (mwsub1 : wsub1.Ty) (mwdone0 : wdone0.Ty) (mwdone1 : wdone1.Ty) : Gi := giF (giD Tryd.prog (gtL [(0, .err 1), (2, .err 3), (3, .err 4)]) (fun _ => an) 0 [] (ovL [(36, wput.con mwput0 mwput1), (10, fLeaf.con mfLeaf), (39, wsub.con mwsub0 mwsub1), (37, wdone.con mwdone0 mwdone1)]) 1)
noncomputable def m (mwput0 : wput0.Ty) (mwput1 : wput1.Ty) (mfLeaf : fLeaf.Ty) (_mwsub0 : wsub0.Ty) (mwsub1 : wsub1.Ty) (_mwdone0 : wdone0.Ty) (mwdone1 : wdone1.Ty) {R : Type} (_N : Nat) (x1 : List Int) (x2 : List Int) (x3 : List Int) (_xN4 : Option Bool) (x5 : List Int) (x6 : List Int) (x7 : List Int) (x8 : List Int) (kr0 : (Option Bool) → (List Int) → Nat → Option R) : Option R :=
  mwput0 R 0 none (List.drop 0 (List.take 32 x1))
   (fun b_c28 b_1_c29 => mfLeaf R x2 x3 none x5 x6 x7
    (fun v_c30 v_1_c31 v_2_c32 => mwsub1 R b_c28 b_1_c29 v_c30 v_1_c31 v_2_c32
     (fun b_c33 b_1_c34 => mwput1 R b_c33 b_1_c34 none (List.drop 0 (List.take 64 x8))
      (fun b_c35 b_1_c36 => mwdone1 R b_c35 b_1_c36
       (fun v_c37 _b_c38 _b_2_c39 => kr0 (some true) [] v_c37)
       (fun vg1_c40 v_1_c41 v_2_c42 _bg1_c43 => kr0 vg1_c40 v_1_c41 v_2_c42)))))
theorem tree (mwput0 : wput0.Ty) (mwput1 : wput1.Ty) (mfLeaf : fLeaf.Ty) (mwsub0 : wsub0.Ty) (mwsub1 : wsub1.Ty) (mwdone0 : wdone0.Ty) (mwdone1 : wdone1.Ty) {R : Type} (N : Nat) (κ : AV → List Blk → Option R) (x1 : List Int) (x2 : List Int) (x3 : List Int) (xN4 : Option Bool) (x5 : List Int) (x6 : List Int) (x7 : List Int) (x8 : List Int) : evF (g mwput0 mwput1 mfLeaf mwsub0 mwsub1 mwdone0 mwdone1) an N Tryd.f40 [AV.agg [AV.ints IntKind.u8 32 x1, AV.agg [AV.ints IntKind.u8 32 x2, AV.ints IntKind.u8 32 x3, AV.isl IntKind.u8 xN4 x5, AV.ints IntKind.u8 32 x6, AV.ints IntKind.u8 64 x7], AV.ints IntKind.u8 64 x8]] [] κ =
  mwput0 R 0 none (List.drop 0 (List.take 32 x1))
   (fun b_c28 b_1_c29 => mfLeaf R x2 x3 none x5 x6 x7
    (fun v_c30 v_1_c31 v_2_c32 => mwsub1 R b_c28 b_1_c29 v_c30 v_1_c31 v_2_c32
     (fun b_c33 b_1_c34 => mwput1 R b_c33 b_1_c34 none (List.drop 0 (List.take 64 x8))
      (fun b_c35 b_1_c36 => mwdone1 R b_c35 b_1_c36
       (fun v_c37 _b_c38 _b_2_c39 => κ (AV.tup [AV.isl IntKind.u8 (some true) [], AV.err v_c37]) [])
       (fun vg1_c40 v_1_c41 v_2_c42 _bg1_c43 => κ (AV.tup [AV.isl IntKind.u8 vg1_c40 v_1_c41, AV.err v_2_c42]) []))))) := by kernel_rfl
theorem eq (mwput0 : wput0.Ty) (mwput1 : wput1.Ty) (mfLeaf : fLeaf.Ty) (mwsub0 : wsub0.Ty) (mwsub1 : wsub1.Ty) (mwdone0 : wdone0.Ty) (mwdone1 : wdone1.Ty) {R : Type} (N : Nat) (κ : AV → List Blk → Option R) (x1 : List Int) (x2 : List Int) (x3 : List Int) (xN4 : Option Bool) (x5 : List Int) (x6 : List Int) (x7 : List Int) (x8 : List Int) : evF (g mwput0 mwput1 mfLeaf mwsub0 mwsub1 mwdone0 mwdone1) an N Tryd.f40 [AV.agg [AV.ints IntKind.u8 32 x1, AV.agg [AV.ints IntKind.u8 32 x2, AV.ints IntKind.u8 32 x3, AV.isl IntKind.u8 xN4 x5, AV.ints IntKind.u8 32 x6, AV.ints IntKind.u8 64 x7], AV.ints IntKind.u8 64 x8]] [] κ =
  m mwput0 mwput1 mfLeaf mwsub0 mwsub1 mwdone0 mwdone1 N x1 x2 x3 xN4 x5 x6 x7 x8 (fun v v_1 v_2 => κ (AV.tup [AV.isl IntKind.u8 v v_1, AV.err v_2]) []) := by
  rw [tree]
  kernel_rfl
abbrev Ty : Type 1 := ∀ R : Type, (List Int) → (List Int) → (List Int) → (Option Bool) → (List Int) → (List Int) → (List Int) → (List Int) → ((Option Bool) → (List Int) → Nat → Option R) → Option R
def con (f : Ty) : Con := fun R args bs κ => match args, bs with
  | [AV.agg [AV.ints IntKind.u8 32 x1, AV.agg [AV.ints IntKind.u8 32 x2, AV.ints IntKind.u8 32 x3, AV.isl IntKind.u8 xN4 x5, AV.ints IntKind.u8 32 x6, AV.ints IntKind.u8 64 x7], AV.ints IntKind.u8 64 x8]], [] => f R x1 x2 x3 xN4 x5 x6 x7 x8 (fun v v_1 v_2 => κ (AV.tup [AV.isl IntKind.u8 v v_1, AV.err v_2]) [])
  | _, _ => none
theorem con_eq (f : Ty) (R : Type) (κ : AV → List Blk → Option R) (x1 : List Int) (x2 : List Int) (x3 : List Int) (xN4 : Option Bool) (x5 : List Int) (x6 : List Int) (x7 : List Int) (x8 : List Int) : con f R [AV.agg [AV.ints IntKind.u8 32 x1, AV.agg [AV.ints IntKind.u8 32 x2, AV.ints IntKind.u8 32 x3, AV.isl IntKind.u8 xN4 x5, AV.ints IntKind.u8 32 x6, AV.ints IntKind.u8 64 x7], AV.ints IntKind.u8 64 x8]] [] κ = f R x1 x2 x3 xN4 x5 x6 x7 x8 (fun v v_1 v_2 => κ (AV.tup [AV.isl IntKind.u8 v v_1, AV.err v_2]) []) := rfl
noncomputable def M (N : Nat) : Ty := fun R x1 x2 x3 xN4 x5 x6 x7 x8 kr0 => m (wput0.M N) (wput1.M N) (fLeaf.M N) (wsub0.M N) (wsub1.M N) (wdone0.M N) (wdone1.M N) (R := R) N x1 x2 x3 xN4 x5 x6 x7 x8 kr0
def gts : List (Nat × AV) := [(0, .err 1), (2, .err 3), (3, .err 4)]
theorem gok (N : Nat) : GOk (g (wput0.M N) (wput1.M N) (fLeaf.M N) (wsub0.M N) (wsub1.M N) (wdone0.M N) (wdone1.M N)) := giF_ok (giD_ok hm (by intro p hp; cases hp) (gtL_ok (by decide)) (ovL_ok (by
    intro p hp
    simp only [List.mem_cons, List.not_mem_nil, or_false] at hp
    rcases hp with rfl | rfl | rfl | rfl
    · exact ⟨(wput.ok N).gt (gtL_sub (by repeat (first | exact subG_nil _ | refine subG_cons (by kernel_rfl) ?_))) (gtL_ok (by decide)), _, Tryd.func36, by kernel_rfl, by kernel_rfl⟩
    · exact ⟨(fLeaf.ok N).gt (gtL_sub (by repeat (first | exact subG_nil _ | refine subG_cons (by kernel_rfl) ?_))) (gtL_ok (by decide)), _, Tryd.func10, by kernel_rfl, by kernel_rfl⟩
    · exact ⟨(wsub.ok N).gt (gtL_sub (by repeat (first | exact subG_nil _ | refine subG_cons (by kernel_rfl) ?_))) (gtL_ok (by decide)), _, Tryd.func39, by kernel_rfl, by kernel_rfl⟩
    · exact ⟨(wdone.ok N).gt (gtL_sub (by repeat (first | exact subG_nil _ | refine subG_cons (by kernel_rfl) ?_))) (gtL_ok (by decide)), _, Tryd.func37, by kernel_rfl, by kernel_rfl⟩
)) 1)
theorem ok (N : Nat) : SoundC Tryd.prog (gtL gts) 40 (con (M N)) := by
  refine SoundC.mono (evF_ok (gok N) hm an N Tryd.func40) fun R args bs κ r h => ?_
  unfold con at h
  split at h
  · exact (eq (wput0.M N) (wput1.M N) (fLeaf.M N) (wsub0.M N) (wsub1.M N) (wdone0.M N) (wdone1.M N) N κ _ _ _ _ _ _ _ _).trans h
  · cases h
end fPackage


/-! ### Tryd.f11: fProposal -/
namespace fProposal
def an : Anns := ⟨fun i => findA i [], fun i => findA i [], false, fun _ => none, []⟩
noncomputable def g (mwNum : wNum.Ty) (mwput0 : wput0.Ty) (mwput1 : wput1.Ty) (mfPackage : fPackage.Ty) (mwsub0 : wsub0.Ty) (mwsub1 : wsub1.Ty) (mwnum0 : wnum0.Ty) (mwnum1 : wnum1.Ty) (mfLeaf : fLeaf.Ty) (mwneed0 : wneed0.Ty) (mwneed1 : wneed1.Ty) (mwdone0 : wdone0.Ty) (mwdone1 : wdone1.Ty) : Gi := giF (giD Tryd.prog (gtL [(0, .err 1), (2, .err 3), (3, .err 4)]) (fun _ => an) 0 [] (ovL [(38, wNum.con mwNum), (36, wput.con mwput0 mwput1), (40, fPackage.con mfPackage), (39, wsub.con mwsub0 mwsub1), (41, wnum.con mwnum0 mwnum1), (10, fLeaf.con mfLeaf), (34, wneed.con mwneed0 mwneed1), (37, wdone.con mwdone0 mwdone1)]) 1)
noncomputable def m (mwNum : wNum.Ty) (mwput0 : wput0.Ty) (_mwput1 : wput1.Ty) (mfPackage : fPackage.Ty) (_mwsub0 : wsub0.Ty) (mwsub1 : wsub1.Ty) (_mwnum0 : wnum0.Ty) (mwnum1 : wnum1.Ty) (mfLeaf : fLeaf.Ty) (_mwneed0 : wneed0.Ty) (mwneed1 : wneed1.Ty) (_mwdone0 : wdone0.Ty) (mwdone1 : wdone1.Ty) {R : Type} (_N : Nat) (x1 : Int) (x2 : Int) (x3 : List Int) (x4 : List Int) (x5 : List Int) (_xN6 : Option Bool) (x7 : List Int) (x8 : List Int) (x9 : List Int) (x10 : List Int) (x11 : List Int) (x12 : List Int) (_xN13 : Option Bool) (x14 : List Int) (x15 : List Int) (x16 : List Int) (kr0 : (Option Bool) → (List Int) → Nat → Option R) : Option R :=
  mwNum R x1
   (fun v_c26 => mwput0 R 0 none v_c26
    (fun b_c27 b_1_c28 => cond (x1 == 1)
     (mfPackage R x3 x4 x5 none x7 x8 x9 x10
      (fun v_c29 v_1_c30 v_2_c31 => mwsub1 R b_c27 b_1_c28 v_c29 v_1_c30 v_2_c31
       (fun b_c32 b_1_c33 => mwdone1 R b_c32 b_1_c33
        (fun v_c34 _b_c35 _b_2_c36 => kr0 (some true) [] v_c34)
        (fun vg1_c37 v_1_c38 v_2_c39 _bg1_c40 => kr0 vg1_c37 v_1_c38 v_2_c39))))
     (cond (x1 == 2)
      (mwnum1 R b_c27 b_1_c28 x2 15
       (fun b_c41 b_1_c42 => mwdone1 R b_c41 b_1_c42
        (fun v_c43 _b_c44 _b_2_c45 => kr0 (some true) [] v_c43)
        (fun vg1_c46 v_1_c47 v_2_c48 _bg1_c49 => kr0 vg1_c46 v_1_c47 v_2_c48)))
      (cond (x1 == 3)
       (mfLeaf R x11 x12 none x14 x15 x16
        (fun v_c50 v_1_c51 v_2_c52 => mwsub1 R b_c27 b_1_c28 v_c50 v_1_c51 v_2_c52
         (fun b_c53 b_1_c54 => mwdone1 R b_c53 b_1_c54
          (fun v_c55 _b_c56 _b_2_c57 => kr0 (some true) [] v_c55)
          (fun vg1_c58 v_1_c59 v_2_c60 _bg1_c61 => kr0 vg1_c58 v_1_c59 v_2_c60))))
       (mwneed1 R b_c27 b_1_c28 false
        (fun b_c62 b_1_c63 => mwdone1 R b_c62 b_1_c63
         (fun v_c64 _b_c65 _b_2_c66 => kr0 (some true) [] v_c64)
         (fun vg1_c67 v_1_c68 v_2_c69 _bg1_c70 => kr0 vg1_c67 v_1_c68 v_2_c69))
        (fun bg1_c71 b_1g1_c72 => mwdone1 R bg1_c71 b_1g1_c72
         (fun v_c73 _b_c74 _b_2_c75 => kr0 (some true) [] v_c73)
         (fun vg1_c76 v_1_c77 v_2_c78 _bg1_c79 => kr0 vg1_c76 v_1_c77 v_2_c78)))))))
theorem tree (mwNum : wNum.Ty) (mwput0 : wput0.Ty) (mwput1 : wput1.Ty) (mfPackage : fPackage.Ty) (mwsub0 : wsub0.Ty) (mwsub1 : wsub1.Ty) (mwnum0 : wnum0.Ty) (mwnum1 : wnum1.Ty) (mfLeaf : fLeaf.Ty) (mwneed0 : wneed0.Ty) (mwneed1 : wneed1.Ty) (mwdone0 : wdone0.Ty) (mwdone1 : wdone1.Ty) {R : Type} (N : Nat) (κ : AV → List Blk → Option R) (x1 : Int) (x2 : Int) (x3 : List Int) (x4 : List Int) (x5 : List Int) (xN6 : Option Bool) (x7 : List Int) (x8 : List Int) (x9 : List Int) (x10 : List Int) (x11 : List Int) (x12 : List Int) (xN13 : Option Bool) (x14 : List Int) (x15 : List Int) (x16 : List Int) : evF (g mwNum mwput0 mwput1 mfPackage mwsub0 mwsub1 mwnum0 mwnum1 mfLeaf mwneed0 mwneed1 mwdone0 mwdone1) an N Tryd.f11 [AV.agg [AV.int IntKind.i64 x1, AV.int IntKind.i64 x2, AV.agg [AV.ints IntKind.u8 32 x3, AV.agg [AV.ints IntKind.u8 32 x4, AV.ints IntKind.u8 32 x5, AV.isl IntKind.u8 xN6 x7, AV.ints IntKind.u8 32 x8, AV.ints IntKind.u8 64 x9], AV.ints IntKind.u8 64 x10], AV.agg [AV.ints IntKind.u8 32 x11, AV.ints IntKind.u8 32 x12, AV.isl IntKind.u8 xN13 x14, AV.ints IntKind.u8 32 x15, AV.ints IntKind.u8 64 x16]]] [] κ =
  mwNum R x1
   (fun v_c26 => mwput0 R 0 none v_c26
    (fun b_c27 b_1_c28 => cond (x1 == 1)
     (mfPackage R x3 x4 x5 none x7 x8 x9 x10
      (fun v_c29 v_1_c30 v_2_c31 => mwsub1 R b_c27 b_1_c28 v_c29 v_1_c30 v_2_c31
       (fun b_c32 b_1_c33 => mwdone1 R b_c32 b_1_c33
        (fun v_c34 _b_c35 _b_2_c36 => κ (AV.tup [AV.isl IntKind.u8 (some true) [], AV.err v_c34]) [])
        (fun vg1_c37 v_1_c38 v_2_c39 _bg1_c40 => κ (AV.tup [AV.isl IntKind.u8 vg1_c37 v_1_c38, AV.err v_2_c39]) []))))
     (cond (x1 == 2)
      (mwnum1 R b_c27 b_1_c28 x2 15
       (fun b_c41 b_1_c42 => mwdone1 R b_c41 b_1_c42
        (fun v_c43 _b_c44 _b_2_c45 => κ (AV.tup [AV.isl IntKind.u8 (some true) [], AV.err v_c43]) [])
        (fun vg1_c46 v_1_c47 v_2_c48 _bg1_c49 => κ (AV.tup [AV.isl IntKind.u8 vg1_c46 v_1_c47, AV.err v_2_c48]) [])))
      (cond (x1 == 3)
       (mfLeaf R x11 x12 none x14 x15 x16
        (fun v_c50 v_1_c51 v_2_c52 => mwsub1 R b_c27 b_1_c28 v_c50 v_1_c51 v_2_c52
         (fun b_c53 b_1_c54 => mwdone1 R b_c53 b_1_c54
          (fun v_c55 _b_c56 _b_2_c57 => κ (AV.tup [AV.isl IntKind.u8 (some true) [], AV.err v_c55]) [])
          (fun vg1_c58 v_1_c59 v_2_c60 _bg1_c61 => κ (AV.tup [AV.isl IntKind.u8 vg1_c58 v_1_c59, AV.err v_2_c60]) []))))
       (mwneed1 R b_c27 b_1_c28 false
        (fun b_c62 b_1_c63 => mwdone1 R b_c62 b_1_c63
         (fun v_c64 _b_c65 _b_2_c66 => κ (AV.tup [AV.isl IntKind.u8 (some true) [], AV.err v_c64]) [])
         (fun vg1_c67 v_1_c68 v_2_c69 _bg1_c70 => κ (AV.tup [AV.isl IntKind.u8 vg1_c67 v_1_c68, AV.err v_2_c69]) []))
        (fun bg1_c71 b_1g1_c72 => mwdone1 R bg1_c71 b_1g1_c72
         (fun v_c73 _b_c74 _b_2_c75 => κ (AV.tup [AV.isl IntKind.u8 (some true) [], AV.err v_c73]) [])
         (fun vg1_c76 v_1_c77 v_2_c78 _bg1_c79 => κ (AV.tup [AV.isl IntKind.u8 vg1_c76 v_1_c77, AV.err v_2_c78]) []))))))) := by kernel_rfl
theorem eq (mwNum : wNum.Ty) (mwput0 : wput0.Ty) (mwput1 : wput1.Ty) (mfPackage : fPackage.Ty) (mwsub0 : wsub0.Ty) (mwsub1 : wsub1.Ty) (mwnum0 : wnum0.Ty) (mwnum1 : wnum1.Ty) (mfLeaf : fLeaf.Ty) (mwneed0 : wneed0.Ty) (mwneed1 : wneed1.Ty) (mwdone0 : wdone0.Ty) (mwdone1 : wdone1.Ty) {R : Type} (N : Nat) (κ : AV → List Blk → Option R) (x1 : Int) (x2 : Int) (x3 : List Int) (x4 : List Int) (x5 : List Int) (xN6 : Option Bool) (x7 : List Int) (x8 : List Int) (x9 : List Int) (x10 : List Int) (x11 : List Int) (x12 : List Int) (xN13 : Option Bool) (x14 : List Int) (x15 : List Int) (x16 : List Int) : evF (g mwNum mwput0 mwput1 mfPackage mwsub0 mwsub1 mwnum0 mwnum1 mfLeaf mwneed0 mwneed1 mwdone0 mwdone1) an N Tryd.f11 [AV.agg [AV.int IntKind.i64 x1, AV.int IntKind.i64 x2, AV.agg [AV.ints IntKind.u8 32 x3, AV.agg [AV.ints IntKind.u8 32 x4, AV.ints IntKind.u8 32 x5, AV.isl IntKind.u8 xN6 x7, AV.ints IntKind.u8 32 x8, AV.ints IntKind.u8 64 x9], AV.ints IntKind.u8 64 x10], AV.agg [AV.ints IntKind.u8 32 x11, AV.ints IntKind.u8 32 x12, AV.isl IntKind.u8 xN13 x14, AV.ints IntKind.u8 32 x15, AV.ints IntKind.u8 64 x16]]] [] κ =
  m mwNum mwput0 mwput1 mfPackage mwsub0 mwsub1 mwnum0 mwnum1 mfLeaf mwneed0 mwneed1 mwdone0 mwdone1 N x1 x2 x3 x4 x5 xN6 x7 x8 x9 x10 x11 x12 xN13 x14 x15 x16 (fun v v_1 v_2 => κ (AV.tup [AV.isl IntKind.u8 v v_1, AV.err v_2]) []) := by
  rw [tree]
  kernel_rfl
abbrev Ty : Type 1 := ∀ R : Type, Int → Int → (List Int) → (List Int) → (List Int) → (Option Bool) → (List Int) → (List Int) → (List Int) → (List Int) → (List Int) → (List Int) → (Option Bool) → (List Int) → (List Int) → (List Int) → ((Option Bool) → (List Int) → Nat → Option R) → Option R
def con (f : Ty) : Con := fun R args bs κ => match args, bs with
  | [AV.agg [AV.int IntKind.i64 x1, AV.int IntKind.i64 x2, AV.agg [AV.ints IntKind.u8 32 x3, AV.agg [AV.ints IntKind.u8 32 x4, AV.ints IntKind.u8 32 x5, AV.isl IntKind.u8 xN6 x7, AV.ints IntKind.u8 32 x8, AV.ints IntKind.u8 64 x9], AV.ints IntKind.u8 64 x10], AV.agg [AV.ints IntKind.u8 32 x11, AV.ints IntKind.u8 32 x12, AV.isl IntKind.u8 xN13 x14, AV.ints IntKind.u8 32 x15, AV.ints IntKind.u8 64 x16]]], [] => f R x1 x2 x3 x4 x5 xN6 x7 x8 x9 x10 x11 x12 xN13 x14 x15 x16 (fun v v_1 v_2 => κ (AV.tup [AV.isl IntKind.u8 v v_1, AV.err v_2]) [])
  | _, _ => none
theorem con_eq (f : Ty) (R : Type) (κ : AV → List Blk → Option R) (x1 : Int) (x2 : Int) (x3 : List Int) (x4 : List Int) (x5 : List Int) (xN6 : Option Bool) (x7 : List Int) (x8 : List Int) (x9 : List Int) (x10 : List Int) (x11 : List Int) (x12 : List Int) (xN13 : Option Bool) (x14 : List Int) (x15 : List Int) (x16 : List Int) : con f R [AV.agg [AV.int IntKind.i64 x1, AV.int IntKind.i64 x2, AV.agg [AV.ints IntKind.u8 32 x3, AV.agg [AV.ints IntKind.u8 32 x4, AV.ints IntKind.u8 32 x5, AV.isl IntKind.u8 xN6 x7, AV.ints IntKind.u8 32 x8, AV.ints IntKind.u8 64 x9], AV.ints IntKind.u8 64 x10], AV.agg [AV.ints IntKind.u8 32 x11, AV.ints IntKind.u8 32 x12, AV.isl IntKind.u8 xN13 x14, AV.ints IntKind.u8 32 x15, AV.ints IntKind.u8 64 x16]]] [] κ = f R x1 x2 x3 x4 x5 xN6 x7 x8 x9 x10 x11 x12 xN13 x14 x15 x16 (fun v v_1 v_2 => κ (AV.tup [AV.isl IntKind.u8 v v_1, AV.err v_2]) []) := rfl
noncomputable def M (N : Nat) : Ty := fun R x1 x2 x3 x4 x5 xN6 x7 x8 x9 x10 x11 x12 xN13 x14 x15 x16 kr0 => m (wNum.M N) (wput0.M N) (wput1.M N) (fPackage.M N) (wsub0.M N) (wsub1.M N) (wnum0.M N) (wnum1.M N) (fLeaf.M N) (wneed0.M N) (wneed1.M N) (wdone0.M N) (wdone1.M N) (R := R) N x1 x2 x3 x4 x5 xN6 x7 x8 x9 x10 x11 x12 xN13 x14 x15 x16 kr0
def gts : List (Nat × AV) := [(0, .err 1), (2, .err 3), (3, .err 4)]
theorem gok (N : Nat) : GOk (g (wNum.M N) (wput0.M N) (wput1.M N) (fPackage.M N) (wsub0.M N) (wsub1.M N) (wnum0.M N) (wnum1.M N) (fLeaf.M N) (wneed0.M N) (wneed1.M N) (wdone0.M N) (wdone1.M N)) := giF_ok (giD_ok hm (by intro p hp; cases hp) (gtL_ok (by decide)) (ovL_ok (by
    intro p hp
    simp only [List.mem_cons, List.not_mem_nil, or_false] at hp
    rcases hp with rfl | rfl | rfl | rfl | rfl | rfl | rfl | rfl
    · exact ⟨(wNum.ok N).gt (gtL_sub (by repeat (first | exact subG_nil _ | refine subG_cons (by kernel_rfl) ?_))) (gtL_ok (by decide)), _, Tryd.func38, by kernel_rfl, by kernel_rfl⟩
    · exact ⟨(wput.ok N).gt (gtL_sub (by repeat (first | exact subG_nil _ | refine subG_cons (by kernel_rfl) ?_))) (gtL_ok (by decide)), _, Tryd.func36, by kernel_rfl, by kernel_rfl⟩
    · exact ⟨(fPackage.ok N).gt (gtL_sub (by repeat (first | exact subG_nil _ | refine subG_cons (by kernel_rfl) ?_))) (gtL_ok (by decide)), _, Tryd.func40, by kernel_rfl, by kernel_rfl⟩
    · exact ⟨(wsub.ok N).gt (gtL_sub (by repeat (first | exact subG_nil _ | refine subG_cons (by kernel_rfl) ?_))) (gtL_ok (by decide)), _, Tryd.func39, by kernel_rfl, by kernel_rfl⟩
    · exact ⟨(wnum.ok N).gt (gtL_sub (by repeat (first | exact subG_nil _ | refine subG_cons (by kernel_rfl) ?_))) (gtL_ok (by decide)), _, Tryd.func41, by kernel_rfl, by kernel_rfl⟩
    · exact ⟨(fLeaf.ok N).gt (gtL_sub (by repeat (first | exact subG_nil _ | refine subG_cons (by kernel_rfl) ?_))) (gtL_ok (by decide)), _, Tryd.func10, by kernel_rfl, by kernel_rfl⟩
    · exact ⟨(wneed.ok N).gt (gtL_sub (by repeat (first | exact subG_nil _ | refine subG_cons (by kernel_rfl) ?_))) (gtL_ok (by decide)), _, Tryd.func34, by kernel_rfl, by kernel_rfl⟩
    · exact ⟨(wdone.ok N).gt (gtL_sub (by repeat (first | exact subG_nil _ | refine subG_cons (by kernel_rfl) ?_))) (gtL_ok (by decide)), _, Tryd.func37, by kernel_rfl, by kernel_rfl⟩
)) 1)
theorem ok (N : Nat) : SoundC Tryd.prog (gtL gts) 11 (con (M N)) := by
  refine SoundC.mono (evF_ok (gok N) hm an N Tryd.func11) fun R args bs κ r h => ?_
  unfold con at h
  split at h
  · exact (eq (wNum.M N) (wput0.M N) (wput1.M N) (fPackage.M N) (wsub0.M N) (wsub1.M N) (wnum0.M N) (wnum1.M N) (fLeaf.M N) (wneed0.M N) (wneed1.M N) (wdone0.M N) (wdone1.M N) N κ _ _ _ _ _ _ _ _ _ _ _ _ _ _ _ _).trans h
  · cases h
end fProposal


/-! ### Tryd.f53: fContext -/
namespace fContext
def an : Anns := ⟨fun i => findA i [], fun i => findA i [], false, fun _ => none, []⟩
noncomputable def g (mwput0 : wput0.Ty) (mwput1 : wput1.Ty) (mwnum0 : wnum0.Ty) (mwnum1 : wnum1.Ty) (mwdone0 : wdone0.Ty) (mwdone1 : wdone1.Ty) : Gi := giF (giD Tryd.prog (gtL [(0, .err 1), (2, .err 3), (3, .err 4)]) (fun _ => an) 0 [] (ovL [(36, wput.con mwput0 mwput1), (41, wnum.con mwnum0 mwnum1), (37, wdone.con mwdone0 mwdone1)]) 1)
noncomputable def m (mwput0 : wput0.Ty) (mwput1 : wput1.Ty) (_mwnum0 : wnum0.Ty) (mwnum1 : wnum1.Ty) (_mwdone0 : wdone0.Ty) (mwdone1 : wdone1.Ty) {R : Type} (_N : Nat) (x1 : List Int) (x2 : Int) (x3 : List Int) (x4 : List Int) (kr0 : (Option Bool) → (List Int) → Nat → Option R) : Option R :=
  mwput0 R 0 none (List.drop 0 (List.take 32 x1))
   (fun b_c26 b_1_c27 => mwnum1 R b_c26 b_1_c27 x2 1099511627776
    (fun b_c28 b_1_c29 => mwput1 R b_c28 b_1_c29 none (List.drop 0 (List.take 32 x3))
     (fun b_c30 b_1_c31 => mwput1 R b_c30 b_1_c31 none (List.drop 0 (List.take 32 x4))
      (fun b_c32 b_1_c33 => mwdone1 R b_c32 b_1_c33
       (fun v_c34 _b_c35 _b_2_c36 => kr0 (some true) [] v_c34)
       (fun vg1_c37 v_1_c38 v_2_c39 _bg1_c40 => kr0 vg1_c37 v_1_c38 v_2_c39)))))
theorem tree (mwput0 : wput0.Ty) (mwput1 : wput1.Ty) (mwnum0 : wnum0.Ty) (mwnum1 : wnum1.Ty) (mwdone0 : wdone0.Ty) (mwdone1 : wdone1.Ty) {R : Type} (N : Nat) (κ : AV → List Blk → Option R) (x1 : List Int) (x2 : Int) (x3 : List Int) (x4 : List Int) : evF (g mwput0 mwput1 mwnum0 mwnum1 mwdone0 mwdone1) an N Tryd.f53 [AV.agg [AV.ints IntKind.u8 32 x1, AV.int IntKind.i64 x2, AV.ints IntKind.u8 32 x3, AV.ints IntKind.u8 32 x4]] [] κ =
  mwput0 R 0 none (List.drop 0 (List.take 32 x1))
   (fun b_c26 b_1_c27 => mwnum1 R b_c26 b_1_c27 x2 1099511627776
    (fun b_c28 b_1_c29 => mwput1 R b_c28 b_1_c29 none (List.drop 0 (List.take 32 x3))
     (fun b_c30 b_1_c31 => mwput1 R b_c30 b_1_c31 none (List.drop 0 (List.take 32 x4))
      (fun b_c32 b_1_c33 => mwdone1 R b_c32 b_1_c33
       (fun v_c34 _b_c35 _b_2_c36 => κ (AV.tup [AV.isl IntKind.u8 (some true) [], AV.err v_c34]) [])
       (fun vg1_c37 v_1_c38 v_2_c39 _bg1_c40 => κ (AV.tup [AV.isl IntKind.u8 vg1_c37 v_1_c38, AV.err v_2_c39]) []))))) := by kernel_rfl
theorem eq (mwput0 : wput0.Ty) (mwput1 : wput1.Ty) (mwnum0 : wnum0.Ty) (mwnum1 : wnum1.Ty) (mwdone0 : wdone0.Ty) (mwdone1 : wdone1.Ty) {R : Type} (N : Nat) (κ : AV → List Blk → Option R) (x1 : List Int) (x2 : Int) (x3 : List Int) (x4 : List Int) : evF (g mwput0 mwput1 mwnum0 mwnum1 mwdone0 mwdone1) an N Tryd.f53 [AV.agg [AV.ints IntKind.u8 32 x1, AV.int IntKind.i64 x2, AV.ints IntKind.u8 32 x3, AV.ints IntKind.u8 32 x4]] [] κ =
  m mwput0 mwput1 mwnum0 mwnum1 mwdone0 mwdone1 N x1 x2 x3 x4 (fun v v_1 v_2 => κ (AV.tup [AV.isl IntKind.u8 v v_1, AV.err v_2]) []) := by
  rw [tree]
  kernel_rfl
abbrev Ty : Type 1 := ∀ R : Type, (List Int) → Int → (List Int) → (List Int) → ((Option Bool) → (List Int) → Nat → Option R) → Option R
def con (f : Ty) : Con := fun R args bs κ => match args, bs with
  | [AV.agg [AV.ints IntKind.u8 32 x1, AV.int IntKind.i64 x2, AV.ints IntKind.u8 32 x3, AV.ints IntKind.u8 32 x4]], [] => f R x1 x2 x3 x4 (fun v v_1 v_2 => κ (AV.tup [AV.isl IntKind.u8 v v_1, AV.err v_2]) [])
  | _, _ => none
theorem con_eq (f : Ty) (R : Type) (κ : AV → List Blk → Option R) (x1 : List Int) (x2 : Int) (x3 : List Int) (x4 : List Int) : con f R [AV.agg [AV.ints IntKind.u8 32 x1, AV.int IntKind.i64 x2, AV.ints IntKind.u8 32 x3, AV.ints IntKind.u8 32 x4]] [] κ = f R x1 x2 x3 x4 (fun v v_1 v_2 => κ (AV.tup [AV.isl IntKind.u8 v v_1, AV.err v_2]) []) := rfl
noncomputable def M (N : Nat) : Ty := fun R x1 x2 x3 x4 kr0 => m (wput0.M N) (wput1.M N) (wnum0.M N) (wnum1.M N) (wdone0.M N) (wdone1.M N) (R := R) N x1 x2 x3 x4 kr0
def gts : List (Nat × AV) := [(0, .err 1), (2, .err 3), (3, .err 4)]
theorem gok (N : Nat) : GOk (g (wput0.M N) (wput1.M N) (wnum0.M N) (wnum1.M N) (wdone0.M N) (wdone1.M N)) := giF_ok (giD_ok hm (by intro p hp; cases hp) (gtL_ok (by decide)) (ovL_ok (by
    intro p hp
    simp only [List.mem_cons, List.not_mem_nil, or_false] at hp
    rcases hp with rfl | rfl | rfl
    · exact ⟨(wput.ok N).gt (gtL_sub (by repeat (first | exact subG_nil _ | refine subG_cons (by kernel_rfl) ?_))) (gtL_ok (by decide)), _, Tryd.func36, by kernel_rfl, by kernel_rfl⟩
    · exact ⟨(wnum.ok N).gt (gtL_sub (by repeat (first | exact subG_nil _ | refine subG_cons (by kernel_rfl) ?_))) (gtL_ok (by decide)), _, Tryd.func41, by kernel_rfl, by kernel_rfl⟩
    · exact ⟨(wdone.ok N).gt (gtL_sub (by repeat (first | exact subG_nil _ | refine subG_cons (by kernel_rfl) ?_))) (gtL_ok (by decide)), _, Tryd.func37, by kernel_rfl, by kernel_rfl⟩
)) 1)
theorem ok (N : Nat) : SoundC Tryd.prog (gtL gts) 53 (con (M N)) := by
  refine SoundC.mono (evF_ok (gok N) hm an N Tryd.func53) fun R args bs κ r h => ?_
  unfold con at h
  split at h
  · exact (eq (wput0.M N) (wput1.M N) (wnum0.M N) (wnum1.M N) (wdone0.M N) (wdone1.M N) N κ _ _ _ _).trans h
  · cases h
end fContext

end Go.Proofs.YthajoenmfppenaaDoor.fn
