/- What an offer's bytes are, with the proof; printed by a program. -/
import Derived.Test.YthajoenmfppenaaDoorProg
import Derived.Test.YthajoenmfppenaaDoorEv4
import Derived.Test.YthajoenmfppenaaDoorFnFormsA
namespace Go.Proofs.YthajoenmfppenaaDoor.fn
open Go Go.Proofs Go.Ev

/-! ### Tryd.f61: fOffer -/
namespace fOffer
def an : Anns := ⟨fun i => findA i [], fun i => findA i [], false, fun _ => none, []⟩
noncomputable def g (mwput0 : wput0.Ty) (mwput1 : wput1.Ty) (mwnum0 : wnum0.Ty) (mwnum1 : wnum1.Ty) (mfProposal : fProposal.Ty) (mwsub0 : wsub0.Ty) (mwsub1 : wsub1.Ty) (mwdone0 : wdone0.Ty) (mwdone1 : wdone1.Ty) : Gi := giF (giD Tryd.prog (gtL [(0, .err 1), (2, .err 3), (3, .err 4)]) (fun _ => an) 0 [] (ovL [(36, wput.con mwput0 mwput1), (41, wnum.con mwnum0 mwnum1), (11, fProposal.con mfProposal), (39, wsub.con mwsub0 mwsub1), (37, wdone.con mwdone0 mwdone1)]) 1)
noncomputable def m (mwput0 : wput0.Ty) (mwput1 : wput1.Ty) (_mwnum0 : wnum0.Ty) (mwnum1 : wnum1.Ty) (mfProposal : fProposal.Ty) (_mwsub0 : wsub0.Ty) (mwsub1 : wsub1.Ty) (_mwdone0 : wdone0.Ty) (mwdone1 : wdone1.Ty) {R : Type} (_N : Nat) (x1 : List Int) (x2 : Int) (x3 : Int) (x4 : Int) (x5 : Int) (x6 : List Int) (x7 : List Int) (x8 : List Int) (_xN9 : Option Bool) (x10 : List Int) (x11 : List Int) (x12 : List Int) (x13 : List Int) (x14 : List Int) (x15 : List Int) (_xN16 : Option Bool) (x17 : List Int) (x18 : List Int) (x19 : List Int) (x20 : List Int) (kr0 : (Option Bool) → (List Int) → Nat → Option R) : Option R :=
  mwput0 R 0 none (List.drop 0 (List.take 32 x1))
   (fun b_c36 b_1_c37 => mwnum1 R b_c36 b_1_c37 x2 1099511627776
    (fun b_c38 b_1_c39 => mwnum1 R b_c38 b_1_c39 x3 15
     (fun b_c40 b_1_c41 => mfProposal R x4 x5 x6 x7 x8 none x10 x11 x12 x13 x14 x15 none x17 x18 x19
      (fun v_c42 v_1_c43 v_2_c44 => mwsub1 R b_c40 b_1_c41 v_c42 v_1_c43 v_2_c44
       (fun b_c45 b_1_c46 => mwput1 R b_c45 b_1_c46 none (List.drop 0 (List.take 64 x20))
        (fun b_c47 b_1_c48 => mwdone1 R b_c47 b_1_c48
         (fun v_c49 _b_c50 _b_2_c51 => kr0 (some true) [] v_c49)
         (fun vg1_c52 v_1_c53 v_2_c54 _bg1_c55 => kr0 vg1_c52 v_1_c53 v_2_c54)))))))
theorem tree (mwput0 : wput0.Ty) (mwput1 : wput1.Ty) (mwnum0 : wnum0.Ty) (mwnum1 : wnum1.Ty) (mfProposal : fProposal.Ty) (mwsub0 : wsub0.Ty) (mwsub1 : wsub1.Ty) (mwdone0 : wdone0.Ty) (mwdone1 : wdone1.Ty) {R : Type} (N : Nat) (κ : AV → List Blk → Option R) (x1 : List Int) (x2 : Int) (x3 : Int) (x4 : Int) (x5 : Int) (x6 : List Int) (x7 : List Int) (x8 : List Int) (xN9 : Option Bool) (x10 : List Int) (x11 : List Int) (x12 : List Int) (x13 : List Int) (x14 : List Int) (x15 : List Int) (xN16 : Option Bool) (x17 : List Int) (x18 : List Int) (x19 : List Int) (x20 : List Int) : evF (g mwput0 mwput1 mwnum0 mwnum1 mfProposal mwsub0 mwsub1 mwdone0 mwdone1) an N Tryd.f61 [AV.agg [AV.ints IntKind.u8 32 x1, AV.int IntKind.i64 x2, AV.int IntKind.i64 x3, AV.agg [AV.int IntKind.i64 x4, AV.int IntKind.i64 x5, AV.agg [AV.ints IntKind.u8 32 x6, AV.agg [AV.ints IntKind.u8 32 x7, AV.ints IntKind.u8 32 x8, AV.isl IntKind.u8 xN9 x10, AV.ints IntKind.u8 32 x11, AV.ints IntKind.u8 64 x12], AV.ints IntKind.u8 64 x13], AV.agg [AV.ints IntKind.u8 32 x14, AV.ints IntKind.u8 32 x15, AV.isl IntKind.u8 xN16 x17, AV.ints IntKind.u8 32 x18, AV.ints IntKind.u8 64 x19]], AV.ints IntKind.u8 64 x20]] [] κ =
  mwput0 R 0 none (List.drop 0 (List.take 32 x1))
   (fun b_c36 b_1_c37 => mwnum1 R b_c36 b_1_c37 x2 1099511627776
    (fun b_c38 b_1_c39 => mwnum1 R b_c38 b_1_c39 x3 15
     (fun b_c40 b_1_c41 => mfProposal R x4 x5 x6 x7 x8 none x10 x11 x12 x13 x14 x15 none x17 x18 x19
      (fun v_c42 v_1_c43 v_2_c44 => mwsub1 R b_c40 b_1_c41 v_c42 v_1_c43 v_2_c44
       (fun b_c45 b_1_c46 => mwput1 R b_c45 b_1_c46 none (List.drop 0 (List.take 64 x20))
        (fun b_c47 b_1_c48 => mwdone1 R b_c47 b_1_c48
         (fun v_c49 _b_c50 _b_2_c51 => κ (AV.tup [AV.isl IntKind.u8 (some true) [], AV.err v_c49]) [])
         (fun vg1_c52 v_1_c53 v_2_c54 _bg1_c55 => κ (AV.tup [AV.isl IntKind.u8 vg1_c52 v_1_c53, AV.err v_2_c54]) []))))))) := by kernel_rfl
theorem eq (mwput0 : wput0.Ty) (mwput1 : wput1.Ty) (mwnum0 : wnum0.Ty) (mwnum1 : wnum1.Ty) (mfProposal : fProposal.Ty) (mwsub0 : wsub0.Ty) (mwsub1 : wsub1.Ty) (mwdone0 : wdone0.Ty) (mwdone1 : wdone1.Ty) {R : Type} (N : Nat) (κ : AV → List Blk → Option R) (x1 : List Int) (x2 : Int) (x3 : Int) (x4 : Int) (x5 : Int) (x6 : List Int) (x7 : List Int) (x8 : List Int) (xN9 : Option Bool) (x10 : List Int) (x11 : List Int) (x12 : List Int) (x13 : List Int) (x14 : List Int) (x15 : List Int) (xN16 : Option Bool) (x17 : List Int) (x18 : List Int) (x19 : List Int) (x20 : List Int) : evF (g mwput0 mwput1 mwnum0 mwnum1 mfProposal mwsub0 mwsub1 mwdone0 mwdone1) an N Tryd.f61 [AV.agg [AV.ints IntKind.u8 32 x1, AV.int IntKind.i64 x2, AV.int IntKind.i64 x3, AV.agg [AV.int IntKind.i64 x4, AV.int IntKind.i64 x5, AV.agg [AV.ints IntKind.u8 32 x6, AV.agg [AV.ints IntKind.u8 32 x7, AV.ints IntKind.u8 32 x8, AV.isl IntKind.u8 xN9 x10, AV.ints IntKind.u8 32 x11, AV.ints IntKind.u8 64 x12], AV.ints IntKind.u8 64 x13], AV.agg [AV.ints IntKind.u8 32 x14, AV.ints IntKind.u8 32 x15, AV.isl IntKind.u8 xN16 x17, AV.ints IntKind.u8 32 x18, AV.ints IntKind.u8 64 x19]], AV.ints IntKind.u8 64 x20]] [] κ =
  m mwput0 mwput1 mwnum0 mwnum1 mfProposal mwsub0 mwsub1 mwdone0 mwdone1 N x1 x2 x3 x4 x5 x6 x7 x8 xN9 x10 x11 x12 x13 x14 x15 xN16 x17 x18 x19 x20 (fun v v_1 v_2 => κ (AV.tup [AV.isl IntKind.u8 v v_1, AV.err v_2]) []) := by
  rw [tree]
  kernel_rfl
abbrev Ty : Type 1 := ∀ R : Type, (List Int) → Int → Int → Int → Int → (List Int) → (List Int) → (List Int) → (Option Bool) → (List Int) → (List Int) → (List Int) → (List Int) → (List Int) → (List Int) → (Option Bool) → (List Int) → (List Int) → (List Int) → (List Int) → ((Option Bool) → (List Int) → Nat → Option R) → Option R
def con (f : Ty) : Con := fun R args bs κ => match args, bs with
  | [AV.agg [AV.ints IntKind.u8 32 x1, AV.int IntKind.i64 x2, AV.int IntKind.i64 x3, AV.agg [AV.int IntKind.i64 x4, AV.int IntKind.i64 x5, AV.agg [AV.ints IntKind.u8 32 x6, AV.agg [AV.ints IntKind.u8 32 x7, AV.ints IntKind.u8 32 x8, AV.isl IntKind.u8 xN9 x10, AV.ints IntKind.u8 32 x11, AV.ints IntKind.u8 64 x12], AV.ints IntKind.u8 64 x13], AV.agg [AV.ints IntKind.u8 32 x14, AV.ints IntKind.u8 32 x15, AV.isl IntKind.u8 xN16 x17, AV.ints IntKind.u8 32 x18, AV.ints IntKind.u8 64 x19]], AV.ints IntKind.u8 64 x20]], [] => f R x1 x2 x3 x4 x5 x6 x7 x8 xN9 x10 x11 x12 x13 x14 x15 xN16 x17 x18 x19 x20 (fun v v_1 v_2 => κ (AV.tup [AV.isl IntKind.u8 v v_1, AV.err v_2]) [])
  | _, _ => none
theorem con_eq (f : Ty) (R : Type) (κ : AV → List Blk → Option R) (x1 : List Int) (x2 : Int) (x3 : Int) (x4 : Int) (x5 : Int) (x6 : List Int) (x7 : List Int) (x8 : List Int) (xN9 : Option Bool) (x10 : List Int) (x11 : List Int) (x12 : List Int) (x13 : List Int) (x14 : List Int) (x15 : List Int) (xN16 : Option Bool) (x17 : List Int) (x18 : List Int) (x19 : List Int) (x20 : List Int) : con f R [AV.agg [AV.ints IntKind.u8 32 x1, AV.int IntKind.i64 x2, AV.int IntKind.i64 x3, AV.agg [AV.int IntKind.i64 x4, AV.int IntKind.i64 x5, AV.agg [AV.ints IntKind.u8 32 x6, AV.agg [AV.ints IntKind.u8 32 x7, AV.ints IntKind.u8 32 x8, AV.isl IntKind.u8 xN9 x10, AV.ints IntKind.u8 32 x11, AV.ints IntKind.u8 64 x12], AV.ints IntKind.u8 64 x13], AV.agg [AV.ints IntKind.u8 32 x14, AV.ints IntKind.u8 32 x15, AV.isl IntKind.u8 xN16 x17, AV.ints IntKind.u8 32 x18, AV.ints IntKind.u8 64 x19]], AV.ints IntKind.u8 64 x20]] [] κ = f R x1 x2 x3 x4 x5 x6 x7 x8 xN9 x10 x11 x12 x13 x14 x15 xN16 x17 x18 x19 x20 (fun v v_1 v_2 => κ (AV.tup [AV.isl IntKind.u8 v v_1, AV.err v_2]) []) := rfl
noncomputable def M (N : Nat) : Ty := fun R x1 x2 x3 x4 x5 x6 x7 x8 xN9 x10 x11 x12 x13 x14 x15 xN16 x17 x18 x19 x20 kr0 => m (wput0.M N) (wput1.M N) (wnum0.M N) (wnum1.M N) (fProposal.M N) (wsub0.M N) (wsub1.M N) (wdone0.M N) (wdone1.M N) (R := R) N x1 x2 x3 x4 x5 x6 x7 x8 xN9 x10 x11 x12 x13 x14 x15 xN16 x17 x18 x19 x20 kr0
def gts : List (Nat × AV) := [(0, .err 1), (2, .err 3), (3, .err 4)]
theorem gok (N : Nat) : GOk (g (wput0.M N) (wput1.M N) (wnum0.M N) (wnum1.M N) (fProposal.M N) (wsub0.M N) (wsub1.M N) (wdone0.M N) (wdone1.M N)) := giF_ok (giD_ok hm (by intro p hp; cases hp) (gtL_ok (by decide)) (ovL_ok (by
    intro p hp
    simp only [List.mem_cons, List.not_mem_nil, or_false] at hp
    rcases hp with rfl | rfl | rfl | rfl | rfl
    · exact ⟨(wput.ok N).gt (gtL_sub (by repeat (first | exact subG_nil _ | refine subG_cons (by kernel_rfl) ?_))) (gtL_ok (by decide)), _, Tryd.func36, by kernel_rfl, by kernel_rfl⟩
    · exact ⟨(wnum.ok N).gt (gtL_sub (by repeat (first | exact subG_nil _ | refine subG_cons (by kernel_rfl) ?_))) (gtL_ok (by decide)), _, Tryd.func41, by kernel_rfl, by kernel_rfl⟩
    · exact ⟨(fProposal.ok N).gt (gtL_sub (by repeat (first | exact subG_nil _ | refine subG_cons (by kernel_rfl) ?_))) (gtL_ok (by decide)), _, Tryd.func11, by kernel_rfl, by kernel_rfl⟩
    · exact ⟨(wsub.ok N).gt (gtL_sub (by repeat (first | exact subG_nil _ | refine subG_cons (by kernel_rfl) ?_))) (gtL_ok (by decide)), _, Tryd.func39, by kernel_rfl, by kernel_rfl⟩
    · exact ⟨(wdone.ok N).gt (gtL_sub (by repeat (first | exact subG_nil _ | refine subG_cons (by kernel_rfl) ?_))) (gtL_ok (by decide)), _, Tryd.func37, by kernel_rfl, by kernel_rfl⟩
)) 1)
theorem ok (N : Nat) : SoundC Tryd.prog (gtL gts) 61 (con (M N)) := by
  refine SoundC.mono (evF_ok (gok N) hm an N Tryd.func61) fun R args bs κ r h => ?_
  unfold con at h
  split at h
  · exact (eq (wput0.M N) (wput1.M N) (wnum0.M N) (wnum1.M N) (fProposal.M N) (wsub0.M N) (wsub1.M N) (wdone0.M N) (wdone1.M N) N κ _ _ _ _ _ _ _ _ _ _ _ _ _ _ _ _ _ _ _ _).trans h
  · cases h
end fOffer

end Go.Proofs.YthajoenmfppenaaDoor.fn
