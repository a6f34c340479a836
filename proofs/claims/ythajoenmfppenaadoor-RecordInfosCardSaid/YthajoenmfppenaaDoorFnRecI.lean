/- What senders of infos sign, with the proof; printed by a program. -/
import Derived.Test.YthajoenmfppenaaDoorProg
import Derived.Test.YthajoenmfppenaaDoorEv4
import Derived.Test.YthajoenmfppenaaDoorFnTree
import Derived.Test.YthajoenmfppenaaDoorFnRec
namespace Go.Proofs.YthajoenmfppenaaDoor.fn
open Go Go.Proofs Go.Ev
/-! ### Tryd.f25: recInfo -/
namespace recInfo
def an : Anns := ⟨fun i => findA i [], fun i => findA i [], false, fun _ => none, []⟩
noncomputable def g (mrbegin : rbegin.Ty) (mfContext : fContext.Ty) (mradd : radd.Ty) (mfTree : fTree.Ty) (mwNum : wNum.Ty) (mrput0 : rput0.Ty) (mrput1 : rput1.Ty) (mrdone : rdone.Ty) : Gi := giF (giD Tryd.prog (gtL [(0, .err 1), (2, .err 3), (3, .err 4)]) (fun _ => an) 0 [] (ovL [(51, rbegin.con mrbegin), (53, fContext.con mfContext), (52, radd.con mradd), (64, fTree.con mfTree), (38, wNum.con mwNum), (54, rput.con mrput0 mrput1), (55, rdone.con mrdone)]) 1)
noncomputable def m (mrbegin : rbegin.Ty) (mfContext : fContext.Ty) (mradd : radd.Ty) (mfTree : fTree.Ty) (mwNum : wNum.Ty) (_mrput0 : rput0.Ty) (mrput1 : rput1.Ty) (mrdone : rdone.Ty) {R : Type} (_N : Nat) (x1 : List Int) (x2 : Int) (x3 : List Int) (x4 : List Int) (x5 : List SlotT) (x6 : List Int) (x7 : Int) (x8 : List Int) (kr0 : (Option Bool) → (List Int) → Nat → Option R) : Option R :=
  mrbegin R ([105, 110, 102, 111])
   (fun b_c38 => mfContext R x1 x2 x3 x4
    (fun v_c39 v_1_c40 v_2_c41 => mradd R 0 b_c38 v_c39 v_1_c40 v_2_c41
     (fun b_c42 b_1_c43 => mfTree R x5
      (fun v_c44 v_1_c45 v_2_c46 => mradd R b_c42 b_1_c43 v_c44 v_1_c45 v_2_c46
       (fun b_c47 b_1_c48 => mwNum R x7
        (fun v_c49 => mrput1 R b_c47 b_1_c48 (List.drop 0 (List.take 32 x6)) ([v_c49])
         (fun b_c50 b_1_c51 => mrdone R b_c50 b_1_c51
          (fun v_c52 _b_c53 _b_2_c54 => kr0 (some true) [] v_c52)
          (fun vg1_c55 v_1_c56 v_2_c57 _bg1_c58 => kr0 vg1_c55 v_1_c56 v_2_c57))))))))
theorem tree (mrbegin : rbegin.Ty) (mfContext : fContext.Ty) (mradd : radd.Ty) (mfTree : fTree.Ty) (mwNum : wNum.Ty) (mrput0 : rput0.Ty) (mrput1 : rput1.Ty) (mrdone : rdone.Ty) {R : Type} (N : Nat) (κ : AV → List Blk → Option R) (x1 : List Int) (x2 : Int) (x3 : List Int) (x4 : List Int) (x5 : List SlotT) (x6 : List Int) (x7 : Int) (x8 : List Int) : evF (g mrbegin mfContext mradd mfTree mwNum mrput0 mrput1 mrdone) an N Tryd.f25 [AV.agg [AV.agg [AV.ints IntKind.u8 32 x1, AV.int IntKind.i64 x2, AV.ints IntKind.u8 32 x3, AV.ints IntKind.u8 32 x4], AV.gsl slotTy x5, AV.ints IntKind.u8 32 x6, AV.int IntKind.i64 x7, AV.ints IntKind.u8 64 x8]] [] κ =
  mrbegin R ([105, 110, 102, 111])
   (fun b_c38 => mfContext R x1 x2 x3 x4
    (fun v_c39 v_1_c40 v_2_c41 => mradd R 0 b_c38 v_c39 v_1_c40 v_2_c41
     (fun b_c42 b_1_c43 => mfTree R x5
      (fun v_c44 v_1_c45 v_2_c46 => mradd R b_c42 b_1_c43 v_c44 v_1_c45 v_2_c46
       (fun b_c47 b_1_c48 => mwNum R x7
        (fun v_c49 => mrput1 R b_c47 b_1_c48 (List.drop 0 (List.take 32 x6)) ([v_c49])
         (fun b_c50 b_1_c51 => mrdone R b_c50 b_1_c51
          (fun v_c52 _b_c53 _b_2_c54 => κ (AV.tup [AV.isl IntKind.u8 (some true) [], AV.err v_c52]) [])
          (fun vg1_c55 v_1_c56 v_2_c57 _bg1_c58 => κ (AV.tup [AV.isl IntKind.u8 vg1_c55 v_1_c56, AV.err v_2_c57]) [])))))))) := by kernel_rfl
theorem eq (mrbegin : rbegin.Ty) (mfContext : fContext.Ty) (mradd : radd.Ty) (mfTree : fTree.Ty) (mwNum : wNum.Ty) (mrput0 : rput0.Ty) (mrput1 : rput1.Ty) (mrdone : rdone.Ty) {R : Type} (N : Nat) (κ : AV → List Blk → Option R) (x1 : List Int) (x2 : Int) (x3 : List Int) (x4 : List Int) (x5 : List SlotT) (x6 : List Int) (x7 : Int) (x8 : List Int) : evF (g mrbegin mfContext mradd mfTree mwNum mrput0 mrput1 mrdone) an N Tryd.f25 [AV.agg [AV.agg [AV.ints IntKind.u8 32 x1, AV.int IntKind.i64 x2, AV.ints IntKind.u8 32 x3, AV.ints IntKind.u8 32 x4], AV.gsl slotTy x5, AV.ints IntKind.u8 32 x6, AV.int IntKind.i64 x7, AV.ints IntKind.u8 64 x8]] [] κ =
  m mrbegin mfContext mradd mfTree mwNum mrput0 mrput1 mrdone N x1 x2 x3 x4 x5 x6 x7 x8 (fun v v_1 v_2 => κ (AV.tup [AV.isl IntKind.u8 v v_1, AV.err v_2]) []) := by
  rw [tree]
  kernel_rfl
abbrev Ty : Type 1 := ∀ R : Type, (List Int) → Int → (List Int) → (List Int) → (List SlotT) → (List Int) → Int → (List Int) → ((Option Bool) → (List Int) → Nat → Option R) → Option R
def con (f : Ty) : Con := fun R args bs κ => match args, bs with
  | [AV.agg [AV.agg [AV.ints IntKind.u8 32 x1, AV.int IntKind.i64 x2, AV.ints IntKind.u8 32 x3, AV.ints IntKind.u8 32 x4], AV.gsl slotTy x5, AV.ints IntKind.u8 32 x6, AV.int IntKind.i64 x7, AV.ints IntKind.u8 64 x8]], [] => f R x1 x2 x3 x4 x5 x6 x7 x8 (fun v v_1 v_2 => κ (AV.tup [AV.isl IntKind.u8 v v_1, AV.err v_2]) [])
  | _, _ => none
theorem con_eq (f : Ty) (R : Type) (κ : AV → List Blk → Option R) (x1 : List Int) (x2 : Int) (x3 : List Int) (x4 : List Int) (x5 : List SlotT) (x6 : List Int) (x7 : Int) (x8 : List Int) : con f R [AV.agg [AV.agg [AV.ints IntKind.u8 32 x1, AV.int IntKind.i64 x2, AV.ints IntKind.u8 32 x3, AV.ints IntKind.u8 32 x4], AV.gsl slotTy x5, AV.ints IntKind.u8 32 x6, AV.int IntKind.i64 x7, AV.ints IntKind.u8 64 x8]] [] κ = f R x1 x2 x3 x4 x5 x6 x7 x8 (fun v v_1 v_2 => κ (AV.tup [AV.isl IntKind.u8 v v_1, AV.err v_2]) []) := rfl
noncomputable def M (N : Nat) : Ty := fun R x1 x2 x3 x4 x5 x6 x7 x8 kr0 => m (rbegin.M N) (fContext.M N) (radd.M N) (fTree.M N) (wNum.M N) (rput0.M N) (rput1.M N) (rdone.M N) (R := R) N x1 x2 x3 x4 x5 x6 x7 x8 kr0
def gts : List (Nat × AV) := [(0, .err 1), (2, .err 3), (3, .err 4)]
theorem gok (N : Nat) : GOk (g (rbegin.M N) (fContext.M N) (radd.M N) (fTree.M N) (wNum.M N) (rput0.M N) (rput1.M N) (rdone.M N)) := giF_ok (giD_ok hm (by intro p hp; cases hp) (gtL_ok (by decide)) (ovL_ok (by
    intro p hp
    simp only [List.mem_cons, List.not_mem_nil, or_false] at hp
    rcases hp with rfl | rfl | rfl | rfl | rfl | rfl | rfl
    · exact ⟨(rbegin.ok N).gt (gtL_sub (by repeat (first | exact subG_nil _ | refine subG_cons (by kernel_rfl) ?_))) (gtL_ok (by decide)), _, Tryd.func51, by kernel_rfl, by kernel_rfl⟩
    · exact ⟨(fContext.ok N).gt (gtL_sub (by repeat (first | exact subG_nil _ | refine subG_cons (by kernel_rfl) ?_))) (gtL_ok (by decide)), _, Tryd.func53, by kernel_rfl, by kernel_rfl⟩
    · exact ⟨(radd.ok N).gt (gtL_sub (by repeat (first | exact subG_nil _ | refine subG_cons (by kernel_rfl) ?_))) (gtL_ok (by decide)), _, Tryd.func52, by kernel_rfl, by kernel_rfl⟩
    · exact ⟨(fTree.ok N).gt (gtL_sub (by repeat (first | exact subG_nil _ | refine subG_cons (by kernel_rfl) ?_))) (gtL_ok (by decide)), _, Tryd.func64, by kernel_rfl, by kernel_rfl⟩
    · exact ⟨(wNum.ok N).gt (gtL_sub (by repeat (first | exact subG_nil _ | refine subG_cons (by kernel_rfl) ?_))) (gtL_ok (by decide)), _, Tryd.func38, by kernel_rfl, by kernel_rfl⟩
    · exact ⟨(rput.ok N).gt (gtL_sub (by repeat (first | exact subG_nil _ | refine subG_cons (by kernel_rfl) ?_))) (gtL_ok (by decide)), _, Tryd.func54, by kernel_rfl, by kernel_rfl⟩
    · exact ⟨(rdone.ok N).gt (gtL_sub (by repeat (first | exact subG_nil _ | refine subG_cons (by kernel_rfl) ?_))) (gtL_ok (by decide)), _, Tryd.func55, by kernel_rfl, by kernel_rfl⟩
)) 1)
theorem ok (N : Nat) : SoundC Tryd.prog (gtL gts) 25 (con (M N)) := by
  refine SoundC.mono (evF_ok (gok N) hm an N Tryd.func25) fun R args bs κ r h => ?_
  unfold con at h
  split at h
  · exact (eq (rbegin.M N) (fContext.M N) (radd.M N) (fTree.M N) (wNum.M N) (rput0.M N) (rput1.M N) (rdone.M N) N κ _ _ _ _ _ _ _ _).trans h
  · cases h
end recInfo

end Go.Proofs.YthajoenmfppenaaDoor.fn
