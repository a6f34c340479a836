/- What a tree's bytes are, with the proof; printed by a program. -/
import Derived.Test.YthajoenmfppenaaDoorProg
import Derived.Test.YthajoenmfppenaaDoorEv4
import Derived.Test.YthajoenmfppenaaDoorFnNode
namespace Go.Proofs.YthajoenmfppenaaDoor.fn
open Go Go.Proofs Go.Ev
/-! ### Tryd.f93: listSlot -/
namespace listSlot
def an : Anns := ⟨fun i => findA i [(4, ⟨[2, 8, 21, 22, 23], [⟨8, 0, T.int IntKind.u8, none⟩, ⟨8, 1, T.sl IntKind.u8, some [0]⟩], 2, [.lift 8 [0] (.sl .u8)]⟩)], fun i => findA i [], false, fun _ => none, [.lift 8 [0] (.sl .u8)]⟩
noncomputable def g (mwneed0 : wneed0.Ty) (mwneed1 : wneed1.Ty) (mwsub2 : wsub2.Ty) (mwdone2 : wdone2.Ty) (mfslot : fslot.Ty) : Gi := giD Tryd.prog (gtL [(0, .err 1), (2, .err 3), (3, .err 4)]) (fun _ => an) 0 [] (ovL [(34, wneed.con mwneed0 mwneed1), (39, wsub2.con mwsub2), (37, wdone2.con mwdone2), (94, fslot.con mfslot)]) 1
noncomputable def c_L4 : Code := loopOf Tryd.f93 0
def s_L4 (t21 : List SlotT) (t22 : Int) (t23 : Int) (h0 : Nat) (h1 : Bool) (h1_5 : List (List Int)) : St := ⟨[AV.dead, AV.dead, AV.fn 94] ++ List.replicate 5 .dead ++ [AV.ptr 0 []] ++ List.replicate 12 .dead ++ [AV.gsl slotTy t21, AV.int IntKind.i64 t22, AV.int IntKind.i64 t23] ++ List.replicate 13 .dead, [Blk.var (AV.agg [AV.own 1 [] 0 none, AV.err h0]), Blk.gro (T.sl IntKind.u8) h1 h1_5]⟩
def x_L4_0 (t21 : List SlotT) (t22 : Int) (t23 : Int) (h0 : Nat) (h1 : Bool) (h1_5 : List (List Int)) : St := ⟨[AV.dead, AV.dead, AV.fn 94] ++ List.replicate 5 .dead ++ [AV.ptr 0 []] ++ List.replicate 12 .dead ++ [AV.gsl slotTy t21, AV.int IntKind.i64 t22, AV.int IntKind.i64 t23, AV.bool (decide (t23 < t22))] ++ List.replicate 12 .dead, [Blk.var (AV.agg [AV.own 1 [] 0 none, AV.err h0]), Blk.gro (T.sl IntKind.u8) h1 h1_5]⟩
noncomputable def L4 (mwneed0 : wneed0.Ty) (mwneed1 : wneed1.Ty) (mwsub2 : wsub2.Ty) (mwdone2 : wdone2.Ty) (mfslot : fslot.Ty) {R : Type} (N : Nat) (ke0 : (List SlotT) → Int → Int → Nat → Bool → (List (List Int)) → Option R) : Nat → (List SlotT) → Int → Int → Nat → Bool → (List (List Int)) → Option R
  | 0, _, _, _, _, _, _ => none
  | m + 1, t21, t22, t23, h0, h1, h1_5 =>
    cond (decide (t23 < t22))
     (cond (decide (0 ≤ t23))
      (cond (decide (t23 < (↑t21.length : Int)))
       (mfslot R ((t21.getD t23.toNat (dflt slotTy)).fst) ((t21.getD t23.toNat (dflt slotTy)).snd.fst.fst) ((t21.getD t23.toNat (dflt slotTy)).snd.fst.snd.fst) none ((t21.getD t23.toNat (dflt slotTy)).snd.fst.snd.snd.fst) ((t21.getD t23.toNat (dflt slotTy)).snd.fst.snd.snd.snd.fst) ((t21.getD t23.toNat (dflt slotTy)).snd.fst.snd.snd.snd.snd.fst) ((t21.getD t23.toNat (dflt slotTy)).snd.snd.fst.fst) ((t21.getD t23.toNat (dflt slotTy)).snd.snd.fst.snd.fst) none ((t21.getD t23.toNat (dflt slotTy)).snd.snd.fst.snd.snd.fst)
        (fun v_c43 v_1_c44 v_2_c45 => mwsub2 R h0 h1 h1_5 v_c43 v_1_c44 v_2_c45
         (fun b_c46 b_1_c47 => L4 mwneed0 mwneed1 mwsub2 mwdone2 mfslot N ke0 m t21 t22 (IntKind.i64.wrap (t23 + 1)) b_c46 false b_1_c47)))
       none)
      none)
     (ke0 t21 t22 t23 h0 h1 h1_5)
theorem round_L4 (mwneed0 : wneed0.Ty) (mwneed1 : wneed1.Ty) (mwsub2 : wsub2.Ty) (mwdone2 : wdone2.Ty) (mfslot : fslot.Ty) {R : Type} (N : Nat) (Rn : St → Option R) (k : K R) (t21 : List SlotT) (t22 : Int) (t23 : Int) (h0 : Nat) (h1 : Bool) (h1_5 : List (List Int)) : evC (g mwneed0 mwneed1 mwsub2 mwdone2 mfslot) an 0 N c_L4 none (roundK (nmOf 0 (an.loop 4)) Rn k) (s_L4 t21 t22 t23 h0 h1 h1_5) =
  cond (decide (t23 < t22))
   (cond (decide (0 ≤ t23))
    (cond (decide (t23 < (↑t21.length : Int)))
     (mfslot R ((t21.getD t23.toNat (dflt slotTy)).fst) ((t21.getD t23.toNat (dflt slotTy)).snd.fst.fst) ((t21.getD t23.toNat (dflt slotTy)).snd.fst.snd.fst) none ((t21.getD t23.toNat (dflt slotTy)).snd.fst.snd.snd.fst) ((t21.getD t23.toNat (dflt slotTy)).snd.fst.snd.snd.snd.fst) ((t21.getD t23.toNat (dflt slotTy)).snd.fst.snd.snd.snd.snd.fst) ((t21.getD t23.toNat (dflt slotTy)).snd.snd.fst.fst) ((t21.getD t23.toNat (dflt slotTy)).snd.snd.fst.snd.fst) none ((t21.getD t23.toNat (dflt slotTy)).snd.snd.fst.snd.snd.fst)
      (fun v_c43 v_1_c44 v_2_c45 => mwsub2 R h0 h1 h1_5 v_c43 v_1_c44 v_2_c45
       (fun b_c46 b_1_c47 => Rn (s_L4 t21 t22 (IntKind.i64.wrap (t23 + 1)) b_c46 false b_1_c47))))
     none)
    none)
   (k.ext 0 (x_L4_0 t21 t22 t23 h0 h1 h1_5)) := by kernel_rfl
theorem run_L4 (mwneed0 : wneed0.Ty) (mwneed1 : wneed1.Ty) (mwsub2 : wsub2.Ty) (mwdone2 : wdone2.Ty) (mfslot : fslot.Ty) {R : Type} (N : Nat) (k : K R) : ∀ (m : Nat) (t21 : List SlotT) (t22 : Int) (t23 : Int) (h0 : Nat) (h1 : Bool) (h1_5 : List (List Int)), loopN (evC (g mwneed0 mwneed1 mwsub2 mwdone2 mfslot) an 0 N c_L4 none) k (nmOf 0 (an.loop 4)) m (s_L4 t21 t22 t23 h0 h1 h1_5) =
    L4 mwneed0 mwneed1 mwsub2 mwdone2 mfslot N (fun t21 t22 t23 h0 h1 h1_5 => (k).ext 0 (x_L4_0 t21 t22 t23 h0 h1 h1_5)) m t21 t22 t23 h0 h1 h1_5 := by
  intro m
  induction m with
  | zero => intros; rfl
  | succ m ih =>
    intros
    rw [loopN_succ, round_L4]
    simp only [ih]
    kernel_rfl
noncomputable def m (mwneed0 : wneed0.Ty) (mwneed1 : wneed1.Ty) (mwsub2 : wsub2.Ty) (mwdone2 : wdone2.Ty) (mfslot : fslot.Ty) {R : Type} (N : Nat) (ll : List SlotT) (most : Int) (kr0 : (Option Bool) → (List Int) → Nat → Option R) : Option R :=
  mwneed0 R 0 (decide ((↑ll.length : Int) ≤ most))
   (fun b_c42 => cond (decide (0 ≤ min (↑ll.length : Int) most))
    (cond (decide (min (↑ll.length : Int) most ≤ (↑ll.length : Int)))
     (L4 mwneed0 mwneed1 mwsub2 mwdone2 mfslot N
      (fun _t21_c48 _t22_c49 _t23_c50 h0_c51 h1_c52 h1_5_c53 => mwdone2 R h0_c51 h1_c52 h1_5_c53
       (fun v_c54 _b_c55 _b_2_c56 _b_3_c57 => kr0 (some true) [] v_c54)
       (fun vg1_c58 v_1_c59 v_2_c60 _bg1_c61 => kr0 vg1_c58 v_1_c59 v_2_c60)) N (List.drop 0 (List.take (min (↑ll.length : Int) most).toNat ll)) ((↑(List.drop 0 (List.take (min (↑ll.length : Int) most).toNat ll)).length : Int)) 0 b_c42 true [])
     none)
    none)
theorem tree (mwneed0 : wneed0.Ty) (mwneed1 : wneed1.Ty) (mwsub2 : wsub2.Ty) (mwdone2 : wdone2.Ty) (mfslot : fslot.Ty) {R : Type} (N : Nat) (κ : AV → List Blk → Option R) (ll : List SlotT) (most : Int) : evF (g mwneed0 mwneed1 mwsub2 mwdone2 mfslot) an N Tryd.f93 [AV.gsl slotTy ll, AV.int IntKind.i64 most, AV.fn 94] [] κ =
  mwneed0 R 0 (decide ((↑ll.length : Int) ≤ most))
   (fun b_c42 => cond (decide (0 ≤ min (↑ll.length : Int) most))
    (cond (decide (min (↑ll.length : Int) most ≤ (↑ll.length : Int)))
     (loopN (evC (g mwneed0 mwneed1 mwsub2 mwdone2 mfslot) an 0 N c_L4 none) (ctx (g mwneed0 mwneed1 mwsub2 mwdone2 mfslot) an 0 N (bodyOf Tryd.f93) [1, 1, 1, 0, 1, 0] (endK (g mwneed0 mwneed1 mwsub2 mwdone2 mfslot) an Tryd.f93 [] κ)) (nmOf 0 (an.loop 4)) N (s_L4 (List.drop 0 (List.take (min (↑ll.length : Int) most).toNat ll)) ((↑(List.drop 0 (List.take (min (↑ll.length : Int) most).toNat ll)).length : Int)) 0 b_c42 true []))
     none)
    none) := by kernel_rfl
theorem eq (mwneed0 : wneed0.Ty) (mwneed1 : wneed1.Ty) (mwsub2 : wsub2.Ty) (mwdone2 : wdone2.Ty) (mfslot : fslot.Ty) {R : Type} (N : Nat) (κ : AV → List Blk → Option R) (ll : List SlotT) (most : Int) : evF (g mwneed0 mwneed1 mwsub2 mwdone2 mfslot) an N Tryd.f93 [AV.gsl slotTy ll, AV.int IntKind.i64 most, AV.fn 94] [] κ =
  m mwneed0 mwneed1 mwsub2 mwdone2 mfslot N ll most (fun v v_1 v_2 => κ (AV.tup [AV.isl IntKind.u8 v v_1, AV.err v_2]) []) := by
  rw [tree]
  simp only [run_L4]
  kernel_rfl
abbrev Ty : Type 1 := ∀ R : Type, (List SlotT) → Int → ((Option Bool) → (List Int) → Nat → Option R) → Option R
def con (f : Ty) : Con := fun R args bs κ => match args, bs with
  | [AV.gsl slotTy ll, AV.int IntKind.i64 most, AV.fn 94], [] => f R ll most (fun v v_1 v_2 => κ (AV.tup [AV.isl IntKind.u8 v v_1, AV.err v_2]) [])
  | _, _ => none
theorem con_eq (f : Ty) (R : Type) (κ : AV → List Blk → Option R) (ll : List SlotT) (most : Int) : con f R [AV.gsl slotTy ll, AV.int IntKind.i64 most, AV.fn 94] [] κ = f R ll most (fun v v_1 v_2 => κ (AV.tup [AV.isl IntKind.u8 v v_1, AV.err v_2]) []) := rfl
noncomputable def M (N : Nat) : Ty := fun R ll most kr0 => m (wneed0.M N) (wneed1.M N) (wsub2.M N) (wdone2.M N) (fslot.M N) (R := R) N ll most kr0
def gts : List (Nat × AV) := [(0, .err 1), (2, .err 3), (3, .err 4)]
theorem gok (N : Nat) : GOk (g (wneed0.M N) (wneed1.M N) (wsub2.M N) (wdone2.M N) (fslot.M N)) := giD_ok hm (by intro p hp; cases hp) (gtL_ok (by decide)) (ovL_ok (by
    intro p hp
    simp only [List.mem_cons, List.not_mem_nil, or_false] at hp
    rcases hp with rfl | rfl | rfl | rfl
    · exact ⟨(wneed.ok N).gt (gtL_sub (by repeat (first | exact subG_nil _ | refine subG_cons (by kernel_rfl) ?_))) (gtL_ok (by decide)), _, Tryd.func34, by kernel_rfl, by kernel_rfl⟩
    · exact ⟨(wsub2.ok N).gt (gtL_sub (by repeat (first | exact subG_nil _ | refine subG_cons (by kernel_rfl) ?_))) (gtL_ok (by decide)), _, Tryd.func39, by kernel_rfl, by kernel_rfl⟩
    · exact ⟨(wdone2.ok N).gt (gtL_sub (by repeat (first | exact subG_nil _ | refine subG_cons (by kernel_rfl) ?_))) (gtL_ok (by decide)), _, Tryd.func37, by kernel_rfl, by kernel_rfl⟩
    · exact ⟨(fslot.ok N).gt (gtL_sub (by repeat (first | exact subG_nil _ | refine subG_cons (by kernel_rfl) ?_))) (gtL_ok (by decide)), _, Tryd.func94, by kernel_rfl, by kernel_rfl⟩
)) 1
theorem ok (N : Nat) : SoundC Tryd.prog (gtL gts) 93 (con (M N)) := by
  refine SoundC.mono (evF_ok (gok N) hm an N Tryd.func93) fun R args bs κ r h => ?_
  unfold con at h
  split at h
  · exact (eq (wneed0.M N) (wneed1.M N) (wsub2.M N) (wdone2.M N) (fslot.M N) N κ _ _).trans h
  · cases h
end listSlot

/-! ### Tryd.f109: plRight -/
namespace plRight
def an : Anns := ⟨fun i => findA i [], fun i => findA i [], false, fun _ => none, []⟩
noncomputable def g : Gi := giD Tryd.prog (gtL []) (fun _ => an) 0 [] (ovL []) 1
noncomputable def m {R : Type} (_N : Nat) (leaves1 : Int) (kr0 : Bool → Option R) : Option R :=
  cond (decide (leaves1 ≥ 1))
   (cond (decide (leaves1 ≤ 16))
    (kr0 (iand IntKind.i64 leaves1 (IntKind.i64.wrap (leaves1 - 1)) == 0))
    (kr0 false))
   (kr0 false)
theorem tree {R : Type} (N : Nat) (κ : AV → List Blk → Option R) (leaves1 : Int) : evF g an N Tryd.f109 [AV.int IntKind.i64 leaves1] [] κ =
  cond (decide (leaves1 ≥ 1))
   (cond (decide (leaves1 ≤ 16))
    (κ (AV.bool (iand IntKind.i64 leaves1 (IntKind.i64.wrap (leaves1 - 1)) == 0)) [])
    (κ (AV.bool false) []))
   (κ (AV.bool false) []) := by kernel_rfl
theorem eq {R : Type} (N : Nat) (κ : AV → List Blk → Option R) (leaves1 : Int) : evF g an N Tryd.f109 [AV.int IntKind.i64 leaves1] [] κ =
  m N leaves1 (fun v => κ (AV.bool v) []) := by
  rw [tree]
  kernel_rfl
abbrev Ty : Type 1 := ∀ R : Type, Int → (Bool → Option R) → Option R
def con (f : Ty) : Con := fun R args bs κ => match args, bs with
  | [AV.int IntKind.i64 leaves1], [] => f R leaves1 (fun v => κ (AV.bool v) [])
  | _, _ => none
theorem con_eq (f : Ty) (R : Type) (κ : AV → List Blk → Option R) (leaves1 : Int) : con f R [AV.int IntKind.i64 leaves1] [] κ = f R leaves1 (fun v => κ (AV.bool v) []) := rfl
noncomputable def M (N : Nat) : Ty := fun R leaves1 kr0 => m (R := R) N leaves1 kr0
def gts : List (Nat × AV) := []
theorem gok (_N : Nat) : GOk g := giD_ok hm (by intro p hp; cases hp) (gtL_ok (by decide)) (ovL_ok (by intro p hp; cases hp)) 1
theorem ok (N : Nat) : SoundC Tryd.prog (gtL gts) 109 (con (M N)) := by
  refine SoundC.mono (evF_ok (gok N) hm an N Tryd.func109) fun R args bs κ r h => ?_
  unfold con at h
  split at h
  · exact (eq N κ _).trans h
  · cases h
end plRight

/-! ### Tryd.f92: treeRight -/
namespace treeRight
def an : Anns := ⟨fun i => findA i [(4, ⟨[17, 18, 19], [], 0, []⟩)], fun i => findA i [], false, fun _ => none, []⟩
noncomputable def g (mplRight : plRight.Ty) : Gi := giD Tryd.prog (gtL []) (fun _ => an) 0 [] (ovL [(109, plRight.con mplRight)]) 1
noncomputable def c_L4 : Code := loopOf Tryd.f92 0
def s_L4 (t17 : List SlotT) (t18 : Int) (t19 : Int) : St := ⟨List.replicate 17 .dead ++ [AV.gsl slotTy t17, AV.int IntKind.i64 t18, AV.int IntKind.i64 t19] ++ List.replicate 23 .dead, []⟩
def x_L4_0 (t17 : List SlotT) (t18 : Int) (t19 : Int) : St := ⟨[AV.dead, AV.dead, AV.bool false, AV.int IntKind.i64 t19, AV.ptr 0 []] ++ List.replicate 12 .dead ++ [AV.gsl slotTy t17, AV.int IntKind.i64 t18, AV.int IntKind.i64 t19, AV.bool (decide (t19 < t18)), AV.int IntKind.i64 t19, AV.rpg slotTy (t17.getD t19.toNat (dflt slotTy)), AV.agg [AV.int IntKind.i64 (t17.getD t19.toNat (dflt slotTy)).fst, AV.agg [AV.ints IntKind.u8 32 (t17.getD t19.toNat (dflt slotTy)).snd.fst.fst, AV.ints IntKind.u8 32 (t17.getD t19.toNat (dflt slotTy)).snd.fst.snd.fst, AV.isl IntKind.u8 none (t17.getD t19.toNat (dflt slotTy)).snd.fst.snd.snd.fst, AV.ints IntKind.u8 32 (t17.getD t19.toNat (dflt slotTy)).snd.fst.snd.snd.snd.fst, AV.ints IntKind.u8 64 (t17.getD t19.toNat (dflt slotTy)).snd.fst.snd.snd.snd.snd.fst], AV.agg [AV.ints IntKind.u8 32 (t17.getD t19.toNat (dflt slotTy)).snd.snd.fst.fst, AV.ints IntKind.u8 32 (t17.getD t19.toNat (dflt slotTy)).snd.snd.fst.snd.fst, AV.isl IntKind.i64 none (t17.getD t19.toNat (dflt slotTy)).snd.snd.fst.snd.snd.fst]], AV.ptr 0 [0], AV.int IntKind.i64 (t17.getD t19.toNat (dflt slotTy)).fst, AV.bool ((t17.getD t19.toNat (dflt slotTy)).fst == 1), AV.bool true, AV.int IntKind.i64 t19, AV.int IntKind.i64 (t19.tmod 2), AV.bool (t19.tmod 2 == 1), AV.bool (t19.tmod 2 == 1), AV.bool true] ++ List.replicate 8 und ++ [AV.bool true, AV.dead], [Blk.var (AV.agg [AV.int IntKind.i64 (t17.getD t19.toNat (dflt slotTy)).fst, AV.agg [AV.ints IntKind.u8 32 (t17.getD t19.toNat (dflt slotTy)).snd.fst.fst, AV.ints IntKind.u8 32 (t17.getD t19.toNat (dflt slotTy)).snd.fst.snd.fst, AV.isl IntKind.u8 none (t17.getD t19.toNat (dflt slotTy)).snd.fst.snd.snd.fst, AV.ints IntKind.u8 32 (t17.getD t19.toNat (dflt slotTy)).snd.fst.snd.snd.snd.fst, AV.ints IntKind.u8 64 (t17.getD t19.toNat (dflt slotTy)).snd.fst.snd.snd.snd.snd.fst], AV.agg [AV.ints IntKind.u8 32 (t17.getD t19.toNat (dflt slotTy)).snd.snd.fst.fst, AV.ints IntKind.u8 32 (t17.getD t19.toNat (dflt slotTy)).snd.snd.fst.snd.fst, AV.isl IntKind.i64 none (t17.getD t19.toNat (dflt slotTy)).snd.snd.fst.snd.snd.fst]])]⟩
def x_L4_1 (t17 : List SlotT) (t18 : Int) (t19 : Int) : St := ⟨[AV.dead, AV.dead, AV.bool false, AV.int IntKind.i64 t19, AV.ptr 0 []] ++ List.replicate 12 .dead ++ [AV.gsl slotTy t17, AV.int IntKind.i64 t18, AV.int IntKind.i64 t19, AV.bool (decide (t19 < t18)), AV.int IntKind.i64 t19, AV.rpg slotTy (t17.getD t19.toNat (dflt slotTy)), AV.agg [AV.int IntKind.i64 (t17.getD t19.toNat (dflt slotTy)).fst, AV.agg [AV.ints IntKind.u8 32 (t17.getD t19.toNat (dflt slotTy)).snd.fst.fst, AV.ints IntKind.u8 32 (t17.getD t19.toNat (dflt slotTy)).snd.fst.snd.fst, AV.isl IntKind.u8 none (t17.getD t19.toNat (dflt slotTy)).snd.fst.snd.snd.fst, AV.ints IntKind.u8 32 (t17.getD t19.toNat (dflt slotTy)).snd.fst.snd.snd.snd.fst, AV.ints IntKind.u8 64 (t17.getD t19.toNat (dflt slotTy)).snd.fst.snd.snd.snd.snd.fst], AV.agg [AV.ints IntKind.u8 32 (t17.getD t19.toNat (dflt slotTy)).snd.snd.fst.fst, AV.ints IntKind.u8 32 (t17.getD t19.toNat (dflt slotTy)).snd.snd.fst.snd.fst, AV.isl IntKind.i64 none (t17.getD t19.toNat (dflt slotTy)).snd.snd.fst.snd.snd.fst]], AV.ptr 0 [0], AV.int IntKind.i64 (t17.getD t19.toNat (dflt slotTy)).fst, AV.bool ((t17.getD t19.toNat (dflt slotTy)).fst == 1), AV.bool true, AV.int IntKind.i64 t19, AV.int IntKind.i64 (t19.tmod 2), AV.bool (t19.tmod 2 == 1), AV.bool (t19.tmod 2 == 1), AV.bool false, AV.ptr 0 [0], AV.int IntKind.i64 (t17.getD t19.toNat (dflt slotTy)).fst, AV.bool ((t17.getD t19.toNat (dflt slotTy)).fst == 2), AV.bool true, AV.int IntKind.i64 t19, AV.int IntKind.i64 (t19.tmod 2), AV.bool (t19.tmod 2 == 0), AV.bool (t19.tmod 2 == 0), AV.bool (t19.tmod 2 == 0), AV.dead], [Blk.var (AV.agg [AV.int IntKind.i64 (t17.getD t19.toNat (dflt slotTy)).fst, AV.agg [AV.ints IntKind.u8 32 (t17.getD t19.toNat (dflt slotTy)).snd.fst.fst, AV.ints IntKind.u8 32 (t17.getD t19.toNat (dflt slotTy)).snd.fst.snd.fst, AV.isl IntKind.u8 none (t17.getD t19.toNat (dflt slotTy)).snd.fst.snd.snd.fst, AV.ints IntKind.u8 32 (t17.getD t19.toNat (dflt slotTy)).snd.fst.snd.snd.snd.fst, AV.ints IntKind.u8 64 (t17.getD t19.toNat (dflt slotTy)).snd.fst.snd.snd.snd.snd.fst], AV.agg [AV.ints IntKind.u8 32 (t17.getD t19.toNat (dflt slotTy)).snd.snd.fst.fst, AV.ints IntKind.u8 32 (t17.getD t19.toNat (dflt slotTy)).snd.snd.fst.snd.fst, AV.isl IntKind.i64 none (t17.getD t19.toNat (dflt slotTy)).snd.snd.fst.snd.snd.fst]])]⟩
def x_L4_2 (t17 : List SlotT) (t18 : Int) (t19 : Int) : St := ⟨[AV.dead, AV.dead, AV.bool false, AV.int IntKind.i64 t19, AV.ptr 0 []] ++ List.replicate 12 .dead ++ [AV.gsl slotTy t17, AV.int IntKind.i64 t18, AV.int IntKind.i64 t19, AV.bool (decide (t19 < t18)), AV.int IntKind.i64 t19, AV.rpg slotTy (t17.getD t19.toNat (dflt slotTy)), AV.agg [AV.int IntKind.i64 (t17.getD t19.toNat (dflt slotTy)).fst, AV.agg [AV.ints IntKind.u8 32 (t17.getD t19.toNat (dflt slotTy)).snd.fst.fst, AV.ints IntKind.u8 32 (t17.getD t19.toNat (dflt slotTy)).snd.fst.snd.fst, AV.isl IntKind.u8 none (t17.getD t19.toNat (dflt slotTy)).snd.fst.snd.snd.fst, AV.ints IntKind.u8 32 (t17.getD t19.toNat (dflt slotTy)).snd.fst.snd.snd.snd.fst, AV.ints IntKind.u8 64 (t17.getD t19.toNat (dflt slotTy)).snd.fst.snd.snd.snd.snd.fst], AV.agg [AV.ints IntKind.u8 32 (t17.getD t19.toNat (dflt slotTy)).snd.snd.fst.fst, AV.ints IntKind.u8 32 (t17.getD t19.toNat (dflt slotTy)).snd.snd.fst.snd.fst, AV.isl IntKind.i64 none (t17.getD t19.toNat (dflt slotTy)).snd.snd.fst.snd.snd.fst]], AV.ptr 0 [0], AV.int IntKind.i64 (t17.getD t19.toNat (dflt slotTy)).fst, AV.bool ((t17.getD t19.toNat (dflt slotTy)).fst == 1), AV.bool false, AV.tup [], AV.tup [], AV.tup [], AV.bool false, AV.bool false, AV.ptr 0 [0], AV.int IntKind.i64 (t17.getD t19.toNat (dflt slotTy)).fst, AV.bool ((t17.getD t19.toNat (dflt slotTy)).fst == 2), AV.bool true, AV.int IntKind.i64 t19, AV.int IntKind.i64 (t19.tmod 2), AV.bool (t19.tmod 2 == 0), AV.bool (t19.tmod 2 == 0), AV.bool (t19.tmod 2 == 0), AV.dead], [Blk.var (AV.agg [AV.int IntKind.i64 (t17.getD t19.toNat (dflt slotTy)).fst, AV.agg [AV.ints IntKind.u8 32 (t17.getD t19.toNat (dflt slotTy)).snd.fst.fst, AV.ints IntKind.u8 32 (t17.getD t19.toNat (dflt slotTy)).snd.fst.snd.fst, AV.isl IntKind.u8 none (t17.getD t19.toNat (dflt slotTy)).snd.fst.snd.snd.fst, AV.ints IntKind.u8 32 (t17.getD t19.toNat (dflt slotTy)).snd.fst.snd.snd.snd.fst, AV.ints IntKind.u8 64 (t17.getD t19.toNat (dflt slotTy)).snd.fst.snd.snd.snd.snd.fst], AV.agg [AV.ints IntKind.u8 32 (t17.getD t19.toNat (dflt slotTy)).snd.snd.fst.fst, AV.ints IntKind.u8 32 (t17.getD t19.toNat (dflt slotTy)).snd.snd.fst.snd.fst, AV.isl IntKind.i64 none (t17.getD t19.toNat (dflt slotTy)).snd.snd.fst.snd.snd.fst]])]⟩
def x_L4_3 (t17 : List SlotT) (t18 : Int) (t19 : Int) : St := ⟨List.replicate 17 .dead ++ [AV.gsl slotTy t17, AV.int IntKind.i64 t18, AV.int IntKind.i64 t19, AV.bool (decide (t19 < t18))] ++ List.replicate 22 .dead, []⟩
noncomputable def L4 (mplRight : plRight.Ty) {R : Type} (N : Nat) (ke0 : (List SlotT) → Int → Int → Option R) (ke1 : (List SlotT) → Int → Int → Option R) (ke2 : (List SlotT) → Int → Int → Option R) (ke3 : (List SlotT) → Int → Int → Option R) : Nat → (List SlotT) → Int → Int → Option R
  | 0, _, _, _ => none
  | m + 1, t17, t18, t19 =>
    cond (decide (t19 < t18))
     (cond (decide (0 ≤ t19))
      (cond (decide (t19 < (↑t17.length : Int)))
       (cond ((t17.getD t19.toNat (dflt slotTy)).fst == 1)
        (cond (t19.tmod 2 == 1)
         (ke0 t17 t18 t19)
         (cond ((t17.getD t19.toNat (dflt slotTy)).fst == 2)
          (cond (t19.tmod 2 == 0)
           (ke1 t17 t18 t19)
           (L4 mplRight N ke0 ke1 ke2 ke3 m t17 t18 (IntKind.i64.wrap (t19 + 1))))
          (L4 mplRight N ke0 ke1 ke2 ke3 m t17 t18 (IntKind.i64.wrap (t19 + 1)))))
        (cond ((t17.getD t19.toNat (dflt slotTy)).fst == 2)
         (cond (t19.tmod 2 == 0)
          (ke2 t17 t18 t19)
          (L4 mplRight N ke0 ke1 ke2 ke3 m t17 t18 (IntKind.i64.wrap (t19 + 1))))
         (L4 mplRight N ke0 ke1 ke2 ke3 m t17 t18 (IntKind.i64.wrap (t19 + 1)))))
       none)
      none)
     (ke3 t17 t18 t19)
theorem round_L4 (mplRight : plRight.Ty) {R : Type} (N : Nat) (Rn : St → Option R) (k : K R) (t17 : List SlotT) (t18 : Int) (t19 : Int) : evC (g mplRight) an 0 N c_L4 none (roundK (nmOf 0 (an.loop 4)) Rn k) (s_L4 t17 t18 t19) =
  cond (decide (t19 < t18))
   (cond (decide (0 ≤ t19))
    (cond (decide (t19 < (↑t17.length : Int)))
     (cond ((t17.getD t19.toNat (dflt slotTy)).fst == 1)
      (cond (t19.tmod 2 == 1)
       (k.ret (x_L4_0 t17 t18 t19))
       (cond ((t17.getD t19.toNat (dflt slotTy)).fst == 2)
        (cond (t19.tmod 2 == 0)
         (k.ret (x_L4_1 t17 t18 t19))
         (Rn (s_L4 t17 t18 (IntKind.i64.wrap (t19 + 1)))))
        (Rn (s_L4 t17 t18 (IntKind.i64.wrap (t19 + 1))))))
      (cond ((t17.getD t19.toNat (dflt slotTy)).fst == 2)
       (cond (t19.tmod 2 == 0)
        (k.ret (x_L4_2 t17 t18 t19))
        (Rn (s_L4 t17 t18 (IntKind.i64.wrap (t19 + 1)))))
       (Rn (s_L4 t17 t18 (IntKind.i64.wrap (t19 + 1))))))
     none)
    none)
   (k.ext 0 (x_L4_3 t17 t18 t19)) := by kernel_rfl
theorem run_L4 (mplRight : plRight.Ty) {R : Type} (N : Nat) (k : K R) : ∀ (m : Nat) (t17 : List SlotT) (t18 : Int) (t19 : Int), loopN (evC (g mplRight) an 0 N c_L4 none) k (nmOf 0 (an.loop 4)) m (s_L4 t17 t18 t19) =
    L4 mplRight N (fun t17 t18 t19 => (k).ret (x_L4_0 t17 t18 t19)) (fun t17 t18 t19 => (k).ret (x_L4_1 t17 t18 t19)) (fun t17 t18 t19 => (k).ret (x_L4_2 t17 t18 t19)) (fun t17 t18 t19 => (k).ext 0 (x_L4_3 t17 t18 t19)) m t17 t18 t19 := by
  intro m
  induction m with
  | zero => intros; rfl
  | succ m ih =>
    intros
    rw [loopN_succ, round_L4]
    simp only [ih]
    kernel_rfl
noncomputable def m (mplRight : plRight.Ty) {R : Type} (N : Nat) (x1 : List SlotT) (kr0 : Bool → Option R) : Option R :=
  cond ((↑x1.length : Int).tmod 2 == 0)
   (kr0 false)
   (mplRight R (IntKind.i64.wrap ((IntKind.i64.wrap ((↑x1.length : Int) + 1)).tdiv 2))
    (fun v_c14 => cond (!v_c14)
     (kr0 false)
     (L4 mplRight N
      (fun _t17_c15 _t18_c16 _t19_c17 => kr0 false)
      (fun _t17_c18 _t18_c19 _t19_c20 => kr0 false)
      (fun _t17_c21 _t18_c22 _t19_c23 => kr0 false)
      (fun _t17_c24 _t18_c25 _t19_c26 => kr0 true) N x1 ((↑x1.length : Int)) 0)))
theorem tree (mplRight : plRight.Ty) {R : Type} (N : Nat) (κ : AV → List Blk → Option R) (x1 : List SlotT) : evF (g mplRight) an N Tryd.f92 [AV.gsl slotTy x1] [] κ =
  cond ((↑x1.length : Int).tmod 2 == 0)
   (κ (AV.bool false) [])
   (mplRight R (IntKind.i64.wrap ((IntKind.i64.wrap ((↑x1.length : Int) + 1)).tdiv 2))
    (fun v_c14 => cond (!v_c14)
     (κ (AV.bool false) [])
     (loopN (evC (g mplRight) an 0 N c_L4 none) (ctx (g mplRight) an 0 N (bodyOf Tryd.f92) [1, 1, 0, 1, 0] (endK (g mplRight) an Tryd.f92 [] κ)) (nmOf 0 (an.loop 4)) N (s_L4 x1 ((↑x1.length : Int)) 0)))) := by kernel_rfl
theorem eq (mplRight : plRight.Ty) {R : Type} (N : Nat) (κ : AV → List Blk → Option R) (x1 : List SlotT) : evF (g mplRight) an N Tryd.f92 [AV.gsl slotTy x1] [] κ =
  m mplRight N x1 (fun v => κ (AV.bool v) []) := by
  rw [tree]
  simp only [run_L4]
  kernel_rfl
abbrev Ty : Type 1 := ∀ R : Type, (List SlotT) → (Bool → Option R) → Option R
def con (f : Ty) : Con := fun R args bs κ => match args, bs with
  | [AV.gsl slotTy x1], [] => f R x1 (fun v => κ (AV.bool v) [])
  | _, _ => none
theorem con_eq (f : Ty) (R : Type) (κ : AV → List Blk → Option R) (x1 : List SlotT) : con f R [AV.gsl slotTy x1] [] κ = f R x1 (fun v => κ (AV.bool v) []) := rfl
noncomputable def M (N : Nat) : Ty := fun R x1 kr0 => m (plRight.M N) (R := R) N x1 kr0
def gts : List (Nat × AV) := []
theorem gok (N : Nat) : GOk (g (plRight.M N)) := giD_ok hm (by intro p hp; cases hp) (gtL_ok (by decide)) (ovL_ok (by
    intro p hp
    simp only [List.mem_cons, List.not_mem_nil, or_false] at hp
    rcases hp with rfl
    · exact ⟨(plRight.ok N).gt (gtL_sub (by repeat (first | exact subG_nil _ | refine subG_cons (by kernel_rfl) ?_))) (gtL_ok (by decide)), _, Tryd.func109, by kernel_rfl, by kernel_rfl⟩
)) 1
theorem ok (N : Nat) : SoundC Tryd.prog (gtL gts) 92 (con (M N)) := by
  refine SoundC.mono (evF_ok (gok N) hm an N Tryd.func92) fun R args bs κ r h => ?_
  unfold con at h
  split at h
  · exact (eq (plRight.M N) N κ _).trans h
  · cases h
end treeRight

/-! ### Tryd.f64: fTree -/
namespace fTree
def an : Anns := ⟨fun i => findA i [], fun i => findA i [], false, fun _ => none, []⟩
noncomputable def g (mtreeRight : treeRight.Ty) (mlistSlot : listSlot.Ty) : Gi := giD Tryd.prog (gtL [(0, .err 1), (2, .err 3), (3, .err 4)]) (fun _ => an) 0 [] (ovL [(92, treeRight.con mtreeRight), (93, listSlot.con mlistSlot)]) 1
noncomputable def m (mtreeRight : treeRight.Ty) (mlistSlot : listSlot.Ty) {R : Type} (_N : Nat) (x1 : List SlotT) (kr0 : (Option Bool) → (List Int) → Nat → Option R) : Option R :=
  mtreeRight R x1
   (fun v_c5 => cond (!v_c5)
    (kr0 (some true) [] 4)
    (mlistSlot R x1 32
     (fun v_c6 v_1_c7 v_2_c8 => kr0 v_c6 v_1_c7 v_2_c8)))
theorem tree (mtreeRight : treeRight.Ty) (mlistSlot : listSlot.Ty) {R : Type} (N : Nat) (κ : AV → List Blk → Option R) (x1 : List SlotT) : evF (g mtreeRight mlistSlot) an N Tryd.f64 [AV.gsl slotTy x1] [] κ =
  mtreeRight R x1
   (fun v_c5 => cond (!v_c5)
    (κ (AV.tup [AV.isl IntKind.u8 (some true) [], AV.err 4]) [])
    (mlistSlot R x1 32
     (fun v_c6 v_1_c7 v_2_c8 => κ (AV.tup [AV.isl IntKind.u8 v_c6 v_1_c7, AV.err v_2_c8]) []))) := by kernel_rfl
theorem eq (mtreeRight : treeRight.Ty) (mlistSlot : listSlot.Ty) {R : Type} (N : Nat) (κ : AV → List Blk → Option R) (x1 : List SlotT) : evF (g mtreeRight mlistSlot) an N Tryd.f64 [AV.gsl slotTy x1] [] κ =
  m mtreeRight mlistSlot N x1 (fun v v_1 v_2 => κ (AV.tup [AV.isl IntKind.u8 v v_1, AV.err v_2]) []) := by
  rw [tree]
  kernel_rfl
abbrev Ty : Type 1 := ∀ R : Type, (List SlotT) → ((Option Bool) → (List Int) → Nat → Option R) → Option R
def con (f : Ty) : Con := fun R args bs κ => match args, bs with
  | [AV.gsl slotTy x1], [] => f R x1 (fun v v_1 v_2 => κ (AV.tup [AV.isl IntKind.u8 v v_1, AV.err v_2]) [])
  | _, _ => none
theorem con_eq (f : Ty) (R : Type) (κ : AV → List Blk → Option R) (x1 : List SlotT) : con f R [AV.gsl slotTy x1] [] κ = f R x1 (fun v v_1 v_2 => κ (AV.tup [AV.isl IntKind.u8 v v_1, AV.err v_2]) []) := rfl
noncomputable def M (N : Nat) : Ty := fun R x1 kr0 => m (treeRight.M N) (listSlot.M N) (R := R) N x1 kr0
def gts : List (Nat × AV) := [(0, .err 1), (2, .err 3), (3, .err 4)]
theorem gok (N : Nat) : GOk (g (treeRight.M N) (listSlot.M N)) := giD_ok hm (by intro p hp; cases hp) (gtL_ok (by decide)) (ovL_ok (by
    intro p hp
    simp only [List.mem_cons, List.not_mem_nil, or_false] at hp
    rcases hp with rfl | rfl
    · exact ⟨(treeRight.ok N).gt (gtL_sub (by repeat (first | exact subG_nil _ | refine subG_cons (by kernel_rfl) ?_))) (gtL_ok (by decide)), _, Tryd.func92, by kernel_rfl, by kernel_rfl⟩
    · exact ⟨(listSlot.ok N).gt (gtL_sub (by repeat (first | exact subG_nil _ | refine subG_cons (by kernel_rfl) ?_))) (gtL_ok (by decide)), _, Tryd.func93, by kernel_rfl, by kernel_rfl⟩
)) 1
theorem ok (N : Nat) : SoundC Tryd.prog (gtL gts) 64 (con (M N)) := by
  refine SoundC.mono (evF_ok (gok N) hm an N Tryd.func64) fun R args bs κ r h => ?_
  unfold con at h
  split at h
  · exact (eq (treeRight.M N) (listSlot.M N) N κ _).trans h
  · cases h
end fTree

end Go.Proofs.YthajoenmfppenaaDoor.fn
