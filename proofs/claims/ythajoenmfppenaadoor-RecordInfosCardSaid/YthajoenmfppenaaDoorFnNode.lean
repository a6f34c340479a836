/- What the bytes of a tree's places are, with the proof; printed by a program. -/
import Derived.Test.YthajoenmfppenaaDoorProg
import Derived.Test.YthajoenmfppenaaDoorEv4
import Derived.Test.YthajoenmfppenaaDoorFnList
import Derived.Test.YthajoenmfppenaaDoorFnFormsA
namespace Go.Proofs.YthajoenmfppenaaDoor.fn
open Go Go.Proofs Go.Ev
/-! ### Tryd.f118: frise -/
namespace frise
def an : Anns := ⟨fun i => findA i [(3, ⟨[3, 6, 7, 8], [], 0, []⟩)], fun i => findA i [], false, fun _ => none, []⟩
noncomputable def g : Gi := giD Tryd.prog (gtL []) (fun _ => an) 0 [] (ovL []) 1
noncomputable def c_L3 : Code := loopOf Tryd.f118 0
def s_L3 (last3 : Int) (t6 : Option Bool) (t6_2 : List Int) (t7 : Int) (t8 : Int) : St := ⟨[AV.dead, AV.dead, AV.dead, AV.int IntKind.i64 last3, AV.dead, AV.dead, AV.isl IntKind.i64 t6 t6_2, AV.int IntKind.i64 t7, AV.int IntKind.i64 t8] ++ List.replicate 12 .dead, []⟩
def x_L3_0 (last3 : Int) (t6 : Option Bool) (t6_2 : List Int) (t7 : Int) (t8 : Int) : St := ⟨[AV.dead, AV.dead, AV.bool false, AV.int IntKind.i64 last3, AV.dead, AV.int IntKind.i64 (t6_2.getD t8.toNat 0), AV.isl IntKind.i64 t6 t6_2, AV.int IntKind.i64 t7, AV.int IntKind.i64 t8, AV.bool (decide (t8 < t7)), AV.rpi IntKind.i64 (t6_2.getD t8.toNat 0), AV.int IntKind.i64 (t6_2.getD t8.toNat 0), AV.int IntKind.i64 (t6_2.getD t8.toNat 0), AV.int IntKind.i64 last3, AV.bool (decide (t6_2.getD t8.toNat 0 ≤ last3)), AV.bool true, AV.tup [], AV.tup [], AV.bool true, AV.dead, AV.dead], []⟩
def x_L3_1 (last3 : Int) (t6 : Option Bool) (t6_2 : List Int) (t7 : Int) (t8 : Int) : St := ⟨[AV.dead, AV.dead, AV.bool false, AV.int IntKind.i64 last3, AV.dead, AV.int IntKind.i64 (t6_2.getD t8.toNat 0), AV.isl IntKind.i64 t6 t6_2, AV.int IntKind.i64 t7, AV.int IntKind.i64 t8, AV.bool (decide (t8 < t7)), AV.rpi IntKind.i64 (t6_2.getD t8.toNat 0), AV.int IntKind.i64 (t6_2.getD t8.toNat 0), AV.int IntKind.i64 (t6_2.getD t8.toNat 0), AV.int IntKind.i64 last3, AV.bool (decide (t6_2.getD t8.toNat 0 ≤ last3)), AV.bool false, AV.int IntKind.i64 (t6_2.getD t8.toNat 0), AV.bool (decide (t6_2.getD t8.toNat 0 ≥ 16)), AV.bool (decide (t6_2.getD t8.toNat 0 ≥ 16)), AV.dead, AV.dead], []⟩
def x_L3_2 (last3 : Int) (t6 : Option Bool) (t6_2 : List Int) (t7 : Int) (t8 : Int) : St := ⟨[AV.dead, AV.dead, AV.dead, AV.int IntKind.i64 last3, AV.dead, AV.dead, AV.isl IntKind.i64 t6 t6_2, AV.int IntKind.i64 t7, AV.int IntKind.i64 t8, AV.bool (decide (t8 < t7))] ++ List.replicate 11 .dead, []⟩
noncomputable def L3 {R : Type} (N : Nat) (ke0 : Int → (Option Bool) → (List Int) → Int → Int → Option R) (ke1 : Int → (Option Bool) → (List Int) → Int → Int → Option R) (ke2 : Int → (Option Bool) → (List Int) → Int → Int → Option R) : Nat → Int → (Option Bool) → (List Int) → Int → Int → Option R
  | 0, _, _, _, _, _ => none
  | m + 1, last3, t6, t6_2, t7, t8 =>
    cond (decide (t8 < t7))
     (cond (decide (0 ≤ t8))
      (cond (decide (t8 < (↑t6_2.length : Int)))
       (cond (decide (t6_2.getD t8.toNat 0 ≤ last3))
        (ke0 last3 t6 t6_2 t7 t8)
        (cond (decide (t6_2.getD t8.toNat 0 ≥ 16))
         (ke1 last3 t6 t6_2 t7 t8)
         (L3 N ke0 ke1 ke2 m (t6_2.getD t8.toNat 0) t6 t6_2 t7 (IntKind.i64.wrap (t8 + 1)))))
       none)
      none)
     (ke2 last3 t6 t6_2 t7 t8)
theorem round_L3 {R : Type} (N : Nat) (Rn : St → Option R) (k : K R) (last3 : Int) (t6 : Option Bool) (t6_2 : List Int) (t7 : Int) (t8 : Int) : evC g an 0 N c_L3 none (roundK (nmOf 0 (an.loop 3)) Rn k) (s_L3 last3 t6 t6_2 t7 t8) =
  cond (decide (t8 < t7))
   (cond (decide (0 ≤ t8))
    (cond (decide (t8 < (↑t6_2.length : Int)))
     (cond (decide (t6_2.getD t8.toNat 0 ≤ last3))
      (k.ret (x_L3_0 last3 t6 t6_2 t7 t8))
      (cond (decide (t6_2.getD t8.toNat 0 ≥ 16))
       (k.ret (x_L3_1 last3 t6 t6_2 t7 t8))
       (Rn (s_L3 (t6_2.getD t8.toNat 0) t6 t6_2 t7 (IntKind.i64.wrap (t8 + 1))))))
     none)
    none)
   (k.ext 0 (x_L3_2 last3 t6 t6_2 t7 t8)) := by kernel_rfl
theorem run_L3 {R : Type} (N : Nat) (k : K R) : ∀ (m : Nat) (last3 : Int) (t6 : Option Bool) (t6_2 : List Int) (t7 : Int) (t8 : Int), loopN (evC g an 0 N c_L3 none) k (nmOf 0 (an.loop 3)) m (s_L3 last3 t6 t6_2 t7 t8) =
    L3 N (fun last3 t6 t6_2 t7 t8 => (k).ret (x_L3_0 last3 t6 t6_2 t7 t8)) (fun last3 t6 t6_2 t7 t8 => (k).ret (x_L3_1 last3 t6 t6_2 t7 t8)) (fun last3 t6 t6_2 t7 t8 => (k).ext 0 (x_L3_2 last3 t6 t6_2 t7 t8)) m last3 t6 t6_2 t7 t8 := by
  intro m
  induction m with
  | zero => intros; rfl
  | succ m ih =>
    intros
    rw [loopN_succ, round_L3]
    simp only [ih]
    kernel_rfl
noncomputable def m {R : Type} (N : Nat) (lN1 : Option Bool) (l2 : List Int) (kr0 : Bool → Option R) : Option R :=
  L3 N
   (fun _last3_c20 _t6_c21 _t6_2_c22 _t7_c23 _t8_c24 => kr0 false)
   (fun _last3_c25 _t6_c26 _t6_2_c27 _t7_c28 _t8_c29 => kr0 false)
   (fun _last3_c30 _t6_c31 _t6_2_c32 _t7_c33 _t8_c34 => kr0 true) N (-1) lN1 l2 ((↑l2.length : Int)) 0
theorem tree {R : Type} (N : Nat) (κ : AV → List Blk → Option R) (lN1 : Option Bool) (l2 : List Int) : evF g an N Tryd.f118 [AV.isl IntKind.i64 lN1 l2] [] κ =
  loopN (evC g an 0 N c_L3 none) (ctx g an 0 N (bodyOf Tryd.f118) [1, 1, 0, 1, 0] (endK g an Tryd.f118 [] κ)) (nmOf 0 (an.loop 3)) N (s_L3 (-1) lN1 l2 ((↑l2.length : Int)) 0) := by kernel_rfl
theorem eq {R : Type} (N : Nat) (κ : AV → List Blk → Option R) (lN1 : Option Bool) (l2 : List Int) : evF g an N Tryd.f118 [AV.isl IntKind.i64 lN1 l2] [] κ =
  m N lN1 l2 (fun v => κ (AV.bool v) []) := by
  rw [tree]
  simp only [run_L3]
  kernel_rfl
abbrev Ty : Type 1 := ∀ R : Type, (Option Bool) → (List Int) → (Bool → Option R) → Option R
def con (f : Ty) : Con := fun R args bs κ => match args, bs with
  | [AV.isl IntKind.i64 lN1 l2], [] => f R lN1 l2 (fun v => κ (AV.bool v) [])
  | _, _ => none
theorem con_eq (f : Ty) (R : Type) (κ : AV → List Blk → Option R) (lN1 : Option Bool) (l2 : List Int) : con f R [AV.isl IntKind.i64 lN1 l2] [] κ = f R lN1 l2 (fun v => κ (AV.bool v) []) := rfl
noncomputable def M (N : Nat) : Ty := fun R lN1 l2 kr0 => m (R := R) N lN1 l2 kr0
def gts : List (Nat × AV) := []
theorem gok (_N : Nat) : GOk g := giD_ok hm (by intro p hp; cases hp) (gtL_ok (by decide)) (ovL_ok (by intro p hp; cases hp)) 1
theorem ok (N : Nat) : SoundC Tryd.prog (gtL gts) 118 (con (M N)) := by
  refine SoundC.mono (evF_ok (gok N) hm an N Tryd.func118) fun R args bs κ r h => ?_
  unfold con at h
  split at h
  · exact (eq N κ _ _).trans h
  · cases h
end frise

/-! ### Tryd.f110: fnode -/
namespace fnode
def an : Anns := ⟨fun i => findA i [], fun i => findA i [], false, fun _ => none, []⟩
noncomputable def g (mfrise : frise.Ty) (mwneed0 : wneed0.Ty) (mwneed1 : wneed1.Ty) (mwput0 : wput0.Ty) (mwput1 : wput1.Ty) (mlistInt : listInt.Ty) (mwsub0 : wsub0.Ty) (mwsub1 : wsub1.Ty) (mwdone0 : wdone0.Ty) (mwdone1 : wdone1.Ty) : Gi := giF (giD Tryd.prog (gtL [(0, .err 1), (2, .err 3), (3, .err 4)]) (fun _ => an) 0 [] (ovL [(118, frise.con mfrise), (34, wneed.con mwneed0 mwneed1), (36, wput.con mwput0 mwput1), (119, listInt.con mlistInt), (39, wsub.con mwsub0 mwsub1), (37, wdone.con mwdone0 mwdone1)]) 1)
noncomputable def m (mfrise : frise.Ty) (mwneed0 : wneed0.Ty) (_mwneed1 : wneed1.Ty) (mwput0 : wput0.Ty) (mwput1 : wput1.Ty) (mlistInt : listInt.Ty) (_mwsub0 : wsub0.Ty) (mwsub1 : wsub1.Ty) (_mwdone0 : wdone0.Ty) (mwdone1 : wdone1.Ty) {R : Type} (_N : Nat) (x1 : List Int) (x2 : List Int) (_xN3 : Option Bool) (x4 : List Int) (kr0 : (Option Bool) → (List Int) → Nat → Option R) : Option R :=
  mfrise R none x4
   (fun v_c32 => mwneed0 R 0 v_c32
    (fun b_c33 => mwput0 R b_c33 none (List.drop 0 (List.take 32 x1))
     (fun b_c34 b_1_c35 => mwput1 R b_c34 b_1_c35 none (List.drop 0 (List.take 32 x2))
      (fun b_c36 b_1_c37 => mlistInt R none x4 16
       (fun v_c38 v_1_c39 v_2_c40 => mwsub1 R b_c36 b_1_c37 v_c38 v_1_c39 v_2_c40
        (fun b_c41 b_1_c42 => mwdone1 R b_c41 b_1_c42
         (fun v_c43 _b_c44 _b_2_c45 => kr0 (some true) [] v_c43)
         (fun vg1_c46 v_1_c47 v_2_c48 _bg1_c49 => kr0 vg1_c46 v_1_c47 v_2_c48)))))))
theorem tree (mfrise : frise.Ty) (mwneed0 : wneed0.Ty) (mwneed1 : wneed1.Ty) (mwput0 : wput0.Ty) (mwput1 : wput1.Ty) (mlistInt : listInt.Ty) (mwsub0 : wsub0.Ty) (mwsub1 : wsub1.Ty) (mwdone0 : wdone0.Ty) (mwdone1 : wdone1.Ty) {R : Type} (N : Nat) (κ : AV → List Blk → Option R) (x1 : List Int) (x2 : List Int) (xN3 : Option Bool) (x4 : List Int) : evF (g mfrise mwneed0 mwneed1 mwput0 mwput1 mlistInt mwsub0 mwsub1 mwdone0 mwdone1) an N Tryd.f110 [AV.agg [AV.ints IntKind.u8 32 x1, AV.ints IntKind.u8 32 x2, AV.isl IntKind.i64 xN3 x4]] [] κ =
  mfrise R none x4
   (fun v_c32 => mwneed0 R 0 v_c32
    (fun b_c33 => mwput0 R b_c33 none (List.drop 0 (List.take 32 x1))
     (fun b_c34 b_1_c35 => mwput1 R b_c34 b_1_c35 none (List.drop 0 (List.take 32 x2))
      (fun b_c36 b_1_c37 => mlistInt R none x4 16
       (fun v_c38 v_1_c39 v_2_c40 => mwsub1 R b_c36 b_1_c37 v_c38 v_1_c39 v_2_c40
        (fun b_c41 b_1_c42 => mwdone1 R b_c41 b_1_c42
         (fun v_c43 _b_c44 _b_2_c45 => κ (AV.tup [AV.isl IntKind.u8 (some true) [], AV.err v_c43]) [])
         (fun vg1_c46 v_1_c47 v_2_c48 _bg1_c49 => κ (AV.tup [AV.isl IntKind.u8 vg1_c46 v_1_c47, AV.err v_2_c48]) []))))))) := by kernel_rfl
theorem eq (mfrise : frise.Ty) (mwneed0 : wneed0.Ty) (mwneed1 : wneed1.Ty) (mwput0 : wput0.Ty) (mwput1 : wput1.Ty) (mlistInt : listInt.Ty) (mwsub0 : wsub0.Ty) (mwsub1 : wsub1.Ty) (mwdone0 : wdone0.Ty) (mwdone1 : wdone1.Ty) {R : Type} (N : Nat) (κ : AV → List Blk → Option R) (x1 : List Int) (x2 : List Int) (xN3 : Option Bool) (x4 : List Int) : evF (g mfrise mwneed0 mwneed1 mwput0 mwput1 mlistInt mwsub0 mwsub1 mwdone0 mwdone1) an N Tryd.f110 [AV.agg [AV.ints IntKind.u8 32 x1, AV.ints IntKind.u8 32 x2, AV.isl IntKind.i64 xN3 x4]] [] κ =
  m mfrise mwneed0 mwneed1 mwput0 mwput1 mlistInt mwsub0 mwsub1 mwdone0 mwdone1 N x1 x2 xN3 x4 (fun v v_1 v_2 => κ (AV.tup [AV.isl IntKind.u8 v v_1, AV.err v_2]) []) := by
  rw [tree]
  kernel_rfl
abbrev Ty : Type 1 := ∀ R : Type, (List Int) → (List Int) → (Option Bool) → (List Int) → ((Option Bool) → (List Int) → Nat → Option R) → Option R
def con (f : Ty) : Con := fun R args bs κ => match args, bs with
  | [AV.agg [AV.ints IntKind.u8 32 x1, AV.ints IntKind.u8 32 x2, AV.isl IntKind.i64 xN3 x4]], [] => f R x1 x2 xN3 x4 (fun v v_1 v_2 => κ (AV.tup [AV.isl IntKind.u8 v v_1, AV.err v_2]) [])
  | _, _ => none
theorem con_eq (f : Ty) (R : Type) (κ : AV → List Blk → Option R) (x1 : List Int) (x2 : List Int) (xN3 : Option Bool) (x4 : List Int) : con f R [AV.agg [AV.ints IntKind.u8 32 x1, AV.ints IntKind.u8 32 x2, AV.isl IntKind.i64 xN3 x4]] [] κ = f R x1 x2 xN3 x4 (fun v v_1 v_2 => κ (AV.tup [AV.isl IntKind.u8 v v_1, AV.err v_2]) []) := rfl
noncomputable def M (N : Nat) : Ty := fun R x1 x2 xN3 x4 kr0 => m (frise.M N) (wneed0.M N) (wneed1.M N) (wput0.M N) (wput1.M N) (listInt.M N) (wsub0.M N) (wsub1.M N) (wdone0.M N) (wdone1.M N) (R := R) N x1 x2 xN3 x4 kr0
def gts : List (Nat × AV) := [(0, .err 1), (2, .err 3), (3, .err 4)]
theorem gok (N : Nat) : GOk (g (frise.M N) (wneed0.M N) (wneed1.M N) (wput0.M N) (wput1.M N) (listInt.M N) (wsub0.M N) (wsub1.M N) (wdone0.M N) (wdone1.M N)) := giF_ok (giD_ok hm (by intro p hp; cases hp) (gtL_ok (by decide)) (ovL_ok (by
    intro p hp
    simp only [List.mem_cons, List.not_mem_nil, or_false] at hp
    rcases hp with rfl | rfl | rfl | rfl | rfl | rfl
    · exact ⟨(frise.ok N).gt (gtL_sub (by repeat (first | exact subG_nil _ | refine subG_cons (by kernel_rfl) ?_))) (gtL_ok (by decide)), _, Tryd.func118, by kernel_rfl, by kernel_rfl⟩
    · exact ⟨(wneed.ok N).gt (gtL_sub (by repeat (first | exact subG_nil _ | refine subG_cons (by kernel_rfl) ?_))) (gtL_ok (by decide)), _, Tryd.func34, by kernel_rfl, by kernel_rfl⟩
    · exact ⟨(wput.ok N).gt (gtL_sub (by repeat (first | exact subG_nil _ | refine subG_cons (by kernel_rfl) ?_))) (gtL_ok (by decide)), _, Tryd.func36, by kernel_rfl, by kernel_rfl⟩
    · exact ⟨(listInt.ok N).gt (gtL_sub (by repeat (first | exact subG_nil _ | refine subG_cons (by kernel_rfl) ?_))) (gtL_ok (by decide)), _, Tryd.func119, by kernel_rfl, by kernel_rfl⟩
    · exact ⟨(wsub.ok N).gt (gtL_sub (by repeat (first | exact subG_nil _ | refine subG_cons (by kernel_rfl) ?_))) (gtL_ok (by decide)), _, Tryd.func39, by kernel_rfl, by kernel_rfl⟩
    · exact ⟨(wdone.ok N).gt (gtL_sub (by repeat (first | exact subG_nil _ | refine subG_cons (by kernel_rfl) ?_))) (gtL_ok (by decide)), _, Tryd.func37, by kernel_rfl, by kernel_rfl⟩
)) 1)
theorem ok (N : Nat) : SoundC Tryd.prog (gtL gts) 110 (con (M N)) := by
  refine SoundC.mono (evF_ok (gok N) hm an N Tryd.func110) fun R args bs κ r h => ?_
  unfold con at h
  split at h
  · exact (eq (frise.M N) (wneed0.M N) (wneed1.M N) (wput0.M N) (wput1.M N) (listInt.M N) (wsub0.M N) (wsub1.M N) (wdone0.M N) (wdone1.M N) N κ _ _ _ _).trans h
  · cases h
end fnode

/-! ### Tryd.f94: fslot -/
namespace fslot
def an : Anns := ⟨fun i => findA i [], fun i => findA i [], false, fun _ => none, []⟩
noncomputable def g (mwnum0 : wnum0.Ty) (mwnum1 : wnum1.Ty) (mfLeaf : fLeaf.Ty) (mwsub0 : wsub0.Ty) (mwsub1 : wsub1.Ty) (mfnode : fnode.Ty) (mwput0 : wput0.Ty) (mwput1 : wput1.Ty) (mwdone0 : wdone0.Ty) (mwdone1 : wdone1.Ty) : Gi := giF (giD Tryd.prog (gtL [(0, .err 1), (2, .err 3), (3, .err 4)]) (fun _ => an) 0 [] (ovL [(41, wnum.con mwnum0 mwnum1), (10, fLeaf.con mfLeaf), (39, wsub.con mwsub0 mwsub1), (110, fnode.con mfnode), (36, wput.con mwput0 mwput1), (37, wdone.con mwdone0 mwdone1)]) 1)
noncomputable def m (mwnum0 : wnum0.Ty) (_mwnum1 : wnum1.Ty) (mfLeaf : fLeaf.Ty) (_mwsub0 : wsub0.Ty) (mwsub1 : wsub1.Ty) (mfnode : fnode.Ty) (_mwput0 : wput0.Ty) (mwput1 : wput1.Ty) (_mwdone0 : wdone0.Ty) (mwdone1 : wdone1.Ty) {R : Type} (_N : Nat) (x1 : Int) (x2 : List Int) (x3 : List Int) (_xN4 : Option Bool) (x5 : List Int) (x6 : List Int) (x7 : List Int) (x8 : List Int) (x9 : List Int) (_xN10 : Option Bool) (x11 : List Int) (kr0 : (Option Bool) → (List Int) → Nat → Option R) : Option R :=
  mwnum0 R 0 x1 2
   (fun b_c24 b_1_c25 => cond (x1 == 1)
    (mfLeaf R x2 x3 none x5 x6 x7
     (fun v_c26 v_1_c27 v_2_c28 => mwsub1 R b_c24 b_1_c25 v_c26 v_1_c27 v_2_c28
      (fun b_c29 b_1_c30 => mwdone1 R b_c29 b_1_c30
       (fun v_c31 _b_c32 _b_2_c33 => kr0 (some true) [] v_c31)
       (fun vg1_c34 v_1_c35 v_2_c36 _bg1_c37 => kr0 vg1_c34 v_1_c35 v_2_c36))))
    (cond (x1 == 2)
     (mfnode R x8 x9 none x11
      (fun v_c38 v_1_c39 v_2_c40 => mwsub1 R b_c24 b_1_c25 v_c38 v_1_c39 v_2_c40
       (fun b_c41 b_1_c42 => mwdone1 R b_c41 b_1_c42
        (fun v_c43 _b_c44 _b_2_c45 => kr0 (some true) [] v_c43)
        (fun vg1_c46 v_1_c47 v_2_c48 _bg1_c49 => kr0 vg1_c46 v_1_c47 v_2_c48))))
     (mwput1 R b_c24 b_1_c25 (some true) []
      (fun b_c50 b_1_c51 => mwdone1 R b_c50 b_1_c51
       (fun v_c52 _b_c53 _b_2_c54 => kr0 (some true) [] v_c52)
       (fun vg1_c55 v_1_c56 v_2_c57 _bg1_c58 => kr0 vg1_c55 v_1_c56 v_2_c57)))))
theorem tree (mwnum0 : wnum0.Ty) (mwnum1 : wnum1.Ty) (mfLeaf : fLeaf.Ty) (mwsub0 : wsub0.Ty) (mwsub1 : wsub1.Ty) (mfnode : fnode.Ty) (mwput0 : wput0.Ty) (mwput1 : wput1.Ty) (mwdone0 : wdone0.Ty) (mwdone1 : wdone1.Ty) {R : Type} (N : Nat) (κ : AV → List Blk → Option R) (x1 : Int) (x2 : List Int) (x3 : List Int) (xN4 : Option Bool) (x5 : List Int) (x6 : List Int) (x7 : List Int) (x8 : List Int) (x9 : List Int) (xN10 : Option Bool) (x11 : List Int) : evF (g mwnum0 mwnum1 mfLeaf mwsub0 mwsub1 mfnode mwput0 mwput1 mwdone0 mwdone1) an N Tryd.f94 [AV.agg [AV.int IntKind.i64 x1, AV.agg [AV.ints IntKind.u8 32 x2, AV.ints IntKind.u8 32 x3, AV.isl IntKind.u8 xN4 x5, AV.ints IntKind.u8 32 x6, AV.ints IntKind.u8 64 x7], AV.agg [AV.ints IntKind.u8 32 x8, AV.ints IntKind.u8 32 x9, AV.isl IntKind.i64 xN10 x11]]] [] κ =
  mwnum0 R 0 x1 2
   (fun b_c24 b_1_c25 => cond (x1 == 1)
    (mfLeaf R x2 x3 none x5 x6 x7
     (fun v_c26 v_1_c27 v_2_c28 => mwsub1 R b_c24 b_1_c25 v_c26 v_1_c27 v_2_c28
      (fun b_c29 b_1_c30 => mwdone1 R b_c29 b_1_c30
       (fun v_c31 _b_c32 _b_2_c33 => κ (AV.tup [AV.isl IntKind.u8 (some true) [], AV.err v_c31]) [])
       (fun vg1_c34 v_1_c35 v_2_c36 _bg1_c37 => κ (AV.tup [AV.isl IntKind.u8 vg1_c34 v_1_c35, AV.err v_2_c36]) []))))
    (cond (x1 == 2)
     (mfnode R x8 x9 none x11
      (fun v_c38 v_1_c39 v_2_c40 => mwsub1 R b_c24 b_1_c25 v_c38 v_1_c39 v_2_c40
       (fun b_c41 b_1_c42 => mwdone1 R b_c41 b_1_c42
        (fun v_c43 _b_c44 _b_2_c45 => κ (AV.tup [AV.isl IntKind.u8 (some true) [], AV.err v_c43]) [])
        (fun vg1_c46 v_1_c47 v_2_c48 _bg1_c49 => κ (AV.tup [AV.isl IntKind.u8 vg1_c46 v_1_c47, AV.err v_2_c48]) []))))
     (mwput1 R b_c24 b_1_c25 (some true) []
      (fun b_c50 b_1_c51 => mwdone1 R b_c50 b_1_c51
       (fun v_c52 _b_c53 _b_2_c54 => κ (AV.tup [AV.isl IntKind.u8 (some true) [], AV.err v_c52]) [])
       (fun vg1_c55 v_1_c56 v_2_c57 _bg1_c58 => κ (AV.tup [AV.isl IntKind.u8 vg1_c55 v_1_c56, AV.err v_2_c57]) []))))) := by kernel_rfl
theorem eq (mwnum0 : wnum0.Ty) (mwnum1 : wnum1.Ty) (mfLeaf : fLeaf.Ty) (mwsub0 : wsub0.Ty) (mwsub1 : wsub1.Ty) (mfnode : fnode.Ty) (mwput0 : wput0.Ty) (mwput1 : wput1.Ty) (mwdone0 : wdone0.Ty) (mwdone1 : wdone1.Ty) {R : Type} (N : Nat) (κ : AV → List Blk → Option R) (x1 : Int) (x2 : List Int) (x3 : List Int) (xN4 : Option Bool) (x5 : List Int) (x6 : List Int) (x7 : List Int) (x8 : List Int) (x9 : List Int) (xN10 : Option Bool) (x11 : List Int) : evF (g mwnum0 mwnum1 mfLeaf mwsub0 mwsub1 mfnode mwput0 mwput1 mwdone0 mwdone1) an N Tryd.f94 [AV.agg [AV.int IntKind.i64 x1, AV.agg [AV.ints IntKind.u8 32 x2, AV.ints IntKind.u8 32 x3, AV.isl IntKind.u8 xN4 x5, AV.ints IntKind.u8 32 x6, AV.ints IntKind.u8 64 x7], AV.agg [AV.ints IntKind.u8 32 x8, AV.ints IntKind.u8 32 x9, AV.isl IntKind.i64 xN10 x11]]] [] κ =
  m mwnum0 mwnum1 mfLeaf mwsub0 mwsub1 mfnode mwput0 mwput1 mwdone0 mwdone1 N x1 x2 x3 xN4 x5 x6 x7 x8 x9 xN10 x11 (fun v v_1 v_2 => κ (AV.tup [AV.isl IntKind.u8 v v_1, AV.err v_2]) []) := by
  rw [tree]
  kernel_rfl
abbrev Ty : Type 1 := ∀ R : Type, Int → (List Int) → (List Int) → (Option Bool) → (List Int) → (List Int) → (List Int) → (List Int) → (List Int) → (Option Bool) → (List Int) → ((Option Bool) → (List Int) → Nat → Option R) → Option R
def con (f : Ty) : Con := fun R args bs κ => match args, bs with
  | [AV.agg [AV.int IntKind.i64 x1, AV.agg [AV.ints IntKind.u8 32 x2, AV.ints IntKind.u8 32 x3, AV.isl IntKind.u8 xN4 x5, AV.ints IntKind.u8 32 x6, AV.ints IntKind.u8 64 x7], AV.agg [AV.ints IntKind.u8 32 x8, AV.ints IntKind.u8 32 x9, AV.isl IntKind.i64 xN10 x11]]], [] => f R x1 x2 x3 xN4 x5 x6 x7 x8 x9 xN10 x11 (fun v v_1 v_2 => κ (AV.tup [AV.isl IntKind.u8 v v_1, AV.err v_2]) [])
  | _, _ => none
theorem con_eq (f : Ty) (R : Type) (κ : AV → List Blk → Option R) (x1 : Int) (x2 : List Int) (x3 : List Int) (xN4 : Option Bool) (x5 : List Int) (x6 : List Int) (x7 : List Int) (x8 : List Int) (x9 : List Int) (xN10 : Option Bool) (x11 : List Int) : con f R [AV.agg [AV.int IntKind.i64 x1, AV.agg [AV.ints IntKind.u8 32 x2, AV.ints IntKind.u8 32 x3, AV.isl IntKind.u8 xN4 x5, AV.ints IntKind.u8 32 x6, AV.ints IntKind.u8 64 x7], AV.agg [AV.ints IntKind.u8 32 x8, AV.ints IntKind.u8 32 x9, AV.isl IntKind.i64 xN10 x11]]] [] κ = f R x1 x2 x3 xN4 x5 x6 x7 x8 x9 xN10 x11 (fun v v_1 v_2 => κ (AV.tup [AV.isl IntKind.u8 v v_1, AV.err v_2]) []) := rfl
noncomputable def M (N : Nat) : Ty := fun R x1 x2 x3 xN4 x5 x6 x7 x8 x9 xN10 x11 kr0 => m (wnum0.M N) (wnum1.M N) (fLeaf.M N) (wsub0.M N) (wsub1.M N) (fnode.M N) (wput0.M N) (wput1.M N) (wdone0.M N) (wdone1.M N) (R := R) N x1 x2 x3 xN4 x5 x6 x7 x8 x9 xN10 x11 kr0
def gts : List (Nat × AV) := [(0, .err 1), (2, .err 3), (3, .err 4)]
theorem gok (N : Nat) : GOk (g (wnum0.M N) (wnum1.M N) (fLeaf.M N) (wsub0.M N) (wsub1.M N) (fnode.M N) (wput0.M N) (wput1.M N) (wdone0.M N) (wdone1.M N)) := giF_ok (giD_ok hm (by intro p hp; cases hp) (gtL_ok (by decide)) (ovL_ok (by
    intro p hp
    simp only [List.mem_cons, List.not_mem_nil, or_false] at hp
    rcases hp with rfl | rfl | rfl | rfl | rfl | rfl
    · exact ⟨(wnum.ok N).gt (gtL_sub (by repeat (first | exact subG_nil _ | refine subG_cons (by kernel_rfl) ?_))) (gtL_ok (by decide)), _, Tryd.func41, by kernel_rfl, by kernel_rfl⟩
    · exact ⟨(fLeaf.ok N).gt (gtL_sub (by repeat (first | exact subG_nil _ | refine subG_cons (by kernel_rfl) ?_))) (gtL_ok (by decide)), _, Tryd.func10, by kernel_rfl, by kernel_rfl⟩
    · exact ⟨(wsub.ok N).gt (gtL_sub (by repeat (first | exact subG_nil _ | refine subG_cons (by kernel_rfl) ?_))) (gtL_ok (by decide)), _, Tryd.func39, by kernel_rfl, by kernel_rfl⟩
    · exact ⟨(fnode.ok N).gt (gtL_sub (by repeat (first | exact subG_nil _ | refine subG_cons (by kernel_rfl) ?_))) (gtL_ok (by decide)), _, Tryd.func110, by kernel_rfl, by kernel_rfl⟩
    · exact ⟨(wput.ok N).gt (gtL_sub (by repeat (first | exact subG_nil _ | refine subG_cons (by kernel_rfl) ?_))) (gtL_ok (by decide)), _, Tryd.func36, by kernel_rfl, by kernel_rfl⟩
    · exact ⟨(wdone.ok N).gt (gtL_sub (by repeat (first | exact subG_nil _ | refine subG_cons (by kernel_rfl) ?_))) (gtL_ok (by decide)), _, Tryd.func37, by kernel_rfl, by kernel_rfl⟩
)) 1)
theorem ok (N : Nat) : SoundC Tryd.prog (gtL gts) 94 (con (M N)) := by
  refine SoundC.mono (evF_ok (gok N) hm an N Tryd.func94) fun R args bs κ r h => ?_
  unfold con at h
  split at h
  · exact (eq (wnum0.M N) (wnum1.M N) (fLeaf.M N) (wsub0.M N) (wsub1.M N) (fnode.M N) (wput0.M N) (wput1.M N) (wdone0.M N) (wdone1.M N) N κ _ _ _ _ _ _ _ _ _ _ _).trans h
  · cases h
end fslot

end Go.Proofs.YthajoenmfppenaaDoor.fn
