/- What the rows of texts are, with the proof; printed by a program. -/
import Derived.Test.YthajoenmfppenaaDoorProg
import Derived.Test.YthajoenmfppenaaDoorEv4
import Derived.Test.YthajoenmfppenaaDoorFnBytes
import Derived.Test.YthajoenmfppenaaDoorClone
namespace Go.Proofs.YthajoenmfppenaaDoor.fn
open Go Go.Proofs Go.Ev

/-! ### Tryd.f71: wRow -/
namespace wRow
def an : Anns := ⟨fun i => findA i [(5, ⟨[4, 17, 18, 19], [⟨4, 0, T.int IntKind.u8, none⟩], 1, []⟩)], fun i => findA i [], false, fun _ => none, []⟩
noncomputable def g (mPutBig : PutBig.Ty) : Gi := giD Tryd.prog (gtL [(0, .err 1), (2, .err 3)]) (fun _ => an) 0 [] (ovL [(72, PutBig.con mPutBig)]) 1
noncomputable def c_L5 : Code := loopOf Tryd.f71 0
def s_L5 (t17 : List (List Int)) (t18 : Int) (t19 : Int) (h0 : Bool) (h0_4 : List Int) : St := ⟨List.replicate 4 .dead ++ [AV.own 0 [] 0 none] ++ List.replicate 12 .dead ++ [AV.rsl IntKind.u8 t17, AV.int IntKind.i64 t18, AV.int IntKind.i64 t19] ++ List.replicate 27 .dead, [Blk.row IntKind.u8 h0 h0_4]⟩
def x_L5_0 (t17 : List (List Int)) (t18 : Int) (t19 : Int) (h0 : Bool) (h0_4 : List Int) : St := ⟨[AV.dead, AV.dead, AV.nils, AV.err 3, AV.own 0 [] 0 none, AV.dead, AV.isl IntKind.u8 none (t17.getD t19.toNat [])] ++ List.replicate 10 .dead ++ [AV.rsl IntKind.u8 t17, AV.int IntKind.i64 t18, AV.int IntKind.i64 t19, AV.bool (decide (t19 < t18)), AV.rps IntKind.u8 (t17.getD t19.toNat []), AV.isl IntKind.u8 none (t17.getD t19.toNat []), AV.isl IntKind.u8 none (t17.getD t19.toNat []), AV.int IntKind.i64 (↑(t17.getD t19.toNat []).length : Int), AV.own 0 [] 0 none, AV.int IntKind.i64 (↑(olen none h0_4.length 0) : Int), AV.int IntKind.i64 (IntKind.i64.wrap (65532 - (↑(olen none h0_4.length 0) : Int))), AV.bool (decide ((↑(t17.getD t19.toNat []).length : Int) > IntKind.i64.wrap (65532 - (↑(olen none h0_4.length 0) : Int)))), AV.err 3] ++ List.replicate 17 .dead, [Blk.row IntKind.u8 h0 h0_4]⟩
def x_L5_1 (t17 : List (List Int)) (t18 : Int) (t19 : Int) (h0 : Bool) (h0_4 : List Int) : St := ⟨[AV.dead, AV.dead, AV.nils, AV.err 1, AV.own 0 [] 0 none, AV.dead, AV.isl IntKind.u8 none (t17.getD t19.toNat []), AV.nils, AV.err 1] ++ List.replicate 8 .dead ++ [AV.rsl IntKind.u8 t17, AV.int IntKind.i64 t18, AV.int IntKind.i64 t19, AV.bool (decide (t19 < t18)), AV.rps IntKind.u8 (t17.getD t19.toNat []), AV.isl IntKind.u8 none (t17.getD t19.toNat []), AV.isl IntKind.u8 none (t17.getD t19.toNat []), AV.int IntKind.i64 (↑(t17.getD t19.toNat []).length : Int), AV.own 0 [] 0 none, AV.int IntKind.i64 (↑(olen none h0_4.length 0) : Int), AV.int IntKind.i64 (IntKind.i64.wrap (65532 - (↑(olen none h0_4.length 0) : Int))), AV.bool (decide ((↑(t17.getD t19.toNat []).length : Int) > IntKind.i64.wrap (65532 - (↑(olen none h0_4.length 0) : Int)))), AV.dead, AV.tup [AV.nils, AV.err 1], AV.isl IntKind.u8 none (t17.getD t19.toNat []), AV.int IntKind.i64 (↑(t17.getD t19.toNat []).length : Int), AV.int IntKind.u64 (IntKind.u64.wrap (↑(t17.getD t19.toNat []).length : Int)), AV.tup [AV.nils, AV.err 1], AV.nils, AV.err 1, AV.err 1, AV.bool true, AV.err 1] ++ List.replicate 7 .dead, [Blk.row IntKind.u8 h0 h0_4, Blk.rsv, Blk.rsv, Blk.rsv, Blk.rsv, Blk.rsv]⟩
def x_L5_2 (t17 : List (List Int)) (t18 : Int) (t19 : Int) (h0 : Bool) (h0_4 : List Int) : St := ⟨List.replicate 4 .dead ++ [AV.own 0 [] 0 none] ++ List.replicate 12 .dead ++ [AV.rsl IntKind.u8 t17, AV.int IntKind.i64 t18, AV.int IntKind.i64 t19, AV.bool (decide (t19 < t18))] ++ List.replicate 26 .dead, [Blk.row IntKind.u8 h0 h0_4]⟩
noncomputable def L5 (mPutBig : PutBig.Ty) {R : Type} (N : Nat) (ke0 : (List (List Int)) → Int → Int → Bool → (List Int) → Option R) (ke1 : (List (List Int)) → Int → Int → Bool → (List Int) → Option R) (ke2 : (List (List Int)) → Int → Int → Bool → (List Int) → Option R) : Nat → (List (List Int)) → Int → Int → Bool → (List Int) → Option R
  | 0, _, _, _, _, _ => none
  | m + 1, t17, t18, t19, h0, h0_4 =>
    cond (decide (t19 < t18))
     (cond (decide (0 ≤ t19))
      (cond (decide (t19 < (↑t17.length : Int)))
       (cond (decide ((↑(t17.getD t19.toNat []).length : Int) > IntKind.i64.wrap (65532 - (↑(olen none h0_4.length 0) : Int))))
        (ke0 t17 t18 t19 h0 h0_4)
        (mPutBig R (IntKind.u64.wrap (↑(t17.getD t19.toNat []).length : Int)) 4
         (ke1 t17 t18 t19 h0 h0_4)
         (fun b_c28 => cond (decide ((h0_4.length + b_c28.length) * 1 ≤ 140737488355328))
          (cond (decide (h0_4.length + b_c28.length ≤ 140737488355328))
           (cond (decide (((cut none 0 (h0_4 ++ b_c28)).length + (t17.getD t19.toNat []).length) * 1 ≤ 140737488355328))
            (cond (decide ((cut none 0 (h0_4 ++ b_c28)).length + (t17.getD t19.toNat []).length ≤ 140737488355328))
             (L5 mPutBig N ke0 ke1 ke2 m t17 t18 (IntKind.i64.wrap (t19 + 1)) ((t17.getD t19.toNat []).isEmpty && (b_c28.isEmpty && h0)) (cut none 0 (h0_4 ++ b_c28) ++ t17.getD t19.toNat []))
             (none))
            (none))
           (none))
          (none))))
       (none))
      (none))
     (ke2 t17 t18 t19 h0 h0_4)
theorem round_L5 (mPutBig : PutBig.Ty) {R : Type} (N : Nat) (Rn : St → Option R) (k : K R) (t17 : List (List Int)) (t18 : Int) (t19 : Int) (h0 : Bool) (h0_4 : List Int) : evC (g mPutBig) an 0 N c_L5 none (roundK (nmOf 0 (an.loop 5)) Rn k) (s_L5 t17 t18 t19 h0 h0_4) =
  cond (decide (t19 < t18))
   (cond (decide (0 ≤ t19))
    (cond (decide (t19 < (↑t17.length : Int)))
     (cond (decide ((↑(t17.getD t19.toNat []).length : Int) > IntKind.i64.wrap (65532 - (↑(olen none h0_4.length 0) : Int))))
      (k.ret (x_L5_0 t17 t18 t19 h0 h0_4))
      (mPutBig R (IntKind.u64.wrap (↑(t17.getD t19.toNat []).length : Int)) 4
       (k.ret (x_L5_1 t17 t18 t19 h0 h0_4))
       (fun b_c28 => cond (decide ((h0_4.length + b_c28.length) * 1 ≤ 140737488355328))
        (cond (decide (h0_4.length + b_c28.length ≤ 140737488355328))
         (cond (decide (((cut none 0 (h0_4 ++ b_c28)).length + (t17.getD t19.toNat []).length) * 1 ≤ 140737488355328))
          (cond (decide ((cut none 0 (h0_4 ++ b_c28)).length + (t17.getD t19.toNat []).length ≤ 140737488355328))
           (Rn (s_L5 t17 t18 (IntKind.i64.wrap (t19 + 1)) ((t17.getD t19.toNat []).isEmpty && (b_c28.isEmpty && h0)) (cut none 0 (h0_4 ++ b_c28) ++ t17.getD t19.toNat [])))
           (none))
          (none))
         (none))
        (none))))
     (none))
    (none))
   (k.ext 0 (x_L5_2 t17 t18 t19 h0 h0_4)) := by kernel_rfl
theorem run_L5 (mPutBig : PutBig.Ty) {R : Type} (N : Nat) (k : K R) : ∀ (m : Nat) (t17 : List (List Int)) (t18 : Int) (t19 : Int) (h0 : Bool) (h0_4 : List Int), loopN (evC (g mPutBig) an 0 N c_L5 none) k (nmOf 0 (an.loop 5)) m (s_L5 t17 t18 t19 h0 h0_4) =
    L5 mPutBig N (fun t17 t18 t19 h0 h0_4 => (k).ret (x_L5_0 t17 t18 t19 h0 h0_4)) (fun t17 t18 t19 h0 h0_4 => (k).ret (x_L5_1 t17 t18 t19 h0 h0_4)) (fun t17 t18 t19 h0 h0_4 => (k).ext 0 (x_L5_2 t17 t18 t19 h0 h0_4)) m t17 t18 t19 h0 h0_4 := by
  intro m
  induction m with
  | zero => intros; rfl
  | succ m ih =>
    intros
    rw [loopN_succ, round_L5]
    simp only [ih]
    kernel_rfl
noncomputable def m (mPutBig : PutBig.Ty) {R : Type} (N : Nat) (texts1 : List (List Int)) (kr0 : (Option Bool) → (List Int) → Nat → Option R) : Option R :=
  cond (decide ((↑texts1.length : Int) > 255))
   (kr0 (some true) [] 3)
   (L5 mPutBig N
    (fun _t17_c29 _t18_c30 _t19_c31 _h0_c32 _h0_4_c33 => kr0 (some true) [] 3)
    (fun _t17_c34 _t18_c35 _t19_c36 _h0_c37 _h0_4_c38 => kr0 (some true) [] 1)
    (fun _t17_c39 _t18_c40 _t19_c41 _h0_c42 h0_4_c43 => kr0 none h0_4_c43 0) N texts1 ((↑texts1.length : Int)) 0 false ([IntKind.u8.wrap (↑texts1.length : Int)]))
theorem tree (mPutBig : PutBig.Ty) {R : Type} (N : Nat) (κ : AV → List Blk → Option R) (texts1 : List (List Int)) : evF (g mPutBig) an N Tryd.f71 [AV.rsl IntKind.u8 texts1] [] κ =
  cond (decide ((↑texts1.length : Int) > 255))
   (κ (AV.tup [AV.isl IntKind.u8 (some true) [], AV.err 3]) [])
   (loopN (evC (g mPutBig) an 0 N c_L5 none) (ctx (g mPutBig) an 0 N (bodyOf Tryd.f71) [1, 1, 1, 0, 1, 0] (endK (g mPutBig) an Tryd.f71 [] κ)) (nmOf 0 (an.loop 5)) N (s_L5 texts1 ((↑texts1.length : Int)) 0 false ([IntKind.u8.wrap (↑texts1.length : Int)]))) := by kernel_rfl
theorem eq (mPutBig : PutBig.Ty) {R : Type} (N : Nat) (κ : AV → List Blk → Option R) (texts1 : List (List Int)) : evF (g mPutBig) an N Tryd.f71 [AV.rsl IntKind.u8 texts1] [] κ =
  m mPutBig N texts1 (fun v v_1 v_2 => κ (AV.tup [AV.isl IntKind.u8 v v_1, AV.err v_2]) []) := by
  rw [tree]
  simp only [run_L5]
  kernel_rfl
abbrev Ty : Type 1 := ∀ R : Type, (List (List Int)) → ((Option Bool) → (List Int) → Nat → Option R) → Option R
def con (f : Ty) : Con := fun R args bs κ => match args, bs with
  | [AV.rsl IntKind.u8 texts1], [] => f R texts1 (fun v v_1 v_2 => κ (AV.tup [AV.isl IntKind.u8 v v_1, AV.err v_2]) [])
  | _, _ => none
theorem con_eq (f : Ty) (R : Type) (κ : AV → List Blk → Option R) (texts1 : List (List Int)) : con f R [AV.rsl IntKind.u8 texts1] [] κ = f R texts1 (fun v v_1 v_2 => κ (AV.tup [AV.isl IntKind.u8 v v_1, AV.err v_2]) []) := rfl
noncomputable def M (N : Nat) : Ty := fun R texts1 kr0 => m (PutBig.M N) (R := R) N texts1 kr0
def gts : List (Nat × AV) := [(0, .err 1), (2, .err 3)]
theorem gok (N : Nat) : GOk (g (PutBig.M N)) := giD_ok hm (by intro p hp; cases hp) (gtL_ok (by decide)) (ovL_ok (by
    intro p hp
    simp only [List.mem_cons, List.not_mem_nil, or_false] at hp
    rcases hp with rfl
    · exact ⟨(PutBig.ok N).gt (gtL_sub (by repeat (first | exact subG_nil _ | refine subG_cons (by kernel_rfl) ?_))) (gtL_ok (by decide)), _, Tryd.func72, by kernel_rfl, by kernel_rfl⟩
)) 1
theorem ok (N : Nat) : SoundC Tryd.prog (gtL gts) 71 (con (M N)) := by
  refine SoundC.mono (evF_ok (gok N) hm an N Tryd.func71) fun R args bs κ r h => ?_
  unfold con at h
  split at h
  · exact (eq (PutBig.M N) N κ _).trans h
  · cases h
end wRow


/-! ### Tryd.f73: wUnrow -/
namespace wUnrow
def an : Anns := ⟨fun i => findA i [], fun i => findA i [(1, ⟨[0, 4], [⟨4, 0, T.sl IntKind.u8, none⟩], 1, []⟩), (0, ⟨[], [], 0, []⟩), (2, ⟨[0, 4, 7], [⟨4, 0, T.sl IntKind.u8, none⟩], 1, []⟩)], false, fun _ => none, []⟩
noncomputable def g (mBig : Big.Ty) (mClone : Clone.Ty) : Gi := giD Tryd.prog (gtL [(1, .err 2), (2, .err 3), (3, .err 4)]) (fun _ => an) 0 [] (ovL [(103, Big.con mBig), (104, Clone.con mClone)]) 1
noncomputable def c_S1 : Code := scopeOf Tryd.f73 0
def s_J1_1 (b0 : Option Bool) (b0_1 : List Int) (h0 : Bool) (h0_3 : List (List Int)) : St := ⟨[AV.isl IntKind.u8 b0 b0_1, AV.dead, AV.dead, AV.dead, AV.own 0 [] 0 none] ++ List.replicate 58 .dead, [Blk.gro (T.sl IntKind.u8) h0 h0_3]⟩
def s_J1_0 : St := ⟨List.replicate 63 .dead, []⟩
def s_J1_2 (b0v1 : Option Bool) (b0_1v1 : List Int) (left7 : Int) (h0v1 : List (List Int)) : St := ⟨[AV.isl IntKind.u8 b0v1 b0_1v1, AV.dead, AV.dead, AV.dead, AV.own 0 [] 0 none, AV.dead, AV.dead, AV.int IntKind.i64 left7] ++ List.replicate 55 .dead, [Blk.gro (T.sl IntKind.u8) false h0v1]⟩
def x_S1_0 : St := ⟨[AV.dead, AV.dead, AV.nils, AV.err 2] ++ List.replicate 58 .dead ++ [AV.err 2], []⟩
def x_S1_1 (b0 : Option Bool) (b0_1 : List Int) (h0 : Bool) (h0_3 : List (List Int)) : St := ⟨[AV.isl IntKind.u8 b0 b0_1, AV.dead, AV.nils, AV.err 4, AV.own 0 [] 0 none] ++ List.replicate 52 .dead ++ [AV.isl IntKind.u8 b0 b0_1, AV.int IntKind.i64 (↑b0_1.length : Int), AV.bool (decide ((↑b0_1.length : Int) > 0)), AV.err 4, AV.dead, AV.dead], [Blk.gro (T.sl IntKind.u8) h0 h0_3]⟩
def x_S1_2 (b0 : Option Bool) (b0_1 : List Int) (h0 : Bool) (h0_3 : List (List Int)) : St := ⟨[AV.isl IntKind.u8 b0 b0_1, AV.dead, AV.own 0 [] 0 none, AV.err 0, AV.own 0 [] 0 none] ++ List.replicate 52 .dead ++ [AV.isl IntKind.u8 b0 b0_1, AV.int IntKind.i64 (↑b0_1.length : Int), AV.bool (decide ((↑b0_1.length : Int) > 0)), AV.dead, AV.own 0 [] 0 none, AV.dead], [Blk.gro (T.sl IntKind.u8) h0 h0_3]⟩
mutual
noncomputable def J1_1 (_mBig : Big.Ty) (_mClone : Clone.Ty) {R : Type} (_N : Nat) (_ke0 : Option R) (ke1 : (Option Bool) → (List Int) → Bool → (List (List Int)) → Option R) (ke2 : (Option Bool) → (List Int) → Bool → (List (List Int)) → Option R) : Nat → (Option Bool) → (List Int) → Bool → (List (List Int)) → Option R
  | 0, _, _, _, _ => none
  | m + 1, b0, b0_1, h0, h0_3 =>
    cond (decide ((↑b0_1.length : Int) > 0))
     (ke1 b0 b0_1 h0 h0_3)
     (ke2 b0 b0_1 h0 h0_3)
noncomputable def J1_0 (_mBig : Big.Ty) (_mClone : Clone.Ty) {R : Type} (_N : Nat) (ke0 : Option R) (_ke1 : (Option Bool) → (List Int) → Bool → (List (List Int)) → Option R) (_ke2 : (Option Bool) → (List Int) → Bool → (List (List Int)) → Option R) : Nat → Option R
  | 0 => none
  | m + 1 =>
    ke0
noncomputable def J1_2 (mBig : Big.Ty) (mClone : Clone.Ty) {R : Type} (N : Nat) (ke0 : Option R) (ke1 : (Option Bool) → (List Int) → Bool → (List (List Int)) → Option R) (ke2 : (Option Bool) → (List Int) → Bool → (List (List Int)) → Option R) : Nat → (Option Bool) → (List Int) → Int → (List (List Int)) → Option R
  | 0, _, _, _, _ => none
  | m + 1, b0v1, b0_1v1, left7, h0v1 =>
    cond (left7 == 0)
     (J1_1 mBig mClone N ke0 ke1 ke2 m b0v1 b0_1v1 false h0v1)
     (cond (decide ((↑b0_1v1.length : Int) < 4))
      (J1_0 mBig mClone N ke0 ke1 ke2 m)
      (cond (decide (4 ≤ (↑b0_1v1.length : Int)))
       (mBig R b0v1 (List.drop 0 (List.take 4 b0_1v1))
        (fun v_c34 v_1_c35 => cond (decide (4 ≤ (↑b0_1v1.length : Int)))
         (cond (!v_1_c35.beq 0)
          (J1_0 mBig mClone N ke0 ke1 ke2 m)
          (cond (decide (v_c34 > IntKind.u64.wrap (↑(List.drop 4 (List.take b0_1v1.length b0_1v1)).length : Int)))
           (J1_0 mBig mClone N ke0 ke1 ke2 m)
           (cond (decide (0 ≤ v_c34))
            (cond (decide (v_c34 ≤ (↑(List.drop 4 (List.take b0_1v1.length b0_1v1)).length : Int)))
             (mClone R (List.drop 0 (List.take v_c34.toNat (List.drop 4 (List.take b0_1v1.length b0_1v1))))
              (cond (decide ((h0v1.length + 1) * 24 ≤ 140737488355328))
               (cond (decide (h0v1.length + 1 ≤ 140737488355328))
                (cond (decide (0 ≤ v_c34))
                 (cond (decide (v_c34 ≤ (↑(List.drop 4 (List.take b0_1v1.length b0_1v1)).length : Int)))
                  (J1_2 mBig mClone N ke0 ke1 ke2 m b0v1 (List.drop v_c34.toNat (List.take (List.drop 4 (List.take b0_1v1.length b0_1v1)).length (List.drop 4 (List.take b0_1v1.length b0_1v1)))) (IntKind.i64.wrap (left7 - 1)) (h0v1 ++ [cut none 0 (List.drop 0 (List.take v_c34.toNat (List.drop 4 (List.take b0_1v1.length b0_1v1))))]))
                  (none))
                 (none))
                (none))
               (none)))
             (none))
            (none))))
         (none)))
       (none)))
end
theorem round_J1_1 (mBig : Big.Ty) (mClone : Clone.Ty) {R : Type} (N : Nat) (J : Nat → St → Option R) (k : K R) (b0 : Option Bool) (b0_1 : List Int) (h0 : Bool) (h0_3 : List (List Int)) : evC (g mBig mClone) an 0 N c_S1 (some 1) { k with gto := gotoK (hasL c_S1) (fun l => nmOf 0 (an.label l)) k J } (s_J1_1 b0 b0_1 h0 h0_3) =
  cond (decide ((↑b0_1.length : Int) > 0))
   (k.ret (x_S1_1 b0 b0_1 h0 h0_3))
   (k.ret (x_S1_2 b0 b0_1 h0 h0_3)) := by kernel_rfl
theorem round_J1_0 (mBig : Big.Ty) (mClone : Clone.Ty) {R : Type} (N : Nat) (J : Nat → St → Option R) (k : K R) : evC (g mBig mClone) an 0 N c_S1 (some 0) { k with gto := gotoK (hasL c_S1) (fun l => nmOf 0 (an.label l)) k J } (s_J1_0) =
  k.ret (x_S1_0) := by kernel_rfl
theorem round_J1_2 (mBig : Big.Ty) (mClone : Clone.Ty) {R : Type} (N : Nat) (J : Nat → St → Option R) (k : K R) (b0v1 : Option Bool) (b0_1v1 : List Int) (left7 : Int) (h0v1 : List (List Int)) : evC (g mBig mClone) an 0 N c_S1 (some 2) { k with gto := gotoK (hasL c_S1) (fun l => nmOf 0 (an.label l)) k J } (s_J1_2 b0v1 b0_1v1 left7 h0v1) =
  cond (left7 == 0)
   (J 1 (s_J1_1 b0v1 b0_1v1 false h0v1))
   (cond (decide ((↑b0_1v1.length : Int) < 4))
    (J 0 (s_J1_0))
    (cond (decide (4 ≤ (↑b0_1v1.length : Int)))
     (mBig R b0v1 (List.drop 0 (List.take 4 b0_1v1))
      (fun v_c34 v_1_c35 => cond (decide (4 ≤ (↑b0_1v1.length : Int)))
       (cond (!v_1_c35.beq 0)
        (J 0 (s_J1_0))
        (cond (decide (v_c34 > IntKind.u64.wrap (↑(List.drop 4 (List.take b0_1v1.length b0_1v1)).length : Int)))
         (J 0 (s_J1_0))
         (cond (decide (0 ≤ v_c34))
          (cond (decide (v_c34 ≤ (↑(List.drop 4 (List.take b0_1v1.length b0_1v1)).length : Int)))
           (mClone R (List.drop 0 (List.take v_c34.toNat (List.drop 4 (List.take b0_1v1.length b0_1v1))))
            (cond (decide ((h0v1.length + 1) * 24 ≤ 140737488355328))
             (cond (decide (h0v1.length + 1 ≤ 140737488355328))
              (cond (decide (0 ≤ v_c34))
               (cond (decide (v_c34 ≤ (↑(List.drop 4 (List.take b0_1v1.length b0_1v1)).length : Int)))
                (J 2 (s_J1_2 b0v1 (List.drop v_c34.toNat (List.take (List.drop 4 (List.take b0_1v1.length b0_1v1)).length (List.drop 4 (List.take b0_1v1.length b0_1v1)))) (IntKind.i64.wrap (left7 - 1)) (h0v1 ++ [cut none 0 (List.drop 0 (List.take v_c34.toNat (List.drop 4 (List.take b0_1v1.length b0_1v1))))])))
                (none))
               (none))
              (none))
             (none)))
           (none))
          (none))))
       (none)))
     (none))) := by kernel_rfl
theorem run_S1 (mBig : Big.Ty) (mClone : Clone.Ty) {R : Type} (N : Nat) (k : K R) : ∀ (m : Nat), (∀ (b0 : Option Bool) (b0_1 : List Int) (h0 : Bool) (h0_3 : List (List Int)), jumpN (fun l => evC (g mBig mClone) an 0 N c_S1 (some l)) (hasL c_S1) k (fun l => nmOf 0 (an.label l)) m 1 (s_J1_1 b0 b0_1 h0 h0_3) =
    J1_1 mBig mClone N ((k).ret (x_S1_0)) (fun b0 b0_1 h0 h0_3 => (k).ret (x_S1_1 b0 b0_1 h0 h0_3)) (fun b0 b0_1 h0 h0_3 => (k).ret (x_S1_2 b0 b0_1 h0 h0_3)) m b0 b0_1 h0 h0_3) ∧ (jumpN (fun l => evC (g mBig mClone) an 0 N c_S1 (some l)) (hasL c_S1) k (fun l => nmOf 0 (an.label l)) m 0 s_J1_0 =
    J1_0 mBig mClone N ((k).ret (x_S1_0)) (fun b0 b0_1 h0 h0_3 => (k).ret (x_S1_1 b0 b0_1 h0 h0_3)) (fun b0 b0_1 h0 h0_3 => (k).ret (x_S1_2 b0 b0_1 h0 h0_3)) m) ∧ (∀ (b0v1 : Option Bool) (b0_1v1 : List Int) (left7 : Int) (h0v1 : List (List Int)), jumpN (fun l => evC (g mBig mClone) an 0 N c_S1 (some l)) (hasL c_S1) k (fun l => nmOf 0 (an.label l)) m 2 (s_J1_2 b0v1 b0_1v1 left7 h0v1) =
    J1_2 mBig mClone N ((k).ret (x_S1_0)) (fun b0 b0_1 h0 h0_3 => (k).ret (x_S1_1 b0 b0_1 h0 h0_3)) (fun b0 b0_1 h0 h0_3 => (k).ret (x_S1_2 b0 b0_1 h0 h0_3)) m b0v1 b0_1v1 left7 h0v1) := by
  intro m
  induction m with
  | zero => exact ⟨by intros; rfl, rfl, by intros; rfl⟩
  | succ m ih =>
    obtain ⟨ih0, ih1, ih2⟩ := ih
    refine ⟨?_, ?_, ?_⟩
    · intros; rw [jumpN_succ, round_J1_1]
      try simp only [ih0, ih1, ih2]
      kernel_rfl
    · rw [jumpN_succ, round_J1_0]
      try simp only [ih0, ih1, ih2]
      kernel_rfl
    · intros; rw [jumpN_succ, round_J1_2]
      try simp only [ih0, ih1, ih2]
      kernel_rfl
theorem run_J1_1 (mBig : Big.Ty) (mClone : Clone.Ty) {R : Type} (N : Nat) (k : K R) (m : Nat) : (∀ (b0 : Option Bool) (b0_1 : List Int) (h0 : Bool) (h0_3 : List (List Int)), jumpN (fun l => evC (g mBig mClone) an 0 N c_S1 (some l)) (hasL c_S1) k (fun l => nmOf 0 (an.label l)) m 1 (s_J1_1 b0 b0_1 h0 h0_3) =
    J1_1 mBig mClone N ((k).ret (x_S1_0)) (fun b0 b0_1 h0 h0_3 => (k).ret (x_S1_1 b0 b0_1 h0 h0_3)) (fun b0 b0_1 h0 h0_3 => (k).ret (x_S1_2 b0 b0_1 h0 h0_3)) m b0 b0_1 h0 h0_3) := (run_S1 mBig mClone N k m).1
theorem run_J1_0 (mBig : Big.Ty) (mClone : Clone.Ty) {R : Type} (N : Nat) (k : K R) (m : Nat) : (jumpN (fun l => evC (g mBig mClone) an 0 N c_S1 (some l)) (hasL c_S1) k (fun l => nmOf 0 (an.label l)) m 0 s_J1_0 =
    J1_0 mBig mClone N ((k).ret (x_S1_0)) (fun b0 b0_1 h0 h0_3 => (k).ret (x_S1_1 b0 b0_1 h0 h0_3)) (fun b0 b0_1 h0 h0_3 => (k).ret (x_S1_2 b0 b0_1 h0 h0_3)) m) := (run_S1 mBig mClone N k m).2.1
theorem run_J1_2 (mBig : Big.Ty) (mClone : Clone.Ty) {R : Type} (N : Nat) (k : K R) (m : Nat) : (∀ (b0v1 : Option Bool) (b0_1v1 : List Int) (left7 : Int) (h0v1 : List (List Int)), jumpN (fun l => evC (g mBig mClone) an 0 N c_S1 (some l)) (hasL c_S1) k (fun l => nmOf 0 (an.label l)) m 2 (s_J1_2 b0v1 b0_1v1 left7 h0v1) =
    J1_2 mBig mClone N ((k).ret (x_S1_0)) (fun b0 b0_1 h0 h0_3 => (k).ret (x_S1_1 b0 b0_1 h0 h0_3)) (fun b0 b0_1 h0 h0_3 => (k).ret (x_S1_2 b0 b0_1 h0 h0_3)) m b0v1 b0_1v1 left7 h0v1) := (run_S1 mBig mClone N k m).2.2
noncomputable def m (mBig : Big.Ty) (mClone : Clone.Ty) {R : Type} (N : Nat) (bN1 : Option Bool) (b2 : List Int) (kr0 : (List (List Int)) → Nat → Option R) : Option R :=
  cond (decide ((↑b2.length : Int) > 65536))
   (kr0 [] 3)
   (cond ((↑b2.length : Int) == 0)
    (J1_0 mBig mClone N
     (kr0 [] 2)
     (fun _b0_c36 _b0_1_c37 _h0_c38 _h0_3_c39 => kr0 [] 4)
     (fun _b0_c40 _b0_1_c41 _h0_c42 h0_3_c43 => kr0 h0_3_c43 0) N)
    (cond (decide (0 < (↑b2.length : Int)))
     (cond (decide (1 ≤ (↑b2.length : Int)))
      (cond (IntKind.i64.wrap (b2.getD 0 0) == 0)
       (J1_1 mBig mClone N
        (kr0 [] 2)
        (fun _b0_c44 _b0_1_c45 _h0_c46 _h0_3_c47 => kr0 [] 4)
        (fun _b0_c48 _b0_1_c49 _h0_c50 h0_3_c51 => kr0 h0_3_c51 0) N bN1 (List.drop 1 (List.take b2.length b2)) true [])
       (cond (decide ((↑(List.drop 1 (List.take b2.length b2)).length : Int) < 4))
        (J1_0 mBig mClone N
         (kr0 [] 2)
         (fun _b0_c52 _b0_1_c53 _h0_c54 _h0_3_c55 => kr0 [] 4)
         (fun _b0_c56 _b0_1_c57 _h0_c58 h0_3_c59 => kr0 h0_3_c59 0) N)
        (cond (decide (4 ≤ (↑(List.drop 1 (List.take b2.length b2)).length : Int)))
         (mBig R bN1 (List.drop 0 (List.take 4 (List.drop 1 (List.take b2.length b2))))
          (fun v_c60 v_1_c61 => cond (decide (4 ≤ (↑(List.drop 1 (List.take b2.length b2)).length : Int)))
           (cond (!v_1_c61.beq 0)
            (J1_0 mBig mClone N
             (kr0 [] 2)
             (fun _b0_c62 _b0_1_c63 _h0_c64 _h0_3_c65 => kr0 [] 4)
             (fun _b0_c66 _b0_1_c67 _h0_c68 h0_3_c69 => kr0 h0_3_c69 0) N)
            (cond (decide (v_c60 > IntKind.u64.wrap (↑(List.drop 4 (List.take (List.drop 1 (List.take b2.length b2)).length (List.drop 1 (List.take b2.length b2)))).length : Int)))
             (J1_0 mBig mClone N
              (kr0 [] 2)
              (fun _b0_c70 _b0_1_c71 _h0_c72 _h0_3_c73 => kr0 [] 4)
              (fun _b0_c74 _b0_1_c75 _h0_c76 h0_3_c77 => kr0 h0_3_c77 0) N)
             (cond (decide (0 ≤ v_c60))
              (cond (decide (v_c60 ≤ (↑(List.drop 4 (List.take (List.drop 1 (List.take b2.length b2)).length (List.drop 1 (List.take b2.length b2)))).length : Int)))
               (mClone R (List.drop 0 (List.take v_c60.toNat (List.drop 4 (List.take (List.drop 1 (List.take b2.length b2)).length (List.drop 1 (List.take b2.length b2))))))
                (cond (decide (0 ≤ v_c60))
                 (cond (decide (v_c60 ≤ (↑(List.drop 4 (List.take (List.drop 1 (List.take b2.length b2)).length (List.drop 1 (List.take b2.length b2)))).length : Int)))
                  (J1_2 mBig mClone N
                   (kr0 [] 2)
                   (fun _b0_c78 _b0_1_c79 _h0_c80 _h0_3_c81 => kr0 [] 4)
                   (fun _b0_c82 _b0_1_c83 _h0_c84 h0_3_c85 => kr0 h0_3_c85 0) N bN1 (List.drop v_c60.toNat (List.take (List.drop 4 (List.take (List.drop 1 (List.take b2.length b2)).length (List.drop 1 (List.take b2.length b2)))).length (List.drop 4 (List.take (List.drop 1 (List.take b2.length b2)).length (List.drop 1 (List.take b2.length b2)))))) (IntKind.i64.wrap (IntKind.i64.wrap (b2.getD 0 0) - 1)) ([cut none 0 (List.drop 0 (List.take v_c60.toNat (List.drop 4 (List.take (List.drop 1 (List.take b2.length b2)).length (List.drop 1 (List.take b2.length b2))))))]))
                  (none))
                 (none)))
               (none))
              (none))))
           (none)))
         (none))))
      (none))
     (none)))
theorem tree (mBig : Big.Ty) (mClone : Clone.Ty) {R : Type} (N : Nat) (κ : AV → List Blk → Option R) (bN1 : Option Bool) (b2 : List Int) : evF (g mBig mClone) an N Tryd.f73 [AV.isl IntKind.u8 bN1 b2] [] κ =
  cond (decide ((↑b2.length : Int) > 65536))
   (κ (AV.tup [AV.rsl IntKind.u8 [], AV.err 3]) [])
   (cond ((↑b2.length : Int) == 0)
    (jumpN (fun l => evC (g mBig mClone) an 0 N c_S1 (some l)) (hasL c_S1) (ctx (g mBig mClone) an 0 N (bodyOf Tryd.f73) [1] (endK (g mBig mClone) an Tryd.f73 [] κ)) (fun l => nmOf 0 (an.label l)) N 0 (s_J1_0))
    (cond (decide (0 < (↑b2.length : Int)))
     (cond (decide (1 ≤ (↑b2.length : Int)))
      (cond (IntKind.i64.wrap (b2.getD 0 0) == 0)
       (jumpN (fun l => evC (g mBig mClone) an 0 N c_S1 (some l)) (hasL c_S1) (ctx (g mBig mClone) an 0 N (bodyOf Tryd.f73) [1] (endK (g mBig mClone) an Tryd.f73 [] κ)) (fun l => nmOf 0 (an.label l)) N 1 (s_J1_1 bN1 (List.drop 1 (List.take b2.length b2)) true []))
       (cond (decide ((↑(List.drop 1 (List.take b2.length b2)).length : Int) < 4))
        (jumpN (fun l => evC (g mBig mClone) an 0 N c_S1 (some l)) (hasL c_S1) (ctx (g mBig mClone) an 0 N (bodyOf Tryd.f73) [1] (endK (g mBig mClone) an Tryd.f73 [] κ)) (fun l => nmOf 0 (an.label l)) N 0 (s_J1_0))
        (cond (decide (4 ≤ (↑(List.drop 1 (List.take b2.length b2)).length : Int)))
         (mBig R bN1 (List.drop 0 (List.take 4 (List.drop 1 (List.take b2.length b2))))
          (fun v_c60 v_1_c61 => cond (decide (4 ≤ (↑(List.drop 1 (List.take b2.length b2)).length : Int)))
           (cond (!v_1_c61.beq 0)
            (jumpN (fun l => evC (g mBig mClone) an 0 N c_S1 (some l)) (hasL c_S1) (ctx (g mBig mClone) an 0 N (bodyOf Tryd.f73) [1] (endK (g mBig mClone) an Tryd.f73 [] κ)) (fun l => nmOf 0 (an.label l)) N 0 (s_J1_0))
            (cond (decide (v_c60 > IntKind.u64.wrap (↑(List.drop 4 (List.take (List.drop 1 (List.take b2.length b2)).length (List.drop 1 (List.take b2.length b2)))).length : Int)))
             (jumpN (fun l => evC (g mBig mClone) an 0 N c_S1 (some l)) (hasL c_S1) (ctx (g mBig mClone) an 0 N (bodyOf Tryd.f73) [1] (endK (g mBig mClone) an Tryd.f73 [] κ)) (fun l => nmOf 0 (an.label l)) N 0 (s_J1_0))
             (cond (decide (0 ≤ v_c60))
              (cond (decide (v_c60 ≤ (↑(List.drop 4 (List.take (List.drop 1 (List.take b2.length b2)).length (List.drop 1 (List.take b2.length b2)))).length : Int)))
               (mClone R (List.drop 0 (List.take v_c60.toNat (List.drop 4 (List.take (List.drop 1 (List.take b2.length b2)).length (List.drop 1 (List.take b2.length b2))))))
                (cond (decide (0 ≤ v_c60))
                 (cond (decide (v_c60 ≤ (↑(List.drop 4 (List.take (List.drop 1 (List.take b2.length b2)).length (List.drop 1 (List.take b2.length b2)))).length : Int)))
                  (jumpN (fun l => evC (g mBig mClone) an 0 N c_S1 (some l)) (hasL c_S1) (ctx (g mBig mClone) an 0 N (bodyOf Tryd.f73) [1] (endK (g mBig mClone) an Tryd.f73 [] κ)) (fun l => nmOf 0 (an.label l)) N 2 (s_J1_2 bN1 (List.drop v_c60.toNat (List.take (List.drop 4 (List.take (List.drop 1 (List.take b2.length b2)).length (List.drop 1 (List.take b2.length b2)))).length (List.drop 4 (List.take (List.drop 1 (List.take b2.length b2)).length (List.drop 1 (List.take b2.length b2)))))) (IntKind.i64.wrap (IntKind.i64.wrap (b2.getD 0 0) - 1)) ([cut none 0 (List.drop 0 (List.take v_c60.toNat (List.drop 4 (List.take (List.drop 1 (List.take b2.length b2)).length (List.drop 1 (List.take b2.length b2))))))])))
                  (none))
                 (none)))
               (none))
              (none))))
           (none)))
         (none))))
      (none))
     (none))) := by kernel_rfl
theorem eq (mBig : Big.Ty) (mClone : Clone.Ty) {R : Type} (N : Nat) (κ : AV → List Blk → Option R) (bN1 : Option Bool) (b2 : List Int) : evF (g mBig mClone) an N Tryd.f73 [AV.isl IntKind.u8 bN1 b2] [] κ =
  m mBig mClone N bN1 b2 (fun v v_1 => κ (AV.tup [AV.rsl IntKind.u8 v, AV.err v_1]) []) := by
  rw [tree]
  simp only [run_J1_1, run_J1_0, run_J1_2]
  kernel_rfl
abbrev Ty : Type 1 := ∀ R : Type, (Option Bool) → (List Int) → ((List (List Int)) → Nat → Option R) → Option R
def con (f : Ty) : Con := fun R args bs κ => match args, bs with
  | [AV.isl IntKind.u8 bN1 b2], [] => f R bN1 b2 (fun v v_1 => κ (AV.tup [AV.rsl IntKind.u8 v, AV.err v_1]) [])
  | _, _ => none
theorem con_eq (f : Ty) (R : Type) (κ : AV → List Blk → Option R) (bN1 : Option Bool) (b2 : List Int) : con f R [AV.isl IntKind.u8 bN1 b2] [] κ = f R bN1 b2 (fun v v_1 => κ (AV.tup [AV.rsl IntKind.u8 v, AV.err v_1]) []) := rfl
noncomputable def M (N : Nat) : Ty := fun R bN1 b2 kr0 => m (Big.M N) (Clone.M N) (R := R) N bN1 b2 kr0
def gts : List (Nat × AV) := [(1, .err 2), (2, .err 3), (3, .err 4)]
theorem gok (N : Nat) : GOk (g (Big.M N) (Clone.M N)) := giD_ok hm (by intro p hp; cases hp) (gtL_ok (by decide)) (ovL_ok (by
    intro p hp
    simp only [List.mem_cons, List.not_mem_nil, or_false] at hp
    rcases hp with rfl | rfl
    · exact ⟨(Big.ok N).gt (gtL_sub (by repeat (first | exact subG_nil _ | refine subG_cons (by kernel_rfl) ?_))) (gtL_ok (by decide)), _, Tryd.func103, by kernel_rfl, by kernel_rfl⟩
    · exact ⟨(Clone.ok N).gt (gtL_sub (by repeat (first | exact subG_nil _ | refine subG_cons (by kernel_rfl) ?_))) (gtL_ok (by decide)), _, Tryd.func104, by kernel_rfl, by kernel_rfl⟩
)) 1
theorem ok (N : Nat) : SoundC Tryd.prog (gtL gts) 73 (con (M N)) := by
  refine SoundC.mono (evF_ok (gok N) hm an N Tryd.func73) fun R args bs κ r h => ?_
  unfold con at h
  split at h
  · exact (eq (Big.M N) (Clone.M N) N κ _ _).trans h
  · cases h
end wUnrow


/-! ### Tryd.f38: wNum -/
namespace wNum
def an : Anns := ⟨fun i => findA i [], fun i => findA i [], false, fun _ => none, []⟩
noncomputable def g (mPutBig : PutBig.Ty) : Gi := giD Tryd.prog (gtL [(0, .err 1)]) (fun _ => an) 0 [] (ovL [(72, PutBig.con mPutBig)]) 1
noncomputable def m (mPutBig : PutBig.Ty) {R : Type} (_N : Nat) (n1 : Int) (kr0 : (List Int) → Option R) : Option R :=
  cond (decide (n1 < 0))
   (mPutBig R 0 8
    (kr0 ([0, 0, 0, 0, 0, 0, 0, 0]))
    (fun b_c1 => kr0 b_c1))
   (cond (decide (n1 > 4611686018427387903))
    (mPutBig R 0 8
     (kr0 ([0, 0, 0, 0, 0, 0, 0, 0]))
     (fun b_c2 => kr0 b_c2))
    (mPutBig R (IntKind.u64.wrap n1) 8
     (kr0 ([0, 0, 0, 0, 0, 0, 0, 0]))
     (fun b_c3 => kr0 b_c3)))
theorem tree (mPutBig : PutBig.Ty) {R : Type} (N : Nat) (κ : AV → List Blk → Option R) (n1 : Int) : evF (g mPutBig) an N Tryd.f38 [AV.int IntKind.i64 n1] [] κ =
  cond (decide (n1 < 0))
   (mPutBig R 0 8
    (κ (AV.isl IntKind.u8 none [0, 0, 0, 0, 0, 0, 0, 0]) [])
    (fun b_c1 => κ (AV.isl IntKind.u8 none b_c1) []))
   (cond (decide (n1 > 4611686018427387903))
    (mPutBig R 0 8
     (κ (AV.isl IntKind.u8 none [0, 0, 0, 0, 0, 0, 0, 0]) [])
     (fun b_c2 => κ (AV.isl IntKind.u8 none b_c2) []))
    (mPutBig R (IntKind.u64.wrap n1) 8
     (κ (AV.isl IntKind.u8 none [0, 0, 0, 0, 0, 0, 0, 0]) [])
     (fun b_c3 => κ (AV.isl IntKind.u8 none b_c3) []))) := by kernel_rfl
theorem eq (mPutBig : PutBig.Ty) {R : Type} (N : Nat) (κ : AV → List Blk → Option R) (n1 : Int) : evF (g mPutBig) an N Tryd.f38 [AV.int IntKind.i64 n1] [] κ =
  m mPutBig N n1 (fun v => κ (AV.isl IntKind.u8 none v) []) := by
  rw [tree]
  kernel_rfl
abbrev Ty : Type 1 := ∀ R : Type, Int → ((List Int) → Option R) → Option R
def con (f : Ty) : Con := fun R args bs κ => match args, bs with
  | [AV.int IntKind.i64 n1], [] => f R n1 (fun v => κ (AV.isl IntKind.u8 none v) [])
  | _, _ => none
theorem con_eq (f : Ty) (R : Type) (κ : AV → List Blk → Option R) (n1 : Int) : con f R [AV.int IntKind.i64 n1] [] κ = f R n1 (fun v => κ (AV.isl IntKind.u8 none v) []) := rfl
noncomputable def M (N : Nat) : Ty := fun R n1 kr0 => m (PutBig.M N) (R := R) N n1 kr0
def gts : List (Nat × AV) := [(0, .err 1)]
theorem gok (N : Nat) : GOk (g (PutBig.M N)) := giD_ok hm (by intro p hp; cases hp) (gtL_ok (by decide)) (ovL_ok (by
    intro p hp
    simp only [List.mem_cons, List.not_mem_nil, or_false] at hp
    rcases hp with rfl
    · exact ⟨(PutBig.ok N).gt (gtL_sub (by repeat (first | exact subG_nil _ | refine subG_cons (by kernel_rfl) ?_))) (gtL_ok (by decide)), _, Tryd.func72, by kernel_rfl, by kernel_rfl⟩
)) 1
theorem ok (N : Nat) : SoundC Tryd.prog (gtL gts) 38 (con (M N)) := by
  refine SoundC.mono (evF_ok (gok N) hm an N Tryd.func38) fun R args bs κ r h => ?_
  unfold con at h
  split at h
  · exact (eq (PutBig.M N) N κ _).trans h
  · cases h
end wNum


/-! ### Tryd.f74: wKey -/
namespace wKey
def an : Anns := ⟨fun i => findA i [], fun i => findA i [], false, fun _ => none, []⟩
noncomputable def g : Gi := giD Tryd.prog (gtL [(3, .err 4)]) (fun _ => an) 0 [] (ovL []) 1
noncomputable def m {R : Type} (_N : Nat) (_bN1 : Option Bool) (b2 : List Int) (kr0 : (List Int) → Nat → Option R) : Option R :=
  cond ((↑b2.length : Int) != 32)
   (kr0 ([0, 0, 0, 0, 0, 0, 0, 0, 0, 0, 0, 0, 0, 0, 0, 0, 0, 0, 0, 0, 0, 0, 0, 0, 0, 0, 0, 0, 0, 0, 0, 0]) 4)
   (kr0 ([] ++ (List.take (min b2.length 32) b2 ++ List.drop (0 + min b2.length 32) [0, 0, 0, 0, 0, 0, 0, 0, 0, 0, 0, 0, 0, 0, 0, 0, 0, 0, 0, 0, 0, 0, 0, 0, 0, 0, 0, 0, 0, 0, 0, 0])) 0)
theorem tree {R : Type} (N : Nat) (κ : AV → List Blk → Option R) (bN1 : Option Bool) (b2 : List Int) : evF (g) an N Tryd.f74 [AV.isl IntKind.u8 bN1 b2] [] κ =
  cond ((↑b2.length : Int) != 32)
   (κ (AV.tup [AV.ints IntKind.u8 32 [0, 0, 0, 0, 0, 0, 0, 0, 0, 0, 0, 0, 0, 0, 0, 0, 0, 0, 0, 0, 0, 0, 0, 0, 0, 0, 0, 0, 0, 0, 0, 0], AV.err 4]) [])
   (κ (AV.tup [AV.ints IntKind.u8 32 ([] ++ (List.take (min b2.length 32) b2 ++ List.drop (0 + min b2.length 32) [0, 0, 0, 0, 0, 0, 0, 0, 0, 0, 0, 0, 0, 0, 0, 0, 0, 0, 0, 0, 0, 0, 0, 0, 0, 0, 0, 0, 0, 0, 0, 0])), AV.err 0]) []) := by kernel_rfl
theorem eq {R : Type} (N : Nat) (κ : AV → List Blk → Option R) (bN1 : Option Bool) (b2 : List Int) : evF (g) an N Tryd.f74 [AV.isl IntKind.u8 bN1 b2] [] κ =
  m N bN1 b2 (fun v v_1 => κ (AV.tup [AV.ints IntKind.u8 32 v, AV.err v_1]) []) := by
  rw [tree]
  kernel_rfl
abbrev Ty : Type 1 := ∀ R : Type, (Option Bool) → (List Int) → ((List Int) → Nat → Option R) → Option R
def con (f : Ty) : Con := fun R args bs κ => match args, bs with
  | [AV.isl IntKind.u8 bN1 b2], [] => f R bN1 b2 (fun v v_1 => κ (AV.tup [AV.ints IntKind.u8 32 v, AV.err v_1]) [])
  | _, _ => none
theorem con_eq (f : Ty) (R : Type) (κ : AV → List Blk → Option R) (bN1 : Option Bool) (b2 : List Int) : con f R [AV.isl IntKind.u8 bN1 b2] [] κ = f R bN1 b2 (fun v v_1 => κ (AV.tup [AV.ints IntKind.u8 32 v, AV.err v_1]) []) := rfl
noncomputable def M (N : Nat) : Ty := fun R bN1 b2 kr0 => m (R := R) N bN1 b2 kr0
def gts : List (Nat × AV) := [(3, .err 4)]
theorem gok (_N : Nat) : GOk (g) := giD_ok hm (by intro p hp; cases hp) (gtL_ok (by decide)) (ovL_ok (by intro p hp; cases hp)) 1
theorem ok (N : Nat) : SoundC Tryd.prog (gtL gts) 74 (con (M N)) := by
  refine SoundC.mono (evF_ok (gok N) hm an N Tryd.func74) fun R args bs κ r h => ?_
  unfold con at h
  split at h
  · exact (eq N κ _ _).trans h
  · cases h
end wKey


/-! ### Tryd.f76: wSig -/
namespace wSig
def an : Anns := ⟨fun i => findA i [], fun i => findA i [], false, fun _ => none, []⟩
noncomputable def g : Gi := giD Tryd.prog (gtL [(3, .err 4)]) (fun _ => an) 0 [] (ovL []) 1
noncomputable def m {R : Type} (_N : Nat) (_bN1 : Option Bool) (b2 : List Int) (kr0 : (List Int) → Nat → Option R) : Option R :=
  cond ((↑b2.length : Int) != 64)
   (kr0 ([0, 0, 0, 0, 0, 0, 0, 0, 0, 0, 0, 0, 0, 0, 0, 0, 0, 0, 0, 0, 0, 0, 0, 0, 0, 0, 0, 0, 0, 0, 0, 0, 0, 0, 0, 0, 0, 0, 0, 0, 0, 0, 0, 0, 0, 0, 0, 0, 0, 0, 0, 0, 0, 0, 0, 0, 0, 0, 0, 0, 0, 0, 0, 0]) 4)
   (kr0 ([] ++ (List.take (min b2.length 64) b2 ++ List.drop (0 + min b2.length 64) [0, 0, 0, 0, 0, 0, 0, 0, 0, 0, 0, 0, 0, 0, 0, 0, 0, 0, 0, 0, 0, 0, 0, 0, 0, 0, 0, 0, 0, 0, 0, 0, 0, 0, 0, 0, 0, 0, 0, 0, 0, 0, 0, 0, 0, 0, 0, 0, 0, 0, 0, 0, 0, 0, 0, 0, 0, 0, 0, 0, 0, 0, 0, 0])) 0)
theorem tree {R : Type} (N : Nat) (κ : AV → List Blk → Option R) (bN1 : Option Bool) (b2 : List Int) : evF (g) an N Tryd.f76 [AV.isl IntKind.u8 bN1 b2] [] κ =
  cond ((↑b2.length : Int) != 64)
   (κ (AV.tup [AV.ints IntKind.u8 64 [0, 0, 0, 0, 0, 0, 0, 0, 0, 0, 0, 0, 0, 0, 0, 0, 0, 0, 0, 0, 0, 0, 0, 0, 0, 0, 0, 0, 0, 0, 0, 0, 0, 0, 0, 0, 0, 0, 0, 0, 0, 0, 0, 0, 0, 0, 0, 0, 0, 0, 0, 0, 0, 0, 0, 0, 0, 0, 0, 0, 0, 0, 0, 0], AV.err 4]) [])
   (κ (AV.tup [AV.ints IntKind.u8 64 ([] ++ (List.take (min b2.length 64) b2 ++ List.drop (0 + min b2.length 64) [0, 0, 0, 0, 0, 0, 0, 0, 0, 0, 0, 0, 0, 0, 0, 0, 0, 0, 0, 0, 0, 0, 0, 0, 0, 0, 0, 0, 0, 0, 0, 0, 0, 0, 0, 0, 0, 0, 0, 0, 0, 0, 0, 0, 0, 0, 0, 0, 0, 0, 0, 0, 0, 0, 0, 0, 0, 0, 0, 0, 0, 0, 0, 0])), AV.err 0]) []) := by kernel_rfl
theorem eq {R : Type} (N : Nat) (κ : AV → List Blk → Option R) (bN1 : Option Bool) (b2 : List Int) : evF (g) an N Tryd.f76 [AV.isl IntKind.u8 bN1 b2] [] κ =
  m N bN1 b2 (fun v v_1 => κ (AV.tup [AV.ints IntKind.u8 64 v, AV.err v_1]) []) := by
  rw [tree]
  kernel_rfl
abbrev Ty : Type 1 := ∀ R : Type, (Option Bool) → (List Int) → ((List Int) → Nat → Option R) → Option R
def con (f : Ty) : Con := fun R args bs κ => match args, bs with
  | [AV.isl IntKind.u8 bN1 b2], [] => f R bN1 b2 (fun v v_1 => κ (AV.tup [AV.ints IntKind.u8 64 v, AV.err v_1]) [])
  | _, _ => none
theorem con_eq (f : Ty) (R : Type) (κ : AV → List Blk → Option R) (bN1 : Option Bool) (b2 : List Int) : con f R [AV.isl IntKind.u8 bN1 b2] [] κ = f R bN1 b2 (fun v v_1 => κ (AV.tup [AV.ints IntKind.u8 64 v, AV.err v_1]) []) := rfl
noncomputable def M (N : Nat) : Ty := fun R bN1 b2 kr0 => m (R := R) N bN1 b2 kr0
def gts : List (Nat × AV) := [(3, .err 4)]
theorem gok (_N : Nat) : GOk (g) := giD_ok hm (by intro p hp; cases hp) (gtL_ok (by decide)) (ovL_ok (by intro p hp; cases hp)) 1
theorem ok (N : Nat) : SoundC Tryd.prog (gtL gts) 76 (con (M N)) := by
  refine SoundC.mono (evF_ok (gok N) hm an N Tryd.func76) fun R args bs κ r h => ?_
  unfold con at h
  split at h
  · exact (eq N κ _ _).trans h
  · cases h
end wSig

end Go.Proofs.YthajoenmfppenaaDoor.fn
