/- What a tree's bytes are by definition, with the proof; printed by a program. -/
import Derived.Test.YthajoenmfppenaaDoorProg
import Derived.Test.YthajoenmfppenaaDoorEv4
import Derived.Test.YthajoenmfppenaaDoorFnFormsR
import Derived.Test.YthajoenmfppenaaDoorFnRecR
namespace Go.Proofs.YthajoenmfppenaaDoor.fn
open Go Go.Proofs Go.Ev
/-! ### Tryd.f111: r17Right -/
namespace r17Right
def an : Anns := ⟨fun i => findA i [], fun i => findA i [], false, fun _ => none, []⟩
noncomputable def g : Gi := giD Tryd.prog (gtL []) (fun _ => an) 0 [] (ovL []) 1
noncomputable def m {R : Type} (_N : Nat) (n1 : Int) (kr0 : Bool → Option R) : Option R :=
  cond (n1 == 1)
   (kr0 true)
   (cond (n1 == 2)
    (kr0 true)
    (cond (n1 == 4)
     (kr0 true)
     (cond (n1 == 8)
      (kr0 true)
      (kr0 (n1 == 16)))))
theorem tree {R : Type} (N : Nat) (κ : AV → List Blk → Option R) (n1 : Int) : evF g an N Tryd.f111 [AV.int IntKind.i64 n1] [] κ =
  cond (n1 == 1)
   (κ (AV.bool true) [])
   (cond (n1 == 2)
    (κ (AV.bool true) [])
    (cond (n1 == 4)
     (κ (AV.bool true) [])
     (cond (n1 == 8)
      (κ (AV.bool true) [])
      (κ (AV.bool (n1 == 16)) [])))) := by kernel_rfl
theorem eq {R : Type} (N : Nat) (κ : AV → List Blk → Option R) (n1 : Int) : evF g an N Tryd.f111 [AV.int IntKind.i64 n1] [] κ =
  m N n1 (fun v => κ (AV.bool v) []) := by
  rw [tree]
  kernel_rfl
abbrev Ty : Type 1 := ∀ R : Type, Int → (Bool → Option R) → Option R
def con (f : Ty) : Con := fun R args bs κ => match args, bs with
  | [AV.int IntKind.i64 n1], [] => f R n1 (fun v => κ (AV.bool v) [])
  | _, _ => none
theorem con_eq (f : Ty) (R : Type) (κ : AV → List Blk → Option R) (n1 : Int) : con f R [AV.int IntKind.i64 n1] [] κ = f R n1 (fun v => κ (AV.bool v) []) := rfl
noncomputable def M (N : Nat) : Ty := fun R n1 kr0 => m (R := R) N n1 kr0
def gts : List (Nat × AV) := []
theorem gok (_N : Nat) : GOk g := giD_ok hm (by intro p hp; cases hp) (gtL_ok (by decide)) (ovL_ok (by intro p hp; cases hp)) 1
theorem ok (N : Nat) : SoundC Tryd.prog (gtL gts) 111 (con (M N)) := by
  refine SoundC.mono (evF_ok (gok N) hm an N Tryd.func111) fun R args bs κ r h => ?_
  unfold con at h
  split at h
  · exact (eq N κ _).trans h
  · cases h
end r17Right

/-! ### Tryd.f95: r18shape -/
namespace r18shape
def an : Anns := ⟨fun i => findA i [(4, ⟨[17, 18, 19], [], 0, []⟩)], fun i => findA i [], false, fun _ => none, []⟩
noncomputable def g (mr17Right : r17Right.Ty) : Gi := giD Tryd.prog (gtL []) (fun _ => an) 0 [] (ovL [(111, r17Right.con mr17Right)]) 1
noncomputable def c_L4 : Code := loopOf Tryd.f95 0
def s_L4 (t17 : List SlotT) (t18 : Int) (t19 : Int) : St := ⟨List.replicate 17 .dead ++ [AV.gsl slotTy t17, AV.int IntKind.i64 t18, AV.int IntKind.i64 t19] ++ List.replicate 16 .dead, []⟩
def x_L4_0 (t17 : List SlotT) (t18 : Int) (t19 : Int) : St := ⟨[AV.dead, AV.dead, AV.bool false, AV.int IntKind.i64 t19, AV.ptr 0 []] ++ List.replicate 12 .dead ++ [AV.gsl slotTy t17, AV.int IntKind.i64 t18, AV.int IntKind.i64 t19, AV.bool (decide (t19 < t18)), AV.int IntKind.i64 t19, AV.rpg slotTy (t17.getD t19.toNat (dflt slotTy)), AV.agg [AV.int IntKind.i64 (t17.getD t19.toNat (dflt slotTy)).fst, AV.agg [AV.ints IntKind.u8 32 (t17.getD t19.toNat (dflt slotTy)).snd.fst.fst, AV.ints IntKind.u8 32 (t17.getD t19.toNat (dflt slotTy)).snd.fst.snd.fst, AV.isl IntKind.u8 none (t17.getD t19.toNat (dflt slotTy)).snd.fst.snd.snd.fst, AV.ints IntKind.u8 32 (t17.getD t19.toNat (dflt slotTy)).snd.fst.snd.snd.snd.fst, AV.ints IntKind.u8 64 (t17.getD t19.toNat (dflt slotTy)).snd.fst.snd.snd.snd.snd.fst], AV.agg [AV.ints IntKind.u8 32 (t17.getD t19.toNat (dflt slotTy)).snd.snd.fst.fst, AV.ints IntKind.u8 32 (t17.getD t19.toNat (dflt slotTy)).snd.snd.fst.snd.fst, AV.isl IntKind.i64 none (t17.getD t19.toNat (dflt slotTy)).snd.snd.fst.snd.snd.fst]], AV.ptr 0 [0], AV.int IntKind.i64 (t17.getD t19.toNat (dflt slotTy)).fst, AV.bool ((t17.getD t19.toNat (dflt slotTy)).fst != 0), AV.bool true, AV.ptr 0 [0], AV.int IntKind.i64 (t17.getD t19.toNat (dflt slotTy)).fst, AV.int IntKind.i64 t19, AV.int IntKind.i64 (t19.tmod 2), AV.int IntKind.i64 (IntKind.i64.wrap (1 + t19.tmod 2)), AV.bool ((t17.getD t19.toNat (dflt slotTy)).fst != IntKind.i64.wrap (1 + t19.tmod 2)), AV.bool ((t17.getD t19.toNat (dflt slotTy)).fst != IntKind.i64.wrap (1 + t19.tmod 2)), AV.dead], [Blk.var (AV.agg [AV.int IntKind.i64 (t17.getD t19.toNat (dflt slotTy)).fst, AV.agg [AV.ints IntKind.u8 32 (t17.getD t19.toNat (dflt slotTy)).snd.fst.fst, AV.ints IntKind.u8 32 (t17.getD t19.toNat (dflt slotTy)).snd.fst.snd.fst, AV.isl IntKind.u8 none (t17.getD t19.toNat (dflt slotTy)).snd.fst.snd.snd.fst, AV.ints IntKind.u8 32 (t17.getD t19.toNat (dflt slotTy)).snd.fst.snd.snd.snd.fst, AV.ints IntKind.u8 64 (t17.getD t19.toNat (dflt slotTy)).snd.fst.snd.snd.snd.snd.fst], AV.agg [AV.ints IntKind.u8 32 (t17.getD t19.toNat (dflt slotTy)).snd.snd.fst.fst, AV.ints IntKind.u8 32 (t17.getD t19.toNat (dflt slotTy)).snd.snd.fst.snd.fst, AV.isl IntKind.i64 none (t17.getD t19.toNat (dflt slotTy)).snd.snd.fst.snd.snd.fst]])]⟩
def x_L4_1 (t17 : List SlotT) (t18 : Int) (t19 : Int) : St := ⟨List.replicate 17 .dead ++ [AV.gsl slotTy t17, AV.int IntKind.i64 t18, AV.int IntKind.i64 t19, AV.bool (decide (t19 < t18))] ++ List.replicate 15 .dead, []⟩
noncomputable def L4 (mr17Right : r17Right.Ty) {R : Type} (N : Nat) (ke0 : (List SlotT) → Int → Int → Option R) (ke1 : (List SlotT) → Int → Int → Option R) : Nat → (List SlotT) → Int → Int → Option R
  | 0, _, _, _ => none
  | m + 1, t17, t18, t19 =>
    cond (decide (t19 < t18))
     (cond (decide (0 ≤ t19))
      (cond (decide (t19 < (↑t17.length : Int)))
       (cond ((t17.getD t19.toNat (dflt slotTy)).fst != 0)
        (cond ((t17.getD t19.toNat (dflt slotTy)).fst != IntKind.i64.wrap (1 + t19.tmod 2))
         (ke0 t17 t18 t19)
         (L4 mr17Right N ke0 ke1 m t17 t18 (IntKind.i64.wrap (t19 + 1))))
        (L4 mr17Right N ke0 ke1 m t17 t18 (IntKind.i64.wrap (t19 + 1))))
       none)
      none)
     (ke1 t17 t18 t19)
theorem round_L4 (mr17Right : r17Right.Ty) {R : Type} (N : Nat) (Rn : St → Option R) (k : K R) (t17 : List SlotT) (t18 : Int) (t19 : Int) : evC (g mr17Right) an 0 N c_L4 none (roundK (nmOf 0 (an.loop 4)) Rn k) (s_L4 t17 t18 t19) =
  cond (decide (t19 < t18))
   (cond (decide (0 ≤ t19))
    (cond (decide (t19 < (↑t17.length : Int)))
     (cond ((t17.getD t19.toNat (dflt slotTy)).fst != 0)
      (cond ((t17.getD t19.toNat (dflt slotTy)).fst != IntKind.i64.wrap (1 + t19.tmod 2))
       (k.ret (x_L4_0 t17 t18 t19))
       (Rn (s_L4 t17 t18 (IntKind.i64.wrap (t19 + 1)))))
      (Rn (s_L4 t17 t18 (IntKind.i64.wrap (t19 + 1)))))
     none)
    none)
   (k.ext 0 (x_L4_1 t17 t18 t19)) := by kernel_rfl
theorem run_L4 (mr17Right : r17Right.Ty) {R : Type} (N : Nat) (k : K R) : ∀ (m : Nat) (t17 : List SlotT) (t18 : Int) (t19 : Int), loopN (evC (g mr17Right) an 0 N c_L4 none) k (nmOf 0 (an.loop 4)) m (s_L4 t17 t18 t19) =
    L4 mr17Right N (fun t17 t18 t19 => (k).ret (x_L4_0 t17 t18 t19)) (fun t17 t18 t19 => (k).ext 0 (x_L4_1 t17 t18 t19)) m t17 t18 t19 := by
  intro m
  induction m with
  | zero => intros; rfl
  | succ m ih =>
    intros
    rw [loopN_succ, round_L4]
    simp only [ih]
    kernel_rfl
noncomputable def m (mr17Right : r17Right.Ty) {R : Type} (N : Nat) (x1 : List SlotT) (kr0 : Bool → Option R) : Option R :=
  cond ((↑x1.length : Int).tmod 2 == 0)
   (kr0 false)
   (mr17Right R (IntKind.i64.wrap ((IntKind.i64.wrap ((↑x1.length : Int) + 1)).tdiv 2))
    (fun v_c8 => cond (!v_c8)
     (kr0 false)
     (L4 mr17Right N
      (fun _t17_c9 _t18_c10 _t19_c11 => kr0 false)
      (fun _t17_c12 _t18_c13 _t19_c14 => kr0 true) N x1 ((↑x1.length : Int)) 0)))
theorem tree (mr17Right : r17Right.Ty) {R : Type} (N : Nat) (κ : AV → List Blk → Option R) (x1 : List SlotT) : evF (g mr17Right) an N Tryd.f95 [AV.gsl slotTy x1] [] κ =
  cond ((↑x1.length : Int).tmod 2 == 0)
   (κ (AV.bool false) [])
   (mr17Right R (IntKind.i64.wrap ((IntKind.i64.wrap ((↑x1.length : Int) + 1)).tdiv 2))
    (fun v_c8 => cond (!v_c8)
     (κ (AV.bool false) [])
     (loopN (evC (g mr17Right) an 0 N c_L4 none) (ctx (g mr17Right) an 0 N (bodyOf Tryd.f95) [1, 1, 0, 1, 0] (endK (g mr17Right) an Tryd.f95 [] κ)) (nmOf 0 (an.loop 4)) N (s_L4 x1 ((↑x1.length : Int)) 0)))) := by kernel_rfl
theorem eq (mr17Right : r17Right.Ty) {R : Type} (N : Nat) (κ : AV → List Blk → Option R) (x1 : List SlotT) : evF (g mr17Right) an N Tryd.f95 [AV.gsl slotTy x1] [] κ =
  m mr17Right N x1 (fun v => κ (AV.bool v) []) := by
  rw [tree]
  simp only [run_L4]
  kernel_rfl
abbrev Ty : Type 1 := ∀ R : Type, (List SlotT) → (Bool → Option R) → Option R
def con (f : Ty) : Con := fun R args bs κ => match args, bs with
  | [AV.gsl slotTy x1], [] => f R x1 (fun v => κ (AV.bool v) [])
  | _, _ => none
theorem con_eq (f : Ty) (R : Type) (κ : AV → List Blk → Option R) (x1 : List SlotT) : con f R [AV.gsl slotTy x1] [] κ = f R x1 (fun v => κ (AV.bool v) []) := rfl
noncomputable def M (N : Nat) : Ty := fun R x1 kr0 => m (r17Right.M N) (R := R) N x1 kr0
def gts : List (Nat × AV) := []
theorem gok (N : Nat) : GOk (g (r17Right.M N)) := giD_ok hm (by intro p hp; cases hp) (gtL_ok (by decide)) (ovL_ok (by
    intro p hp
    simp only [List.mem_cons, List.not_mem_nil, or_false] at hp
    rcases hp with rfl
    · exact ⟨(r17Right.ok N).gt (gtL_sub (by repeat (first | exact subG_nil _ | refine subG_cons (by kernel_rfl) ?_))) (gtL_ok (by decide)), _, Tryd.func111, by kernel_rfl, by kernel_rfl⟩
)) 1
theorem ok (N : Nat) : SoundC Tryd.prog (gtL gts) 95 (con (M N)) := by
  refine SoundC.mono (evF_ok (gok N) hm an N Tryd.func95) fun R args bs κ r h => ?_
  unfold con at h
  split at h
  · exact (eq (r17Right.M N) N κ _).trans h
  · cases h
end r18shape

/-! ### Tryd.f112: r18rise -/
namespace r18rise
def an : Anns := ⟨fun i => findA i [(2, ⟨[0, 5, 6, 7], [], 0, []⟩)], fun i => findA i [], false, fun _ => none, []⟩
noncomputable def g : Gi := giD Tryd.prog (gtL []) (fun _ => an) 0 [] (ovL []) 1
noncomputable def c_L2 : Code := loopOf Tryd.f112 0
def s_L2 (l0 : Option Bool) (l0_1 : List Int) (t5 : Option Bool) (t5_3 : List Int) (t6 : Int) (t7 : Int) : St := ⟨[AV.isl IntKind.i64 l0 l0_1] ++ List.replicate 4 .dead ++ [AV.isl IntKind.i64 t5 t5_3, AV.int IntKind.i64 t6, AV.int IntKind.i64 t7] ++ List.replicate 24 .dead, []⟩
def x_L2_0 (l0 : Option Bool) (l0_1 : List Int) (t5 : Option Bool) (t5_3 : List Int) (t6 : Int) (t7 : Int) : St := ⟨[AV.isl IntKind.i64 l0 l0_1, AV.dead, AV.bool false, AV.int IntKind.i64 t7, AV.int IntKind.i64 (t5_3.getD t7.toNat 0), AV.isl IntKind.i64 t5 t5_3, AV.int IntKind.i64 t6, AV.int IntKind.i64 t7, AV.bool (decide (t7 < t6)), AV.int IntKind.i64 t7, AV.rpi IntKind.i64 (t5_3.getD t7.toNat 0), AV.int IntKind.i64 (t5_3.getD t7.toNat 0), AV.int IntKind.i64 (t5_3.getD t7.toNat 0), AV.bool (decide (t5_3.getD t7.toNat 0 < 0)), AV.bool true, AV.tup [], AV.tup [], AV.bool true, AV.bool true] ++ List.replicate 11 und ++ [AV.bool true, AV.dead], []⟩
def x_L2_1 (l0 : Option Bool) (l0_1 : List Int) (t5 : Option Bool) (t5_3 : List Int) (t6 : Int) (t7 : Int) : St := ⟨[AV.isl IntKind.i64 l0 l0_1, AV.dead, AV.bool false, AV.int IntKind.i64 t7, AV.int IntKind.i64 (t5_3.getD t7.toNat 0), AV.isl IntKind.i64 t5 t5_3, AV.int IntKind.i64 t6, AV.int IntKind.i64 t7, AV.bool (decide (t7 < t6)), AV.int IntKind.i64 t7, AV.rpi IntKind.i64 (t5_3.getD t7.toNat 0), AV.int IntKind.i64 (t5_3.getD t7.toNat 0), AV.int IntKind.i64 (t5_3.getD t7.toNat 0), AV.bool (decide (t5_3.getD t7.toNat 0 < 0)), AV.bool false, AV.int IntKind.i64 (t5_3.getD t7.toNat 0), AV.bool (decide (t5_3.getD t7.toNat 0 > 15)), AV.bool (decide (t5_3.getD t7.toNat 0 > 15)), AV.bool true] ++ List.replicate 11 und ++ [AV.bool true, AV.dead], []⟩
def x_L2_2 (l0 : Option Bool) (l0_1 : List Int) (t5 : Option Bool) (t5_3 : List Int) (t6 : Int) (t7 : Int) : St := ⟨[AV.isl IntKind.i64 l0 l0_1, AV.dead, AV.bool false, AV.int IntKind.i64 t7, AV.int IntKind.i64 (t5_3.getD t7.toNat 0), AV.isl IntKind.i64 t5 t5_3, AV.int IntKind.i64 t6, AV.int IntKind.i64 t7, AV.bool (decide (t7 < t6)), AV.int IntKind.i64 t7, AV.rpi IntKind.i64 (t5_3.getD t7.toNat 0), AV.int IntKind.i64 (t5_3.getD t7.toNat 0), AV.int IntKind.i64 (t5_3.getD t7.toNat 0), AV.bool (decide (t5_3.getD t7.toNat 0 < 0)), AV.bool false, AV.int IntKind.i64 (t5_3.getD t7.toNat 0), AV.bool (decide (t5_3.getD t7.toNat 0 > 15)), AV.bool (decide (t5_3.getD t7.toNat 0 > 15)), AV.bool false, AV.int IntKind.i64 t7, AV.bool (decide (t7 > 0)), AV.bool true, AV.int IntKind.i64 (t5_3.getD t7.toNat 0), AV.isl IntKind.i64 l0 l0_1, AV.int IntKind.i64 t7, AV.int IntKind.i64 (IntKind.i64.wrap (t7 - 1)), AV.rpi IntKind.i64 (l0_1.getD (IntKind.i64.wrap (t7 - 1)).toNat 0), AV.int IntKind.i64 (l0_1.getD (IntKind.i64.wrap (t7 - 1)).toNat 0), AV.bool (decide (t5_3.getD t7.toNat 0 ≤ l0_1.getD (IntKind.i64.wrap (t7 - 1)).toNat 0)), AV.bool (decide (t5_3.getD t7.toNat 0 ≤ l0_1.getD (IntKind.i64.wrap (t7 - 1)).toNat 0)), AV.bool (decide (t5_3.getD t7.toNat 0 ≤ l0_1.getD (IntKind.i64.wrap (t7 - 1)).toNat 0)), AV.dead], []⟩
def x_L2_3 (l0 : Option Bool) (l0_1 : List Int) (t5 : Option Bool) (t5_3 : List Int) (t6 : Int) (t7 : Int) : St := ⟨[AV.isl IntKind.i64 l0 l0_1] ++ List.replicate 4 .dead ++ [AV.isl IntKind.i64 t5 t5_3, AV.int IntKind.i64 t6, AV.int IntKind.i64 t7, AV.bool (decide (t7 < t6))] ++ List.replicate 23 .dead, []⟩
noncomputable def L2 {R : Type} (N : Nat) (ke0 : (Option Bool) → (List Int) → (Option Bool) → (List Int) → Int → Int → Option R) (ke1 : (Option Bool) → (List Int) → (Option Bool) → (List Int) → Int → Int → Option R) (ke2 : (Option Bool) → (List Int) → (Option Bool) → (List Int) → Int → Int → Option R) (ke3 : (Option Bool) → (List Int) → (Option Bool) → (List Int) → Int → Int → Option R) : Nat → (Option Bool) → (List Int) → (Option Bool) → (List Int) → Int → Int → Option R
  | 0, _, _, _, _, _, _ => none
  | m + 1, l0, l0_1, t5, t5_3, t6, t7 =>
    cond (decide (t7 < t6))
     (cond (decide (0 ≤ t7))
      (cond (decide (t7 < (↑t5_3.length : Int)))
       (cond (decide (t5_3.getD t7.toNat 0 < 0))
        (ke0 l0 l0_1 t5 t5_3 t6 t7)
        (cond (decide (t5_3.getD t7.toNat 0 > 15))
         (ke1 l0 l0_1 t5 t5_3 t6 t7)
         (cond (decide (t7 > 0))
          (cond (decide (0 ≤ IntKind.i64.wrap (t7 - 1)))
           (cond (decide (IntKind.i64.wrap (t7 - 1) < (↑l0_1.length : Int)))
            (cond (decide (t5_3.getD t7.toNat 0 ≤ l0_1.getD (IntKind.i64.wrap (t7 - 1)).toNat 0))
             (ke2 l0 l0_1 t5 t5_3 t6 t7)
             (L2 N ke0 ke1 ke2 ke3 m l0 l0_1 t5 t5_3 t6 (IntKind.i64.wrap (t7 + 1))))
            none)
           none)
          (L2 N ke0 ke1 ke2 ke3 m l0 l0_1 t5 t5_3 t6 (IntKind.i64.wrap (t7 + 1))))))
       none)
      none)
     (ke3 l0 l0_1 t5 t5_3 t6 t7)
theorem round_L2 {R : Type} (N : Nat) (Rn : St → Option R) (k : K R) (l0 : Option Bool) (l0_1 : List Int) (t5 : Option Bool) (t5_3 : List Int) (t6 : Int) (t7 : Int) : evC g an 0 N c_L2 none (roundK (nmOf 0 (an.loop 2)) Rn k) (s_L2 l0 l0_1 t5 t5_3 t6 t7) =
  cond (decide (t7 < t6))
   (cond (decide (0 ≤ t7))
    (cond (decide (t7 < (↑t5_3.length : Int)))
     (cond (decide (t5_3.getD t7.toNat 0 < 0))
      (k.ret (x_L2_0 l0 l0_1 t5 t5_3 t6 t7))
      (cond (decide (t5_3.getD t7.toNat 0 > 15))
       (k.ret (x_L2_1 l0 l0_1 t5 t5_3 t6 t7))
       (cond (decide (t7 > 0))
        (cond (decide (0 ≤ IntKind.i64.wrap (t7 - 1)))
         (cond (decide (IntKind.i64.wrap (t7 - 1) < (↑l0_1.length : Int)))
          (cond (decide (t5_3.getD t7.toNat 0 ≤ l0_1.getD (IntKind.i64.wrap (t7 - 1)).toNat 0))
           (k.ret (x_L2_2 l0 l0_1 t5 t5_3 t6 t7))
           (Rn (s_L2 l0 l0_1 t5 t5_3 t6 (IntKind.i64.wrap (t7 + 1)))))
          none)
         none)
        (Rn (s_L2 l0 l0_1 t5 t5_3 t6 (IntKind.i64.wrap (t7 + 1)))))))
     none)
    none)
   (k.ext 0 (x_L2_3 l0 l0_1 t5 t5_3 t6 t7)) := by kernel_rfl
theorem run_L2 {R : Type} (N : Nat) (k : K R) : ∀ (m : Nat) (l0 : Option Bool) (l0_1 : List Int) (t5 : Option Bool) (t5_3 : List Int) (t6 : Int) (t7 : Int), loopN (evC g an 0 N c_L2 none) k (nmOf 0 (an.loop 2)) m (s_L2 l0 l0_1 t5 t5_3 t6 t7) =
    L2 N (fun l0 l0_1 t5 t5_3 t6 t7 => (k).ret (x_L2_0 l0 l0_1 t5 t5_3 t6 t7)) (fun l0 l0_1 t5 t5_3 t6 t7 => (k).ret (x_L2_1 l0 l0_1 t5 t5_3 t6 t7)) (fun l0 l0_1 t5 t5_3 t6 t7 => (k).ret (x_L2_2 l0 l0_1 t5 t5_3 t6 t7)) (fun l0 l0_1 t5 t5_3 t6 t7 => (k).ext 0 (x_L2_3 l0 l0_1 t5 t5_3 t6 t7)) m l0 l0_1 t5 t5_3 t6 t7 := by
  intro m
  induction m with
  | zero => intros; rfl
  | succ m ih =>
    intros
    rw [loopN_succ, round_L2]
    simp only [ih]
    kernel_rfl
noncomputable def m {R : Type} (N : Nat) (lN1 : Option Bool) (l2 : List Int) (kr0 : Bool → Option R) : Option R :=
  L2 N
   (fun _l0_c30 _l0_1_c31 _t5_c32 _t5_3_c33 _t6_c34 _t7_c35 => kr0 false)
   (fun _l0_c36 _l0_1_c37 _t5_c38 _t5_3_c39 _t6_c40 _t7_c41 => kr0 false)
   (fun _l0_c42 _l0_1_c43 _t5_c44 _t5_3_c45 _t6_c46 _t7_c47 => kr0 false)
   (fun _l0_c48 _l0_1_c49 _t5_c50 _t5_3_c51 _t6_c52 _t7_c53 => kr0 true) N lN1 l2 lN1 l2 ((↑l2.length : Int)) 0
theorem tree {R : Type} (N : Nat) (κ : AV → List Blk → Option R) (lN1 : Option Bool) (l2 : List Int) : evF g an N Tryd.f112 [AV.isl IntKind.i64 lN1 l2] [] κ =
  loopN (evC g an 0 N c_L2 none) (ctx g an 0 N (bodyOf Tryd.f112) [1, 0, 1, 0] (endK g an Tryd.f112 [] κ)) (nmOf 0 (an.loop 2)) N (s_L2 lN1 l2 lN1 l2 ((↑l2.length : Int)) 0) := by kernel_rfl
theorem eq {R : Type} (N : Nat) (κ : AV → List Blk → Option R) (lN1 : Option Bool) (l2 : List Int) : evF g an N Tryd.f112 [AV.isl IntKind.i64 lN1 l2] [] κ =
  m N lN1 l2 (fun v => κ (AV.bool v) []) := by
  rw [tree]
  simp only [run_L2]
  kernel_rfl
abbrev Ty : Type 1 := ∀ R : Type, (Option Bool) → (List Int) → (Bool → Option R) → Option R
def con (f : Ty) : Con := fun R args bs κ => match args, bs with
  | [AV.isl IntKind.i64 lN1 l2], [] => f R lN1 l2 (fun v => κ (AV.bool v) [])
  | _, _ => none
theorem con_eq (f : Ty) (R : Type) (κ : AV → List Blk → Option R) (lN1 : Option Bool) (l2 : List Int) : con f R [AV.isl IntKind.i64 lN1 l2] [] κ = f R lN1 l2 (fun v => κ (AV.bool v) []) := rfl
noncomputable def M (N : Nat) : Ty := fun R lN1 l2 kr0 => m (R := R) N lN1 l2 kr0
def gts : List (Nat × AV) := []
theorem gok (_N : Nat) : GOk g := giD_ok hm (by intro p hp; cases hp) (gtL_ok (by decide)) (ovL_ok (by intro p hp; cases hp)) 1
theorem ok (N : Nat) : SoundC Tryd.prog (gtL gts) 112 (con (M N)) := by
  refine SoundC.mono (evF_ok (gok N) hm an N Tryd.func112) fun R args bs κ r h => ?_
  unfold con at h
  split at h
  · exact (eq N κ _ _).trans h
  · cases h
end r18rise

/-! ### Tryd.f96: r18Slot -/
namespace r18Slot
def an : Anns := ⟨fun i => findA i [(10, ⟨[1, 6, 34, 35, 36], [⟨6, 0, T.sl IntKind.u8, none⟩], 1, []⟩)], fun i => findA i [], false, fun _ => none, []⟩
noncomputable def g (mr18num : r18num.Ty) (mr18row : r18row.Ty) (mr18Leaf : r18Leaf.Ty) (mr18rise : r18rise.Ty) : Gi := giF (giD Tryd.prog (gtL []) (fun _ => an) 0 [] (ovL [(83, r18num.con mr18num), (82, r18row.con mr18row), (60, r18Leaf.con mr18Leaf), (112, r18rise.con mr18rise)]) 1)
noncomputable def c_L10 : Code := loopOf Tryd.f96 0
def s_L10 (x1v1 : SlotT) (t34 : List Int) (t35 : Int) (t36 : Int) (h0 : Bool) (h0_5 : List (List Int)) : St := ⟨[AV.dead, AV.rpg slotTy x1v1] ++ List.replicate 4 .dead ++ [AV.own 0 [] 0 none] ++ List.replicate 27 .dead ++ [AV.isl IntKind.i64 none t34, AV.int IntKind.i64 t35, AV.int IntKind.i64 t36] ++ List.replicate 26 .dead, [Blk.gro (T.sl IntKind.u8) h0 h0_5]⟩
def x_L10_0 (x1v1 : SlotT) (t34 : List Int) (t35 : Int) (t36 : Int) (h0 : Bool) (h0_5 : List (List Int)) : St := ⟨[AV.dead, AV.rpg slotTy x1v1] ++ List.replicate 4 .dead ++ [AV.own 0 [] 0 none] ++ List.replicate 27 .dead ++ [AV.isl IntKind.i64 none t34, AV.int IntKind.i64 t35, AV.int IntKind.i64 t36, AV.bool (decide (t36 < t35))] ++ List.replicate 25 .dead, [Blk.gro (T.sl IntKind.u8) h0 h0_5]⟩
noncomputable def L10 (mr18num : r18num.Ty) (mr18row : r18row.Ty) (mr18Leaf : r18Leaf.Ty) (mr18rise : r18rise.Ty) {R : Type} (N : Nat) (ke0 : SlotT → (List Int) → Int → Int → Bool → (List (List Int)) → Option R) : Nat → SlotT → (List Int) → Int → Int → Bool → (List (List Int)) → Option R
  | 0, _, _, _, _, _, _ => none
  | m + 1, x1v1, t34, t35, t36, h0, h0_5 =>
    cond (decide (t36 < t35))
     (cond (decide (0 ≤ t36))
      (cond (decide (t36 < (↑t34.length : Int)))
       (mr18num R (t34.getD t36.toNat 0)
        (fun v_c31 => cond (decide ((h0_5.length + 1) * 24 ≤ 140737488355328))
         (cond (decide (h0_5.length + 1 ≤ 140737488355328))
          (L10 mr18num mr18row mr18Leaf mr18rise N ke0 m x1v1 t34 t35 (IntKind.i64.wrap (t36 + 1)) false (h0_5 ++ [v_c31]))
          none)
         none))
       none)
      none)
     (ke0 x1v1 t34 t35 t36 h0 h0_5)
theorem round_L10 (mr18num : r18num.Ty) (mr18row : r18row.Ty) (mr18Leaf : r18Leaf.Ty) (mr18rise : r18rise.Ty) {R : Type} (N : Nat) (Rn : St → Option R) (k : K R) (x1v1 : SlotT) (t34 : List Int) (t35 : Int) (t36 : Int) (h0 : Bool) (h0_5 : List (List Int)) : evC (g mr18num mr18row mr18Leaf mr18rise) an 0 N c_L10 none (roundK (nmOf 0 (an.loop 10)) Rn k) (s_L10 x1v1 t34 t35 t36 h0 h0_5) =
  cond (decide (t36 < t35))
   (cond (decide (0 ≤ t36))
    (cond (decide (t36 < (↑t34.length : Int)))
     (mr18num R (t34.getD t36.toNat 0)
      (fun v_c31 => cond (decide ((h0_5.length + 1) * 24 ≤ 140737488355328))
       (cond (decide (h0_5.length + 1 ≤ 140737488355328))
        (Rn (s_L10 x1v1 t34 t35 (IntKind.i64.wrap (t36 + 1)) false (h0_5 ++ [v_c31])))
        none)
       none))
     none)
    none)
   (k.ext 1 (x_L10_0 x1v1 t34 t35 t36 h0 h0_5)) := by kernel_rfl
theorem run_L10 (mr18num : r18num.Ty) (mr18row : r18row.Ty) (mr18Leaf : r18Leaf.Ty) (mr18rise : r18rise.Ty) {R : Type} (N : Nat) (k : K R) : ∀ (m : Nat) (x1v1 : SlotT) (t34 : List Int) (t35 : Int) (t36 : Int) (h0 : Bool) (h0_5 : List (List Int)), loopN (evC (g mr18num mr18row mr18Leaf mr18rise) an 0 N c_L10 none) k (nmOf 0 (an.loop 10)) m (s_L10 x1v1 t34 t35 t36 h0 h0_5) =
    L10 mr18num mr18row mr18Leaf mr18rise N (fun x1v1 t34 t35 t36 h0 h0_5 => (k).ext 1 (x_L10_0 x1v1 t34 t35 t36 h0 h0_5)) m x1v1 t34 t35 t36 h0 h0_5 := by
  intro m
  induction m with
  | zero => intros; rfl
  | succ m ih =>
    intros
    rw [loopN_succ, round_L10]
    simp only [ih]
    kernel_rfl
noncomputable def m (mr18num : r18num.Ty) (mr18row : r18row.Ty) (mr18Leaf : r18Leaf.Ty) (mr18rise : r18rise.Ty) {R : Type} (N : Nat) (x1 : Int) (x2 : List Int) (x3 : List Int) (_xN4 : Option Bool) (x5 : List Int) (x6 : List Int) (x7 : List Int) (x8 : List Int) (x9 : List Int) (_xN10 : Option Bool) (x11 : List Int) (kr0 : (Option Bool) → (List Int) → Bool → Option R) : Option R :=
  cond (x1 == 0)
   (mr18num R 0
    (fun v_c22 => mr18row R ([v_c22, []])
     (fun v_c23 v_1_c24 => kr0 v_c23 v_1_c24 true)))
   (cond (x1 == 1)
    (mr18Leaf R x2 x3 none x5 x6 x7
     (fun _v_c25 v_1_c26 v_2_c27 => mr18num R 1
      (fun v_c28 => mr18row R ([v_c28, v_1_c26])
       (fun v_c29 v_1_c30 => kr0 v_c29 v_1_c30 v_2_c27))))
    (cond (x1 == 2)
     (L10 mr18num mr18row mr18Leaf mr18rise N
      (fun x1_c32 _t34_c33 _t35_c34 _t36_c35 _h0_c36 h0_5_c37 => mr18num R 2
       (fun v_c38 => mr18row R h0_5_c37
        (fun _v_c39 v_1_c40 => mr18row R ([List.drop 0 (List.take 32 x1_c32.snd.snd.fst.fst), List.drop 0 (List.take 32 x1_c32.snd.snd.fst.snd.fst), v_1_c40])
         (fun _v_c41 v_1_c42 => mr18row R ([v_c38, v_1_c42])
          (fun v_c43 v_1_c44 => mr18rise R none x1_c32.snd.snd.fst.snd.snd.fst
           (fun v_c45 => kr0 v_c43 v_1_c44 v_c45)))))) N ((x1, (x2, x3, x5, x6, x7, ()), (x8, x9, x11, ()), ())) x11 ((↑x11.length : Int)) 0 true [])
     (kr0 (some true) [] false)))
theorem tree (mr18num : r18num.Ty) (mr18row : r18row.Ty) (mr18Leaf : r18Leaf.Ty) (mr18rise : r18rise.Ty) {R : Type} (N : Nat) (κ : AV → List Blk → Option R) (x1 : Int) (x2 : List Int) (x3 : List Int) (xN4 : Option Bool) (x5 : List Int) (x6 : List Int) (x7 : List Int) (x8 : List Int) (x9 : List Int) (xN10 : Option Bool) (x11 : List Int) : evF (g mr18num mr18row mr18Leaf mr18rise) an N Tryd.f96 [AV.agg [AV.int IntKind.i64 x1, AV.agg [AV.ints IntKind.u8 32 x2, AV.ints IntKind.u8 32 x3, AV.isl IntKind.u8 xN4 x5, AV.ints IntKind.u8 32 x6, AV.ints IntKind.u8 64 x7], AV.agg [AV.ints IntKind.u8 32 x8, AV.ints IntKind.u8 32 x9, AV.isl IntKind.i64 xN10 x11]]] [] κ =
  cond (x1 == 0)
   (mr18num R 0
    (fun v_c22 => mr18row R ([v_c22, []])
     (fun v_c23 v_1_c24 => κ (AV.tup [AV.isl IntKind.u8 v_c23 v_1_c24, AV.bool true]) [])))
   (cond (x1 == 1)
    (mr18Leaf R x2 x3 none x5 x6 x7
     (fun _v_c25 v_1_c26 v_2_c27 => mr18num R 1
      (fun v_c28 => mr18row R ([v_c28, v_1_c26])
       (fun v_c29 v_1_c30 => κ (AV.tup [AV.isl IntKind.u8 v_c29 v_1_c30, AV.bool v_2_c27]) []))))
    (cond (x1 == 2)
     (loopN (evC (g mr18num mr18row mr18Leaf mr18rise) an 0 N c_L10 none) (ctx (g mr18num mr18row mr18Leaf mr18rise) an 0 N (bodyOf Tryd.f96) [1, 0, 1, 0, 1, 1, 1, 1, 1, 0, 1, 0, 1, 0] (endK (g mr18num mr18row mr18Leaf mr18rise) an Tryd.f96 [] κ)) (nmOf 0 (an.loop 10)) N (s_L10 ((x1, (x2, x3, x5, x6, x7, ()), (x8, x9, x11, ()), ())) x11 ((↑x11.length : Int)) 0 true []))
     (κ (AV.tup [AV.isl IntKind.u8 (some true) [], AV.bool false]) []))) := by kernel_rfl
theorem eq (mr18num : r18num.Ty) (mr18row : r18row.Ty) (mr18Leaf : r18Leaf.Ty) (mr18rise : r18rise.Ty) {R : Type} (N : Nat) (κ : AV → List Blk → Option R) (x1 : Int) (x2 : List Int) (x3 : List Int) (xN4 : Option Bool) (x5 : List Int) (x6 : List Int) (x7 : List Int) (x8 : List Int) (x9 : List Int) (xN10 : Option Bool) (x11 : List Int) : evF (g mr18num mr18row mr18Leaf mr18rise) an N Tryd.f96 [AV.agg [AV.int IntKind.i64 x1, AV.agg [AV.ints IntKind.u8 32 x2, AV.ints IntKind.u8 32 x3, AV.isl IntKind.u8 xN4 x5, AV.ints IntKind.u8 32 x6, AV.ints IntKind.u8 64 x7], AV.agg [AV.ints IntKind.u8 32 x8, AV.ints IntKind.u8 32 x9, AV.isl IntKind.i64 xN10 x11]]] [] κ =
  m mr18num mr18row mr18Leaf mr18rise N x1 x2 x3 xN4 x5 x6 x7 x8 x9 xN10 x11 (fun v v_1 v_2 => κ (AV.tup [AV.isl IntKind.u8 v v_1, AV.bool v_2]) []) := by
  rw [tree]
  simp only [run_L10]
  kernel_rfl
abbrev Ty : Type 1 := ∀ R : Type, Int → (List Int) → (List Int) → (Option Bool) → (List Int) → (List Int) → (List Int) → (List Int) → (List Int) → (Option Bool) → (List Int) → ((Option Bool) → (List Int) → Bool → Option R) → Option R
def con (f : Ty) : Con := fun R args bs κ => match args, bs with
  | [AV.agg [AV.int IntKind.i64 x1, AV.agg [AV.ints IntKind.u8 32 x2, AV.ints IntKind.u8 32 x3, AV.isl IntKind.u8 xN4 x5, AV.ints IntKind.u8 32 x6, AV.ints IntKind.u8 64 x7], AV.agg [AV.ints IntKind.u8 32 x8, AV.ints IntKind.u8 32 x9, AV.isl IntKind.i64 xN10 x11]]], [] => f R x1 x2 x3 xN4 x5 x6 x7 x8 x9 xN10 x11 (fun v v_1 v_2 => κ (AV.tup [AV.isl IntKind.u8 v v_1, AV.bool v_2]) [])
  | _, _ => none
theorem con_eq (f : Ty) (R : Type) (κ : AV → List Blk → Option R) (x1 : Int) (x2 : List Int) (x3 : List Int) (xN4 : Option Bool) (x5 : List Int) (x6 : List Int) (x7 : List Int) (x8 : List Int) (x9 : List Int) (xN10 : Option Bool) (x11 : List Int) : con f R [AV.agg [AV.int IntKind.i64 x1, AV.agg [AV.ints IntKind.u8 32 x2, AV.ints IntKind.u8 32 x3, AV.isl IntKind.u8 xN4 x5, AV.ints IntKind.u8 32 x6, AV.ints IntKind.u8 64 x7], AV.agg [AV.ints IntKind.u8 32 x8, AV.ints IntKind.u8 32 x9, AV.isl IntKind.i64 xN10 x11]]] [] κ = f R x1 x2 x3 xN4 x5 x6 x7 x8 x9 xN10 x11 (fun v v_1 v_2 => κ (AV.tup [AV.isl IntKind.u8 v v_1, AV.bool v_2]) []) := rfl
noncomputable def M (N : Nat) : Ty := fun R x1 x2 x3 xN4 x5 x6 x7 x8 x9 xN10 x11 kr0 => m (r18num.M N) (r18row.M N) (r18Leaf.M N) (r18rise.M N) (R := R) N x1 x2 x3 xN4 x5 x6 x7 x8 x9 xN10 x11 kr0
def gts : List (Nat × AV) := []
theorem gok (N : Nat) : GOk (g (r18num.M N) (r18row.M N) (r18Leaf.M N) (r18rise.M N)) := giF_ok (giD_ok hm (by intro p hp; cases hp) (gtL_ok (by decide)) (ovL_ok (by
    intro p hp
    simp only [List.mem_cons, List.not_mem_nil, or_false] at hp
    rcases hp with rfl | rfl | rfl | rfl
    · exact ⟨(r18num.ok N).gt (gtL_sub (by repeat (first | exact subG_nil _ | refine subG_cons (by kernel_rfl) ?_))) (gtL_ok (by decide)), _, Tryd.func83, by kernel_rfl, by kernel_rfl⟩
    · exact ⟨(r18row.ok N).gt (gtL_sub (by repeat (first | exact subG_nil _ | refine subG_cons (by kernel_rfl) ?_))) (gtL_ok (by decide)), _, Tryd.func82, by kernel_rfl, by kernel_rfl⟩
    · exact ⟨(r18Leaf.ok N).gt (gtL_sub (by repeat (first | exact subG_nil _ | refine subG_cons (by kernel_rfl) ?_))) (gtL_ok (by decide)), _, Tryd.func60, by kernel_rfl, by kernel_rfl⟩
    · exact ⟨(r18rise.ok N).gt (gtL_sub (by repeat (first | exact subG_nil _ | refine subG_cons (by kernel_rfl) ?_))) (gtL_ok (by decide)), _, Tryd.func112, by kernel_rfl, by kernel_rfl⟩
)) 1)
theorem ok (N : Nat) : SoundC Tryd.prog (gtL gts) 96 (con (M N)) := by
  refine SoundC.mono (evF_ok (gok N) hm an N Tryd.func96) fun R args bs κ r h => ?_
  unfold con at h
  split at h
  · exact (eq (r18num.M N) (r18row.M N) (r18Leaf.M N) (r18rise.M N) N κ _ _ _ _ _ _ _ _ _ _ _).trans h
  · cases h
end r18Slot

/-! ### Tryd.f65: r18Tree -/
namespace r18Tree
def an : Anns := ⟨fun i => findA i [(6, ⟨[4, 5, 14, 15, 16], [⟨4, 0, T.sl IntKind.u8, none⟩], 1, []⟩)], fun i => findA i [], false, fun _ => none, []⟩
noncomputable def g (mr18shape : r18shape.Ty) (mr18Slot : r18Slot.Ty) (mr18row : r18row.Ty) : Gi := giD Tryd.prog (gtL []) (fun _ => an) 0 [] (ovL [(95, r18shape.con mr18shape), (96, r18Slot.con mr18Slot), (82, r18row.con mr18row)]) 1
noncomputable def c_L6 : Code := loopOf Tryd.f65 0
def s_L6 (all5 : Bool) (t14 : List SlotT) (t15 : Int) (t16 : Int) (h0 : Bool) (h0_5 : List (List Int)) : St := ⟨List.replicate 4 .dead ++ [AV.own 0 [] 0 none, AV.bool all5] ++ List.replicate 8 .dead ++ [AV.gsl slotTy t14, AV.int IntKind.i64 t15, AV.int IntKind.i64 t16] ++ List.replicate 20 .dead, [Blk.gro (T.sl IntKind.u8) h0 h0_5]⟩
def x_L6_0 (all5 : Bool) (t14 : List SlotT) (t15 : Int) (t16 : Int) (h0 : Bool) (h0_5 : List (List Int)) : St := ⟨List.replicate 4 .dead ++ [AV.own 0 [] 0 none, AV.bool all5] ++ List.replicate 8 .dead ++ [AV.gsl slotTy t14, AV.int IntKind.i64 t15, AV.int IntKind.i64 t16, AV.bool (decide (t16 < t15))] ++ List.replicate 19 .dead, [Blk.gro (T.sl IntKind.u8) h0 h0_5]⟩
noncomputable def L6 (mr18shape : r18shape.Ty) (mr18Slot : r18Slot.Ty) (mr18row : r18row.Ty) {R : Type} (N : Nat) (ke0 : Bool → (List SlotT) → Int → Int → Bool → (List (List Int)) → Option R) : Nat → Bool → (List SlotT) → Int → Int → Bool → (List (List Int)) → Option R
  | 0, _, _, _, _, _, _ => none
  | m + 1, all5, t14, t15, t16, h0, h0_5 =>
    cond (decide (t16 < t15))
     (cond (decide (0 ≤ t16))
      (cond (decide (t16 < (↑t14.length : Int)))
       (mr18Slot R ((t14.getD t16.toNat (dflt slotTy)).fst) ((t14.getD t16.toNat (dflt slotTy)).snd.fst.fst) ((t14.getD t16.toNat (dflt slotTy)).snd.fst.snd.fst) none ((t14.getD t16.toNat (dflt slotTy)).snd.fst.snd.snd.fst) ((t14.getD t16.toNat (dflt slotTy)).snd.fst.snd.snd.snd.fst) ((t14.getD t16.toNat (dflt slotTy)).snd.fst.snd.snd.snd.snd.fst) ((t14.getD t16.toNat (dflt slotTy)).snd.snd.fst.fst) ((t14.getD t16.toNat (dflt slotTy)).snd.snd.fst.snd.fst) none ((t14.getD t16.toNat (dflt slotTy)).snd.snd.fst.snd.snd.fst)
        (fun _v_c18 v_1_c19 v_2_c20 => cond all5
         (cond (decide ((h0_5.length + 1) * 24 ≤ 140737488355328))
          (cond (decide (h0_5.length + 1 ≤ 140737488355328))
           (L6 mr18shape mr18Slot mr18row N ke0 m v_2_c20 t14 t15 (IntKind.i64.wrap (t16 + 1)) false (h0_5 ++ [v_1_c19]))
           none)
          none)
         (cond (decide ((h0_5.length + 1) * 24 ≤ 140737488355328))
          (cond (decide (h0_5.length + 1 ≤ 140737488355328))
           (L6 mr18shape mr18Slot mr18row N ke0 m false t14 t15 (IntKind.i64.wrap (t16 + 1)) false (h0_5 ++ [v_1_c19]))
           none)
          none)))
       none)
      none)
     (ke0 all5 t14 t15 t16 h0 h0_5)
theorem round_L6 (mr18shape : r18shape.Ty) (mr18Slot : r18Slot.Ty) (mr18row : r18row.Ty) {R : Type} (N : Nat) (Rn : St → Option R) (k : K R) (all5 : Bool) (t14 : List SlotT) (t15 : Int) (t16 : Int) (h0 : Bool) (h0_5 : List (List Int)) : evC (g mr18shape mr18Slot mr18row) an 0 N c_L6 none (roundK (nmOf 0 (an.loop 6)) Rn k) (s_L6 all5 t14 t15 t16 h0 h0_5) =
  cond (decide (t16 < t15))
   (cond (decide (0 ≤ t16))
    (cond (decide (t16 < (↑t14.length : Int)))
     (mr18Slot R ((t14.getD t16.toNat (dflt slotTy)).fst) ((t14.getD t16.toNat (dflt slotTy)).snd.fst.fst) ((t14.getD t16.toNat (dflt slotTy)).snd.fst.snd.fst) none ((t14.getD t16.toNat (dflt slotTy)).snd.fst.snd.snd.fst) ((t14.getD t16.toNat (dflt slotTy)).snd.fst.snd.snd.snd.fst) ((t14.getD t16.toNat (dflt slotTy)).snd.fst.snd.snd.snd.snd.fst) ((t14.getD t16.toNat (dflt slotTy)).snd.snd.fst.fst) ((t14.getD t16.toNat (dflt slotTy)).snd.snd.fst.snd.fst) none ((t14.getD t16.toNat (dflt slotTy)).snd.snd.fst.snd.snd.fst)
      (fun _v_c18 v_1_c19 v_2_c20 => cond all5
       (cond (decide ((h0_5.length + 1) * 24 ≤ 140737488355328))
        (cond (decide (h0_5.length + 1 ≤ 140737488355328))
         (Rn (s_L6 v_2_c20 t14 t15 (IntKind.i64.wrap (t16 + 1)) false (h0_5 ++ [v_1_c19])))
         none)
        none)
       (cond (decide ((h0_5.length + 1) * 24 ≤ 140737488355328))
        (cond (decide (h0_5.length + 1 ≤ 140737488355328))
         (Rn (s_L6 false t14 t15 (IntKind.i64.wrap (t16 + 1)) false (h0_5 ++ [v_1_c19])))
         none)
        none)))
     none)
    none)
   (k.ext 0 (x_L6_0 all5 t14 t15 t16 h0 h0_5)) := by kernel_rfl
theorem run_L6 (mr18shape : r18shape.Ty) (mr18Slot : r18Slot.Ty) (mr18row : r18row.Ty) {R : Type} (N : Nat) (k : K R) : ∀ (m : Nat) (all5 : Bool) (t14 : List SlotT) (t15 : Int) (t16 : Int) (h0 : Bool) (h0_5 : List (List Int)), loopN (evC (g mr18shape mr18Slot mr18row) an 0 N c_L6 none) k (nmOf 0 (an.loop 6)) m (s_L6 all5 t14 t15 t16 h0 h0_5) =
    L6 mr18shape mr18Slot mr18row N (fun all5 t14 t15 t16 h0 h0_5 => (k).ext 0 (x_L6_0 all5 t14 t15 t16 h0 h0_5)) m all5 t14 t15 t16 h0 h0_5 := by
  intro m
  induction m with
  | zero => intros; rfl
  | succ m ih =>
    intros
    rw [loopN_succ, round_L6]
    simp only [ih]
    kernel_rfl
noncomputable def m (mr18shape : r18shape.Ty) (mr18Slot : r18Slot.Ty) (mr18row : r18row.Ty) {R : Type} (N : Nat) (x1 : List SlotT) (kr0 : (Option Bool) → (List Int) → Bool → Option R) : Option R :=
  mr18shape R x1
   (fun v_c17 => cond (!v_c17)
    (kr0 (some true) [] false)
    (L6 mr18shape mr18Slot mr18row N
     (fun all5_c21 _t14_c22 _t15_c23 _t16_c24 _h0_c25 h0_5_c26 => mr18row R h0_5_c26
      (fun v_c27 v_1_c28 => kr0 v_c27 v_1_c28 all5_c21)) N true x1 ((↑x1.length : Int)) 0 true []))
theorem tree (mr18shape : r18shape.Ty) (mr18Slot : r18Slot.Ty) (mr18row : r18row.Ty) {R : Type} (N : Nat) (κ : AV → List Blk → Option R) (x1 : List SlotT) : evF (g mr18shape mr18Slot mr18row) an N Tryd.f65 [AV.gsl slotTy x1] [] κ =
  mr18shape R x1
   (fun v_c17 => cond (!v_c17)
    (κ (AV.tup [AV.isl IntKind.u8 (some true) [], AV.bool false]) [])
    (loopN (evC (g mr18shape mr18Slot mr18row) an 0 N c_L6 none) (ctx (g mr18shape mr18Slot mr18row) an 0 N (bodyOf Tryd.f65) [1, 1, 1, 1, 0, 1, 0] (endK (g mr18shape mr18Slot mr18row) an Tryd.f65 [] κ)) (nmOf 0 (an.loop 6)) N (s_L6 true x1 ((↑x1.length : Int)) 0 true []))) := by kernel_rfl
theorem eq (mr18shape : r18shape.Ty) (mr18Slot : r18Slot.Ty) (mr18row : r18row.Ty) {R : Type} (N : Nat) (κ : AV → List Blk → Option R) (x1 : List SlotT) : evF (g mr18shape mr18Slot mr18row) an N Tryd.f65 [AV.gsl slotTy x1] [] κ =
  m mr18shape mr18Slot mr18row N x1 (fun v v_1 v_2 => κ (AV.tup [AV.isl IntKind.u8 v v_1, AV.bool v_2]) []) := by
  rw [tree]
  simp only [run_L6]
  kernel_rfl
abbrev Ty : Type 1 := ∀ R : Type, (List SlotT) → ((Option Bool) → (List Int) → Bool → Option R) → Option R
def con (f : Ty) : Con := fun R args bs κ => match args, bs with
  | [AV.gsl slotTy x1], [] => f R x1 (fun v v_1 v_2 => κ (AV.tup [AV.isl IntKind.u8 v v_1, AV.bool v_2]) [])
  | _, _ => none
theorem con_eq (f : Ty) (R : Type) (κ : AV → List Blk → Option R) (x1 : List SlotT) : con f R [AV.gsl slotTy x1] [] κ = f R x1 (fun v v_1 v_2 => κ (AV.tup [AV.isl IntKind.u8 v v_1, AV.bool v_2]) []) := rfl
noncomputable def M (N : Nat) : Ty := fun R x1 kr0 => m (r18shape.M N) (r18Slot.M N) (r18row.M N) (R := R) N x1 kr0
def gts : List (Nat × AV) := []
theorem gok (N : Nat) : GOk (g (r18shape.M N) (r18Slot.M N) (r18row.M N)) := giD_ok hm (by intro p hp; cases hp) (gtL_ok (by decide)) (ovL_ok (by
    intro p hp
    simp only [List.mem_cons, List.not_mem_nil, or_false] at hp
    rcases hp with rfl | rfl | rfl
    · exact ⟨(r18shape.ok N).gt (gtL_sub (by repeat (first | exact subG_nil _ | refine subG_cons (by kernel_rfl) ?_))) (gtL_ok (by decide)), _, Tryd.func95, by kernel_rfl, by kernel_rfl⟩
    · exact ⟨(r18Slot.ok N).gt (gtL_sub (by repeat (first | exact subG_nil _ | refine subG_cons (by kernel_rfl) ?_))) (gtL_ok (by decide)), _, Tryd.func96, by kernel_rfl, by kernel_rfl⟩
    · exact ⟨(r18row.ok N).gt (gtL_sub (by repeat (first | exact subG_nil _ | refine subG_cons (by kernel_rfl) ?_))) (gtL_ok (by decide)), _, Tryd.func82, by kernel_rfl, by kernel_rfl⟩
)) 1
theorem ok (N : Nat) : SoundC Tryd.prog (gtL gts) 65 (con (M N)) := by
  refine SoundC.mono (evF_ok (gok N) hm an N Tryd.func65) fun R args bs κ r h => ?_
  unfold con at h
  split at h
  · exact (eq (r18shape.M N) (r18Slot.M N) (r18row.M N) N κ _).trans h
  · cases h
end r18Tree

/-! ### Tryd.f26: r23Info -/
namespace r23Info
def an : Anns := ⟨fun i => findA i [], fun i => findA i [], false, fun _ => none, []⟩
noncomputable def g (mr18Context : r18Context.Ty) (mr18Tree : r18Tree.Ty) (mr23num : r23num.Ty) (mr23row : r23row.Ty) : Gi := giL (giF (giD Tryd.prog (gtL []) (fun _ => an) 0 [] (ovL [(56, r18Context.con mr18Context), (65, r18Tree.con mr18Tree), (59, r23num.con mr23num), (58, r23row.con mr23row)]) 1))
noncomputable def m (mr18Context : r18Context.Ty) (mr18Tree : r18Tree.Ty) (mr23num : r23num.Ty) (mr23row : r23row.Ty) {R : Type} (_N : Nat) (x1 : List Int) (x2 : Int) (x3 : List Int) (x4 : List Int) (x5 : List SlotT) (x6 : List Int) (x7 : Int) (x8 : List Int) (kr0 : (Option Bool) → (List Int) → Bool → Option R) : Option R :=
  mr18Context R x1 x2 x3 x4
   (fun _v_c9 v_1_c10 v_2_c11 => mr18Tree R x5
    (fun _v_c12 v_1_c13 v_2_c14 => mr23num R x7
     (fun v_c15 => mr23row R ([[105, 110, 102, 111], v_1_c10, v_1_c13, List.drop 0 (List.take 32 x6), v_c15])
      (fun v_c16 v_1_c17 => cond v_2_c11
       (kr0 v_c16 v_1_c17 v_2_c14)
       (kr0 v_c16 v_1_c17 false)))))
theorem tree (mr18Context : r18Context.Ty) (mr18Tree : r18Tree.Ty) (mr23num : r23num.Ty) (mr23row : r23row.Ty) {R : Type} (N : Nat) (κ : AV → List Blk → Option R) (x1 : List Int) (x2 : Int) (x3 : List Int) (x4 : List Int) (x5 : List SlotT) (x6 : List Int) (x7 : Int) (x8 : List Int) : evF (g mr18Context mr18Tree mr23num mr23row) an N Tryd.f26 [AV.agg [AV.agg [AV.ints IntKind.u8 32 x1, AV.int IntKind.i64 x2, AV.ints IntKind.u8 32 x3, AV.ints IntKind.u8 32 x4], AV.gsl slotTy x5, AV.ints IntKind.u8 32 x6, AV.int IntKind.i64 x7, AV.ints IntKind.u8 64 x8]] [] κ =
  mr18Context R x1 x2 x3 x4
   (fun _v_c9 v_1_c10 v_2_c11 => mr18Tree R x5
    (fun _v_c12 v_1_c13 v_2_c14 => mr23num R x7
     (fun v_c15 => mr23row R ([[105, 110, 102, 111], v_1_c10, v_1_c13, List.drop 0 (List.take 32 x6), v_c15])
      (fun v_c16 v_1_c17 => cond v_2_c11
       (κ (AV.tup [AV.isl IntKind.u8 v_c16 v_1_c17, AV.bool v_2_c14]) [])
       (κ (AV.tup [AV.isl IntKind.u8 v_c16 v_1_c17, AV.bool false]) []))))) := by kernel_rfl
theorem eq (mr18Context : r18Context.Ty) (mr18Tree : r18Tree.Ty) (mr23num : r23num.Ty) (mr23row : r23row.Ty) {R : Type} (N : Nat) (κ : AV → List Blk → Option R) (x1 : List Int) (x2 : Int) (x3 : List Int) (x4 : List Int) (x5 : List SlotT) (x6 : List Int) (x7 : Int) (x8 : List Int) : evF (g mr18Context mr18Tree mr23num mr23row) an N Tryd.f26 [AV.agg [AV.agg [AV.ints IntKind.u8 32 x1, AV.int IntKind.i64 x2, AV.ints IntKind.u8 32 x3, AV.ints IntKind.u8 32 x4], AV.gsl slotTy x5, AV.ints IntKind.u8 32 x6, AV.int IntKind.i64 x7, AV.ints IntKind.u8 64 x8]] [] κ =
  m mr18Context mr18Tree mr23num mr23row N x1 x2 x3 x4 x5 x6 x7 x8 (fun v v_1 v_2 => κ (AV.tup [AV.isl IntKind.u8 v v_1, AV.bool v_2]) []) := by
  rw [tree]
  kernel_rfl
abbrev Ty : Type 1 := ∀ R : Type, (List Int) → Int → (List Int) → (List Int) → (List SlotT) → (List Int) → Int → (List Int) → ((Option Bool) → (List Int) → Bool → Option R) → Option R
def con (f : Ty) : Con := fun R args bs κ => match args, bs with
  | [AV.agg [AV.agg [AV.ints IntKind.u8 32 x1, AV.int IntKind.i64 x2, AV.ints IntKind.u8 32 x3, AV.ints IntKind.u8 32 x4], AV.gsl slotTy x5, AV.ints IntKind.u8 32 x6, AV.int IntKind.i64 x7, AV.ints IntKind.u8 64 x8]], [] => f R x1 x2 x3 x4 x5 x6 x7 x8 (fun v v_1 v_2 => κ (AV.tup [AV.isl IntKind.u8 v v_1, AV.bool v_2]) [])
  | _, _ => none
theorem con_eq (f : Ty) (R : Type) (κ : AV → List Blk → Option R) (x1 : List Int) (x2 : Int) (x3 : List Int) (x4 : List Int) (x5 : List SlotT) (x6 : List Int) (x7 : Int) (x8 : List Int) : con f R [AV.agg [AV.agg [AV.ints IntKind.u8 32 x1, AV.int IntKind.i64 x2, AV.ints IntKind.u8 32 x3, AV.ints IntKind.u8 32 x4], AV.gsl slotTy x5, AV.ints IntKind.u8 32 x6, AV.int IntKind.i64 x7, AV.ints IntKind.u8 64 x8]] [] κ = f R x1 x2 x3 x4 x5 x6 x7 x8 (fun v v_1 v_2 => κ (AV.tup [AV.isl IntKind.u8 v v_1, AV.bool v_2]) []) := rfl
noncomputable def M (N : Nat) : Ty := fun R x1 x2 x3 x4 x5 x6 x7 x8 kr0 => m (r18Context.M N) (r18Tree.M N) (r23num.M N) (r23row.M N) (R := R) N x1 x2 x3 x4 x5 x6 x7 x8 kr0
def gts : List (Nat × AV) := []
theorem gok (N : Nat) : GOk (g (r18Context.M N) (r18Tree.M N) (r23num.M N) (r23row.M N)) := giL_ok (giF_ok (giD_ok hm (by intro p hp; cases hp) (gtL_ok (by decide)) (ovL_ok (by
    intro p hp
    simp only [List.mem_cons, List.not_mem_nil, or_false] at hp
    rcases hp with rfl | rfl | rfl | rfl
    · exact ⟨(r18Context.ok N).gt (gtL_sub (by repeat (first | exact subG_nil _ | refine subG_cons (by kernel_rfl) ?_))) (gtL_ok (by decide)), _, Tryd.func56, by kernel_rfl, by kernel_rfl⟩
    · exact ⟨(r18Tree.ok N).gt (gtL_sub (by repeat (first | exact subG_nil _ | refine subG_cons (by kernel_rfl) ?_))) (gtL_ok (by decide)), _, Tryd.func65, by kernel_rfl, by kernel_rfl⟩
    · exact ⟨(r23num.ok N).gt (gtL_sub (by repeat (first | exact subG_nil _ | refine subG_cons (by kernel_rfl) ?_))) (gtL_ok (by decide)), _, Tryd.func59, by kernel_rfl, by kernel_rfl⟩
    · exact ⟨(r23row.ok N).gt (gtL_sub (by repeat (first | exact subG_nil _ | refine subG_cons (by kernel_rfl) ?_))) (gtL_ok (by decide)), _, Tryd.func58, by kernel_rfl, by kernel_rfl⟩
)) 1))
theorem ok (N : Nat) : SoundC Tryd.prog (gtL gts) 26 (con (M N)) := by
  refine SoundC.mono (evF_ok (gok N) hm an N Tryd.func26) fun R args bs κ r h => ?_
  unfold con at h
  split at h
  · exact (eq (r18Context.M N) (r18Tree.M N) (r23num.M N) (r23row.M N) N κ _ _ _ _ _ _ _ _).trans h
  · cases h
end r23Info

end Go.Proofs.YthajoenmfppenaaDoor.fn
