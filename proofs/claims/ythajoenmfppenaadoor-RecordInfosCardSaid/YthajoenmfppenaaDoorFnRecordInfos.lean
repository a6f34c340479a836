/- What a law of records computes, with the proof; printed by a program. -/
import Derived.Test.YthajoenmfppenaaDoorProg
import Derived.Test.YthajoenmfppenaaDoorEv4
import Derived.Test.YthajoenmfppenaaDoorFnL23
import Derived.Test.YthajoenmfppenaaDoorFnRecI
import Derived.Test.YthajoenmfppenaaDoorFnTreeR
namespace Go.Proofs.YthajoenmfppenaaDoor.fn
open Go Go.Proofs Go.Ev
/-! ### Tryd.f6: RecordInfos -/
namespace RecordInfos
def an : Anns := ⟨fun i => findA i [(6, ⟨[1, 16, 17, 18], [], 0, []⟩)], fun i => findA i [], false, fun _ => none, []⟩
noncomputable def g (malive23 : alive23.Ty) (mbigLeaf23 : bigLeaf23.Ty) (mrecInfo : recInfo.Ty) (mr23Info : r23Info.Ty) (mtold23 : told23.Ty) : Gi := giF (giD Tryd.prog (gtL [(0, .err 1), (1, .err 2), (2, .err 3), (3, .err 4), (4, .err 5), (5, .err 6), (6, .err 7), (7, .err 8), (8, .err 9), (9, .err 10), (10, .err 11), (11, .err 12), (12, .err 13), (13, .err 14), (14, .err 15), (15, .err 16), (16, .err 17), (17, .err 18), (18, .err 19), (19, .ints .u32 64 K256)]) (fun _ => an) 0 [] (ovL [(15, alive23.con malive23), (16, bigLeaf23.con mbigLeaf23), (25, recInfo.con mrecInfo), (26, r23Info.con mr23Info), (24, told23.con mtold23)]) 1)
noncomputable def c_L6 : Code := loopOf Tryd.f6 0
def s_L6 (x1v1 : (List Int × Int × List Int × List Int × Unit) × List SlotT × List Int × Int × List Int × Unit) (t16 : List SlotT) (t17 : Int) (t18 : Int) : St := ⟨[AV.dead, AV.rpg (T.st [T.st [T.arr IntKind.u8 32, T.int IntKind.i64, T.arr IntKind.u8 32, T.arr IntKind.u8 32], slotTy.rw, T.arr IntKind.u8 32, T.int IntKind.i64, T.arr IntKind.u8 64]) x1v1] ++ List.replicate 14 .dead ++ [AV.gsl slotTy t16, AV.int IntKind.i64 t17, AV.int IntKind.i64 t18] ++ List.replicate 29 .dead, []⟩
def x_L6_0 (x1v1 : (List Int × Int × List Int × List Int × Unit) × List SlotT × List Int × Int × List Int × Unit) (t16 : List SlotT) (t17 : Int) (t18 : Int) (v_c5 : Bool) : St := ⟨[AV.dead, AV.rpg (T.st [T.st [T.arr IntKind.u8 32, T.int IntKind.i64, T.arr IntKind.u8 32, T.arr IntKind.u8 32], slotTy.rw, T.arr IntKind.u8 32, T.int IntKind.i64, T.arr IntKind.u8 64]) x1v1, AV.bool true, AV.dead, AV.ptr 0 []] ++ List.replicate 11 .dead ++ [AV.gsl slotTy t16, AV.int IntKind.i64 t17, AV.int IntKind.i64 t18, AV.bool (decide (t18 < t17)), AV.rpg slotTy (t16.getD t18.toNat (dflt slotTy)), AV.agg [AV.int IntKind.i64 (t16.getD t18.toNat (dflt slotTy)).fst, AV.agg [AV.ints IntKind.u8 32 (t16.getD t18.toNat (dflt slotTy)).snd.fst.fst, AV.ints IntKind.u8 32 (t16.getD t18.toNat (dflt slotTy)).snd.fst.snd.fst, AV.isl IntKind.u8 none (t16.getD t18.toNat (dflt slotTy)).snd.fst.snd.snd.fst, AV.ints IntKind.u8 32 (t16.getD t18.toNat (dflt slotTy)).snd.fst.snd.snd.snd.fst, AV.ints IntKind.u8 64 (t16.getD t18.toNat (dflt slotTy)).snd.fst.snd.snd.snd.snd.fst], AV.agg [AV.ints IntKind.u8 32 (t16.getD t18.toNat (dflt slotTy)).snd.snd.fst.fst, AV.ints IntKind.u8 32 (t16.getD t18.toNat (dflt slotTy)).snd.snd.fst.snd.fst, AV.isl IntKind.i64 none (t16.getD t18.toNat (dflt slotTy)).snd.snd.fst.snd.snd.fst]], AV.ptr 0 [1], AV.agg [AV.ints IntKind.u8 32 (t16.getD t18.toNat (dflt slotTy)).snd.fst.fst, AV.ints IntKind.u8 32 (t16.getD t18.toNat (dflt slotTy)).snd.fst.snd.fst, AV.isl IntKind.u8 none (t16.getD t18.toNat (dflt slotTy)).snd.fst.snd.snd.fst, AV.ints IntKind.u8 32 (t16.getD t18.toNat (dflt slotTy)).snd.fst.snd.snd.snd.fst, AV.ints IntKind.u8 64 (t16.getD t18.toNat (dflt slotTy)).snd.fst.snd.snd.snd.snd.fst], AV.bool v_c5, AV.bool true] ++ List.replicate 5 und ++ [AV.bool true] ++ List.replicate 16 .dead, [Blk.var (AV.agg [AV.int IntKind.i64 (t16.getD t18.toNat (dflt slotTy)).fst, AV.agg [AV.ints IntKind.u8 32 (t16.getD t18.toNat (dflt slotTy)).snd.fst.fst, AV.ints IntKind.u8 32 (t16.getD t18.toNat (dflt slotTy)).snd.fst.snd.fst, AV.isl IntKind.u8 none (t16.getD t18.toNat (dflt slotTy)).snd.fst.snd.snd.fst, AV.ints IntKind.u8 32 (t16.getD t18.toNat (dflt slotTy)).snd.fst.snd.snd.snd.fst, AV.ints IntKind.u8 64 (t16.getD t18.toNat (dflt slotTy)).snd.fst.snd.snd.snd.snd.fst], AV.agg [AV.ints IntKind.u8 32 (t16.getD t18.toNat (dflt slotTy)).snd.snd.fst.fst, AV.ints IntKind.u8 32 (t16.getD t18.toNat (dflt slotTy)).snd.snd.fst.snd.fst, AV.isl IntKind.i64 none (t16.getD t18.toNat (dflt slotTy)).snd.snd.fst.snd.snd.fst]]), Blk.rsv, Blk.rsv, Blk.rsv, Blk.rsv]⟩
def x_L6_1 (x1v1 : (List Int × Int × List Int × List Int × Unit) × List SlotT × List Int × Int × List Int × Unit) (t16 : List SlotT) (t17 : Int) (t18 : Int) (v_c5 : Bool) : St := ⟨[AV.dead, AV.rpg (T.st [T.st [T.arr IntKind.u8 32, T.int IntKind.i64, T.arr IntKind.u8 32, T.arr IntKind.u8 32], slotTy.rw, T.arr IntKind.u8 32, T.int IntKind.i64, T.arr IntKind.u8 64]) x1v1, AV.bool true, AV.dead, AV.ptr 0 []] ++ List.replicate 11 .dead ++ [AV.gsl slotTy t16, AV.int IntKind.i64 t17, AV.int IntKind.i64 t18, AV.bool (decide (t18 < t17)), AV.rpg slotTy (t16.getD t18.toNat (dflt slotTy)), AV.agg [AV.int IntKind.i64 (t16.getD t18.toNat (dflt slotTy)).fst, AV.agg [AV.ints IntKind.u8 32 (t16.getD t18.toNat (dflt slotTy)).snd.fst.fst, AV.ints IntKind.u8 32 (t16.getD t18.toNat (dflt slotTy)).snd.fst.snd.fst, AV.isl IntKind.u8 none (t16.getD t18.toNat (dflt slotTy)).snd.fst.snd.snd.fst, AV.ints IntKind.u8 32 (t16.getD t18.toNat (dflt slotTy)).snd.fst.snd.snd.snd.fst, AV.ints IntKind.u8 64 (t16.getD t18.toNat (dflt slotTy)).snd.fst.snd.snd.snd.snd.fst], AV.agg [AV.ints IntKind.u8 32 (t16.getD t18.toNat (dflt slotTy)).snd.snd.fst.fst, AV.ints IntKind.u8 32 (t16.getD t18.toNat (dflt slotTy)).snd.snd.fst.snd.fst, AV.isl IntKind.i64 none (t16.getD t18.toNat (dflt slotTy)).snd.snd.fst.snd.snd.fst]], AV.ptr 0 [1], AV.agg [AV.ints IntKind.u8 32 (t16.getD t18.toNat (dflt slotTy)).snd.fst.fst, AV.ints IntKind.u8 32 (t16.getD t18.toNat (dflt slotTy)).snd.fst.snd.fst, AV.isl IntKind.u8 none (t16.getD t18.toNat (dflt slotTy)).snd.fst.snd.snd.fst, AV.ints IntKind.u8 32 (t16.getD t18.toNat (dflt slotTy)).snd.fst.snd.snd.snd.fst, AV.ints IntKind.u8 64 (t16.getD t18.toNat (dflt slotTy)).snd.fst.snd.snd.snd.snd.fst], AV.bool v_c5, AV.bool false, AV.ptr 0 [2], AV.ptr 0 [2, 2], AV.isl IntKind.i64 none (t16.getD t18.toNat (dflt slotTy)).snd.snd.fst.snd.snd.fst, AV.int IntKind.i64 (↑(t16.getD t18.toNat (dflt slotTy)).snd.snd.fst.snd.snd.fst.length : Int), AV.bool (decide ((↑(t16.getD t18.toNat (dflt slotTy)).snd.snd.fst.snd.snd.fst.length : Int) > 40)), AV.bool (decide ((↑(t16.getD t18.toNat (dflt slotTy)).snd.snd.fst.snd.snd.fst.length : Int) > 40))] ++ List.replicate 16 .dead, [Blk.var (AV.agg [AV.int IntKind.i64 (t16.getD t18.toNat (dflt slotTy)).fst, AV.agg [AV.ints IntKind.u8 32 (t16.getD t18.toNat (dflt slotTy)).snd.fst.fst, AV.ints IntKind.u8 32 (t16.getD t18.toNat (dflt slotTy)).snd.fst.snd.fst, AV.isl IntKind.u8 none (t16.getD t18.toNat (dflt slotTy)).snd.fst.snd.snd.fst, AV.ints IntKind.u8 32 (t16.getD t18.toNat (dflt slotTy)).snd.fst.snd.snd.snd.fst, AV.ints IntKind.u8 64 (t16.getD t18.toNat (dflt slotTy)).snd.fst.snd.snd.snd.snd.fst], AV.agg [AV.ints IntKind.u8 32 (t16.getD t18.toNat (dflt slotTy)).snd.snd.fst.fst, AV.ints IntKind.u8 32 (t16.getD t18.toNat (dflt slotTy)).snd.snd.fst.snd.fst, AV.isl IntKind.i64 none (t16.getD t18.toNat (dflt slotTy)).snd.snd.fst.snd.snd.fst]]), Blk.rsv, Blk.rsv, Blk.rsv, Blk.rsv]⟩
def x_L6_2 (x1v1 : (List Int × Int × List Int × List Int × Unit) × List SlotT × List Int × Int × List Int × Unit) (t16 : List SlotT) (t17 : Int) (t18 : Int) : St := ⟨[AV.dead, AV.rpg (T.st [T.st [T.arr IntKind.u8 32, T.int IntKind.i64, T.arr IntKind.u8 32, T.arr IntKind.u8 32], slotTy.rw, T.arr IntKind.u8 32, T.int IntKind.i64, T.arr IntKind.u8 64]) x1v1] ++ List.replicate 14 .dead ++ [AV.gsl slotTy t16, AV.int IntKind.i64 t17, AV.int IntKind.i64 t18, AV.bool (decide (t18 < t17))] ++ List.replicate 28 .dead, []⟩
noncomputable def L6 (malive23 : alive23.Ty) (mbigLeaf23 : bigLeaf23.Ty) (mrecInfo : recInfo.Ty) (mr23Info : r23Info.Ty) (mtold23 : told23.Ty) {R : Type} (N : Nat) (ke0 : ((List Int × Int × List Int × List Int × Unit) × List SlotT × List Int × Int × List Int × Unit) → (List SlotT) → Int → Int → Bool → Option R) (ke1 : ((List Int × Int × List Int × List Int × Unit) × List SlotT × List Int × Int × List Int × Unit) → (List SlotT) → Int → Int → Bool → Option R) (ke2 : ((List Int × Int × List Int × List Int × Unit) × List SlotT × List Int × Int × List Int × Unit) → (List SlotT) → Int → Int → Option R) : Nat → ((List Int × Int × List Int × List Int × Unit) × List SlotT × List Int × Int × List Int × Unit) → (List SlotT) → Int → Int → Option R
  | 0, _, _, _, _ => none
  | m + 1, x1v1, t16, t17, t18 =>
    cond (decide (t18 < t17))
     (cond (decide (0 ≤ t18))
      (cond (decide (t18 < (↑t16.length : Int)))
       (mbigLeaf23 R ((t16.getD t18.toNat (dflt slotTy)).snd.fst.fst) ((t16.getD t18.toNat (dflt slotTy)).snd.fst.snd.fst) none ((t16.getD t18.toNat (dflt slotTy)).snd.fst.snd.snd.fst) ((t16.getD t18.toNat (dflt slotTy)).snd.fst.snd.snd.snd.fst) ((t16.getD t18.toNat (dflt slotTy)).snd.fst.snd.snd.snd.snd.fst)
        (fun v_c5 => cond v_c5
         (ke0 x1v1 t16 t17 t18 v_c5)
         (cond (decide ((↑(t16.getD t18.toNat (dflt slotTy)).snd.snd.fst.snd.snd.fst.length : Int) > 40))
          (ke1 x1v1 t16 t17 t18 v_c5)
          (L6 malive23 mbigLeaf23 mrecInfo mr23Info mtold23 N ke0 ke1 ke2 m x1v1 t16 t17 (IntKind.i64.wrap (t18 + 1))))))
       none)
      none)
     (ke2 x1v1 t16 t17 t18)
theorem round_L6 (malive23 : alive23.Ty) (mbigLeaf23 : bigLeaf23.Ty) (mrecInfo : recInfo.Ty) (mr23Info : r23Info.Ty) (mtold23 : told23.Ty) {R : Type} (N : Nat) (Rn : St → Option R) (k : K R) (x1v1 : (List Int × Int × List Int × List Int × Unit) × List SlotT × List Int × Int × List Int × Unit) (t16 : List SlotT) (t17 : Int) (t18 : Int) : evC (g malive23 mbigLeaf23 mrecInfo mr23Info mtold23) an 0 N c_L6 none (roundK (nmOf 0 (an.loop 6)) Rn k) (s_L6 x1v1 t16 t17 t18) =
  cond (decide (t18 < t17))
   (cond (decide (0 ≤ t18))
    (cond (decide (t18 < (↑t16.length : Int)))
     (mbigLeaf23 R ((t16.getD t18.toNat (dflt slotTy)).snd.fst.fst) ((t16.getD t18.toNat (dflt slotTy)).snd.fst.snd.fst) none ((t16.getD t18.toNat (dflt slotTy)).snd.fst.snd.snd.fst) ((t16.getD t18.toNat (dflt slotTy)).snd.fst.snd.snd.snd.fst) ((t16.getD t18.toNat (dflt slotTy)).snd.fst.snd.snd.snd.snd.fst)
      (fun v_c5 => cond v_c5
       (k.ret (x_L6_0 x1v1 t16 t17 t18 v_c5))
       (cond (decide ((↑(t16.getD t18.toNat (dflt slotTy)).snd.snd.fst.snd.snd.fst.length : Int) > 40))
        (k.ret (x_L6_1 x1v1 t16 t17 t18 v_c5))
        (Rn (s_L6 x1v1 t16 t17 (IntKind.i64.wrap (t18 + 1)))))))
     none)
    none)
   (k.ext 0 (x_L6_2 x1v1 t16 t17 t18)) := by kernel_rfl
theorem run_L6 (malive23 : alive23.Ty) (mbigLeaf23 : bigLeaf23.Ty) (mrecInfo : recInfo.Ty) (mr23Info : r23Info.Ty) (mtold23 : told23.Ty) {R : Type} (N : Nat) (k : K R) : ∀ (m : Nat) (x1v1 : (List Int × Int × List Int × List Int × Unit) × List SlotT × List Int × Int × List Int × Unit) (t16 : List SlotT) (t17 : Int) (t18 : Int), loopN (evC (g malive23 mbigLeaf23 mrecInfo mr23Info mtold23) an 0 N c_L6 none) k (nmOf 0 (an.loop 6)) m (s_L6 x1v1 t16 t17 t18) =
    L6 malive23 mbigLeaf23 mrecInfo mr23Info mtold23 N (fun x1v1 t16 t17 t18 v_c5 => (k).ret (x_L6_0 x1v1 t16 t17 t18 v_c5)) (fun x1v1 t16 t17 t18 v_c5 => (k).ret (x_L6_1 x1v1 t16 t17 t18 v_c5)) (fun x1v1 t16 t17 t18 => (k).ext 0 (x_L6_2 x1v1 t16 t17 t18)) m x1v1 t16 t17 t18 := by
  intro m
  induction m with
  | zero => intros; rfl
  | succ m ih =>
    intros
    rw [loopN_succ, round_L6]
    simp only [ih]
    kernel_rfl
noncomputable def m (malive23 : alive23.Ty) (mbigLeaf23 : bigLeaf23.Ty) (mrecInfo : recInfo.Ty) (mr23Info : r23Info.Ty) (mtold23 : told23.Ty) {R : Type} (N : Nat) (x1 : List Int) (x2 : Int) (x3 : List Int) (x4 : List Int) (x5 : List SlotT) (x6 : List Int) (x7 : Int) (x8 : List Int) (kr0 : Bool → Option R) : Option R :=
  malive23 R
   (fun v_c4 => cond (!v_c4)
    (kr0 false)
    (cond (decide ((↑x5.length : Int) > 40))
     (kr0 true)
     (L6 malive23 mbigLeaf23 mrecInfo mr23Info mtold23 N
      (fun _x1_c6 _t16_c7 _t17_c8 _t18_c9 _v_c10 => kr0 true)
      (fun _x1_c11 _t16_c12 _t17_c13 _t18_c14 _v_c15 => kr0 true)
      (fun x1_c16 _t16_c17 _t17_c18 _t18_c19 => mrecInfo R x1_c16.fst.fst x1_c16.fst.snd.fst x1_c16.fst.snd.snd.fst x1_c16.fst.snd.snd.snd.fst x1_c16.snd.fst x1_c16.snd.snd.fst x1_c16.snd.snd.snd.fst x1_c16.snd.snd.snd.snd.fst
       (fun v_c20 v_1_c21 v_2_c22 => mr23Info R x1_c16.fst.fst x1_c16.fst.snd.fst x1_c16.fst.snd.snd.fst x1_c16.fst.snd.snd.snd.fst x1_c16.snd.fst x1_c16.snd.snd.fst x1_c16.snd.snd.snd.fst x1_c16.snd.snd.snd.snd.fst
        (fun v_c23 v_1_c24 v_2_c25 => mtold23 R v_c20 v_1_c21 v_2_c22 v_c23 v_1_c24 v_2_c25
         (fun v_c26 => kr0 v_c26)))) N (((x1, x2, x3, x4, ()), x5, x6, x7, x8, ())) x5 ((↑x5.length : Int)) 0)))
theorem tree (malive23 : alive23.Ty) (mbigLeaf23 : bigLeaf23.Ty) (mrecInfo : recInfo.Ty) (mr23Info : r23Info.Ty) (mtold23 : told23.Ty) {R : Type} (N : Nat) (κ : AV → List Blk → Option R) (x1 : List Int) (x2 : Int) (x3 : List Int) (x4 : List Int) (x5 : List SlotT) (x6 : List Int) (x7 : Int) (x8 : List Int) : evF (g malive23 mbigLeaf23 mrecInfo mr23Info mtold23) an N Tryd.f6 [AV.agg [AV.agg [AV.ints IntKind.u8 32 x1, AV.int IntKind.i64 x2, AV.ints IntKind.u8 32 x3, AV.ints IntKind.u8 32 x4], AV.gsl slotTy x5, AV.ints IntKind.u8 32 x6, AV.int IntKind.i64 x7, AV.ints IntKind.u8 64 x8]] [] κ =
  malive23 R
   (fun v_c4 => cond (!v_c4)
    (κ (AV.bool false) [])
    (cond (decide ((↑x5.length : Int) > 40))
     (κ (AV.bool true) [])
     (loopN (evC (g malive23 mbigLeaf23 mrecInfo mr23Info mtold23) an 0 N c_L6 none) (ctx (g malive23 mbigLeaf23 mrecInfo mr23Info mtold23) an 0 N (bodyOf Tryd.f6) [1, 1, 1, 0, 1, 0] (endK (g malive23 mbigLeaf23 mrecInfo mr23Info mtold23) an Tryd.f6 [] κ)) (nmOf 0 (an.loop 6)) N (s_L6 (((x1, x2, x3, x4, ()), x5, x6, x7, x8, ())) x5 ((↑x5.length : Int)) 0)))) := by kernel_rfl
theorem eq (malive23 : alive23.Ty) (mbigLeaf23 : bigLeaf23.Ty) (mrecInfo : recInfo.Ty) (mr23Info : r23Info.Ty) (mtold23 : told23.Ty) {R : Type} (N : Nat) (κ : AV → List Blk → Option R) (x1 : List Int) (x2 : Int) (x3 : List Int) (x4 : List Int) (x5 : List SlotT) (x6 : List Int) (x7 : Int) (x8 : List Int) : evF (g malive23 mbigLeaf23 mrecInfo mr23Info mtold23) an N Tryd.f6 [AV.agg [AV.agg [AV.ints IntKind.u8 32 x1, AV.int IntKind.i64 x2, AV.ints IntKind.u8 32 x3, AV.ints IntKind.u8 32 x4], AV.gsl slotTy x5, AV.ints IntKind.u8 32 x6, AV.int IntKind.i64 x7, AV.ints IntKind.u8 64 x8]] [] κ =
  m malive23 mbigLeaf23 mrecInfo mr23Info mtold23 N x1 x2 x3 x4 x5 x6 x7 x8 (fun v => κ (AV.bool v) []) := by
  rw [tree]
  simp only [run_L6]
  kernel_rfl
abbrev Ty : Type 1 := ∀ R : Type, (List Int) → Int → (List Int) → (List Int) → (List SlotT) → (List Int) → Int → (List Int) → (Bool → Option R) → Option R
def con (f : Ty) : Con := fun R args bs κ => match args, bs with
  | [AV.agg [AV.agg [AV.ints IntKind.u8 32 x1, AV.int IntKind.i64 x2, AV.ints IntKind.u8 32 x3, AV.ints IntKind.u8 32 x4], AV.gsl slotTy x5, AV.ints IntKind.u8 32 x6, AV.int IntKind.i64 x7, AV.ints IntKind.u8 64 x8]], [] => f R x1 x2 x3 x4 x5 x6 x7 x8 (fun v => κ (AV.bool v) [])
  | _, _ => none
theorem con_eq (f : Ty) (R : Type) (κ : AV → List Blk → Option R) (x1 : List Int) (x2 : Int) (x3 : List Int) (x4 : List Int) (x5 : List SlotT) (x6 : List Int) (x7 : Int) (x8 : List Int) : con f R [AV.agg [AV.agg [AV.ints IntKind.u8 32 x1, AV.int IntKind.i64 x2, AV.ints IntKind.u8 32 x3, AV.ints IntKind.u8 32 x4], AV.gsl slotTy x5, AV.ints IntKind.u8 32 x6, AV.int IntKind.i64 x7, AV.ints IntKind.u8 64 x8]] [] κ = f R x1 x2 x3 x4 x5 x6 x7 x8 (fun v => κ (AV.bool v) []) := rfl
noncomputable def M (N : Nat) : Ty := fun R x1 x2 x3 x4 x5 x6 x7 x8 kr0 => m (alive23.M N) (bigLeaf23.M N) (recInfo.M N) (r23Info.M N) (told23.M N) (R := R) N x1 x2 x3 x4 x5 x6 x7 x8 kr0
def gts : List (Nat × AV) := [(0, .err 1), (1, .err 2), (2, .err 3), (3, .err 4), (4, .err 5), (5, .err 6), (6, .err 7), (7, .err 8), (8, .err 9), (9, .err 10), (10, .err 11), (11, .err 12), (12, .err 13), (13, .err 14), (14, .err 15), (15, .err 16), (16, .err 17), (17, .err 18), (18, .err 19), (19, .ints .u32 64 K256)]
theorem gok (N : Nat) : GOk (g (alive23.M N) (bigLeaf23.M N) (recInfo.M N) (r23Info.M N) (told23.M N)) := giF_ok (giD_ok hm (by intro p hp; cases hp) (gtL_ok (by decide)) (ovL_ok (by
    intro p hp
    simp only [List.mem_cons, List.not_mem_nil, or_false] at hp
    rcases hp with rfl | rfl | rfl | rfl | rfl
    · exact ⟨(alive23.ok N).gt (gtL_sub (by repeat (first | exact subG_nil _ | refine subG_cons (by kernel_rfl) ?_))) (gtL_ok (by decide)), _, Tryd.func15, by kernel_rfl, by kernel_rfl⟩
    · exact ⟨(bigLeaf23.ok N).gt (gtL_sub (by repeat (first | exact subG_nil _ | refine subG_cons (by kernel_rfl) ?_))) (gtL_ok (by decide)), _, Tryd.func16, by kernel_rfl, by kernel_rfl⟩
    · exact ⟨(recInfo.ok N).gt (gtL_sub (by repeat (first | exact subG_nil _ | refine subG_cons (by kernel_rfl) ?_))) (gtL_ok (by decide)), _, Tryd.func25, by kernel_rfl, by kernel_rfl⟩
    · exact ⟨(r23Info.ok N).gt (gtL_sub (by repeat (first | exact subG_nil _ | refine subG_cons (by kernel_rfl) ?_))) (gtL_ok (by decide)), _, Tryd.func26, by kernel_rfl, by kernel_rfl⟩
    · exact ⟨(told23.ok N).gt (gtL_sub (by repeat (first | exact subG_nil _ | refine subG_cons (by kernel_rfl) ?_))) (gtL_ok (by decide)), _, Tryd.func24, by kernel_rfl, by kernel_rfl⟩
)) 1)
theorem ok (N : Nat) : SoundC Tryd.prog (gtL gts) 6 (con (M N)) := by
  refine SoundC.mono (evF_ok (gok N) hm an N Tryd.func6) fun R args bs κ r h => ?_
  unfold con at h
  split at h
  · exact (eq (alive23.M N) (bigLeaf23.M N) (recInfo.M N) (r23Info.M N) (told23.M N) N κ _ _ _ _ _ _ _ _).trans h
  · cases h
end RecordInfos

end Go.Proofs.YthajoenmfppenaaDoor.fn
