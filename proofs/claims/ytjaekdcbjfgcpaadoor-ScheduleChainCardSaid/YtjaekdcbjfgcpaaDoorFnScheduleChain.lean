/- What a law of epochs computes, with the proof; printed by a program. -/
import Derived.Test.YtjaekdcbjfgcpaaDoorProg
import Derived.Test.YtjaekdcbjfgcpaaDoorEv4
import Derived.Test.YtjaekdcbjfgcpaaDoorFnSchedL
namespace Go.Proofs.YtjaekdcbjfgcpaaDoor.fn
open Go Go.Proofs Go.Ev

/-! ### Tryd.f4: ScheduleChain -/
namespace ScheduleChain
def an : Anns := ⟨fun i => findA i [(7, ⟨[2, 3, 7, 8, 28, 29, 30], [⟨3, 0, T.int IntKind.u8, none⟩, ⟨7, 1, T.int IntKind.u8, none⟩, ⟨8, 2, T.int IntKind.u8, none⟩], 3, []⟩)], fun i => findA i [], false, fun _ => none, []⟩
noncomputable def g (malive22 : alive22.Ty) (msBegin : sBegin.Ty) (msJoiner : sJoiner.Ty) (msOf : sOf.Ty) (msTag : sTag.Ty) : Gi := giD Tryd.prog (gtL [(0, .err 1), (1, .err 3), (19, .ints .u32 64 [1116352408, 1899447441, 3049323471, 3921009573, 961987163, 1508970993, 2453635748, 2870763221, 3624381080, 310598401, 607225278, 1426881987, 1925078388, 2162078206, 2614888103, 3248222580, 3835390401, 4022224774, 264347078, 604807628, 770255983, 1249150122, 1555081692, 1996064986, 2554220882, 2821834349, 2952996808, 3210313671, 3336571891, 3584528711, 113926993, 338241895, 666307205, 773529912, 1294757372, 1396182291, 1695183700, 1986661051, 2177026350, 2456956037, 2730485921, 2820302411, 3259730800, 3345764771, 3516065817, 3600352804, 4094571909, 275423344, 430227734, 506948616, 659060556, 883997877, 958139571, 1322822218, 1537002063, 1747873779, 1955562222, 2024104815, 2227730452, 2361852424, 2428436474, 2756734187, 3204031479, 3329325298])]) (fun _ => an) 0 [] (ovL [(7, alive22.con malive22), (9, sBegin.con msBegin), (8, sJoiner.con msJoiner), (10, sOf.con msOf), (14, sTag.con msTag)]) 1
noncomputable def c_L7 : Code := loopOf Tryd.f4 0
def s_L7 (context2 : Option Bool) (context2_1 : List Int) (t28 : List (List Int)) (t29 : Int) (t30 : Int) (h0 : List Int) (h1 : List Int) (h1_7 : List Int) (h1_8 : List Int) (h1_9 : List Int) (h1_10 : List Int) (h1_11 : List Int) (h1_12 : List Int) (h1_13 : List Int) (h2 : List Int) (h2_15 : List Int) (h2_16 : List Int) (h2_17 : List Int) (h2_18 : List Int) (h2_19 : List Int) (h2_20 : List Int) (h2_21 : List Int) : St := ⟨[AV.dead, AV.dead, AV.isl IntKind.u8 context2 context2_1, AV.ptr 0 [], AV.dead, AV.dead, AV.dead, AV.ptr 1 [], AV.ptr 2 []] ++ List.replicate 19 .dead ++ [AV.gsl (T.arr IntKind.u8 32) t28, AV.int IntKind.i64 t29, AV.int IntKind.i64 t30] ++ List.replicate 35 .dead, [Blk.var (AV.ints IntKind.u8 32 h0), Blk.var (AV.agg [AV.ints IntKind.u8 32 h1, AV.ints IntKind.u8 32 h1_7, AV.ints IntKind.u8 32 h1_8, AV.ints IntKind.u8 32 h1_9, AV.ints IntKind.u8 32 h1_10, AV.ints IntKind.u8 32 h1_11, AV.ints IntKind.u8 32 h1_12, AV.ints IntKind.u8 32 h1_13]), Blk.var (AV.agg [AV.ints IntKind.u8 32 h2, AV.ints IntKind.u8 32 h2_15, AV.ints IntKind.u8 32 h2_16, AV.ints IntKind.u8 32 h2_17, AV.ints IntKind.u8 32 h2_18, AV.ints IntKind.u8 32 h2_19, AV.ints IntKind.u8 32 h2_20, AV.ints IntKind.u8 32 h2_21])]⟩
def x_L7_0 (context2 : Option Bool) (context2_1 : List Int) (t28 : List (List Int)) (t29 : Int) (t30 : Int) (h0 : List Int) (h1_13 : List Int) (h2_21 : List Int) (v_c54 : List Int) (v_c55 : List Int) (v_1_c56 : List Int) (v_2_c57 : List Int) (v_3_c58 : List Int) (v_4_c59 : List Int) (v_5_c60 : List Int) (v_6_c61 : List Int) (v_7_c62 : List Int) (v_c63 : List Int) (v_c64 : List Int) (v_1_c65 : List Int) (v_2_c66 : List Int) (v_3_c67 : List Int) (v_4_c68 : List Int) (v_5_c69 : List Int) (v_6_c70 : List Int) (v_7_c71 : List Int) : St := ⟨[AV.dead, AV.dead, AV.isl IntKind.u8 context2 context2_1, AV.ptr 0 [], AV.dead, AV.dead, AV.bool false, AV.ptr 1 [], AV.ptr 2 [], AV.dead, AV.ptr 3 [], AV.ptr 8 []] ++ List.replicate 16 .dead ++ [AV.gsl (T.arr IntKind.u8 32) t28, AV.int IntKind.i64 t29, AV.int IntKind.i64 t30, AV.bool (decide (t30 < t29)), AV.rpg (T.arr IntKind.u8 32) (t28.getD t30.toNat (dflt (T.arr IntKind.u8 32))), AV.ints IntKind.u8 32 (t28.getD t30.toNat (dflt (T.arr IntKind.u8 32))), AV.ptr 1 [7], AV.ints IntKind.u8 32 h1_13, AV.ints IntKind.u8 32 (t28.getD t30.toNat (dflt (T.arr IntKind.u8 32))), AV.isl IntKind.u8 context2 context2_1, AV.ints IntKind.u8 32 v_c54, AV.ints IntKind.u8 32 v_c54, AV.isl IntKind.u8 context2 context2_1, AV.agg [AV.ints IntKind.u8 32 v_c55, AV.ints IntKind.u8 32 v_1_c56, AV.ints IntKind.u8 32 v_2_c57, AV.ints IntKind.u8 32 v_3_c58, AV.ints IntKind.u8 32 v_4_c59, AV.ints IntKind.u8 32 v_5_c60, AV.ints IntKind.u8 32 v_6_c61, AV.ints IntKind.u8 32 v_7_c62], AV.ptr 2 [7], AV.ints IntKind.u8 32 h2_21, AV.ints IntKind.u8 32 (t28.getD t30.toNat (dflt (T.arr IntKind.u8 32))), AV.isl IntKind.u8 context2 context2_1, AV.ints IntKind.u8 32 v_c63, AV.isl IntKind.u8 context2 context2_1, AV.agg [AV.ints IntKind.u8 32 v_c64, AV.ints IntKind.u8 32 v_1_c65, AV.ints IntKind.u8 32 v_2_c66, AV.ints IntKind.u8 32 v_3_c67, AV.ints IntKind.u8 32 v_4_c68, AV.ints IntKind.u8 32 v_5_c69, AV.ints IntKind.u8 32 v_6_c70, AV.ints IntKind.u8 32 v_7_c71], AV.ptr 1 [0], AV.ints IntKind.u8 32 v_c55, AV.ints IntKind.u8 32 v_c54, AV.bool !v_c55 == v_c54] ++ List.replicate 13 .dead, [Blk.var (AV.ints IntKind.u8 32 h0), Blk.var (AV.agg [AV.ints IntKind.u8 32 v_c55, AV.ints IntKind.u8 32 v_1_c56, AV.ints IntKind.u8 32 v_2_c57, AV.ints IntKind.u8 32 v_3_c58, AV.ints IntKind.u8 32 v_4_c59, AV.ints IntKind.u8 32 v_5_c60, AV.ints IntKind.u8 32 v_6_c61, AV.ints IntKind.u8 32 v_7_c62]), Blk.var (AV.agg [AV.ints IntKind.u8 32 v_c64, AV.ints IntKind.u8 32 v_1_c65, AV.ints IntKind.u8 32 v_2_c66, AV.ints IntKind.u8 32 v_3_c67, AV.ints IntKind.u8 32 v_4_c68, AV.ints IntKind.u8 32 v_5_c69, AV.ints IntKind.u8 32 v_6_c70, AV.ints IntKind.u8 32 v_7_c71]), Blk.var (AV.ints IntKind.u8 32 (t28.getD t30.toNat (dflt (T.arr IntKind.u8 32)))), Blk.rsv, Blk.rsv, Blk.rsv, Blk.rsv, Blk.var (AV.ints IntKind.u8 32 v_c54), Blk.rsv, Blk.rsv, Blk.rsv, Blk.rsv, Blk.rsv, Blk.rsv, Blk.rsv, Blk.rsv, Blk.rsv, Blk.rsv, Blk.rsv, Blk.rsv]⟩
def x_L7_1 (context2 : Option Bool) (context2_1 : List Int) (t28 : List (List Int)) (t29 : Int) (t30 : Int) (h0 : List Int) (h1 : List Int) (h1_7 : List Int) (h1_8 : List Int) (h1_9 : List Int) (h1_10 : List Int) (h1_11 : List Int) (h1_12 : List Int) (h1_13 : List Int) (h2 : List Int) (h2_15 : List Int) (h2_16 : List Int) (h2_17 : List Int) (h2_18 : List Int) (h2_19 : List Int) (h2_20 : List Int) (h2_21 : List Int) : St := ⟨[AV.dead, AV.dead, AV.isl IntKind.u8 context2 context2_1, AV.ptr 0 [], AV.dead, AV.dead, AV.dead, AV.ptr 1 [], AV.ptr 2 []] ++ List.replicate 19 .dead ++ [AV.gsl (T.arr IntKind.u8 32) t28, AV.int IntKind.i64 t29, AV.int IntKind.i64 t30, AV.bool (decide (t30 < t29))] ++ List.replicate 34 .dead, [Blk.var (AV.ints IntKind.u8 32 h0), Blk.var (AV.agg [AV.ints IntKind.u8 32 h1, AV.ints IntKind.u8 32 h1_7, AV.ints IntKind.u8 32 h1_8, AV.ints IntKind.u8 32 h1_9, AV.ints IntKind.u8 32 h1_10, AV.ints IntKind.u8 32 h1_11, AV.ints IntKind.u8 32 h1_12, AV.ints IntKind.u8 32 h1_13]), Blk.var (AV.agg [AV.ints IntKind.u8 32 h2, AV.ints IntKind.u8 32 h2_15, AV.ints IntKind.u8 32 h2_16, AV.ints IntKind.u8 32 h2_17, AV.ints IntKind.u8 32 h2_18, AV.ints IntKind.u8 32 h2_19, AV.ints IntKind.u8 32 h2_20, AV.ints IntKind.u8 32 h2_21])]⟩
noncomputable def L7 (malive22 : alive22.Ty) (msBegin : sBegin.Ty) (msJoiner : sJoiner.Ty) (msOf : sOf.Ty) (msTag : sTag.Ty) {R : Type} (N : Nat) (ke0 : (Option Bool) → (List Int) → (List (List Int)) → Int → Int → (List Int) → (List Int) → (List Int) → (List Int) → (List Int) → (List Int) → (List Int) → (List Int) → (List Int) → (List Int) → (List Int) → (List Int) → (List Int) → (List Int) → (List Int) → (List Int) → (List Int) → (List Int) → (List Int) → (List Int) → (List Int) → Option R) (ke1 : (Option Bool) → (List Int) → (List (List Int)) → Int → Int → (List Int) → (List Int) → (List Int) → (List Int) → (List Int) → (List Int) → (List Int) → (List Int) → (List Int) → (List Int) → (List Int) → (List Int) → (List Int) → (List Int) → (List Int) → (List Int) → (List Int) → Option R) : Nat → (Option Bool) → (List Int) → (List (List Int)) → Int → Int → (List Int) → (List Int) → (List Int) → (List Int) → (List Int) → (List Int) → (List Int) → (List Int) → (List Int) → (List Int) → (List Int) → (List Int) → (List Int) → (List Int) → (List Int) → (List Int) → (List Int) → Option R
  | 0, _, _, _, _, _, _, _, _, _, _, _, _, _, _, _, _, _, _, _, _, _, _ => none
  | m + 1, context2, context2_1, t28, t29, t30, h0, h1, h1_7, h1_8, h1_9, h1_10, h1_11, h1_12, h1_13, h2, h2_15, h2_16, h2_17, h2_18, h2_19, h2_20, h2_21 =>
    cond (decide (t30 < t29))
     (cond (decide (0 ≤ t30))
      (cond (decide (t30 < (↑t28.length : Int)))
       (msJoiner R h1_13 (t28.getD t30.toNat (dflt (T.arr IntKind.u8 32))) context2 context2_1
        (fun v_c54 => msOf R v_c54 context2 context2_1
         (fun v_c55 v_1_c56 v_2_c57 v_3_c58 v_4_c59 v_5_c60 v_6_c61 v_7_c62 => msJoiner R h2_21 (t28.getD t30.toNat (dflt (T.arr IntKind.u8 32))) context2 context2_1
          (fun v_c63 => msOf R v_c63 context2 context2_1
           (fun v_c64 v_1_c65 v_2_c66 v_3_c67 v_4_c68 v_5_c69 v_6_c70 v_7_c71 => cond (!v_c55 == v_c54)
            (ke0 context2 context2_1 t28 t29 t30 h0 h1_13 h2_21 v_c54 v_c55 v_1_c56 v_2_c57 v_3_c58 v_4_c59 v_5_c60 v_6_c61 v_7_c62 v_c63 v_c64 v_1_c65 v_2_c66 v_3_c67 v_4_c68 v_5_c69 v_6_c70 v_7_c71)
            (L7 malive22 msBegin msJoiner msOf msTag N ke0 ke1 m context2 context2_1 t28 t29 (IntKind.i64.wrap (t30 + 1)) h0 v_c55 v_1_c56 v_2_c57 v_3_c58 v_4_c59 v_5_c60 v_6_c61 v_7_c62 v_c64 v_1_c65 v_2_c66 v_3_c67 v_4_c68 v_5_c69 v_6_c70 v_7_c71))))))
       (none))
      (none))
     (ke1 context2 context2_1 t28 t29 t30 h0 h1 h1_7 h1_8 h1_9 h1_10 h1_11 h1_12 h1_13 h2 h2_15 h2_16 h2_17 h2_18 h2_19 h2_20 h2_21)
theorem round_L7 (malive22 : alive22.Ty) (msBegin : sBegin.Ty) (msJoiner : sJoiner.Ty) (msOf : sOf.Ty) (msTag : sTag.Ty) {R : Type} (N : Nat) (Rn : St → Option R) (k : K R) (context2 : Option Bool) (context2_1 : List Int) (t28 : List (List Int)) (t29 : Int) (t30 : Int) (h0 : List Int) (h1 : List Int) (h1_7 : List Int) (h1_8 : List Int) (h1_9 : List Int) (h1_10 : List Int) (h1_11 : List Int) (h1_12 : List Int) (h1_13 : List Int) (h2 : List Int) (h2_15 : List Int) (h2_16 : List Int) (h2_17 : List Int) (h2_18 : List Int) (h2_19 : List Int) (h2_20 : List Int) (h2_21 : List Int) : evC (g malive22 msBegin msJoiner msOf msTag) an 0 N c_L7 none (roundK (nmOf 0 (an.loop 7)) Rn k) (s_L7 context2 context2_1 t28 t29 t30 h0 h1 h1_7 h1_8 h1_9 h1_10 h1_11 h1_12 h1_13 h2 h2_15 h2_16 h2_17 h2_18 h2_19 h2_20 h2_21) =
  cond (decide (t30 < t29))
   (cond (decide (0 ≤ t30))
    (cond (decide (t30 < (↑t28.length : Int)))
     (msJoiner R h1_13 (t28.getD t30.toNat (dflt (T.arr IntKind.u8 32))) context2 context2_1
      (fun v_c54 => msOf R v_c54 context2 context2_1
       (fun v_c55 v_1_c56 v_2_c57 v_3_c58 v_4_c59 v_5_c60 v_6_c61 v_7_c62 => msJoiner R h2_21 (t28.getD t30.toNat (dflt (T.arr IntKind.u8 32))) context2 context2_1
        (fun v_c63 => msOf R v_c63 context2 context2_1
         (fun v_c64 v_1_c65 v_2_c66 v_3_c67 v_4_c68 v_5_c69 v_6_c70 v_7_c71 => cond (!v_c55 == v_c54)
          (k.ret (x_L7_0 context2 context2_1 t28 t29 t30 h0 h1_13 h2_21 v_c54 v_c55 v_1_c56 v_2_c57 v_3_c58 v_4_c59 v_5_c60 v_6_c61 v_7_c62 v_c63 v_c64 v_1_c65 v_2_c66 v_3_c67 v_4_c68 v_5_c69 v_6_c70 v_7_c71))
          (Rn (s_L7 context2 context2_1 t28 t29 (IntKind.i64.wrap (t30 + 1)) h0 v_c55 v_1_c56 v_2_c57 v_3_c58 v_4_c59 v_5_c60 v_6_c61 v_7_c62 v_c64 v_1_c65 v_2_c66 v_3_c67 v_4_c68 v_5_c69 v_6_c70 v_7_c71)))))))
     (none))
    (none))
   (k.ext 0 (x_L7_1 context2 context2_1 t28 t29 t30 h0 h1 h1_7 h1_8 h1_9 h1_10 h1_11 h1_12 h1_13 h2 h2_15 h2_16 h2_17 h2_18 h2_19 h2_20 h2_21)) := by kernel_rfl
theorem run_L7 (malive22 : alive22.Ty) (msBegin : sBegin.Ty) (msJoiner : sJoiner.Ty) (msOf : sOf.Ty) (msTag : sTag.Ty) {R : Type} (N : Nat) (k : K R) : ∀ (m : Nat) (context2 : Option Bool) (context2_1 : List Int) (t28 : List (List Int)) (t29 : Int) (t30 : Int) (h0 : List Int) (h1 : List Int) (h1_7 : List Int) (h1_8 : List Int) (h1_9 : List Int) (h1_10 : List Int) (h1_11 : List Int) (h1_12 : List Int) (h1_13 : List Int) (h2 : List Int) (h2_15 : List Int) (h2_16 : List Int) (h2_17 : List Int) (h2_18 : List Int) (h2_19 : List Int) (h2_20 : List Int) (h2_21 : List Int), loopN (evC (g malive22 msBegin msJoiner msOf msTag) an 0 N c_L7 none) k (nmOf 0 (an.loop 7)) m (s_L7 context2 context2_1 t28 t29 t30 h0 h1 h1_7 h1_8 h1_9 h1_10 h1_11 h1_12 h1_13 h2 h2_15 h2_16 h2_17 h2_18 h2_19 h2_20 h2_21) =
    L7 malive22 msBegin msJoiner msOf msTag N (fun context2 context2_1 t28 t29 t30 h0 h1_13 h2_21 v_c54 v_c55 v_1_c56 v_2_c57 v_3_c58 v_4_c59 v_5_c60 v_6_c61 v_7_c62 v_c63 v_c64 v_1_c65 v_2_c66 v_3_c67 v_4_c68 v_5_c69 v_6_c70 v_7_c71 => (k).ret (x_L7_0 context2 context2_1 t28 t29 t30 h0 h1_13 h2_21 v_c54 v_c55 v_1_c56 v_2_c57 v_3_c58 v_4_c59 v_5_c60 v_6_c61 v_7_c62 v_c63 v_c64 v_1_c65 v_2_c66 v_3_c67 v_4_c68 v_5_c69 v_6_c70 v_7_c71)) (fun context2 context2_1 t28 t29 t30 h0 h1 h1_7 h1_8 h1_9 h1_10 h1_11 h1_12 h1_13 h2 h2_15 h2_16 h2_17 h2_18 h2_19 h2_20 h2_21 => (k).ext 0 (x_L7_1 context2 context2_1 t28 t29 t30 h0 h1 h1_7 h1_8 h1_9 h1_10 h1_11 h1_12 h1_13 h2 h2_15 h2_16 h2_17 h2_18 h2_19 h2_20 h2_21)) m context2 context2_1 t28 t29 t30 h0 h1 h1_7 h1_8 h1_9 h1_10 h1_11 h1_12 h1_13 h2 h2_15 h2_16 h2_17 h2_18 h2_19 h2_20 h2_21 := by
  intro m
  induction m with
  | zero => intros; rfl
  | succ m ih =>
    intros
    rw [loopN_succ, round_L7]
    simp only [ih]
    kernel_rfl
noncomputable def m (malive22 : alive22.Ty) (msBegin : sBegin.Ty) (msJoiner : sJoiner.Ty) (msOf : sOf.Ty) (msTag : sTag.Ty) {R : Type} (N : Nat) (draw1 : List Int) (ways2 : List (List Int)) (contextN3 : Option Bool) (context4 : List Int) (kr0 : Bool → Option R) : Option R :=
  malive22 R
   (fun v_c37 => cond (!v_c37)
    (kr0 false)
    (cond (decide ((↑ways2.length : Int) > 20))
     (kr0 true)
     (cond (decide ((↑context4.length : Int) > 1000))
      (kr0 true)
      (msBegin R draw1 contextN3 context4
       (fun v_c38 v_1_c39 v_2_c40 v_3_c41 v_4_c42 v_5_c43 v_6_c44 v_7_c45 => msBegin R draw1 contextN3 context4
        (fun v_c46 v_1_c47 v_2_c48 v_3_c49 v_4_c50 v_5_c51 v_6_c52 v_7_c53 => L7 malive22 msBegin msJoiner msOf msTag N
         (fun _context2_c72 _context2_1_c73 _t28_c74 _t29_c75 _t30_c76 _h0_c77 _h1_13_c78 _h2_21_c79 _v_c80 _v_c81 _v_1_c82 _v_2_c83 _v_3_c84 _v_4_c85 _v_5_c86 _v_6_c87 _v_7_c88 _v_c89 _v_c90 _v_1_c91 _v_2_c92 _v_3_c93 _v_4_c94 _v_5_c95 _v_6_c96 _v_7_c97 => kr0 false)
         (fun _context2_c98 _context2_1_c99 _t28_c100 _t29_c101 _t30_c102 h0_c103 h1_c104 h1_7_c105 h1_8_c106 h1_9_c107 h1_10_c108 h1_11_c109 h1_12_c110 h1_13_c111 h2_c112 h2_15_c113 h2_16_c114 h2_17_c115 h2_18_c116 h2_19_c117 h2_20_c118 h2_21_c119 => cond (eqVal [AV.ints IntKind.u8 32 h1_c104, AV.ints IntKind.u8 32 h1_7_c105, AV.ints IntKind.u8 32 h1_8_c106, AV.ints IntKind.u8 32 h1_9_c107, AV.ints IntKind.u8 32 h1_10_c108, AV.ints IntKind.u8 32 h1_11_c109, AV.ints IntKind.u8 32 h1_12_c110, AV.ints IntKind.u8 32 h1_13_c111] [AV.ints IntKind.u8 32 h2_c112, AV.ints IntKind.u8 32 h2_15_c113, AV.ints IntKind.u8 32 h2_16_c114, AV.ints IntKind.u8 32 h2_17_c115, AV.ints IntKind.u8 32 h2_18_c116, AV.ints IntKind.u8 32 h2_19_c117, AV.ints IntKind.u8 32 h2_20_c118, AV.ints IntKind.u8 32 h2_21_c119])
          (msTag R h1_c104 h1_7_c105 h1_8_c106 h1_9_c107 h1_10_c108 h1_11_c109 h1_12_c110 h1_13_c111 h0_c103
           (fun v_c120 => msTag R h2_c112 h2_15_c113 h2_16_c114 h2_17_c115 h2_18_c116 h2_19_c117 h2_20_c118 h2_21_c119 h0_c103
            (fun v_c121 => kr0 (v_c120 == v_c121))))
          (kr0 false)) N contextN3 context4 ways2 ((↑ways2.length : Int)) 0 draw1 v_c38 v_1_c39 v_2_c40 v_3_c41 v_4_c42 v_5_c43 v_6_c44 v_7_c45 v_c46 v_1_c47 v_2_c48 v_3_c49 v_4_c50 v_5_c51 v_6_c52 v_7_c53))))))
theorem tree (malive22 : alive22.Ty) (msBegin : sBegin.Ty) (msJoiner : sJoiner.Ty) (msOf : sOf.Ty) (msTag : sTag.Ty) {R : Type} (N : Nat) (κ : AV → List Blk → Option R) (draw1 : List Int) (ways2 : List (List Int)) (contextN3 : Option Bool) (context4 : List Int) : evF (g malive22 msBegin msJoiner msOf msTag) an N Tryd.f4 [AV.ints IntKind.u8 32 draw1, AV.gsl (T.arr IntKind.u8 32) ways2, AV.isl IntKind.u8 contextN3 context4] [] κ =
  malive22 R
   (fun v_c37 => cond (!v_c37)
    (κ (AV.bool false) [])
    (cond (decide ((↑ways2.length : Int) > 20))
     (κ (AV.bool true) [])
     (cond (decide ((↑context4.length : Int) > 1000))
      (κ (AV.bool true) [])
      (msBegin R draw1 contextN3 context4
       (fun v_c38 v_1_c39 v_2_c40 v_3_c41 v_4_c42 v_5_c43 v_6_c44 v_7_c45 => msBegin R draw1 contextN3 context4
        (fun v_c46 v_1_c47 v_2_c48 v_3_c49 v_4_c50 v_5_c51 v_6_c52 v_7_c53 => loopN (evC (g malive22 msBegin msJoiner msOf msTag) an 0 N c_L7 none) (ctx (g malive22 msBegin msJoiner msOf msTag) an 0 N (bodyOf Tryd.f4) [1, 1, 1, 1, 0, 1, 0] (endK (g malive22 msBegin msJoiner msOf msTag) an Tryd.f4 [] κ)) (nmOf 0 (an.loop 7)) N (s_L7 contextN3 context4 ways2 ((↑ways2.length : Int)) 0 draw1 v_c38 v_1_c39 v_2_c40 v_3_c41 v_4_c42 v_5_c43 v_6_c44 v_7_c45 v_c46 v_1_c47 v_2_c48 v_3_c49 v_4_c50 v_5_c51 v_6_c52 v_7_c53))))))) := by kernel_rfl
theorem eq (malive22 : alive22.Ty) (msBegin : sBegin.Ty) (msJoiner : sJoiner.Ty) (msOf : sOf.Ty) (msTag : sTag.Ty) {R : Type} (N : Nat) (κ : AV → List Blk → Option R) (draw1 : List Int) (ways2 : List (List Int)) (contextN3 : Option Bool) (context4 : List Int) : evF (g malive22 msBegin msJoiner msOf msTag) an N Tryd.f4 [AV.ints IntKind.u8 32 draw1, AV.gsl (T.arr IntKind.u8 32) ways2, AV.isl IntKind.u8 contextN3 context4] [] κ =
  m malive22 msBegin msJoiner msOf msTag N draw1 ways2 contextN3 context4 (fun v => κ (AV.bool v) []) := by
  rw [tree]
  simp only [run_L7]
  kernel_rfl
abbrev Ty : Type 1 := ∀ R : Type, (List Int) → (List (List Int)) → (Option Bool) → (List Int) → (Bool → Option R) → Option R
def con (f : Ty) : Con := fun R args bs κ => match args, bs with
  | [AV.ints IntKind.u8 32 draw1, AV.gsl (T.arr IntKind.u8 32) ways2, AV.isl IntKind.u8 contextN3 context4], [] => f R draw1 ways2 contextN3 context4 (fun v => κ (AV.bool v) [])
  | _, _ => none
theorem con_eq (f : Ty) (R : Type) (κ : AV → List Blk → Option R) (draw1 : List Int) (ways2 : List (List Int)) (contextN3 : Option Bool) (context4 : List Int) : con f R [AV.ints IntKind.u8 32 draw1, AV.gsl (T.arr IntKind.u8 32) ways2, AV.isl IntKind.u8 contextN3 context4] [] κ = f R draw1 ways2 contextN3 context4 (fun v => κ (AV.bool v) []) := rfl
noncomputable def M (N : Nat) : Ty := fun R draw1 ways2 contextN3 context4 kr0 => m (alive22.M N) (sBegin.M N) (sJoiner.M N) (sOf.M N) (sTag.M N) (R := R) N draw1 ways2 contextN3 context4 kr0
def gts : List (Nat × AV) := [(0, .err 1), (1, .err 3), (19, .ints .u32 64 [1116352408, 1899447441, 3049323471, 3921009573, 961987163, 1508970993, 2453635748, 2870763221, 3624381080, 310598401, 607225278, 1426881987, 1925078388, 2162078206, 2614888103, 3248222580, 3835390401, 4022224774, 264347078, 604807628, 770255983, 1249150122, 1555081692, 1996064986, 2554220882, 2821834349, 2952996808, 3210313671, 3336571891, 3584528711, 113926993, 338241895, 666307205, 773529912, 1294757372, 1396182291, 1695183700, 1986661051, 2177026350, 2456956037, 2730485921, 2820302411, 3259730800, 3345764771, 3516065817, 3600352804, 4094571909, 275423344, 430227734, 506948616, 659060556, 883997877, 958139571, 1322822218, 1537002063, 1747873779, 1955562222, 2024104815, 2227730452, 2361852424, 2428436474, 2756734187, 3204031479, 3329325298])]
theorem gok (N : Nat) : GOk (g (alive22.M N) (sBegin.M N) (sJoiner.M N) (sOf.M N) (sTag.M N)) := giD_ok hm (by intro p hp; cases hp) (gtL_ok (by decide)) (ovL_ok (by
    intro p hp
    simp only [List.mem_cons, List.not_mem_nil, or_false] at hp
    rcases hp with rfl | rfl | rfl | rfl | rfl
    · exact ⟨(alive22.ok N).gt (gtL_sub (by repeat (first | exact subG_nil _ | refine subG_cons (by kernel_rfl) ?_))) (gtL_ok (by decide)), _, Tryd.func7, by kernel_rfl, by kernel_rfl⟩
    · exact ⟨(sBegin.ok N).gt (gtL_sub (by repeat (first | exact subG_nil _ | refine subG_cons (by kernel_rfl) ?_))) (gtL_ok (by decide)), _, Tryd.func9, by kernel_rfl, by kernel_rfl⟩
    · exact ⟨(sJoiner.ok N).gt (gtL_sub (by repeat (first | exact subG_nil _ | refine subG_cons (by kernel_rfl) ?_))) (gtL_ok (by decide)), _, Tryd.func8, by kernel_rfl, by kernel_rfl⟩
    · exact ⟨(sOf.ok N).gt (gtL_sub (by repeat (first | exact subG_nil _ | refine subG_cons (by kernel_rfl) ?_))) (gtL_ok (by decide)), _, Tryd.func10, by kernel_rfl, by kernel_rfl⟩
    · exact ⟨(sTag.ok N).gt (gtL_sub (by repeat (first | exact subG_nil _ | refine subG_cons (by kernel_rfl) ?_))) (gtL_ok (by decide)), _, Tryd.func14, by kernel_rfl, by kernel_rfl⟩
)) 1
theorem ok (N : Nat) : SoundC Tryd.prog (gtL gts) 4 (con (M N)) := by
  refine SoundC.mono (evF_ok (gok N) hm an N Tryd.func4) fun R args bs κ r h => ?_
  unfold con at h
  split at h
  · exact (eq (alive22.M N) (sBegin.M N) (sJoiner.M N) (sOf.M N) (sTag.M N) N κ _ _ _ _).trans h
  · cases h
end ScheduleChain

end Go.Proofs.YtjaekdcbjfgcpaaDoor.fn
