/- What a law of digests computes, with the proof; printed by a program. -/
import Derived.Test.YtildbbihjaaloaaDoorProg
import Derived.Test.YtildbbihjaaloaaDoorEv4
import Derived.Test.YtildbbihjaaloaaDoorFnShaL
namespace Go.Proofs.YtildbbihjaaloaaDoor.fn
open Go Go.Proofs Go.Ev

/-! ### Tryd.f4: ShaPieces -/
namespace ShaPieces
def an : Anns := ⟨fun i => findA i [(8, ⟨[0, 1, 5, 6, 23, 24, 25], [⟨5, 0, .u8, none⟩, ⟨6, 1, .u8, none⟩, ⟨5, 2, .u8, some [1]⟩], 3, []⟩)], fun i => findA i [], false, fun _ => none, []⟩
noncomputable def g (malive02 : alive02.Ty) (mNew : New.Ty) (mWrite : Write.Ty) (mhSum : hSum.Ty) (mrSum : rSum.Ty) (mCopy : Copy.Ty) (msSum : sSum.Ty) : Gi := giD Tryd.prog (gtL [(0, .err 1), (19, .ints .u32 64 [1116352408, 1899447441, 3049323471, 3921009573, 961987163, 1508970993, 2453635748, 2870763221, 3624381080, 310598401, 607225278, 1426881987, 1925078388, 2162078206, 2614888103, 3248222580, 3835390401, 4022224774, 264347078, 604807628, 770255983, 1249150122, 1555081692, 1996064986, 2554220882, 2821834349, 2952996808, 3210313671, 3336571891, 3584528711, 113926993, 338241895, 666307205, 773529912, 1294757372, 1396182291, 1695183700, 1986661051, 2177026350, 2456956037, 2730485921, 2820302411, 3259730800, 3345764771, 3516065817, 3600352804, 4094571909, 275423344, 430227734, 506948616, 659060556, 883997877, 958139571, 1322822218, 1537002063, 1747873779, 1955562222, 2024104815, 2227730452, 2361852424, 2428436474, 2756734187, 3204031479, 3329325298])]) (fun _ => an) 0 [] (ovL [(15, alive02.con malive02), (20, New.con mNew), (21, Write.con mWrite), (22, hSum.con mhSum), (18, rSum.con mrSum), (23, Copy.con mCopy), (17, sSum.con msSum)]) 1
noncomputable def c_L8 : Code := loopOf Tryd.f4 0
def s_L8 (parts0 : List (List Int)) (more1 : Option Bool) (more1_2 : List Int) (t23 : List (List Int)) (t24 : Int) (t25 : Int) (h0 : List Int) (h0_7 : Nat) (h0_8 : Option Nat) (h0_9 : Int) (h1 : Bool) (h1_11 : List Int) (h2 : Bool) (h2_13 : List Int) : St := ⟨[AV.rsl IntKind.u8 parts0, AV.isl IntKind.u8 more1 more1_2, AV.dead, AV.dead, AV.dead, AV.ptr 0 [], AV.own 1 [] 0 none] ++ List.replicate 16 .dead ++ [AV.rsl IntKind.u8 t23, AV.int IntKind.i64 t24, AV.int IntKind.i64 t25] ++ List.replicate 55 .dead, [Blk.var (AV.agg [AV.ints IntKind.u32 8 h0, AV.own 2 [] h0_7 h0_8, AV.int IntKind.u64 h0_9]), Blk.row IntKind.u8 h1 h1_11, Blk.row IntKind.u8 h2 h2_13]⟩
def x_L8_0 (parts0 : List (List Int)) (more1 : Option Bool) (more1_2 : List Int) (t23 : List (List Int)) (t24 : Int) (t25 : Int) (h0 : List Int) (h0_7 : Nat) (h0_8 : Option Nat) (h0_9 : Int) (h1 : Bool) (h1_11 : List Int) (h2 : Bool) (h2_13 : List Int) : St := ⟨[AV.rsl IntKind.u8 parts0, AV.isl IntKind.u8 more1 more1_2, AV.dead, AV.dead, AV.bool true, AV.ptr 0 [], AV.own 1 [] 0 none, AV.dead, AV.isl IntKind.u8 none (t23.getD t25.toNat [])] ++ List.replicate 14 .dead ++ [AV.rsl IntKind.u8 t23, AV.int IntKind.i64 t24, AV.int IntKind.i64 t25, AV.bool (decide (t25 < t24)), AV.rps IntKind.u8 (t23.getD t25.toNat []), AV.isl IntKind.u8 none (t23.getD t25.toNat []), AV.isl IntKind.u8 none (t23.getD t25.toNat []), AV.int IntKind.i64 (↑(t23.getD t25.toNat []).length : Int), AV.bool (decide ((↑(t23.getD t25.toNat []).length : Int) > 200))] ++ List.replicate 49 .dead, [Blk.var (AV.agg [AV.ints IntKind.u32 8 h0, AV.own 2 [] h0_7 h0_8, AV.int IntKind.u64 h0_9]), Blk.row IntKind.u8 h1 h1_11, Blk.row IntKind.u8 h2 h2_13]⟩
def x_L8_1 (parts0 : List (List Int)) (more1 : Option Bool) (more1_2 : List Int) (t23 : List (List Int)) (t24 : Int) (t25 : Int) (h1 : Bool) (h1_11 : List Int) (v_c24 : List Int) (b_c25 : List Int) (b_2_c26 : Nat) (b_3_c27 : Option Nat) (b_4_c28 : Int) (b_5_c29 : Bool) (b_6_c30 : List Int) (v_c31 : List Int) : St := ⟨[AV.rsl IntKind.u8 parts0, AV.isl IntKind.u8 more1 more1_2, AV.dead, AV.dead, AV.bool false, AV.ptr 0 [], AV.own 7 [] 0 none, AV.dead, AV.isl IntKind.u8 none (t23.getD t25.toNat [])] ++ List.replicate 14 .dead ++ [AV.rsl IntKind.u8 t23, AV.int IntKind.i64 t24, AV.int IntKind.i64 t25, AV.bool (decide (t25 < t24)), AV.rps IntKind.u8 (t23.getD t25.toNat []), AV.isl IntKind.u8 none (t23.getD t25.toNat []), AV.isl IntKind.u8 none (t23.getD t25.toNat []), AV.int IntKind.i64 (↑(t23.getD t25.toNat []).length : Int), AV.bool (decide ((↑(t23.getD t25.toNat []).length : Int) > 200)), AV.ptr 0 [], AV.isl IntKind.u8 none (t23.getD t25.toNat []), AV.tup [], AV.own 1 [] 0 none, AV.isl IntKind.u8 none (t23.getD t25.toNat []), AV.own 7 [] 0 none, AV.ptr 0 [], AV.ints IntKind.u8 32 v_c24, AV.own 7 [] 0 none, AV.ints IntKind.u8 32 v_c31, AV.bool !v_c24 == v_c31] ++ List.replicate 38 .dead, [Blk.var (AV.agg [AV.ints IntKind.u32 8 b_c25, AV.own 9 [] b_2_c26 b_3_c27, AV.int IntKind.u64 b_4_c28]), Blk.dead, Blk.dead, Blk.dead, Blk.dead, Blk.rsv, Blk.rsv, Blk.row IntKind.u8 ((t23.getD t25.toNat []).isEmpty && h1) (h1_11 ++ t23.getD t25.toNat []), Blk.dead, Blk.row IntKind.u8 b_5_c29 b_6_c30, Blk.rsv, Blk.rsv, Blk.rsv, Blk.rsv, Blk.rsv, Blk.rsv]⟩
def x_L8_2 (parts0 : List (List Int)) (more1 : Option Bool) (more1_2 : List Int) (t23 : List (List Int)) (t24 : Int) (t25 : Int) (h0 : List Int) (h0_7 : Nat) (h0_8 : Option Nat) (h0_9 : Int) (h1 : Bool) (h1_11 : List Int) (h2 : Bool) (h2_13 : List Int) : St := ⟨[AV.rsl IntKind.u8 parts0, AV.isl IntKind.u8 more1 more1_2, AV.dead, AV.dead, AV.dead, AV.ptr 0 [], AV.own 1 [] 0 none] ++ List.replicate 16 .dead ++ [AV.rsl IntKind.u8 t23, AV.int IntKind.i64 t24, AV.int IntKind.i64 t25, AV.bool (decide (t25 < t24))] ++ List.replicate 54 .dead, [Blk.var (AV.agg [AV.ints IntKind.u32 8 h0, AV.own 2 [] h0_7 h0_8, AV.int IntKind.u64 h0_9]), Blk.row IntKind.u8 h1 h1_11, Blk.row IntKind.u8 h2 h2_13]⟩
noncomputable def L8 (malive02 : alive02.Ty) (mNew : New.Ty) (mWrite : Write.Ty) (mhSum : hSum.Ty) (mrSum : rSum.Ty) (mCopy : Copy.Ty) (msSum : sSum.Ty) {R : Type} (N : Nat) (ke0 : (List (List Int)) → (Option Bool) → (List Int) → (List (List Int)) → Int → Int → (List Int) → Nat → (Option Nat) → Int → Bool → (List Int) → Bool → (List Int) → Option R) (ke1 : (List (List Int)) → (Option Bool) → (List Int) → (List (List Int)) → Int → Int → Bool → (List Int) → (List Int) → (List Int) → Nat → (Option Nat) → Int → Bool → (List Int) → (List Int) → Option R) (ke2 : (List (List Int)) → (Option Bool) → (List Int) → (List (List Int)) → Int → Int → (List Int) → Nat → (Option Nat) → Int → Bool → (List Int) → Bool → (List Int) → Option R) : Nat → (List (List Int)) → (Option Bool) → (List Int) → (List (List Int)) → Int → Int → (List Int) → Nat → (Option Nat) → Int → Bool → (List Int) → Bool → (List Int) → Option R
  | 0, _, _, _, _, _, _, _, _, _, _, _, _, _, _ => none
  | m + 1, parts0, more1, more1_2, t23, t24, t25, h0, h0_7, h0_8, h0_9, h1, h1_11, h2, h2_13 =>
    cond (decide (t25 < t24))
     (cond (decide (0 ≤ t25))
      (cond (decide (t25 < (↑t23.length : Int)))
       (cond (decide ((↑(t23.getD t25.toNat []).length : Int) > 200))
        (ke0 parts0 more1 more1_2 t23 t24 t25 h0 h0_7 h0_8 h0_9 h1 h1_11 h2 h2_13)
        (mWrite R h0 h0_7 h0_8 h2 h2_13 h0_9 none (t23.getD t25.toNat [])
         (fun b_c18 b_1_c19 b_2_c20 b_3_c21 b_4_c22 b_5_c23 => cond (decide ((h1_11.length + (t23.getD t25.toNat []).length) * 1 ≤ 140737488355328))
          (cond (decide (h1_11.length + (t23.getD t25.toNat []).length ≤ 140737488355328))
           (mhSum R b_c18 b_1_c19 b_2_c20 b_4_c22 b_5_c23 b_3_c21
            (fun v_c24 b_c25 b_2_c26 b_3_c27 b_4_c28 b_5_c29 b_6_c30 => mrSum R none (cut none 0 (h1_11 ++ t23.getD t25.toNat []))
             (fun v_c31 => cond (!v_c24 == v_c31)
              (ke1 parts0 more1 more1_2 t23 t24 t25 h1 h1_11 v_c24 b_c25 b_2_c26 b_3_c27 b_4_c28 b_5_c29 b_6_c30 v_c31)
              (L8 malive02 mNew mWrite mhSum mrSum mCopy msSum N ke0 ke1 ke2 m parts0 more1 more1_2 t23 t24 (IntKind.i64.wrap (t25 + 1)) b_c25 b_2_c26 b_3_c27 b_4_c28 ((t23.getD t25.toNat []).isEmpty && h1) (h1_11 ++ t23.getD t25.toNat []) b_5_c29 b_6_c30))))
           (none))
          (none))))
       (none))
      (none))
     (ke2 parts0 more1 more1_2 t23 t24 t25 h0 h0_7 h0_8 h0_9 h1 h1_11 h2 h2_13)
theorem round_L8 (malive02 : alive02.Ty) (mNew : New.Ty) (mWrite : Write.Ty) (mhSum : hSum.Ty) (mrSum : rSum.Ty) (mCopy : Copy.Ty) (msSum : sSum.Ty) {R : Type} (N : Nat) (Rn : St → Option R) (k : K R) (parts0 : List (List Int)) (more1 : Option Bool) (more1_2 : List Int) (t23 : List (List Int)) (t24 : Int) (t25 : Int) (h0 : List Int) (h0_7 : Nat) (h0_8 : Option Nat) (h0_9 : Int) (h1 : Bool) (h1_11 : List Int) (h2 : Bool) (h2_13 : List Int) : evC (g malive02 mNew mWrite mhSum mrSum mCopy msSum) an 0 N c_L8 none (roundK (nmOf 0 (an.loop 8)) Rn k) (s_L8 parts0 more1 more1_2 t23 t24 t25 h0 h0_7 h0_8 h0_9 h1 h1_11 h2 h2_13) =
  cond (decide (t25 < t24))
   (cond (decide (0 ≤ t25))
    (cond (decide (t25 < (↑t23.length : Int)))
     (cond (decide ((↑(t23.getD t25.toNat []).length : Int) > 200))
      (k.ret (x_L8_0 parts0 more1 more1_2 t23 t24 t25 h0 h0_7 h0_8 h0_9 h1 h1_11 h2 h2_13))
      (mWrite R h0 h0_7 h0_8 h2 h2_13 h0_9 none (t23.getD t25.toNat [])
       (fun b_c18 b_1_c19 b_2_c20 b_3_c21 b_4_c22 b_5_c23 => cond (decide ((h1_11.length + (t23.getD t25.toNat []).length) * 1 ≤ 140737488355328))
        (cond (decide (h1_11.length + (t23.getD t25.toNat []).length ≤ 140737488355328))
         (mhSum R b_c18 b_1_c19 b_2_c20 b_4_c22 b_5_c23 b_3_c21
          (fun v_c24 b_c25 b_2_c26 b_3_c27 b_4_c28 b_5_c29 b_6_c30 => mrSum R none (cut none 0 (h1_11 ++ t23.getD t25.toNat []))
           (fun v_c31 => cond (!v_c24 == v_c31)
            (k.ret (x_L8_1 parts0 more1 more1_2 t23 t24 t25 h1 h1_11 v_c24 b_c25 b_2_c26 b_3_c27 b_4_c28 b_5_c29 b_6_c30 v_c31))
            (Rn (s_L8 parts0 more1 more1_2 t23 t24 (IntKind.i64.wrap (t25 + 1)) b_c25 b_2_c26 b_3_c27 b_4_c28 ((t23.getD t25.toNat []).isEmpty && h1) (h1_11 ++ t23.getD t25.toNat []) b_5_c29 b_6_c30)))))
         (none))
        (none))))
     (none))
    (none))
   (k.ext 0 (x_L8_2 parts0 more1 more1_2 t23 t24 t25 h0 h0_7 h0_8 h0_9 h1 h1_11 h2 h2_13)) := by kernel_rfl
theorem run_L8 (malive02 : alive02.Ty) (mNew : New.Ty) (mWrite : Write.Ty) (mhSum : hSum.Ty) (mrSum : rSum.Ty) (mCopy : Copy.Ty) (msSum : sSum.Ty) {R : Type} (N : Nat) (k : K R) : ∀ (m : Nat) (parts0 : List (List Int)) (more1 : Option Bool) (more1_2 : List Int) (t23 : List (List Int)) (t24 : Int) (t25 : Int) (h0 : List Int) (h0_7 : Nat) (h0_8 : Option Nat) (h0_9 : Int) (h1 : Bool) (h1_11 : List Int) (h2 : Bool) (h2_13 : List Int), loopN (evC (g malive02 mNew mWrite mhSum mrSum mCopy msSum) an 0 N c_L8 none) k (nmOf 0 (an.loop 8)) m (s_L8 parts0 more1 more1_2 t23 t24 t25 h0 h0_7 h0_8 h0_9 h1 h1_11 h2 h2_13) =
    L8 malive02 mNew mWrite mhSum mrSum mCopy msSum N (fun parts0 more1 more1_2 t23 t24 t25 h0 h0_7 h0_8 h0_9 h1 h1_11 h2 h2_13 => (k).ret (x_L8_0 parts0 more1 more1_2 t23 t24 t25 h0 h0_7 h0_8 h0_9 h1 h1_11 h2 h2_13)) (fun parts0 more1 more1_2 t23 t24 t25 h1 h1_11 v_c24 b_c25 b_2_c26 b_3_c27 b_4_c28 b_5_c29 b_6_c30 v_c31 => (k).ret (x_L8_1 parts0 more1 more1_2 t23 t24 t25 h1 h1_11 v_c24 b_c25 b_2_c26 b_3_c27 b_4_c28 b_5_c29 b_6_c30 v_c31)) (fun parts0 more1 more1_2 t23 t24 t25 h0 h0_7 h0_8 h0_9 h1 h1_11 h2 h2_13 => (k).ext 0 (x_L8_2 parts0 more1 more1_2 t23 t24 t25 h0 h0_7 h0_8 h0_9 h1 h1_11 h2 h2_13)) m parts0 more1 more1_2 t23 t24 t25 h0 h0_7 h0_8 h0_9 h1 h1_11 h2 h2_13 := by
  intro m
  induction m with
  | zero => intros; rfl
  | succ m ih =>
    intros
    rw [loopN_succ, round_L8]
    simp only [ih]
    kernel_rfl
noncomputable def m (malive02 : alive02.Ty) (mNew : New.Ty) (mWrite : Write.Ty) (mhSum : hSum.Ty) (mrSum : rSum.Ty) (mCopy : Copy.Ty) (msSum : sSum.Ty) {R : Type} (N : Nat) (parts1 : List (List Int)) (moreN2 : Option Bool) (more3 : List Int) (kr0 : Bool → Option R) : Option R :=
  malive02 R
   (fun v_c17 => cond (!v_c17)
    (kr0 false)
    (cond (decide ((↑parts1.length : Int) > 20))
     (kr0 true)
     (cond (decide ((↑more3.length : Int) > 200))
      (kr0 true)
      (mNew R
       (L8 malive02 mNew mWrite mhSum mrSum mCopy msSum N
        (fun _parts0_c32 _more1_c33 _more1_2_c34 _t23_c35 _t24_c36 _t25_c37 _h0_c38 _h0_7_c39 _h0_8_c40 _h0_9_c41 _h1_c42 _h1_11_c43 _h2_c44 _h2_13_c45 => kr0 true)
        (fun _parts0_c46 _more1_c47 _more1_2_c48 _t23_c49 _t24_c50 _t25_c51 _h1_c52 _h1_11_c53 _v_c54 _b_c55 _b_2_c56 _b_3_c57 _b_4_c58 _b_5_c59 _b_6_c60 _v_c61 => kr0 false)
        (fun parts0_c62 more1_c63 more1_2_c64 _t23_c65 _t24_c66 _t25_c67 h0_c68 h0_7_c69 h0_8_c70 h0_9_c71 _h1_c72 h1_11_c73 h2_c74 h2_13_c75 => mCopy R h0_c68 h0_7_c69 h0_8_c70 h2_c74 h2_13_c75 h0_9_c71
         (fun b_c76 b_1_c77 b_2_c78 b_3_c79 b_4_c80 b_5_c81 b_6_c82 b_7_c83 b_8_c84 b_9_c85 => mWrite R b_6_c82 0 none b_8_c84 b_9_c85 b_7_c83 more1_c63 more1_2_c64
          (fun b_c86 b_1_c87 b_2_c88 b_3_c89 b_4_c90 b_5_c91 => cond (decide ((0 + h1_11_c73.length) * 1 ≤ 140737488355328))
           (cond (decide (0 + h1_11_c73.length ≤ 140737488355328))
            (cond (decide ((h1_11_c73.length + more1_2_c64.length) * 1 ≤ 140737488355328))
             (cond (decide (h1_11_c73.length + more1_2_c64.length ≤ 140737488355328))
              (mhSum R b_c76 b_1_c77 b_2_c78 b_4_c80 b_5_c81 b_3_c79
               (fun v_c92 b_c93 b_2_c94 b_3_c95 b_4_c96 b_5_c97 b_6_c98 => mrSum R none h1_11_c73
                (fun v_c99 => cond (!v_c92 == v_c99)
                 (kr0 false)
                 (mhSum R b_c86 b_1_c87 b_2_c88 b_4_c90 b_5_c91 b_3_c89
                  (fun v_c100 b_c101 b_2_c102 b_3_c103 b_4_c104 b_5_c105 b_6_c106 => mrSum R none (cut none 0 (h1_11_c73 ++ more1_2_c64))
                   (fun v_c107 => cond (!v_c100 == v_c107)
                    (kr0 false)
                    (mWrite R b_c93 b_2_c94 b_3_c95 b_5_c97 b_6_c98 b_4_c96 more1_c63 more1_2_c64
                     (fun b_c108 b_1_c109 b_2_c110 b_3_c111 b_4_c112 b_5_c113 => mhSum R b_c108 b_1_c109 b_2_c110 b_4_c112 b_5_c113 b_3_c111
                      (fun v_c114 _b_c115 _b_2_c116 _b_3_c117 _b_4_c118 _b_5_c119 _b_6_c120 => mhSum R b_c101 b_2_c102 b_3_c103 b_5_c105 b_6_c106 b_4_c104
                       (fun v_c121 _b_c122 _b_2_c123 _b_3_c124 _b_4_c125 _b_5_c126 _b_6_c127 => cond (v_c114 == v_c121)
                        (msSum R parts0_c62
                         (fun v_c128 => mrSum R none h1_11_c73
                          (fun v_c129 => kr0 (v_c128 == v_c129))))
                        (kr0 false)))))))))))
              (none))
             (none))
            (none))
           (none)))) N parts1 moreN2 more3 parts1 ((↑parts1.length : Int)) 0 ([1779033703, 3144134277, 1013904242, 2773480762, 1359893119, 2600822924, 528734635, 1541459225]) 0 none 0 false [] true [])))))
theorem tree (malive02 : alive02.Ty) (mNew : New.Ty) (mWrite : Write.Ty) (mhSum : hSum.Ty) (mrSum : rSum.Ty) (mCopy : Copy.Ty) (msSum : sSum.Ty) {R : Type} (N : Nat) (κ : AV → List Blk → Option R) (parts1 : List (List Int)) (moreN2 : Option Bool) (more3 : List Int) : evF (g malive02 mNew mWrite mhSum mrSum mCopy msSum) an N Tryd.f4 [AV.rsl IntKind.u8 parts1, AV.isl IntKind.u8 moreN2 more3] [] κ =
  malive02 R
   (fun v_c17 => cond (!v_c17)
    (κ (AV.bool false) [])
    (cond (decide ((↑parts1.length : Int) > 20))
     (κ (AV.bool true) [])
     (cond (decide ((↑more3.length : Int) > 200))
      (κ (AV.bool true) [])
      (mNew R
       (loopN (evC (g malive02 mNew mWrite mhSum mrSum mCopy msSum) an 0 N c_L8 none) (ctx (g malive02 mNew mWrite mhSum mrSum mCopy msSum) an 0 N (bodyOf Tryd.f4) [1, 1, 1, 1, 1, 0, 1, 0] (endK (g malive02 mNew mWrite mhSum mrSum mCopy msSum) an Tryd.f4 [] κ)) (nmOf 0 (an.loop 8)) N (s_L8 parts1 moreN2 more3 parts1 ((↑parts1.length : Int)) 0 ([1779033703, 3144134277, 1013904242, 2773480762, 1359893119, 2600822924, 528734635, 1541459225]) 0 none 0 false [] true [])))))) := by kernel_rfl
theorem eq (malive02 : alive02.Ty) (mNew : New.Ty) (mWrite : Write.Ty) (mhSum : hSum.Ty) (mrSum : rSum.Ty) (mCopy : Copy.Ty) (msSum : sSum.Ty) {R : Type} (N : Nat) (κ : AV → List Blk → Option R) (parts1 : List (List Int)) (moreN2 : Option Bool) (more3 : List Int) : evF (g malive02 mNew mWrite mhSum mrSum mCopy msSum) an N Tryd.f4 [AV.rsl IntKind.u8 parts1, AV.isl IntKind.u8 moreN2 more3] [] κ =
  m malive02 mNew mWrite mhSum mrSum mCopy msSum N parts1 moreN2 more3 (fun v => κ (AV.bool v) []) := by
  rw [tree]
  simp only [run_L8]
  kernel_rfl
abbrev Ty : Type 1 := ∀ R : Type, (List (List Int)) → (Option Bool) → (List Int) → (Bool → Option R) → Option R
def con (f : Ty) : Con := fun R args bs κ => match args, bs with
  | [AV.rsl IntKind.u8 parts1, AV.isl IntKind.u8 moreN2 more3], [] => f R parts1 moreN2 more3 (fun v => κ (AV.bool v) [])
  | _, _ => none
theorem con_eq (f : Ty) (R : Type) (κ : AV → List Blk → Option R) (parts1 : List (List Int)) (moreN2 : Option Bool) (more3 : List Int) : con f R [AV.rsl IntKind.u8 parts1, AV.isl IntKind.u8 moreN2 more3] [] κ = f R parts1 moreN2 more3 (fun v => κ (AV.bool v) []) := rfl
noncomputable def M (N : Nat) : Ty := fun R parts1 moreN2 more3 kr0 => m (alive02.M N) (New.M N) (Write.M N) (hSum.M N) (rSum.M N) (Copy.M N) (sSum.M N) (R := R) N parts1 moreN2 more3 kr0
def gts : List (Nat × AV) := [(0, .err 1), (19, .ints .u32 64 [1116352408, 1899447441, 3049323471, 3921009573, 961987163, 1508970993, 2453635748, 2870763221, 3624381080, 310598401, 607225278, 1426881987, 1925078388, 2162078206, 2614888103, 3248222580, 3835390401, 4022224774, 264347078, 604807628, 770255983, 1249150122, 1555081692, 1996064986, 2554220882, 2821834349, 2952996808, 3210313671, 3336571891, 3584528711, 113926993, 338241895, 666307205, 773529912, 1294757372, 1396182291, 1695183700, 1986661051, 2177026350, 2456956037, 2730485921, 2820302411, 3259730800, 3345764771, 3516065817, 3600352804, 4094571909, 275423344, 430227734, 506948616, 659060556, 883997877, 958139571, 1322822218, 1537002063, 1747873779, 1955562222, 2024104815, 2227730452, 2361852424, 2428436474, 2756734187, 3204031479, 3329325298])]
theorem gok (N : Nat) : GOk (g (alive02.M N) (New.M N) (Write.M N) (hSum.M N) (rSum.M N) (Copy.M N) (sSum.M N)) := giD_ok hm (by intro p hp; cases hp) (gtL_ok (by decide)) (ovL_ok (by
    intro p hp
    simp only [List.mem_cons, List.not_mem_nil, or_false] at hp
    rcases hp with rfl | rfl | rfl | rfl | rfl | rfl | rfl
    · exact ⟨(alive02.ok N).gt (gtL_sub (by repeat (first | exact subG_nil _ | refine subG_cons (by kernel_rfl) ?_))) (gtL_ok (by decide)), _, Tryd.func15, by kernel_rfl, by kernel_rfl⟩
    · exact ⟨(New.ok N).gt (gtL_sub (by repeat (first | exact subG_nil _ | refine subG_cons (by kernel_rfl) ?_))) (gtL_ok (by decide)), _, Tryd.func20, by kernel_rfl, by kernel_rfl⟩
    · exact ⟨(Write.ok N).gt (gtL_sub (by repeat (first | exact subG_nil _ | refine subG_cons (by kernel_rfl) ?_))) (gtL_ok (by decide)), _, Tryd.func21, by kernel_rfl, by kernel_rfl⟩
    · exact ⟨(hSum.ok N).gt (gtL_sub (by repeat (first | exact subG_nil _ | refine subG_cons (by kernel_rfl) ?_))) (gtL_ok (by decide)), _, Tryd.func22, by kernel_rfl, by kernel_rfl⟩
    · exact ⟨(rSum.ok N).gt (gtL_sub (by repeat (first | exact subG_nil _ | refine subG_cons (by kernel_rfl) ?_))) (gtL_ok (by decide)), _, Tryd.func18, by kernel_rfl, by kernel_rfl⟩
    · exact ⟨(Copy.ok N).gt (gtL_sub (by repeat (first | exact subG_nil _ | refine subG_cons (by kernel_rfl) ?_))) (gtL_ok (by decide)), _, Tryd.func23, by kernel_rfl, by kernel_rfl⟩
    · exact ⟨(sSum.ok N).gt (gtL_sub (by repeat (first | exact subG_nil _ | refine subG_cons (by kernel_rfl) ?_))) (gtL_ok (by decide)), _, Tryd.func17, by kernel_rfl, by kernel_rfl⟩
)) 1
theorem ok (N : Nat) : SoundC Tryd.prog (gtL gts) 4 (con (M N)) := by
  refine SoundC.mono (evF_ok (gok N) hm an N Tryd.func4) fun R args bs κ r h => ?_
  unfold con at h
  split at h
  · exact (eq (alive02.M N) (New.M N) (Write.M N) (hSum.M N) (rSum.M N) (Copy.M N) (sSum.M N) N κ _ _ _).trans h
  · cases h
end ShaPieces

end Go.Proofs.YtildbbihjaaloaaDoor.fn
