/- What the derivations' functions compute, with the proof; printed by a program. -/
import Derived.Test.YtjaekdcbjfgcpaaDoorProg
import Derived.Test.YtjaekdcbjfgcpaaDoorEv4
import Derived.Test.YtjaekdcbjfgcpaaDoorFnMac
namespace Go.Proofs.YtjaekdcbjfgcpaaDoor.fn
open Go Go.Proofs Go.Ev

/-! ### Tryd.f38: dInfo -/
namespace dInfo
def an : Anns := ⟨fun i => findA i [], fun i => findA i [], false, fun _ => none, []⟩
noncomputable def g : Gi := giD Tryd.prog (gtL [(0, .err 1), (1, .err 3)]) (fun _ => an) 0 [] (ovL []) 1
noncomputable def m {R : Type} (_N : Nat) (label1 : List UInt8) (_contextN2 : Option Bool) (context3 : List Int) (n4 : Int) (kr0 : (Option Bool) → (List Int) → Nat → Option R) : Option R :=
  cond (decide (n4 < 0))
   (kr0 (some true) [] 1)
   (cond (decide (n4 > 8160))
    (kr0 (some true) [] 1)
    (cond (decide ((↑label1.length : Int) > 200))
     (kr0 (some true) [] 3)
     (cond (decide ((↑context3.length : Int) > 16384))
      (kr0 (some true) [] 3)
      (cond (decide ((↑(11 + label1.length) : Int) ≤ 9223372036854775807))
       (cond (decide ((3 + (ofStr ([102, 101, 108, 108, 111, 119, 115, 104, 105, 112, 32] ++ label1)).length) * 1 ≤ 140737488355328))
        (cond (decide (3 + (ofStr ([102, 101, 108, 108, 111, 119, 115, 104, 105, 112, 32] ++ label1)).length ≤ 140737488355328))
         (cond (decide (((cut none 0 ([IntKind.u8.wrap (ishr IntKind.i64 n4 8), IntKind.u8.wrap n4, IntKind.u8.wrap (↑([102, 101, 108, 108, 111, 119, 115, 104, 105, 112, 32] ++ label1).length : Int)] ++ ofStr ([102, 101, 108, 108, 111, 119, 115, 104, 105, 112, 32] ++ label1))).length + 2) * 1 ≤ 140737488355328))
          (cond (decide ((cut none 0 ([IntKind.u8.wrap (ishr IntKind.i64 n4 8), IntKind.u8.wrap n4, IntKind.u8.wrap (↑([102, 101, 108, 108, 111, 119, 115, 104, 105, 112, 32] ++ label1).length : Int)] ++ ofStr ([102, 101, 108, 108, 111, 119, 115, 104, 105, 112, 32] ++ label1))).length + 2 ≤ 140737488355328))
           (cond (decide (((cut none 0 (cut none 0 ([IntKind.u8.wrap (ishr IntKind.i64 n4 8), IntKind.u8.wrap n4, IntKind.u8.wrap (↑([102, 101, 108, 108, 111, 119, 115, 104, 105, 112, 32] ++ label1).length : Int)] ++ ofStr ([102, 101, 108, 108, 111, 119, 115, 104, 105, 112, 32] ++ label1)) ++ [IntKind.u8.wrap (ishr IntKind.i64 (↑context3.length : Int) 8), IntKind.u8.wrap (↑context3.length : Int)])).length + context3.length) * 1 ≤ 140737488355328))
            (cond (decide ((cut none 0 (cut none 0 ([IntKind.u8.wrap (ishr IntKind.i64 n4 8), IntKind.u8.wrap n4, IntKind.u8.wrap (↑([102, 101, 108, 108, 111, 119, 115, 104, 105, 112, 32] ++ label1).length : Int)] ++ ofStr ([102, 101, 108, 108, 111, 119, 115, 104, 105, 112, 32] ++ label1)) ++ [IntKind.u8.wrap (ishr IntKind.i64 (↑context3.length : Int) 8), IntKind.u8.wrap (↑context3.length : Int)])).length + context3.length ≤ 140737488355328))
             (kr0 none (cut none 0 (cut none 0 (cut none 0 ([IntKind.u8.wrap (ishr IntKind.i64 n4 8), IntKind.u8.wrap n4, IntKind.u8.wrap (↑([102, 101, 108, 108, 111, 119, 115, 104, 105, 112, 32] ++ label1).length : Int)] ++ ofStr ([102, 101, 108, 108, 111, 119, 115, 104, 105, 112, 32] ++ label1)) ++ [IntKind.u8.wrap (ishr IntKind.i64 (↑context3.length : Int) 8), IntKind.u8.wrap (↑context3.length : Int)]) ++ context3)) 0)
             none)
            none)
           none)
          none)
         none)
        none)
       none))))
theorem tree {R : Type} (N : Nat) (κ : AV → List Blk → Option R) (label1 : List UInt8) (contextN2 : Option Bool) (context3 : List Int) (n4 : Int) : evF g an N Tryd.f38 [AV.str label1, AV.isl IntKind.u8 contextN2 context3, AV.int IntKind.i64 n4] [] κ =
  cond (decide (n4 < 0))
   (κ (AV.tup [AV.isl IntKind.u8 (some true) [], AV.err 1]) [])
   (cond (decide (n4 > 8160))
    (κ (AV.tup [AV.isl IntKind.u8 (some true) [], AV.err 1]) [])
    (cond (decide ((↑label1.length : Int) > 200))
     (κ (AV.tup [AV.isl IntKind.u8 (some true) [], AV.err 3]) [])
     (cond (decide ((↑context3.length : Int) > 16384))
      (κ (AV.tup [AV.isl IntKind.u8 (some true) [], AV.err 3]) [])
      (cond (decide ((↑(11 + label1.length) : Int) ≤ 9223372036854775807))
       (cond (decide ((3 + (ofStr ([102, 101, 108, 108, 111, 119, 115, 104, 105, 112, 32] ++ label1)).length) * 1 ≤ 140737488355328))
        (cond (decide (3 + (ofStr ([102, 101, 108, 108, 111, 119, 115, 104, 105, 112, 32] ++ label1)).length ≤ 140737488355328))
         (cond (decide (((cut none 0 ([IntKind.u8.wrap (ishr IntKind.i64 n4 8), IntKind.u8.wrap n4, IntKind.u8.wrap (↑([102, 101, 108, 108, 111, 119, 115, 104, 105, 112, 32] ++ label1).length : Int)] ++ ofStr ([102, 101, 108, 108, 111, 119, 115, 104, 105, 112, 32] ++ label1))).length + 2) * 1 ≤ 140737488355328))
          (cond (decide ((cut none 0 ([IntKind.u8.wrap (ishr IntKind.i64 n4 8), IntKind.u8.wrap n4, IntKind.u8.wrap (↑([102, 101, 108, 108, 111, 119, 115, 104, 105, 112, 32] ++ label1).length : Int)] ++ ofStr ([102, 101, 108, 108, 111, 119, 115, 104, 105, 112, 32] ++ label1))).length + 2 ≤ 140737488355328))
           (cond (decide (((cut none 0 (cut none 0 ([IntKind.u8.wrap (ishr IntKind.i64 n4 8), IntKind.u8.wrap n4, IntKind.u8.wrap (↑([102, 101, 108, 108, 111, 119, 115, 104, 105, 112, 32] ++ label1).length : Int)] ++ ofStr ([102, 101, 108, 108, 111, 119, 115, 104, 105, 112, 32] ++ label1)) ++ [IntKind.u8.wrap (ishr IntKind.i64 (↑context3.length : Int) 8), IntKind.u8.wrap (↑context3.length : Int)])).length + context3.length) * 1 ≤ 140737488355328))
            (cond (decide ((cut none 0 (cut none 0 ([IntKind.u8.wrap (ishr IntKind.i64 n4 8), IntKind.u8.wrap n4, IntKind.u8.wrap (↑([102, 101, 108, 108, 111, 119, 115, 104, 105, 112, 32] ++ label1).length : Int)] ++ ofStr ([102, 101, 108, 108, 111, 119, 115, 104, 105, 112, 32] ++ label1)) ++ [IntKind.u8.wrap (ishr IntKind.i64 (↑context3.length : Int) 8), IntKind.u8.wrap (↑context3.length : Int)])).length + context3.length ≤ 140737488355328))
             (κ (AV.tup [AV.isl IntKind.u8 none (cut none 0 (cut none 0 (cut none 0 ([IntKind.u8.wrap (ishr IntKind.i64 n4 8), IntKind.u8.wrap n4, IntKind.u8.wrap (↑([102, 101, 108, 108, 111, 119, 115, 104, 105, 112, 32] ++ label1).length : Int)] ++ ofStr ([102, 101, 108, 108, 111, 119, 115, 104, 105, 112, 32] ++ label1)) ++ [IntKind.u8.wrap (ishr IntKind.i64 (↑context3.length : Int) 8), IntKind.u8.wrap (↑context3.length : Int)]) ++ context3)), AV.err 0]) [])
             none)
            none)
           none)
          none)
         none)
        none)
       none)))) := by kernel_rfl
theorem eq {R : Type} (N : Nat) (κ : AV → List Blk → Option R) (label1 : List UInt8) (contextN2 : Option Bool) (context3 : List Int) (n4 : Int) : evF g an N Tryd.f38 [AV.str label1, AV.isl IntKind.u8 contextN2 context3, AV.int IntKind.i64 n4] [] κ =
  m N label1 contextN2 context3 n4 (fun v v_1 v_2 => κ (AV.tup [AV.isl IntKind.u8 v v_1, AV.err v_2]) []) := by
  rw [tree]
  kernel_rfl
abbrev Ty : Type 1 := ∀ R : Type, (List UInt8) → (Option Bool) → (List Int) → Int → ((Option Bool) → (List Int) → Nat → Option R) → Option R
def con (f : Ty) : Con := fun R args bs κ => match args, bs with
  | [AV.str label1, AV.isl IntKind.u8 contextN2 context3, AV.int IntKind.i64 n4], [] => f R label1 contextN2 context3 n4 (fun v v_1 v_2 => κ (AV.tup [AV.isl IntKind.u8 v v_1, AV.err v_2]) [])
  | _, _ => none
theorem con_eq (f : Ty) (R : Type) (κ : AV → List Blk → Option R) (label1 : List UInt8) (contextN2 : Option Bool) (context3 : List Int) (n4 : Int) : con f R [AV.str label1, AV.isl IntKind.u8 contextN2 context3, AV.int IntKind.i64 n4] [] κ = f R label1 contextN2 context3 n4 (fun v v_1 v_2 => κ (AV.tup [AV.isl IntKind.u8 v v_1, AV.err v_2]) []) := rfl
noncomputable def M (N : Nat) : Ty := fun R label1 contextN2 context3 n4 kr0 => m (R := R) N label1 contextN2 context3 n4 kr0
def gts : List (Nat × AV) := [(0, .err 1), (1, .err 3)]
theorem gok (_N : Nat) : GOk g := giD_ok hm (by intro p hp; cases hp) (gtL_ok (by decide)) (ovL_ok (by intro p hp; cases hp)) 1
theorem ok (N : Nat) : SoundC Tryd.prog (gtL gts) 38 (con (M N)) := by
  refine SoundC.mono (evF_ok (gok N) hm an N Tryd.func38) fun R args bs κ r h => ?_
  unfold con at h
  split at h
  · exact (eq N κ _ _ _ _).trans h
  · cases h
end dInfo


/-! ### Tryd.f39: dExpand -/
namespace dExpand
def an : Anns := ⟨fun i => findA i [], fun i => findA i [(0, ⟨[0, 1, 2, 8, 9, 10], [⟨8, 0, T.int IntKind.u8, none⟩], 1, [.frz 9 (.int .u8)]⟩)], true, fun _ => none, [.frz 9 (.int .u8)]⟩
noncomputable def g (mmSum : mSum.Ty) : Gi := giD Tryd.prog (gtL [(0, .err 1), (1, .err 3), (19, .ints .u32 64 K256)]) (fun _ => an) 0 [] (ovL [(25, mSum.con mmSum)]) 1
noncomputable def c_S1 : Code := scopeOf Tryd.f39 0
def s_J1_0 (key0 : Option Bool) (key0_1 : List Int) (info1 : Option Bool) (info1_3 : List Int) (n2 : Int) (last9 : List Int) (count10 : Int) (h0 : Bool) (h0_8 : List Int) : St := ⟨[AV.isl IntKind.u8 key0 key0_1, AV.isl IntKind.u8 info1 info1_3, AV.int IntKind.i64 n2] ++ List.replicate 5 .dead ++ [AV.own 0 [] 0 none, AV.isl IntKind.u8 none last9, AV.int IntKind.u8 count10] ++ List.replicate 34 .dead, [Blk.row IntKind.u8 h0 h0_8]⟩
def x_S1_0 (key0 : Option Bool) (key0_1 : List Int) (info1 : Option Bool) (info1_3 : List Int) (n2 : Int) (last9 : List Int) (count10 : Int) (h0 : Bool) (h0_8 : List Int) : St := ⟨[AV.isl IntKind.u8 key0 key0_1, AV.isl IntKind.u8 info1 info1_3, AV.int IntKind.i64 n2, AV.dead, AV.dead, AV.dead, AV.own 0 [] 0 (some n2.toNat), AV.err 0, AV.own 0 [] 0 none, AV.isl IntKind.u8 none last9, AV.int IntKind.u8 count10] ++ List.replicate 14 .dead ++ [AV.own 0 [] 0 none, AV.int IntKind.i64 (↑(olen none h0_8.length 0) : Int), AV.int IntKind.i64 n2, AV.bool (decide ((↑(olen none h0_8.length 0) : Int) < n2))] ++ List.replicate 13 .dead ++ [AV.own 0 [] 0 none, AV.int IntKind.i64 n2, AV.own 0 [] 0 (some n2.toNat)], [Blk.row IntKind.u8 h0 h0_8]⟩
noncomputable def J1_0 (mmSum : mSum.Ty) {R : Type} (N : Nat) (ke0 : (Option Bool) → (List Int) → (Option Bool) → (List Int) → Int → (List Int) → Int → Bool → (List Int) → Option R) : Nat → (Option Bool) → (List Int) → (Option Bool) → (List Int) → Int → (List Int) → Int → Bool → (List Int) → Option R
  | 0, _, _, _, _, _, _, _, _, _ => none
  | m + 1, key0, key0_1, info1, info1_3, n2, last9, count10, h0, h0_8 =>
    cond (decide ((↑(olen none h0_8.length 0) : Int) < n2))
     (mmSum R key0 key0_1 ([last9, info1_3, [IntKind.u8.wrap (count10 + 1)]])
      (fun v_c14 => cond (decide ((h0_8.length + (cut (some 32) 0 v_c14).length) * 1 ≤ 140737488355328))
       (cond (decide (h0_8.length + (cut (some 32) 0 v_c14).length ≤ 140737488355328))
        (J1_0 mmSum N ke0 m key0 key0_1 info1 info1_3 n2 (cut (some 32) 0 v_c14) (IntKind.u8.wrap (count10 + 1)) ((cut (some 32) 0 v_c14).isEmpty && h0) (h0_8 ++ cut (some 32) 0 v_c14))
        none)
       none))
     (cond (decide (0 ≤ n2))
      (cond (decide (n2 ≤ (↑h0_8.length : Int)))
       (ke0 key0 key0_1 info1 info1_3 n2 last9 count10 h0 h0_8)
       none)
      none)
theorem round_J1_0 (mmSum : mSum.Ty) {R : Type} (N : Nat) (J : Nat → St → Option R) (k : K R) (key0 : Option Bool) (key0_1 : List Int) (info1 : Option Bool) (info1_3 : List Int) (n2 : Int) (last9 : List Int) (count10 : Int) (h0 : Bool) (h0_8 : List Int) : evC (g mmSum) an 0 N c_S1 (some 0) { k with gto := gotoK (hasL c_S1) (fun l => nmOf 0 (an.label l)) k J } (s_J1_0 key0 key0_1 info1 info1_3 n2 last9 count10 h0 h0_8) =
  cond (decide ((↑(olen none h0_8.length 0) : Int) < n2))
   (mmSum R key0 key0_1 ([last9, info1_3, [IntKind.u8.wrap (count10 + 1)]])
    (fun v_c14 => cond (decide ((h0_8.length + (cut (some 32) 0 v_c14).length) * 1 ≤ 140737488355328))
     (cond (decide (h0_8.length + (cut (some 32) 0 v_c14).length ≤ 140737488355328))
      (J 0 (s_J1_0 key0 key0_1 info1 info1_3 n2 (cut (some 32) 0 v_c14) (IntKind.u8.wrap (count10 + 1)) ((cut (some 32) 0 v_c14).isEmpty && h0) (h0_8 ++ cut (some 32) 0 v_c14)))
      none)
     none))
   (cond (decide (0 ≤ n2))
    (cond (decide (n2 ≤ (↑h0_8.length : Int)))
     (k.ret (x_S1_0 key0 key0_1 info1 info1_3 n2 last9 count10 h0 h0_8))
     none)
    none) := by kernel_rfl
theorem run_S1 (mmSum : mSum.Ty) {R : Type} (N : Nat) (k : K R) : ∀ (m : Nat), (∀ (key0 : Option Bool) (key0_1 : List Int) (info1 : Option Bool) (info1_3 : List Int) (n2 : Int) (last9 : List Int) (count10 : Int) (h0 : Bool) (h0_8 : List Int), jumpN (fun l => evC (g mmSum) an 0 N c_S1 (some l)) (hasL c_S1) k (fun l => nmOf 0 (an.label l)) m 0 (s_J1_0 key0 key0_1 info1 info1_3 n2 last9 count10 h0 h0_8) =
    J1_0 mmSum N (fun key0 key0_1 info1 info1_3 n2 last9 count10 h0 h0_8 => (k).ret (x_S1_0 key0 key0_1 info1 info1_3 n2 last9 count10 h0 h0_8)) m key0 key0_1 info1 info1_3 n2 last9 count10 h0 h0_8) := by
  intro m
  induction m with
  | zero => exact by intros; rfl
  | succ m ih =>
    · intros; rw [jumpN_succ, round_J1_0]
      try simp only [ih]
      kernel_rfl
theorem run_J1_0 (mmSum : mSum.Ty) {R : Type} (N : Nat) (k : K R) (m : Nat) : (∀ (key0 : Option Bool) (key0_1 : List Int) (info1 : Option Bool) (info1_3 : List Int) (n2 : Int) (last9 : List Int) (count10 : Int) (h0 : Bool) (h0_8 : List Int), jumpN (fun l => evC (g mmSum) an 0 N c_S1 (some l)) (hasL c_S1) k (fun l => nmOf 0 (an.label l)) m 0 (s_J1_0 key0 key0_1 info1 info1_3 n2 last9 count10 h0 h0_8) =
    J1_0 mmSum N (fun key0 key0_1 info1 info1_3 n2 last9 count10 h0 h0_8 => (k).ret (x_S1_0 key0 key0_1 info1 info1_3 n2 last9 count10 h0 h0_8)) m key0 key0_1 info1 info1_3 n2 last9 count10 h0 h0_8) := (run_S1 mmSum N k m)
noncomputable def m (mmSum : mSum.Ty) {R : Type} (N : Nat) (keyN1 : Option Bool) (key2 : List Int) (infoN3 : Option Bool) (info4 : List Int) (n5 : Int) (kr0 : Nat → Option R) (kr1 : Nat → Bool → (List Int) → Option R) : Option R :=
  cond (decide (n5 < 0))
   (kr0 1)
   (cond (decide (n5 > 8160))
    (kr0 1)
    (cond (decide ((↑info4.length : Int) > 65536))
     (kr0 3)
     (cond (decide (0 < n5))
      (mmSum R keyN1 key2 ([[], info4, [1]])
       (fun v_c13 => cond (decide ((cut (some 32) 0 v_c13).length * 1 ≤ 140737488355328))
        (cond (decide ((cut (some 32) 0 v_c13).length ≤ 140737488355328))
         (J1_0 mmSum N
          (fun _key0_c15 _key0_1_c16 _info1_c17 _info1_3_c18 n2_c19 _last9_c20 _count10_c21 h0_c22 h0_8_c23 => kr1 n2_c19.toNat h0_c22 h0_8_c23) N keyN1 key2 infoN3 info4 n5 (cut (some 32) 0 v_c13) 1 ((cut (some 32) 0 v_c13).isEmpty) (cut (some 32) 0 v_c13))
         none)
        none))
      (cond (decide (0 ≤ n5))
       (cond (decide (n5 ≤ 0))
        (kr0 0)
        none)
       none))))
theorem tree (mmSum : mSum.Ty) {R : Type} (N : Nat) (κ : AV → List Blk → Option R) (keyN1 : Option Bool) (key2 : List Int) (infoN3 : Option Bool) (info4 : List Int) (n5 : Int) : evF (g mmSum) an N Tryd.f39 [AV.isl IntKind.u8 keyN1 key2, AV.isl IntKind.u8 infoN3 info4, AV.int IntKind.i64 n5] [] κ =
  cond (decide (n5 < 0))
   (κ (AV.tup [AV.nils, AV.err 1]) [])
   (cond (decide (n5 > 8160))
    (κ (AV.tup [AV.nils, AV.err 1]) [])
    (cond (decide ((↑info4.length : Int) > 65536))
     (κ (AV.tup [AV.nils, AV.err 3]) [])
     (cond (decide (0 < n5))
      (mmSum R keyN1 key2 ([[], info4, [1]])
       (fun v_c13 => cond (decide ((cut (some 32) 0 v_c13).length * 1 ≤ 140737488355328))
        (cond (decide ((cut (some 32) 0 v_c13).length ≤ 140737488355328))
         (jumpN (fun l => evC (g mmSum) an 0 N c_S1 (some l)) (hasL c_S1) (ctx (g mmSum) an 0 N (bodyOf Tryd.f39) [1] (endK (g mmSum) an Tryd.f39 [] κ)) (fun l => nmOf 0 (an.label l)) N 0 (s_J1_0 keyN1 key2 infoN3 info4 n5 (cut (some 32) 0 v_c13) 1 ((cut (some 32) 0 v_c13).isEmpty) (cut (some 32) 0 v_c13)))
         none)
        none))
      (cond (decide (0 ≤ n5))
       (cond (decide (n5 ≤ 0))
        (κ (AV.tup [AV.nils, AV.err 0]) [])
        none)
       none)))) := by kernel_rfl
theorem eq (mmSum : mSum.Ty) {R : Type} (N : Nat) (κ : AV → List Blk → Option R) (keyN1 : Option Bool) (key2 : List Int) (infoN3 : Option Bool) (info4 : List Int) (n5 : Int) : evF (g mmSum) an N Tryd.f39 [AV.isl IntKind.u8 keyN1 key2, AV.isl IntKind.u8 infoN3 info4, AV.int IntKind.i64 n5] [] κ =
  m mmSum N keyN1 key2 infoN3 info4 n5 (fun v => κ (AV.tup [AV.nils, AV.err v]) []) (fun vg1 b b_2 => κ (AV.tup [AV.own 0 [] 0 (some vg1), AV.err 0]) ([Blk.row IntKind.u8 b b_2])) := by
  rw [tree]
  simp only [run_J1_0]
  kernel_rfl
abbrev Ty : Type 1 := ∀ R : Type, (Option Bool) → (List Int) → (Option Bool) → (List Int) → Int → (Nat → Option R) → (Nat → Bool → (List Int) → Option R) → Option R
def con (f : Ty) : Con := fun R args bs κ => match args, bs with
  | [AV.isl IntKind.u8 keyN1 key2, AV.isl IntKind.u8 infoN3 info4, AV.int IntKind.i64 n5], [] => f R keyN1 key2 infoN3 info4 n5 (fun v => κ (AV.tup [AV.nils, AV.err v]) []) (fun vg1 b b_2 => κ (AV.tup [AV.own 0 [] 0 (some vg1), AV.err 0]) ([Blk.row IntKind.u8 b b_2]))
  | _, _ => none
theorem con_eq (f : Ty) (R : Type) (κ : AV → List Blk → Option R) (keyN1 : Option Bool) (key2 : List Int) (infoN3 : Option Bool) (info4 : List Int) (n5 : Int) : con f R [AV.isl IntKind.u8 keyN1 key2, AV.isl IntKind.u8 infoN3 info4, AV.int IntKind.i64 n5] [] κ = f R keyN1 key2 infoN3 info4 n5 (fun v => κ (AV.tup [AV.nils, AV.err v]) []) (fun vg1 b b_2 => κ (AV.tup [AV.own 0 [] 0 (some vg1), AV.err 0]) ([Blk.row IntKind.u8 b b_2])) := rfl
noncomputable def M (N : Nat) : Ty := fun R keyN1 key2 infoN3 info4 n5 kr0 kr1 => m (mSum.M N) (R := R) N keyN1 key2 infoN3 info4 n5 kr0 kr1
def gts : List (Nat × AV) := [(0, .err 1), (1, .err 3), (19, .ints .u32 64 K256)]
theorem gok (N : Nat) : GOk (g (mSum.M N)) := giD_ok hm (by intro p hp; cases hp) (gtL_ok (by decide)) (ovL_ok (by
    intro p hp
    simp only [List.mem_cons, List.not_mem_nil, or_false] at hp
    rcases hp with rfl
    · exact ⟨(mSum.ok N).gt (gtL_sub (by repeat (first | exact subG_nil _ | refine subG_cons (by kernel_rfl) ?_))) (gtL_ok (by decide)), _, Tryd.func25, by kernel_rfl, by kernel_rfl⟩
)) 1
theorem ok (N : Nat) : SoundC Tryd.prog (gtL gts) 39 (con (M N)) := by
  refine SoundC.mono (evF_ok (gok N) hm an N Tryd.func39) fun R args bs κ r h => ?_
  unfold con at h
  split at h
  · exact (eq (mSum.M N) N κ _ _ _ _ _).trans h
  · cases h
end dExpand


/-! ### Tryd.f22: dExtract -/
namespace dExtract
def an : Anns := ⟨fun i => findA i [], fun i => findA i [], false, fun _ => none, []⟩
noncomputable def g (mmSum : mSum.Ty) : Gi := giD Tryd.prog (gtL [(0, .err 1), (19, .ints .u32 64 K256)]) (fun _ => an) 0 [] (ovL [(25, mSum.con mmSum)]) 1
noncomputable def m (mmSum : mSum.Ty) {R : Type} (_N : Nat) (saltN1 : Option Bool) (salt2 : List Int) (_secretN3 : Option Bool) (secret4 : List Int) (kr0 : (List Int) → Option R) : Option R :=
  mmSum R saltN1 salt2 ([secret4])
   (fun v_c1 => kr0 v_c1)
theorem tree (mmSum : mSum.Ty) {R : Type} (N : Nat) (κ : AV → List Blk → Option R) (saltN1 : Option Bool) (salt2 : List Int) (secretN3 : Option Bool) (secret4 : List Int) : evF (g mmSum) an N Tryd.f22 [AV.isl IntKind.u8 saltN1 salt2, AV.isl IntKind.u8 secretN3 secret4] [] κ =
  mmSum R saltN1 salt2 ([secret4])
   (fun v_c1 => κ (AV.ints IntKind.u8 32 v_c1) []) := by kernel_rfl
theorem eq (mmSum : mSum.Ty) {R : Type} (N : Nat) (κ : AV → List Blk → Option R) (saltN1 : Option Bool) (salt2 : List Int) (secretN3 : Option Bool) (secret4 : List Int) : evF (g mmSum) an N Tryd.f22 [AV.isl IntKind.u8 saltN1 salt2, AV.isl IntKind.u8 secretN3 secret4] [] κ =
  m mmSum N saltN1 salt2 secretN3 secret4 (fun v => κ (AV.ints IntKind.u8 32 v) []) := by
  rw [tree]
  kernel_rfl
abbrev Ty : Type 1 := ∀ R : Type, (Option Bool) → (List Int) → (Option Bool) → (List Int) → ((List Int) → Option R) → Option R
def con (f : Ty) : Con := fun R args bs κ => match args, bs with
  | [AV.isl IntKind.u8 saltN1 salt2, AV.isl IntKind.u8 secretN3 secret4], [] => f R saltN1 salt2 secretN3 secret4 (fun v => κ (AV.ints IntKind.u8 32 v) [])
  | _, _ => none
theorem con_eq (f : Ty) (R : Type) (κ : AV → List Blk → Option R) (saltN1 : Option Bool) (salt2 : List Int) (secretN3 : Option Bool) (secret4 : List Int) : con f R [AV.isl IntKind.u8 saltN1 salt2, AV.isl IntKind.u8 secretN3 secret4] [] κ = f R saltN1 salt2 secretN3 secret4 (fun v => κ (AV.ints IntKind.u8 32 v) []) := rfl
noncomputable def M (N : Nat) : Ty := fun R saltN1 salt2 secretN3 secret4 kr0 => m (mSum.M N) (R := R) N saltN1 salt2 secretN3 secret4 kr0
def gts : List (Nat × AV) := [(0, .err 1), (19, .ints .u32 64 K256)]
theorem gok (N : Nat) : GOk (g (mSum.M N)) := giD_ok hm (by intro p hp; cases hp) (gtL_ok (by decide)) (ovL_ok (by
    intro p hp
    simp only [List.mem_cons, List.not_mem_nil, or_false] at hp
    rcases hp with rfl
    · exact ⟨(mSum.ok N).gt (gtL_sub (by repeat (first | exact subG_nil _ | refine subG_cons (by kernel_rfl) ?_))) (gtL_ok (by decide)), _, Tryd.func25, by kernel_rfl, by kernel_rfl⟩
)) 1
theorem ok (N : Nat) : SoundC Tryd.prog (gtL gts) 22 (con (M N)) := by
  refine SoundC.mono (evF_ok (gok N) hm an N Tryd.func22) fun R args bs κ r h => ?_
  unfold con at h
  split at h
  · exact (eq (mSum.M N) N κ _ _ _ _).trans h
  · cases h
end dExtract


/-! ### Tryd.f27: dLabel -/
namespace dLabel
def an : Anns := ⟨fun i => findA i [], fun i => findA i [], false, fun _ => none, []⟩
noncomputable def g (mdInfo : dInfo.Ty) (mdExpand : dExpand.Ty) : Gi := giD Tryd.prog (gtL [(0, .err 1), (1, .err 3), (19, .ints .u32 64 K256)]) (fun _ => an) 0 [] (ovL [(38, dInfo.con mdInfo), (39, dExpand.con mdExpand)]) 1
noncomputable def m (mdInfo : dInfo.Ty) (mdExpand : dExpand.Ty) {R : Type} (_N : Nat) (secret1 : List Int) (label2 : List UInt8) (contextN3 : Option Bool) (context4 : List Int) (n5 : Int) (kr0 : (Option Bool) → (List Int) → Nat → Option R) : Option R :=
  mdInfo R label2 contextN3 context4 n5
   (fun v_c10 v_1_c11 v_2_c12 => cond (!v_2_c12.beq 0)
    (kr0 (some true) [] v_2_c12)
    (mdExpand R none (cut (some 32) 0 secret1) v_c10 v_1_c11 n5
     (fun v_c13 => kr0 (some true) [] v_c13)
     (fun vg1_c14 _b_c15 b_2_c16 => kr0 none (cut (some vg1_c14) 0 b_2_c16) 0)))
theorem tree (mdInfo : dInfo.Ty) (mdExpand : dExpand.Ty) {R : Type} (N : Nat) (κ : AV → List Blk → Option R) (secret1 : List Int) (label2 : List UInt8) (contextN3 : Option Bool) (context4 : List Int) (n5 : Int) : evF (g mdInfo mdExpand) an N Tryd.f27 [AV.ints IntKind.u8 32 secret1, AV.str label2, AV.isl IntKind.u8 contextN3 context4, AV.int IntKind.i64 n5] [] κ =
  mdInfo R label2 contextN3 context4 n5
   (fun v_c10 v_1_c11 v_2_c12 => cond (!v_2_c12.beq 0)
    (κ (AV.tup [AV.isl IntKind.u8 (some true) [], AV.err v_2_c12]) [])
    (mdExpand R none (cut (some 32) 0 secret1) v_c10 v_1_c11 n5
     (fun v_c13 => κ (AV.tup [AV.isl IntKind.u8 (some true) [], AV.err v_c13]) [])
     (fun vg1_c14 _b_c15 b_2_c16 => κ (AV.tup [AV.isl IntKind.u8 none (cut (some vg1_c14) 0 b_2_c16), AV.err 0]) []))) := by kernel_rfl
theorem eq (mdInfo : dInfo.Ty) (mdExpand : dExpand.Ty) {R : Type} (N : Nat) (κ : AV → List Blk → Option R) (secret1 : List Int) (label2 : List UInt8) (contextN3 : Option Bool) (context4 : List Int) (n5 : Int) : evF (g mdInfo mdExpand) an N Tryd.f27 [AV.ints IntKind.u8 32 secret1, AV.str label2, AV.isl IntKind.u8 contextN3 context4, AV.int IntKind.i64 n5] [] κ =
  m mdInfo mdExpand N secret1 label2 contextN3 context4 n5 (fun v v_1 v_2 => κ (AV.tup [AV.isl IntKind.u8 v v_1, AV.err v_2]) []) := by
  rw [tree]
  kernel_rfl
abbrev Ty : Type 1 := ∀ R : Type, (List Int) → (List UInt8) → (Option Bool) → (List Int) → Int → ((Option Bool) → (List Int) → Nat → Option R) → Option R
def con (f : Ty) : Con := fun R args bs κ => match args, bs with
  | [AV.ints IntKind.u8 32 secret1, AV.str label2, AV.isl IntKind.u8 contextN3 context4, AV.int IntKind.i64 n5], [] => f R secret1 label2 contextN3 context4 n5 (fun v v_1 v_2 => κ (AV.tup [AV.isl IntKind.u8 v v_1, AV.err v_2]) [])
  | _, _ => none
theorem con_eq (f : Ty) (R : Type) (κ : AV → List Blk → Option R) (secret1 : List Int) (label2 : List UInt8) (contextN3 : Option Bool) (context4 : List Int) (n5 : Int) : con f R [AV.ints IntKind.u8 32 secret1, AV.str label2, AV.isl IntKind.u8 contextN3 context4, AV.int IntKind.i64 n5] [] κ = f R secret1 label2 contextN3 context4 n5 (fun v v_1 v_2 => κ (AV.tup [AV.isl IntKind.u8 v v_1, AV.err v_2]) []) := rfl
noncomputable def M (N : Nat) : Ty := fun R secret1 label2 contextN3 context4 n5 kr0 => m (dInfo.M N) (dExpand.M N) (R := R) N secret1 label2 contextN3 context4 n5 kr0
def gts : List (Nat × AV) := [(0, .err 1), (1, .err 3), (19, .ints .u32 64 K256)]
theorem gok (N : Nat) : GOk (g (dInfo.M N) (dExpand.M N)) := giD_ok hm (by intro p hp; cases hp) (gtL_ok (by decide)) (ovL_ok (by
    intro p hp
    simp only [List.mem_cons, List.not_mem_nil, or_false] at hp
    rcases hp with rfl | rfl
    · exact ⟨(dInfo.ok N).gt (gtL_sub (by repeat (first | exact subG_nil _ | refine subG_cons (by kernel_rfl) ?_))) (gtL_ok (by decide)), _, Tryd.func38, by kernel_rfl, by kernel_rfl⟩
    · exact ⟨(dExpand.ok N).gt (gtL_sub (by repeat (first | exact subG_nil _ | refine subG_cons (by kernel_rfl) ?_))) (gtL_ok (by decide)), _, Tryd.func39, by kernel_rfl, by kernel_rfl⟩
)) 1
theorem ok (N : Nat) : SoundC Tryd.prog (gtL gts) 27 (con (M N)) := by
  refine SoundC.mono (evF_ok (gok N) hm an N Tryd.func27) fun R args bs κ r h => ?_
  unfold con at h
  split at h
  · exact (eq (dInfo.M N) (dExpand.M N) N κ _ _ _ _ _).trans h
  · cases h
end dLabel

end Go.Proofs.YtjaekdcbjfgcpaaDoor.fn
