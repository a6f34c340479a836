/- What the codes' functions compute, with the proof; printed by a program. -/
import Derived.Test.YtjaekdcbjfgcpaaDoorProg
import Derived.Test.YtjaekdcbjfgcpaaDoorEv4
import Derived.Test.YtjaekdcbjfgcpaaDoorFnSha
import Derived.Test.YtjaekdcbjfgcpaaDoorFnWords
namespace Go.Proofs.YtjaekdcbjfgcpaaDoor.fn
open Go Go.Proofs Go.Ev

/-! ### Tryd.f36: mpadded -/
namespace mpadded
def an : Anns := ⟨fun i => findA i [(7, ⟨[1, 5, 20, 21], [⟨5, 0, T.int IntKind.u8, none⟩], 1, []⟩)], fun i => findA i [], true, fun _ => none, []⟩
noncomputable def g (msSum : sSum.Ty) : Gi := giD Tryd.prog (gtL [(0, .err 1), (19, .ints .u32 64 K256)]) (fun _ => an) 0 [] (ovL [(26, sSum.con msSum)]) 1
noncomputable def c_L7 : Code := loopOf Tryd.f36 0
def s_L7 (by1 : Int) (t20 : Int) (t21 : Int) (h0 : List Int) : St := ⟨[AV.dead, AV.int IntKind.u8 by1, AV.dead, AV.dead, AV.dead, AV.own 0 [] 0 none] ++ List.replicate 14 .dead ++ [AV.int IntKind.i64 t20, AV.int IntKind.i64 t21] ++ List.replicate 11 .dead, [Blk.row IntKind.u8 false h0]⟩
def x_L7_0 (by1 : Int) (t20 : Int) (t21 : Int) (h0 : List Int) : St := ⟨[AV.dead, AV.int IntKind.u8 by1, AV.dead, AV.dead, AV.dead, AV.own 0 [] 0 none] ++ List.replicate 14 .dead ++ [AV.int IntKind.i64 t20, AV.int IntKind.i64 t21, AV.bool (decide (t21 < t20))] ++ List.replicate 10 .dead, [Blk.row IntKind.u8 false h0]⟩
noncomputable def L7 (msSum : sSum.Ty) {R : Type} (N : Nat) (ke0 : Int → Int → Int → (List Int) → Option R) : Nat → Int → Int → Int → (List Int) → Option R
  | 0, _, _, _, _ => none
  | m + 1, by1, t20, t21, h0 =>
    cond (decide (t21 < t20))
     (cond (decide (0 ≤ t21))
      (cond (decide (t21 < (↑(olen none h0.length 0) : Int)))
       (cond (decide (0 ≤ t21))
        (cond (decide (t21 < (↑(olen none h0.length 0) : Int)))
         (L7 msSum N ke0 m by1 t20 (IntKind.i64.wrap (t21 + 1)) (h0.set (0 + t21.toNat) (ixor IntKind.u8 (h0.getD (0 + t21.toNat) 0) by1)))
         none)
        none)
       none)
      none)
     (ke0 by1 t20 t21 h0)
theorem round_L7 (msSum : sSum.Ty) {R : Type} (N : Nat) (Rn : St → Option R) (k : K R) (by1 : Int) (t20 : Int) (t21 : Int) (h0 : List Int) : evC (g msSum) an 0 N c_L7 none (roundK (nmOf 0 (an.loop 7)) Rn k) (s_L7 by1 t20 t21 h0) =
  cond (decide (t21 < t20))
   (cond (decide (0 ≤ t21))
    (cond (decide (t21 < (↑(olen none h0.length 0) : Int)))
     (cond (decide (0 ≤ t21))
      (cond (decide (t21 < (↑(olen none h0.length 0) : Int)))
       (Rn (s_L7 by1 t20 (IntKind.i64.wrap (t21 + 1)) (h0.set (0 + t21.toNat) (ixor IntKind.u8 (h0.getD (0 + t21.toNat) 0) by1))))
       none)
      none)
     none)
    none)
   (k.ext 0 (x_L7_0 by1 t20 t21 h0)) := by kernel_rfl
theorem run_L7 (msSum : sSum.Ty) {R : Type} (N : Nat) (k : K R) : ∀ (m : Nat) (by1 : Int) (t20 : Int) (t21 : Int) (h0 : List Int), loopN (evC (g msSum) an 0 N c_L7 none) k (nmOf 0 (an.loop 7)) m (s_L7 by1 t20 t21 h0) =
    L7 msSum N (fun by1 t20 t21 h0 => (k).ext 0 (x_L7_0 by1 t20 t21 h0)) m by1 t20 t21 h0 := by
  intro m
  induction m with
  | zero => intros; rfl
  | succ m ih =>
    intros
    rw [loopN_succ, round_L7]
    simp only [ih]
    kernel_rfl
noncomputable def m (msSum : sSum.Ty) {R : Type} (N : Nat) (_keyN1 : Option Bool) (key2 : List Int) (by3 : Int) (kr0 : (List Int) → Option R) : Option R :=
  cond (decide ((↑key2.length : Int) > 64))
   (msSum R ([key2])
    (fun v_c6 => L7 msSum N
     (fun _by1_c7 _t20_c8 _t21_c9 h0_c10 => kr0 h0_c10) N by3 ((↑(olen none ([] ++ (List.take (min (cut (some 32) 0 v_c6).length 64) (cut (some 32) 0 v_c6) ++ List.drop (0 + min (cut (some 32) 0 v_c6).length 64) [0, 0, 0, 0, 0, 0, 0, 0, 0, 0, 0, 0, 0, 0, 0, 0, 0, 0, 0, 0, 0, 0, 0, 0, 0, 0, 0, 0, 0, 0, 0, 0, 0, 0, 0, 0, 0, 0, 0, 0, 0, 0, 0, 0, 0, 0, 0, 0, 0, 0, 0, 0, 0, 0, 0, 0, 0, 0, 0, 0, 0, 0, 0, 0])).length 0) : Int)) 0 ([] ++ (List.take (min (cut (some 32) 0 v_c6).length 64) (cut (some 32) 0 v_c6) ++ List.drop (0 + min (cut (some 32) 0 v_c6).length 64) [0, 0, 0, 0, 0, 0, 0, 0, 0, 0, 0, 0, 0, 0, 0, 0, 0, 0, 0, 0, 0, 0, 0, 0, 0, 0, 0, 0, 0, 0, 0, 0, 0, 0, 0, 0, 0, 0, 0, 0, 0, 0, 0, 0, 0, 0, 0, 0, 0, 0, 0, 0, 0, 0, 0, 0, 0, 0, 0, 0, 0, 0, 0, 0]))))
   (L7 msSum N
    (fun _by1_c11 _t20_c12 _t21_c13 h0_c14 => kr0 h0_c14) N by3 ((↑(olen none ([] ++ (List.take (min key2.length 64) key2 ++ List.drop (0 + min key2.length 64) [0, 0, 0, 0, 0, 0, 0, 0, 0, 0, 0, 0, 0, 0, 0, 0, 0, 0, 0, 0, 0, 0, 0, 0, 0, 0, 0, 0, 0, 0, 0, 0, 0, 0, 0, 0, 0, 0, 0, 0, 0, 0, 0, 0, 0, 0, 0, 0, 0, 0, 0, 0, 0, 0, 0, 0, 0, 0, 0, 0, 0, 0, 0, 0])).length 0) : Int)) 0 ([] ++ (List.take (min key2.length 64) key2 ++ List.drop (0 + min key2.length 64) [0, 0, 0, 0, 0, 0, 0, 0, 0, 0, 0, 0, 0, 0, 0, 0, 0, 0, 0, 0, 0, 0, 0, 0, 0, 0, 0, 0, 0, 0, 0, 0, 0, 0, 0, 0, 0, 0, 0, 0, 0, 0, 0, 0, 0, 0, 0, 0, 0, 0, 0, 0, 0, 0, 0, 0, 0, 0, 0, 0, 0, 0, 0, 0])))
theorem tree (msSum : sSum.Ty) {R : Type} (N : Nat) (κ : AV → List Blk → Option R) (keyN1 : Option Bool) (key2 : List Int) (by3 : Int) : evF (g msSum) an N Tryd.f36 [AV.isl IntKind.u8 keyN1 key2, AV.int IntKind.u8 by3] [] κ =
  cond (decide ((↑key2.length : Int) > 64))
   (msSum R ([key2])
    (fun v_c6 => loopN (evC (g msSum) an 0 N c_L7 none) (ctx (g msSum) an 0 N (bodyOf Tryd.f36) [1, 1, 1, 1, 0, 1, 0] (endK (g msSum) an Tryd.f36 [] κ)) (nmOf 0 (an.loop 7)) N (s_L7 by3 ((↑(olen none ([] ++ (List.take (min (cut (some 32) 0 v_c6).length 64) (cut (some 32) 0 v_c6) ++ List.drop (0 + min (cut (some 32) 0 v_c6).length 64) [0, 0, 0, 0, 0, 0, 0, 0, 0, 0, 0, 0, 0, 0, 0, 0, 0, 0, 0, 0, 0, 0, 0, 0, 0, 0, 0, 0, 0, 0, 0, 0, 0, 0, 0, 0, 0, 0, 0, 0, 0, 0, 0, 0, 0, 0, 0, 0, 0, 0, 0, 0, 0, 0, 0, 0, 0, 0, 0, 0, 0, 0, 0, 0])).length 0) : Int)) 0 ([] ++ (List.take (min (cut (some 32) 0 v_c6).length 64) (cut (some 32) 0 v_c6) ++ List.drop (0 + min (cut (some 32) 0 v_c6).length 64) [0, 0, 0, 0, 0, 0, 0, 0, 0, 0, 0, 0, 0, 0, 0, 0, 0, 0, 0, 0, 0, 0, 0, 0, 0, 0, 0, 0, 0, 0, 0, 0, 0, 0, 0, 0, 0, 0, 0, 0, 0, 0, 0, 0, 0, 0, 0, 0, 0, 0, 0, 0, 0, 0, 0, 0, 0, 0, 0, 0, 0, 0, 0, 0])))))
   (loopN (evC (g msSum) an 0 N c_L7 none) (ctx (g msSum) an 0 N (bodyOf Tryd.f36) [1, 1, 1, 1, 0, 1, 0] (endK (g msSum) an Tryd.f36 [] κ)) (nmOf 0 (an.loop 7)) N (s_L7 by3 ((↑(olen none ([] ++ (List.take (min key2.length 64) key2 ++ List.drop (0 + min key2.length 64) [0, 0, 0, 0, 0, 0, 0, 0, 0, 0, 0, 0, 0, 0, 0, 0, 0, 0, 0, 0, 0, 0, 0, 0, 0, 0, 0, 0, 0, 0, 0, 0, 0, 0, 0, 0, 0, 0, 0, 0, 0, 0, 0, 0, 0, 0, 0, 0, 0, 0, 0, 0, 0, 0, 0, 0, 0, 0, 0, 0, 0, 0, 0, 0])).length 0) : Int)) 0 ([] ++ (List.take (min key2.length 64) key2 ++ List.drop (0 + min key2.length 64) [0, 0, 0, 0, 0, 0, 0, 0, 0, 0, 0, 0, 0, 0, 0, 0, 0, 0, 0, 0, 0, 0, 0, 0, 0, 0, 0, 0, 0, 0, 0, 0, 0, 0, 0, 0, 0, 0, 0, 0, 0, 0, 0, 0, 0, 0, 0, 0, 0, 0, 0, 0, 0, 0, 0, 0, 0, 0, 0, 0, 0, 0, 0, 0])))) := by kernel_rfl
theorem eq (msSum : sSum.Ty) {R : Type} (N : Nat) (κ : AV → List Blk → Option R) (keyN1 : Option Bool) (key2 : List Int) (by3 : Int) : evF (g msSum) an N Tryd.f36 [AV.isl IntKind.u8 keyN1 key2, AV.int IntKind.u8 by3] [] κ =
  m msSum N keyN1 key2 by3 (fun b => κ (AV.own 0 [] 0 none) ([Blk.row IntKind.u8 false b])) := by
  rw [tree]
  simp only [run_L7]
  kernel_rfl
abbrev Ty : Type 1 := ∀ R : Type, (Option Bool) → (List Int) → Int → ((List Int) → Option R) → Option R
def con (f : Ty) : Con := fun R args bs κ => match args, bs with
  | [AV.isl IntKind.u8 keyN1 key2, AV.int IntKind.u8 by3], [] => f R keyN1 key2 by3 (fun b => κ (AV.own 0 [] 0 none) ([Blk.row IntKind.u8 false b]))
  | _, _ => none
theorem con_eq (f : Ty) (R : Type) (κ : AV → List Blk → Option R) (keyN1 : Option Bool) (key2 : List Int) (by3 : Int) : con f R [AV.isl IntKind.u8 keyN1 key2, AV.int IntKind.u8 by3] [] κ = f R keyN1 key2 by3 (fun b => κ (AV.own 0 [] 0 none) ([Blk.row IntKind.u8 false b])) := rfl
noncomputable def M (N : Nat) : Ty := fun R keyN1 key2 by3 kr0 => m (sSum.M N) (R := R) N keyN1 key2 by3 kr0
def gts : List (Nat × AV) := [(0, .err 1), (19, .ints .u32 64 K256)]
theorem gok (N : Nat) : GOk (g (sSum.M N)) := giD_ok hm (by intro p hp; cases hp) (gtL_ok (by decide)) (ovL_ok (by
    intro p hp
    simp only [List.mem_cons, List.not_mem_nil, or_false] at hp
    rcases hp with rfl
    · exact ⟨(sSum.ok N).gt (gtL_sub (by repeat (first | exact subG_nil _ | refine subG_cons (by kernel_rfl) ?_))) (gtL_ok (by decide)), _, Tryd.func26, by kernel_rfl, by kernel_rfl⟩
)) 1
theorem ok (N : Nat) : SoundC Tryd.prog (gtL gts) 36 (con (M N)) := by
  refine SoundC.mono (evF_ok (gok N) hm an N Tryd.func36) fun R args bs κ r h => ?_
  unfold con at h
  split at h
  · exact (eq (sSum.M N) N κ _ _ _).trans h
  · cases h
end mpadded


/-! ### Tryd.f25: mSum -/
namespace mSum
def an : Anns := ⟨fun i => findA i [(4, ⟨[0, 4, 5, 14, 15, 16], [⟨4, 0, T.int IntKind.u8, none⟩, ⟨5, 1, T.int IntKind.u8, none⟩, ⟨5, 2, T.int IntKind.u8, some [1]⟩], 3, []⟩)], fun i => findA i [], false, fun _ => none, []⟩
noncomputable def g (mNew : New.Ty) (mmpadded : mpadded.Ty) (mWrite : Write.Ty) (mhSum : hSum.Ty) (msSum : sSum.Ty) : Gi := giD Tryd.prog (gtL [(0, .err 1), (19, .ints .u32 64 K256)]) (fun _ => an) 0 [] (ovL [(34, New.con mNew), (36, mpadded.con mmpadded), (35, Write.con mWrite), (37, hSum.con mhSum), (26, sSum.con msSum)]) 1
noncomputable def c_L4 : Code := loopOf Tryd.f25 0
def s_L4 (key0 : Option Bool) (key0_1 : List Int) (t14 : List (List Int)) (t15 : Int) (t16 : Int) (h1 : List Int) (h1_6 : Nat) (h1_7 : Option Nat) (h1_8 : Int) (h2 : Bool) (h2_10 : List Int) : St := ⟨[AV.isl IntKind.u8 key0 key0_1, AV.dead, AV.dead, AV.dead, AV.ptr 0 [], AV.ptr 1 []] ++ List.replicate 8 .dead ++ [AV.rsl IntKind.u8 t14, AV.int IntKind.i64 t15, AV.int IntKind.i64 t16] ++ List.replicate 14 .dead, [Blk.var (AV.ints IntKind.u8 32 [0, 0, 0, 0, 0, 0, 0, 0, 0, 0, 0, 0, 0, 0, 0, 0, 0, 0, 0, 0, 0, 0, 0, 0, 0, 0, 0, 0, 0, 0, 0, 0]), Blk.var (AV.agg [AV.ints IntKind.u32 8 h1, AV.own 2 [] h1_6 h1_7, AV.int IntKind.u64 h1_8]), Blk.row IntKind.u8 h2 h2_10]⟩
def x_L4_0 (key0 : Option Bool) (key0_1 : List Int) (t14 : List (List Int)) (t15 : Int) (t16 : Int) (h1 : List Int) (h1_6 : Nat) (h1_7 : Option Nat) (h1_8 : Int) (h2 : Bool) (h2_10 : List Int) : St := ⟨[AV.isl IntKind.u8 key0 key0_1, AV.dead, AV.dead, AV.dead, AV.ptr 0 [], AV.ptr 1 []] ++ List.replicate 8 .dead ++ [AV.rsl IntKind.u8 t14, AV.int IntKind.i64 t15, AV.int IntKind.i64 t16, AV.bool (decide (t16 < t15))] ++ List.replicate 13 .dead, [Blk.var (AV.ints IntKind.u8 32 [0, 0, 0, 0, 0, 0, 0, 0, 0, 0, 0, 0, 0, 0, 0, 0, 0, 0, 0, 0, 0, 0, 0, 0, 0, 0, 0, 0, 0, 0, 0, 0]), Blk.var (AV.agg [AV.ints IntKind.u32 8 h1, AV.own 2 [] h1_6 h1_7, AV.int IntKind.u64 h1_8]), Blk.row IntKind.u8 h2 h2_10]⟩
noncomputable def L4 (mNew : New.Ty) (mmpadded : mpadded.Ty) (mWrite : Write.Ty) (mhSum : hSum.Ty) (msSum : sSum.Ty) {R : Type} (N : Nat) (ke0 : (Option Bool) → (List Int) → (List (List Int)) → Int → Int → (List Int) → Nat → (Option Nat) → Int → Bool → (List Int) → Option R) : Nat → (Option Bool) → (List Int) → (List (List Int)) → Int → Int → (List Int) → Nat → (Option Nat) → Int → Bool → (List Int) → Option R
  | 0, _, _, _, _, _, _, _, _, _, _, _ => none
  | m + 1, key0, key0_1, t14, t15, t16, h1, h1_6, h1_7, h1_8, h2, h2_10 =>
    cond (decide (t16 < t15))
     (cond (decide (0 ≤ t16))
      (cond (decide (t16 < (↑t14.length : Int)))
       (mWrite R h1 h1_6 h1_7 h2 h2_10 h1_8 none (t14.getD t16.toNat [])
        (fun b_c53 b_1_c54 b_2_c55 b_3_c56 b_4_c57 b_5_c58 => L4 mNew mmpadded mWrite mhSum msSum N ke0 m key0 key0_1 t14 t15 (IntKind.i64.wrap (t16 + 1)) b_c53 b_1_c54 b_2_c55 b_3_c56 b_4_c57 b_5_c58))
       none)
      none)
     (ke0 key0 key0_1 t14 t15 t16 h1 h1_6 h1_7 h1_8 h2 h2_10)
theorem round_L4 (mNew : New.Ty) (mmpadded : mpadded.Ty) (mWrite : Write.Ty) (mhSum : hSum.Ty) (msSum : sSum.Ty) {R : Type} (N : Nat) (Rn : St → Option R) (k : K R) (key0 : Option Bool) (key0_1 : List Int) (t14 : List (List Int)) (t15 : Int) (t16 : Int) (h1 : List Int) (h1_6 : Nat) (h1_7 : Option Nat) (h1_8 : Int) (h2 : Bool) (h2_10 : List Int) : evC (g mNew mmpadded mWrite mhSum msSum) an 0 N c_L4 none (roundK (nmOf 0 (an.loop 4)) Rn k) (s_L4 key0 key0_1 t14 t15 t16 h1 h1_6 h1_7 h1_8 h2 h2_10) =
  cond (decide (t16 < t15))
   (cond (decide (0 ≤ t16))
    (cond (decide (t16 < (↑t14.length : Int)))
     (mWrite R h1 h1_6 h1_7 h2 h2_10 h1_8 none (t14.getD t16.toNat [])
      (fun b_c53 b_1_c54 b_2_c55 b_3_c56 b_4_c57 b_5_c58 => Rn (s_L4 key0 key0_1 t14 t15 (IntKind.i64.wrap (t16 + 1)) b_c53 b_1_c54 b_2_c55 b_3_c56 b_4_c57 b_5_c58)))
     none)
    none)
   (k.ext 0 (x_L4_0 key0 key0_1 t14 t15 t16 h1 h1_6 h1_7 h1_8 h2 h2_10)) := by kernel_rfl
theorem run_L4 (mNew : New.Ty) (mmpadded : mpadded.Ty) (mWrite : Write.Ty) (mhSum : hSum.Ty) (msSum : sSum.Ty) {R : Type} (N : Nat) (k : K R) : ∀ (m : Nat) (key0 : Option Bool) (key0_1 : List Int) (t14 : List (List Int)) (t15 : Int) (t16 : Int) (h1 : List Int) (h1_6 : Nat) (h1_7 : Option Nat) (h1_8 : Int) (h2 : Bool) (h2_10 : List Int), loopN (evC (g mNew mmpadded mWrite mhSum msSum) an 0 N c_L4 none) k (nmOf 0 (an.loop 4)) m (s_L4 key0 key0_1 t14 t15 t16 h1 h1_6 h1_7 h1_8 h2 h2_10) =
    L4 mNew mmpadded mWrite mhSum msSum N (fun key0 key0_1 t14 t15 t16 h1 h1_6 h1_7 h1_8 h2 h2_10 => (k).ext 0 (x_L4_0 key0 key0_1 t14 t15 t16 h1 h1_6 h1_7 h1_8 h2 h2_10)) m key0 key0_1 t14 t15 t16 h1 h1_6 h1_7 h1_8 h2 h2_10 := by
  intro m
  induction m with
  | zero => intros; rfl
  | succ m ih =>
    intros
    rw [loopN_succ, round_L4]
    simp only [ih]
    kernel_rfl
noncomputable def m (mNew : New.Ty) (mmpadded : mpadded.Ty) (mWrite : Write.Ty) (mhSum : hSum.Ty) (msSum : sSum.Ty) {R : Type} (N : Nat) (keyN1 : Option Bool) (key2 : List Int) (parts3 : List (List Int)) (kr0 : (List Int) → Option R) : Option R :=
  mNew R
   (mmpadded R keyN1 key2 54
    (fun b_c46 => mWrite R ([1779033703, 3144134277, 1013904242, 2773480762, 1359893119, 2600822924, 528734635, 1541459225]) 0 none true [] 0 none b_c46
     (fun b_c47 b_1_c48 b_2_c49 b_3_c50 b_4_c51 b_5_c52 => L4 mNew mmpadded mWrite mhSum msSum N
      (fun key0_c59 key0_1_c60 _t14_c61 _t15_c62 _t16_c63 h1_c64 h1_6_c65 h1_7_c66 h1_8_c67 h2_c68 h2_10_c69 => mhSum R h1_c64 h1_6_c65 h1_7_c66 h2_c68 h2_10_c69 h1_8_c67
       (fun v_c70 _b_c71 _b_2_c72 _b_3_c73 _b_4_c74 _b_5_c75 _b_6_c76 => mmpadded R key0_c59 key0_1_c60 92
        (fun b_c77 => msSum R ([b_c77, cut (some 32) 0 v_c70])
         (fun v_c78 => kr0 v_c78)))) N keyN1 key2 parts3 ((↑parts3.length : Int)) 0 b_c47 b_1_c48 b_2_c49 b_3_c50 b_4_c51 b_5_c52)))
theorem tree (mNew : New.Ty) (mmpadded : mpadded.Ty) (mWrite : Write.Ty) (mhSum : hSum.Ty) (msSum : sSum.Ty) {R : Type} (N : Nat) (κ : AV → List Blk → Option R) (keyN1 : Option Bool) (key2 : List Int) (parts3 : List (List Int)) : evF (g mNew mmpadded mWrite mhSum msSum) an N Tryd.f25 [AV.isl IntKind.u8 keyN1 key2, AV.rsl IntKind.u8 parts3] [] κ =
  mNew R
   (mmpadded R keyN1 key2 54
    (fun b_c46 => mWrite R ([1779033703, 3144134277, 1013904242, 2773480762, 1359893119, 2600822924, 528734635, 1541459225]) 0 none true [] 0 none b_c46
     (fun b_c47 b_1_c48 b_2_c49 b_3_c50 b_4_c51 b_5_c52 => loopN (evC (g mNew mmpadded mWrite mhSum msSum) an 0 N c_L4 none) (ctx (g mNew mmpadded mWrite mhSum msSum) an 0 N (bodyOf Tryd.f25) [1, 1, 1, 0, 1, 0] (endK (g mNew mmpadded mWrite mhSum msSum) an Tryd.f25 [] κ)) (nmOf 0 (an.loop 4)) N (s_L4 keyN1 key2 parts3 ((↑parts3.length : Int)) 0 b_c47 b_1_c48 b_2_c49 b_3_c50 b_4_c51 b_5_c52)))) := by kernel_rfl
theorem eq (mNew : New.Ty) (mmpadded : mpadded.Ty) (mWrite : Write.Ty) (mhSum : hSum.Ty) (msSum : sSum.Ty) {R : Type} (N : Nat) (κ : AV → List Blk → Option R) (keyN1 : Option Bool) (key2 : List Int) (parts3 : List (List Int)) : evF (g mNew mmpadded mWrite mhSum msSum) an N Tryd.f25 [AV.isl IntKind.u8 keyN1 key2, AV.rsl IntKind.u8 parts3] [] κ =
  m mNew mmpadded mWrite mhSum msSum N keyN1 key2 parts3 (fun v => κ (AV.ints IntKind.u8 32 v) []) := by
  rw [tree]
  simp only [run_L4]
  kernel_rfl
abbrev Ty : Type 1 := ∀ R : Type, (Option Bool) → (List Int) → (List (List Int)) → ((List Int) → Option R) → Option R
def con (f : Ty) : Con := fun R args bs κ => match args, bs with
  | [AV.isl IntKind.u8 keyN1 key2, AV.rsl IntKind.u8 parts3], [] => f R keyN1 key2 parts3 (fun v => κ (AV.ints IntKind.u8 32 v) [])
  | _, _ => none
theorem con_eq (f : Ty) (R : Type) (κ : AV → List Blk → Option R) (keyN1 : Option Bool) (key2 : List Int) (parts3 : List (List Int)) : con f R [AV.isl IntKind.u8 keyN1 key2, AV.rsl IntKind.u8 parts3] [] κ = f R keyN1 key2 parts3 (fun v => κ (AV.ints IntKind.u8 32 v) []) := rfl
noncomputable def M (N : Nat) : Ty := fun R keyN1 key2 parts3 kr0 => m (New.M N) (mpadded.M N) (Write.M N) (hSum.M N) (sSum.M N) (R := R) N keyN1 key2 parts3 kr0
def gts : List (Nat × AV) := [(0, .err 1), (19, .ints .u32 64 K256)]
theorem gok (N : Nat) : GOk (g (New.M N) (mpadded.M N) (Write.M N) (hSum.M N) (sSum.M N)) := giD_ok hm (by intro p hp; cases hp) (gtL_ok (by decide)) (ovL_ok (by
    intro p hp
    simp only [List.mem_cons, List.not_mem_nil, or_false] at hp
    rcases hp with rfl | rfl | rfl | rfl | rfl
    · exact ⟨(New.ok N).gt (gtL_sub (by repeat (first | exact subG_nil _ | refine subG_cons (by kernel_rfl) ?_))) (gtL_ok (by decide)), _, Tryd.func34, by kernel_rfl, by kernel_rfl⟩
    · exact ⟨(mpadded.ok N).gt (gtL_sub (by repeat (first | exact subG_nil _ | refine subG_cons (by kernel_rfl) ?_))) (gtL_ok (by decide)), _, Tryd.func36, by kernel_rfl, by kernel_rfl⟩
    · exact ⟨(Write.ok N).gt (gtL_sub (by repeat (first | exact subG_nil _ | refine subG_cons (by kernel_rfl) ?_))) (gtL_ok (by decide)), _, Tryd.func35, by kernel_rfl, by kernel_rfl⟩
    · exact ⟨(hSum.ok N).gt (gtL_sub (by repeat (first | exact subG_nil _ | refine subG_cons (by kernel_rfl) ?_))) (gtL_ok (by decide)), _, Tryd.func37, by kernel_rfl, by kernel_rfl⟩
    · exact ⟨(sSum.ok N).gt (gtL_sub (by repeat (first | exact subG_nil _ | refine subG_cons (by kernel_rfl) ?_))) (gtL_ok (by decide)), _, Tryd.func26, by kernel_rfl, by kernel_rfl⟩
)) 1
theorem ok (N : Nat) : SoundC Tryd.prog (gtL gts) 25 (con (M N)) := by
  refine SoundC.mono (evF_ok (gok N) hm an N Tryd.func25) fun R args bs κ r h => ?_
  unfold con at h
  split at h
  · exact (eq (New.M N) (mpadded.M N) (Write.M N) (hSum.M N) (sSum.M N) N κ _ _ _).trans h
  · cases h
end mSum

end Go.Proofs.YtjaekdcbjfgcpaaDoor.fn
