/- What the references of rows of texts are, with the proof; printed by a program. -/
import Derived.Test.YthajoenmfppenaaDoorProg
import Derived.Test.YthajoenmfppenaaDoorEv4
import Derived.Test.YthajoenmfppenaaDoorFnWords
namespace Go.Proofs.YthajoenmfppenaaDoor.fn
open Go Go.Proofs Go.Ev
/-! ### Tryd.f108: rRow -/
namespace rRow
def an : Anns := ⟨fun i => findA i [(5, ⟨[4, 15, 16, 17], [⟨4, 0, T.int IntKind.u8, none⟩], 1, []⟩)], fun i => findA i [], false, fun _ => none, []⟩
noncomputable def g : Gi := giD Tryd.prog (gtL []) (fun _ => an) 0 [] (ovL []) 1
noncomputable def c_L5 : Code := loopOf Tryd.f108 0
def s_L5 (t15 : List (List Int)) (t16 : Int) (t17 : Int) (h0 : Bool) (h0_4 : List Int) : St := ⟨List.replicate 4 .dead ++ [AV.own 0 [] 0 none] ++ List.replicate 10 .dead ++ [AV.rsl IntKind.u8 t15, AV.int IntKind.i64 t16, AV.int IntKind.i64 t17] ++ List.replicate 37 .dead, [Blk.row IntKind.u8 h0 h0_4]⟩
def x_L5_0 (t15 : List (List Int)) (t16 : Int) (t17 : Int) (h0 : Bool) (h0_4 : List Int) : St := ⟨[AV.dead, AV.dead, AV.nils, AV.int IntKind.i64 3, AV.own 0 [] 0 none, AV.dead, AV.isl IntKind.u8 none (t15.getD t17.toNat []), AV.int IntKind.i64 (↑(t15.getD t17.toNat []).length : Int)] ++ List.replicate 7 .dead ++ [AV.rsl IntKind.u8 t15, AV.int IntKind.i64 t16, AV.int IntKind.i64 t17, AV.bool (decide (t17 < t16)), AV.rps IntKind.u8 (t15.getD t17.toNat []), AV.isl IntKind.u8 none (t15.getD t17.toNat []), AV.isl IntKind.u8 none (t15.getD t17.toNat []), AV.int IntKind.i64 (↑(t15.getD t17.toNat []).length : Int), AV.int IntKind.i64 (↑(t15.getD t17.toNat []).length : Int), AV.bool (decide ((↑(t15.getD t17.toNat []).length : Int) > 65536)), AV.bool true] ++ List.replicate 6 und ++ [AV.bool true] ++ List.replicate 22 .dead, [Blk.row IntKind.u8 h0 h0_4]⟩
def x_L5_1 (t15 : List (List Int)) (t16 : Int) (t17 : Int) (h0 : Bool) (h0_4 : List Int) : St := ⟨[AV.dead, AV.dead, AV.nils, AV.int IntKind.i64 3, AV.own 0 [] 0 none, AV.dead, AV.isl IntKind.u8 none (t15.getD t17.toNat []), AV.int IntKind.i64 (↑(t15.getD t17.toNat []).length : Int)] ++ List.replicate 7 .dead ++ [AV.rsl IntKind.u8 t15, AV.int IntKind.i64 t16, AV.int IntKind.i64 t17, AV.bool (decide (t17 < t16)), AV.rps IntKind.u8 (t15.getD t17.toNat []), AV.isl IntKind.u8 none (t15.getD t17.toNat []), AV.isl IntKind.u8 none (t15.getD t17.toNat []), AV.int IntKind.i64 (↑(t15.getD t17.toNat []).length : Int), AV.int IntKind.i64 (↑(t15.getD t17.toNat []).length : Int), AV.bool (decide ((↑(t15.getD t17.toNat []).length : Int) > 65536)), AV.bool false, AV.own 0 [] 0 none, AV.int IntKind.i64 (↑(olen none h0_4.length 0) : Int), AV.int IntKind.i64 (IntKind.i64.wrap ((↑(olen none h0_4.length 0) : Int) + 4)), AV.int IntKind.i64 (↑(t15.getD t17.toNat []).length : Int), AV.int IntKind.i64 (IntKind.i64.wrap (IntKind.i64.wrap ((↑(olen none h0_4.length 0) : Int) + 4) + (↑(t15.getD t17.toNat []).length : Int))), AV.bool (decide (IntKind.i64.wrap (IntKind.i64.wrap ((↑(olen none h0_4.length 0) : Int) + 4) + (↑(t15.getD t17.toNat []).length : Int)) > 65536)), AV.bool (decide (IntKind.i64.wrap (IntKind.i64.wrap ((↑(olen none h0_4.length 0) : Int) + 4) + (↑(t15.getD t17.toNat []).length : Int)) > 65536))] ++ List.replicate 22 .dead, [Blk.row IntKind.u8 h0 h0_4]⟩
def x_L5_2 (t15 : List (List Int)) (t16 : Int) (t17 : Int) (h0 : Bool) (h0_4 : List Int) : St := ⟨List.replicate 4 .dead ++ [AV.own 0 [] 0 none] ++ List.replicate 10 .dead ++ [AV.rsl IntKind.u8 t15, AV.int IntKind.i64 t16, AV.int IntKind.i64 t17, AV.bool (decide (t17 < t16))] ++ List.replicate 36 .dead, [Blk.row IntKind.u8 h0 h0_4]⟩
noncomputable def L5 {R : Type} (N : Nat) (ke0 : (List (List Int)) → Int → Int → Bool → (List Int) → Option R) (ke1 : (List (List Int)) → Int → Int → Bool → (List Int) → Option R) (ke2 : (List (List Int)) → Int → Int → Bool → (List Int) → Option R) : Nat → (List (List Int)) → Int → Int → Bool → (List Int) → Option R
  | 0, _, _, _, _, _ => none
  | m + 1, t15, t16, t17, h0, h0_4 =>
    cond (decide (t17 < t16))
     (cond (decide (0 ≤ t17))
      (cond (decide (t17 < (↑t15.length : Int)))
       (cond (decide ((↑(t15.getD t17.toNat []).length : Int) > 65536))
        (ke0 t15 t16 t17 h0 h0_4)
        (cond (decide (IntKind.i64.wrap (IntKind.i64.wrap ((↑(olen none h0_4.length 0) : Int) + 4) + (↑(t15.getD t17.toNat []).length : Int)) > 65536))
         (ke1 t15 t16 t17 h0 h0_4)
         (cond (decide ((h0_4.length + 4) * 1 ≤ 140737488355328))
          (cond (decide (h0_4.length + 4 ≤ 140737488355328))
           (cond (decide (((cut none 0 (h0_4 ++ [IntKind.u8.wrap (IntKind.i64.wrap ((↑(t15.getD t17.toNat []).length : Int).tdiv 16777216)), IntKind.u8.wrap ((IntKind.i64.wrap ((↑(t15.getD t17.toNat []).length : Int).tdiv 65536)).tmod 256), IntKind.u8.wrap ((IntKind.i64.wrap ((↑(t15.getD t17.toNat []).length : Int).tdiv 256)).tmod 256), IntKind.u8.wrap ((↑(t15.getD t17.toNat []).length : Int).tmod 256)])).length + (t15.getD t17.toNat []).length) * 1 ≤ 140737488355328))
            (cond (decide ((cut none 0 (h0_4 ++ [IntKind.u8.wrap (IntKind.i64.wrap ((↑(t15.getD t17.toNat []).length : Int).tdiv 16777216)), IntKind.u8.wrap ((IntKind.i64.wrap ((↑(t15.getD t17.toNat []).length : Int).tdiv 65536)).tmod 256), IntKind.u8.wrap ((IntKind.i64.wrap ((↑(t15.getD t17.toNat []).length : Int).tdiv 256)).tmod 256), IntKind.u8.wrap ((↑(t15.getD t17.toNat []).length : Int).tmod 256)])).length + (t15.getD t17.toNat []).length ≤ 140737488355328))
             (L5 N ke0 ke1 ke2 m t15 t16 (IntKind.i64.wrap (t17 + 1)) ((t15.getD t17.toNat []).isEmpty && false) (cut none 0 (h0_4 ++ [IntKind.u8.wrap (IntKind.i64.wrap ((↑(t15.getD t17.toNat []).length : Int).tdiv 16777216)), IntKind.u8.wrap ((IntKind.i64.wrap ((↑(t15.getD t17.toNat []).length : Int).tdiv 65536)).tmod 256), IntKind.u8.wrap ((IntKind.i64.wrap ((↑(t15.getD t17.toNat []).length : Int).tdiv 256)).tmod 256), IntKind.u8.wrap ((↑(t15.getD t17.toNat []).length : Int).tmod 256)]) ++ t15.getD t17.toNat []))
             none)
            none)
           none)
          none)))
       none)
      none)
     (ke2 t15 t16 t17 h0 h0_4)
theorem round_L5 {R : Type} (N : Nat) (Rn : St → Option R) (k : K R) (t15 : List (List Int)) (t16 : Int) (t17 : Int) (h0 : Bool) (h0_4 : List Int) : evC g an 0 N c_L5 none (roundK (nmOf 0 (an.loop 5)) Rn k) (s_L5 t15 t16 t17 h0 h0_4) =
  cond (decide (t17 < t16))
   (cond (decide (0 ≤ t17))
    (cond (decide (t17 < (↑t15.length : Int)))
     (cond (decide ((↑(t15.getD t17.toNat []).length : Int) > 65536))
      (k.ret (x_L5_0 t15 t16 t17 h0 h0_4))
      (cond (decide (IntKind.i64.wrap (IntKind.i64.wrap ((↑(olen none h0_4.length 0) : Int) + 4) + (↑(t15.getD t17.toNat []).length : Int)) > 65536))
       (k.ret (x_L5_1 t15 t16 t17 h0 h0_4))
       (cond (decide ((h0_4.length + 4) * 1 ≤ 140737488355328))
        (cond (decide (h0_4.length + 4 ≤ 140737488355328))
         (cond (decide (((cut none 0 (h0_4 ++ [IntKind.u8.wrap (IntKind.i64.wrap ((↑(t15.getD t17.toNat []).length : Int).tdiv 16777216)), IntKind.u8.wrap ((IntKind.i64.wrap ((↑(t15.getD t17.toNat []).length : Int).tdiv 65536)).tmod 256), IntKind.u8.wrap ((IntKind.i64.wrap ((↑(t15.getD t17.toNat []).length : Int).tdiv 256)).tmod 256), IntKind.u8.wrap ((↑(t15.getD t17.toNat []).length : Int).tmod 256)])).length + (t15.getD t17.toNat []).length) * 1 ≤ 140737488355328))
          (cond (decide ((cut none 0 (h0_4 ++ [IntKind.u8.wrap (IntKind.i64.wrap ((↑(t15.getD t17.toNat []).length : Int).tdiv 16777216)), IntKind.u8.wrap ((IntKind.i64.wrap ((↑(t15.getD t17.toNat []).length : Int).tdiv 65536)).tmod 256), IntKind.u8.wrap ((IntKind.i64.wrap ((↑(t15.getD t17.toNat []).length : Int).tdiv 256)).tmod 256), IntKind.u8.wrap ((↑(t15.getD t17.toNat []).length : Int).tmod 256)])).length + (t15.getD t17.toNat []).length ≤ 140737488355328))
           (Rn (s_L5 t15 t16 (IntKind.i64.wrap (t17 + 1)) ((t15.getD t17.toNat []).isEmpty && false) (cut none 0 (h0_4 ++ [IntKind.u8.wrap (IntKind.i64.wrap ((↑(t15.getD t17.toNat []).length : Int).tdiv 16777216)), IntKind.u8.wrap ((IntKind.i64.wrap ((↑(t15.getD t17.toNat []).length : Int).tdiv 65536)).tmod 256), IntKind.u8.wrap ((IntKind.i64.wrap ((↑(t15.getD t17.toNat []).length : Int).tdiv 256)).tmod 256), IntKind.u8.wrap ((↑(t15.getD t17.toNat []).length : Int).tmod 256)]) ++ t15.getD t17.toNat [])))
           none)
          none)
         none)
        none)))
     none)
    none)
   (k.ext 0 (x_L5_2 t15 t16 t17 h0 h0_4)) := by kernel_rfl
theorem run_L5 {R : Type} (N : Nat) (k : K R) : ∀ (m : Nat) (t15 : List (List Int)) (t16 : Int) (t17 : Int) (h0 : Bool) (h0_4 : List Int), loopN (evC g an 0 N c_L5 none) k (nmOf 0 (an.loop 5)) m (s_L5 t15 t16 t17 h0 h0_4) =
    L5 N (fun t15 t16 t17 h0 h0_4 => (k).ret (x_L5_0 t15 t16 t17 h0 h0_4)) (fun t15 t16 t17 h0 h0_4 => (k).ret (x_L5_1 t15 t16 t17 h0 h0_4)) (fun t15 t16 t17 h0 h0_4 => (k).ext 0 (x_L5_2 t15 t16 t17 h0 h0_4)) m t15 t16 t17 h0 h0_4 := by
  intro m
  induction m with
  | zero => intros; rfl
  | succ m ih =>
    intros
    rw [loopN_succ, round_L5]
    simp only [ih]
    kernel_rfl
noncomputable def m {R : Type} (N : Nat) (l1 : List (List Int)) (kr0 : (Option Bool) → (List Int) → Int → Option R) : Option R :=
  cond (decide ((↑l1.length : Int) > 255))
   (kr0 (some true) [] 3)
   (L5 N
    (fun _t15_c15 _t16_c16 _t17_c17 _h0_c18 _h0_4_c19 => kr0 (some true) [] 3)
    (fun _t15_c20 _t16_c21 _t17_c22 _h0_c23 _h0_4_c24 => kr0 (some true) [] 3)
    (fun _t15_c25 _t16_c26 _t17_c27 _h0_c28 h0_4_c29 => kr0 none h0_4_c29 0) N l1 ((↑l1.length : Int)) 0 false ([IntKind.u8.wrap (↑l1.length : Int)]))
theorem tree {R : Type} (N : Nat) (κ : AV → List Blk → Option R) (l1 : List (List Int)) : evF g an N Tryd.f108 [AV.rsl IntKind.u8 l1] [] κ =
  cond (decide ((↑l1.length : Int) > 255))
   (κ (AV.tup [AV.isl IntKind.u8 (some true) [], AV.int IntKind.i64 3]) [])
   (loopN (evC g an 0 N c_L5 none) (ctx g an 0 N (bodyOf Tryd.f108) [1, 1, 1, 0, 1, 0] (endK g an Tryd.f108 [] κ)) (nmOf 0 (an.loop 5)) N (s_L5 l1 ((↑l1.length : Int)) 0 false ([IntKind.u8.wrap (↑l1.length : Int)]))) := by kernel_rfl
theorem eq {R : Type} (N : Nat) (κ : AV → List Blk → Option R) (l1 : List (List Int)) : evF g an N Tryd.f108 [AV.rsl IntKind.u8 l1] [] κ =
  m N l1 (fun v v_1 v_2 => κ (AV.tup [AV.isl IntKind.u8 v v_1, AV.int IntKind.i64 v_2]) []) := by
  rw [tree]
  simp only [run_L5]
  kernel_rfl
abbrev Ty : Type 1 := ∀ R : Type, (List (List Int)) → ((Option Bool) → (List Int) → Int → Option R) → Option R
def con (f : Ty) : Con := fun R args bs κ => match args, bs with
  | [AV.rsl IntKind.u8 l1], [] => f R l1 (fun v v_1 v_2 => κ (AV.tup [AV.isl IntKind.u8 v v_1, AV.int IntKind.i64 v_2]) [])
  | _, _ => none
theorem con_eq (f : Ty) (R : Type) (κ : AV → List Blk → Option R) (l1 : List (List Int)) : con f R [AV.rsl IntKind.u8 l1] [] κ = f R l1 (fun v v_1 v_2 => κ (AV.tup [AV.isl IntKind.u8 v v_1, AV.int IntKind.i64 v_2]) []) := rfl
noncomputable def M (N : Nat) : Ty := fun R l1 kr0 => m (R := R) N l1 kr0
def gts : List (Nat × AV) := []
theorem gok (_N : Nat) : GOk g := giD_ok hm (by intro p hp; cases hp) (gtL_ok (by decide)) (ovL_ok (by intro p hp; cases hp)) 1
theorem ok (N : Nat) : SoundC Tryd.prog (gtL gts) 108 (con (M N)) := by
  refine SoundC.mono (evF_ok (gok N) hm an N Tryd.func108) fun R args bs κ r h => ?_
  unfold con at h
  split at h
  · exact (eq N κ _).trans h
  · cases h
end rRow

/-! ### Tryd.f86: rBytes -/
namespace rBytes
def an : Anns := ⟨fun i => findA i [], fun i => findA i [], false, fun _ => none, []⟩
noncomputable def g (mrRow : rRow.Ty) : Gi := giD Tryd.prog (gtL []) (fun _ => an) 0 [] (ovL [(108, rRow.con mrRow)]) 1
noncomputable def m (mrRow : rRow.Ty) {R : Type} (_N : Nat) (l1 : List (List Int)) (kr0 : (Option Bool) → (List Int) → Option R) : Option R :=
  mrRow R l1
   (fun v_c3 v_1_c4 _v_2_c5 => kr0 v_c3 v_1_c4)
theorem tree (mrRow : rRow.Ty) {R : Type} (N : Nat) (κ : AV → List Blk → Option R) (l1 : List (List Int)) : evF (g mrRow) an N Tryd.f86 [AV.rsl IntKind.u8 l1] [] κ =
  mrRow R l1
   (fun v_c3 v_1_c4 _v_2_c5 => κ (AV.isl IntKind.u8 v_c3 v_1_c4) []) := by kernel_rfl
theorem eq (mrRow : rRow.Ty) {R : Type} (N : Nat) (κ : AV → List Blk → Option R) (l1 : List (List Int)) : evF (g mrRow) an N Tryd.f86 [AV.rsl IntKind.u8 l1] [] κ =
  m mrRow N l1 (fun v v_1 => κ (AV.isl IntKind.u8 v v_1) []) := by
  rw [tree]
  kernel_rfl
abbrev Ty : Type 1 := ∀ R : Type, (List (List Int)) → ((Option Bool) → (List Int) → Option R) → Option R
def con (f : Ty) : Con := fun R args bs κ => match args, bs with
  | [AV.rsl IntKind.u8 l1], [] => f R l1 (fun v v_1 => κ (AV.isl IntKind.u8 v v_1) [])
  | _, _ => none
theorem con_eq (f : Ty) (R : Type) (κ : AV → List Blk → Option R) (l1 : List (List Int)) : con f R [AV.rsl IntKind.u8 l1] [] κ = f R l1 (fun v v_1 => κ (AV.isl IntKind.u8 v v_1) []) := rfl
noncomputable def M (N : Nat) : Ty := fun R l1 kr0 => m (rRow.M N) (R := R) N l1 kr0
def gts : List (Nat × AV) := []
theorem gok (N : Nat) : GOk (g (rRow.M N)) := giD_ok hm (by intro p hp; cases hp) (gtL_ok (by decide)) (ovL_ok (by
    intro p hp
    simp only [List.mem_cons, List.not_mem_nil, or_false] at hp
    rcases hp with rfl
    · exact ⟨(rRow.ok N).gt (gtL_sub (by repeat (first | exact subG_nil _ | refine subG_cons (by kernel_rfl) ?_))) (gtL_ok (by decide)), _, Tryd.func108, by kernel_rfl, by kernel_rfl⟩
)) 1
theorem ok (N : Nat) : SoundC Tryd.prog (gtL gts) 86 (con (M N)) := by
  refine SoundC.mono (evF_ok (gok N) hm an N Tryd.func86) fun R args bs κ r h => ?_
  unfold con at h
  split at h
  · exact (eq (rRow.M N) N κ _).trans h
  · cases h
end rBytes

/-! ### Tryd.f87: rNum -/
namespace rNum
def an : Anns := ⟨fun i => findA i [(5, ⟨[0, 3, 4], [⟨3, 0, T.int IntKind.u8, none⟩], 1, []⟩)], fun i => findA i [], false, fun _ => none, []⟩
noncomputable def g : Gi := giD Tryd.prog (gtL []) (fun _ => an) 0 [] (ovL []) 1
noncomputable def c_L5 : Code := loopOf Tryd.f87 0
def s_L5 (n0 : Int) (i4 : Int) (h0 : List Int) : St := ⟨[AV.int IntKind.i64 n0, AV.dead, AV.dead, AV.own 0 [] 0 none, AV.int IntKind.i64 i4] ++ List.replicate 20 .dead, [Blk.row IntKind.u8 false h0]⟩
def x_L5_0 (n0 : Int) (i4 : Int) (h0 : List Int) : St := ⟨[AV.int IntKind.i64 n0, AV.dead, AV.dead, AV.own 0 [] 0 none, AV.int IntKind.i64 i4] ++ List.replicate 7 .dead ++ [AV.int IntKind.i64 i4, AV.bool (decide (i4 ≥ 0))] ++ List.replicate 11 .dead, [Blk.row IntKind.u8 false h0]⟩
noncomputable def L5 {R : Type} (N : Nat) (ke0 : Int → Int → (List Int) → Option R) : Nat → Int → Int → (List Int) → Option R
  | 0, _, _, _ => none
  | m + 1, n0, i4, h0 =>
    cond (decide (i4 ≥ 0))
     (cond (decide (0 ≤ i4))
      (cond (decide (i4 < (↑(olen none h0.length 0) : Int)))
       (L5 N ke0 m (IntKind.i64.wrap (n0.tdiv 256)) (IntKind.i64.wrap (i4 - 1)) (h0.set (0 + i4.toNat) (IntKind.u8.wrap (n0.tmod 256))))
       none)
      none)
     (ke0 n0 i4 h0)
theorem round_L5 {R : Type} (N : Nat) (Rn : St → Option R) (k : K R) (n0 : Int) (i4 : Int) (h0 : List Int) : evC g an 0 N c_L5 none (roundK (nmOf 0 (an.loop 5)) Rn k) (s_L5 n0 i4 h0) =
  cond (decide (i4 ≥ 0))
   (cond (decide (0 ≤ i4))
    (cond (decide (i4 < (↑(olen none h0.length 0) : Int)))
     (Rn (s_L5 (IntKind.i64.wrap (n0.tdiv 256)) (IntKind.i64.wrap (i4 - 1)) (h0.set (0 + i4.toNat) (IntKind.u8.wrap (n0.tmod 256)))))
     none)
    none)
   (k.ext 0 (x_L5_0 n0 i4 h0)) := by kernel_rfl
theorem run_L5 {R : Type} (N : Nat) (k : K R) : ∀ (m : Nat) (n0 : Int) (i4 : Int) (h0 : List Int), loopN (evC g an 0 N c_L5 none) k (nmOf 0 (an.loop 5)) m (s_L5 n0 i4 h0) =
    L5 N (fun n0 i4 h0 => (k).ext 0 (x_L5_0 n0 i4 h0)) m n0 i4 h0 := by
  intro m
  induction m with
  | zero => intros; rfl
  | succ m ih =>
    intros
    rw [loopN_succ, round_L5]
    simp only [ih]
    kernel_rfl
noncomputable def m {R : Type} (N : Nat) (n1 : Int) (kr0 : (List Int) → Option R) : Option R :=
  cond (decide (n1 < 0))
   (L5 N
    (fun _n0_c6 _i4_c7 h0_c8 => kr0 h0_c8) N 0 7 ([0, 0, 0, 0, 0, 0, 0, 0]))
   (cond (decide (n1 > 4611686018427387903))
    (L5 N
     (fun _n0_c9 _i4_c10 h0_c11 => kr0 h0_c11) N 0 7 ([0, 0, 0, 0, 0, 0, 0, 0]))
    (L5 N
     (fun _n0_c12 _i4_c13 h0_c14 => kr0 h0_c14) N n1 7 ([0, 0, 0, 0, 0, 0, 0, 0])))
theorem tree {R : Type} (N : Nat) (κ : AV → List Blk → Option R) (n1 : Int) : evF g an N Tryd.f87 [AV.int IntKind.i64 n1] [] κ =
  cond (decide (n1 < 0))
   (loopN (evC g an 0 N c_L5 none) (ctx g an 0 N (bodyOf Tryd.f87) [1, 1, 1, 0, 1, 0] (endK g an Tryd.f87 [] κ)) (nmOf 0 (an.loop 5)) N (s_L5 0 7 ([0, 0, 0, 0, 0, 0, 0, 0])))
   (cond (decide (n1 > 4611686018427387903))
    (loopN (evC g an 0 N c_L5 none) (ctx g an 0 N (bodyOf Tryd.f87) [1, 1, 1, 0, 1, 0] (endK g an Tryd.f87 [] κ)) (nmOf 0 (an.loop 5)) N (s_L5 0 7 ([0, 0, 0, 0, 0, 0, 0, 0])))
    (loopN (evC g an 0 N c_L5 none) (ctx g an 0 N (bodyOf Tryd.f87) [1, 1, 1, 0, 1, 0] (endK g an Tryd.f87 [] κ)) (nmOf 0 (an.loop 5)) N (s_L5 n1 7 ([0, 0, 0, 0, 0, 0, 0, 0])))) := by kernel_rfl
theorem eq {R : Type} (N : Nat) (κ : AV → List Blk → Option R) (n1 : Int) : evF g an N Tryd.f87 [AV.int IntKind.i64 n1] [] κ =
  m N n1 (fun v => κ (AV.isl IntKind.u8 none v) []) := by
  rw [tree]
  simp only [run_L5]
  kernel_rfl
abbrev Ty : Type 1 := ∀ R : Type, Int → ((List Int) → Option R) → Option R
def con (f : Ty) : Con := fun R args bs κ => match args, bs with
  | [AV.int IntKind.i64 n1], [] => f R n1 (fun v => κ (AV.isl IntKind.u8 none v) [])
  | _, _ => none
theorem con_eq (f : Ty) (R : Type) (κ : AV → List Blk → Option R) (n1 : Int) : con f R [AV.int IntKind.i64 n1] [] κ = f R n1 (fun v => κ (AV.isl IntKind.u8 none v) []) := rfl
noncomputable def M (N : Nat) : Ty := fun R n1 kr0 => m (R := R) N n1 kr0
def gts : List (Nat × AV) := []
theorem gok (_N : Nat) : GOk g := giD_ok hm (by intro p hp; cases hp) (gtL_ok (by decide)) (ovL_ok (by intro p hp; cases hp)) 1
theorem ok (N : Nat) : SoundC Tryd.prog (gtL gts) 87 (con (M N)) := by
  refine SoundC.mono (evF_ok (gok N) hm an N Tryd.func87) fun R args bs κ r h => ?_
  unfold con at h
  split at h
  · exact (eq N κ _).trans h
  · cases h
end rNum

end Go.Proofs.YthajoenmfppenaaDoor.fn
