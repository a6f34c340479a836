/- What the numbers' bytes are, with the proof; printed by a program. -/
import Derived.Test.YthajoenmfppenaaDoorProg
import Derived.Test.YthajoenmfppenaaDoorEv4
import Derived.Test.YthajoenmfppenaaDoorFnWords
namespace Go.Proofs.YthajoenmfppenaaDoor.fn
open Go Go.Proofs Go.Ev
/-! ### Tryd.f102: Reverse -/
namespace Reverse
def an : Anns := ⟨fun i => findA i [(1, ⟨[0, 2, 3], [], 1, []⟩)], fun i => findA i [], false, fun _ => none, []⟩
noncomputable def g : Gi := giD Tryd.prog (gtL []) (fun _ => an) 0 [] (ovL []) 1
noncomputable def c_L1 : Code := loopOf Tryd.f102 0
def s_L1 (s0 : Nat) (s0_1 : Option Nat) (i2 : Int) (j3 : Int) (h0 : Bool) (h0_5 : List Int) : St := ⟨[AV.own 0 [] s0 s0_1, AV.dead, AV.int IntKind.i64 i2, AV.int IntKind.i64 j3] ++ List.replicate 24 .dead, [Blk.row IntKind.u8 h0 h0_5]⟩
def x_L1_0 (s0 : Nat) (s0_1 : Option Nat) (i2 : Int) (j3 : Int) (h0 : Bool) (h0_5 : List Int) : St := ⟨[AV.own 0 [] s0 s0_1, AV.dead, AV.int IntKind.i64 i2, AV.int IntKind.i64 j3, AV.dead, AV.dead, AV.dead, AV.int IntKind.i64 i2, AV.int IntKind.i64 j3, AV.bool (decide (i2 < j3))] ++ List.replicate 18 .dead, [Blk.row IntKind.u8 h0 h0_5]⟩
noncomputable def L1 {R : Type} (N : Nat) (ke0 : Nat → (Option Nat) → Int → Int → Bool → (List Int) → Option R) : Nat → Nat → (Option Nat) → Int → Int → Bool → (List Int) → Option R
  | 0, _, _, _, _, _, _ => none
  | m + 1, s0, s0_1, i2, j3, h0, h0_5 =>
    cond (decide (i2 < j3))
     (cond (decide (0 ≤ j3))
      (cond (decide (j3 < (↑(olen s0_1 h0_5.length s0) : Int)))
       (cond (decide (0 ≤ i2))
        (cond (decide (i2 < (↑(olen s0_1 h0_5.length s0) : Int)))
         (cond (decide (0 ≤ i2))
          (cond (decide (i2 < (↑(olen s0_1 h0_5.length s0) : Int)))
           (cond (decide (0 ≤ j3))
            (cond (decide (j3 < (↑(olen s0_1 (h0_5.set (s0 + i2.toNat) (h0_5.getD (s0 + j3.toNat) 0)).length s0) : Int)))
             (L1 N ke0 m s0 s0_1 (IntKind.i64.wrap (i2 + 1)) (IntKind.i64.wrap (j3 - 1)) h0 ((h0_5.set (s0 + i2.toNat) (h0_5.getD (s0 + j3.toNat) 0)).set (s0 + j3.toNat) (h0_5.getD (s0 + i2.toNat) 0)))
             none)
            none)
           none)
          none)
         none)
        none)
       none)
      none)
     (ke0 s0 s0_1 i2 j3 h0 h0_5)
theorem round_L1 {R : Type} (N : Nat) (Rn : St → Option R) (k : K R) (s0 : Nat) (s0_1 : Option Nat) (i2 : Int) (j3 : Int) (h0 : Bool) (h0_5 : List Int) : evC g an 1 N c_L1 none (roundK (nmOf 1 (an.loop 1)) Rn k) (s_L1 s0 s0_1 i2 j3 h0 h0_5) =
  cond (decide (i2 < j3))
   (cond (decide (0 ≤ j3))
    (cond (decide (j3 < (↑(olen s0_1 h0_5.length s0) : Int)))
     (cond (decide (0 ≤ i2))
      (cond (decide (i2 < (↑(olen s0_1 h0_5.length s0) : Int)))
       (cond (decide (0 ≤ i2))
        (cond (decide (i2 < (↑(olen s0_1 h0_5.length s0) : Int)))
         (cond (decide (0 ≤ j3))
          (cond (decide (j3 < (↑(olen s0_1 (h0_5.set (s0 + i2.toNat) (h0_5.getD (s0 + j3.toNat) 0)).length s0) : Int)))
           (Rn (s_L1 s0 s0_1 (IntKind.i64.wrap (i2 + 1)) (IntKind.i64.wrap (j3 - 1)) h0 ((h0_5.set (s0 + i2.toNat) (h0_5.getD (s0 + j3.toNat) 0)).set (s0 + j3.toNat) (h0_5.getD (s0 + i2.toNat) 0))))
           none)
          none)
         none)
        none)
       none)
      none)
     none)
    none)
   (k.ext 0 (x_L1_0 s0 s0_1 i2 j3 h0 h0_5)) := by kernel_rfl
theorem run_L1 {R : Type} (N : Nat) (k : K R) : ∀ (m : Nat) (s0 : Nat) (s0_1 : Option Nat) (i2 : Int) (j3 : Int) (h0 : Bool) (h0_5 : List Int), loopN (evC g an 1 N c_L1 none) k (nmOf 1 (an.loop 1)) m (s_L1 s0 s0_1 i2 j3 h0 h0_5) =
    L1 N (fun s0 s0_1 i2 j3 h0 h0_5 => (k).ext 0 (x_L1_0 s0 s0_1 i2 j3 h0 h0_5)) m s0 s0_1 i2 j3 h0 h0_5 := by
  intro m
  induction m with
  | zero => intros; rfl
  | succ m ih =>
    intros
    rw [loopN_succ, round_L1]
    simp only [ih]
    kernel_rfl
noncomputable def m {R : Type} (N : Nat) (s1 : Nat) (s2 : Option Nat) (s3 : Bool) (s4 : List Int) (kr0 : Bool → (List Int) → Option R) : Option R :=
  L1 N
   (fun _s0_c6 _s0_1_c7 _i2_c8 _j3_c9 h0_c10 h0_5_c11 => kr0 h0_c10 h0_5_c11) N s1 s2 0 (IntKind.i64.wrap ((↑(olen s2 s4.length s1) : Int) - 1)) s3 s4
theorem tree {R : Type} (N : Nat) (κ : AV → List Blk → Option R) (s1 : Nat) (s2 : Option Nat) (s3 : Bool) (s4 : List Int) : evF g an N Tryd.f102 [AV.own 0 [] s1 s2] [Blk.row IntKind.u8 s3 s4] κ =
  loopN (evC g an 1 N c_L1 none) (ctx g an 1 N (bodyOf Tryd.f102) [1, 0] (endK g an Tryd.f102 [Blk.row IntKind.u8 s3 s4] κ)) (nmOf 1 (an.loop 1)) N (s_L1 s1 s2 0 (IntKind.i64.wrap ((↑(olen s2 s4.length s1) : Int) - 1)) s3 s4) := by kernel_rfl
theorem eq {R : Type} (N : Nat) (κ : AV → List Blk → Option R) (s1 : Nat) (s2 : Option Nat) (s3 : Bool) (s4 : List Int) : evF g an N Tryd.f102 [AV.own 0 [] s1 s2] [Blk.row IntKind.u8 s3 s4] κ =
  m N s1 s2 s3 s4 (fun b b_1 => κ (AV.tup []) ([Blk.row IntKind.u8 b b_1])) := by
  rw [tree]
  simp only [run_L1]
  kernel_rfl
abbrev Ty : Type 1 := ∀ R : Type, Nat → (Option Nat) → Bool → (List Int) → (Bool → (List Int) → Option R) → Option R
def con (f : Ty) : Con := fun R args bs κ => match args, bs with
  | [AV.own 0 [] s1 s2], [Blk.row IntKind.u8 s3 s4] => f R s1 s2 s3 s4 (fun b b_1 => κ (AV.tup []) ([Blk.row IntKind.u8 b b_1]))
  | [AV.isl .u8 (some true) []], [] => κ (AV.tup []) []
  | _, _ => none
theorem con_eq (f : Ty) (R : Type) (κ : AV → List Blk → Option R) (s1 : Nat) (s2 : Option Nat) (s3 : Bool) (s4 : List Int) : con f R [AV.own 0 [] s1 s2] [Blk.row IntKind.u8 s3 s4] κ = f R s1 s2 s3 s4 (fun b b_1 => κ (AV.tup []) ([Blk.row IntKind.u8 b b_1])) := rfl
def an0 : Anns := ⟨fun _ => none, fun _ => none, false, fun _ => some 1, []⟩
theorem nil {R : Type} (N : Nat) (κ : AV → List Blk → Option R) : evF g an0 N Tryd.f102 [AV.isl .u8 (some true) []] [] κ = κ (AV.tup []) [] := by kernel_rfl
noncomputable def M (N : Nat) : Ty := fun R s1 s2 s3 s4 kr0 => m (R := R) N s1 s2 s3 s4 kr0
def gts : List (Nat × AV) := []
theorem gok (_N : Nat) : GOk g := giD_ok hm (by intro p hp; cases hp) (gtL_ok (by decide)) (ovL_ok (by intro p hp; cases hp)) 1
theorem ok (N : Nat) : SoundC Tryd.prog (gtL gts) 102 (con (M N)) := by
  intro R args bs κ r h
  unfold con at h
  split at h
  · exact evF_ok (gok N) hm an N Tryd.func102 R _ _ κ r ((eq N κ _ _ _ _).trans h)
  · exact evF_ok (gok N) hm an0 N Tryd.func102 R _ _ κ r ((nil N κ).trans h)
  · cases h
end Reverse

/-! ### Tryd.f101: PutLittle -/
namespace PutLittle
def an : Anns := ⟨fun i => findA i [], fun i => findA i [(0, ⟨[0, 1, 6, 7], [⟨6, 0, T.int IntKind.u8, none⟩], 1, []⟩)], true, fun _ => none, []⟩
noncomputable def g : Gi := giD Tryd.prog (gtL [(0, .err 1)]) (fun _ => an) 0 [] (ovL []) 1
noncomputable def c_S1 : Code := scopeOf Tryd.f101 0
def s_J1_0 (x0 : Int) (n1 : Int) (i7 : Int) (h0 : List Int) : St := ⟨[AV.int IntKind.u64 x0, AV.int IntKind.i64 n1] ++ List.replicate 4 .dead ++ [AV.own 0 [] 0 none, AV.int IntKind.i64 i7] ++ List.replicate 22 .dead, [Blk.row IntKind.u8 false h0]⟩
def x_S1_0 (x0 : Int) (n1 : Int) (i7 : Int) (h0 : List Int) : St := ⟨[AV.int IntKind.u64 x0, AV.int IntKind.i64 n1, AV.dead, AV.dead, AV.own 0 [] 0 none, AV.err 0, AV.own 0 [] 0 none, AV.int IntKind.i64 i7] ++ List.replicate 9 .dead ++ [AV.int IntKind.i64 i7, AV.int IntKind.i64 n1, AV.bool (decide (i7 < n1))] ++ List.replicate 9 .dead ++ [AV.own 0 [] 0 none], [Blk.row IntKind.u8 false h0]⟩
noncomputable def J1_0 {R : Type} (N : Nat) (ke0 : Int → Int → Int → (List Int) → Option R) : Nat → Int → Int → Int → (List Int) → Option R
  | 0, _, _, _, _ => none
  | m + 1, x0, n1, i7, h0 =>
    cond (decide (i7 < n1))
     (cond (decide (0 ≤ i7))
      (cond (decide (i7 < (↑(olen none h0.length 0) : Int)))
       (J1_0 N ke0 m (ishr IntKind.u64 x0 8) n1 (IntKind.i64.wrap (i7 + 1)) (h0.set (0 + i7.toNat) (IntKind.u8.wrap x0)))
       none)
      none)
     (ke0 x0 n1 i7 h0)
theorem round_J1_0 {R : Type} (N : Nat) (J : Nat → St → Option R) (k : K R) (x0 : Int) (n1 : Int) (i7 : Int) (h0 : List Int) : evC g an 0 N c_S1 (some 0) { k with gto := gotoK (hasL c_S1) (fun l => nmOf 0 (an.label l)) k J } (s_J1_0 x0 n1 i7 h0) =
  cond (decide (i7 < n1))
   (cond (decide (0 ≤ i7))
    (cond (decide (i7 < (↑(olen none h0.length 0) : Int)))
     (J 0 (s_J1_0 (ishr IntKind.u64 x0 8) n1 (IntKind.i64.wrap (i7 + 1)) (h0.set (0 + i7.toNat) (IntKind.u8.wrap x0))))
     none)
    none)
   (k.ret (x_S1_0 x0 n1 i7 h0)) := by kernel_rfl
theorem run_S1 {R : Type} (N : Nat) (k : K R) : ∀ (m : Nat), (∀ (x0 : Int) (n1 : Int) (i7 : Int) (h0 : List Int), jumpN (fun l => evC g an 0 N c_S1 (some l)) (hasL c_S1) k (fun l => nmOf 0 (an.label l)) m 0 (s_J1_0 x0 n1 i7 h0) =
    J1_0 N (fun x0 n1 i7 h0 => (k).ret (x_S1_0 x0 n1 i7 h0)) m x0 n1 i7 h0) := by
  intro m
  induction m with
  | zero => exact by intros; rfl
  | succ m ih =>
    · intros; rw [jumpN_succ, round_J1_0]
      try simp only [ih]
      kernel_rfl
theorem run_J1_0 {R : Type} (N : Nat) (k : K R) (m : Nat) : (∀ (x0 : Int) (n1 : Int) (i7 : Int) (h0 : List Int), jumpN (fun l => evC g an 0 N c_S1 (some l)) (hasL c_S1) k (fun l => nmOf 0 (an.label l)) m 0 (s_J1_0 x0 n1 i7 h0) =
    J1_0 N (fun x0 n1 i7 h0 => (k).ret (x_S1_0 x0 n1 i7 h0)) m x0 n1 i7 h0) := (run_S1 N k m)
noncomputable def m {R : Type} (N : Nat) (x1 : Int) (n2 : Int) (kr0 : Option R) (kr1 : (List Int) → Option R) : Option R :=
  cond (decide (n2 < 0))
   kr0
   (cond (decide (n2 > 8))
    kr0
    (cond (decide (0 ≤ IntKind.i64.wrap n2))
     (cond (decide (IntKind.i64.wrap n2 ≤ IntKind.i64.wrap n2))
      (cond (decide (1 * IntKind.i64.wrap n2 ≤ 140737488355328))
       (cond (decide (0 < n2))
        (cond (decide (0 < (↑(olen none (List.replicate (IntKind.i64.wrap n2).toNat (0 : Int)).length 0) : Int)))
         (J1_0 N
          (fun _x0_c4 _n1_c5 _i7_c6 h0_c7 => kr1 h0_c7) N (ishr IntKind.u64 x1 8) n2 1 ((List.replicate (IntKind.i64.wrap n2).toNat (0 : Int)).set 0 (IntKind.u8.wrap x1)))
         none)
        (kr1 (List.replicate (IntKind.i64.wrap n2).toNat (0 : Int))))
       none)
      none)
     none))
theorem tree {R : Type} (N : Nat) (κ : AV → List Blk → Option R) (x1 : Int) (n2 : Int) : evF g an N Tryd.f101 [AV.int IntKind.u64 x1, AV.int IntKind.i64 n2] [] κ =
  cond (decide (n2 < 0))
   (κ (AV.tup [AV.nils, AV.err 1]) [])
   (cond (decide (n2 > 8))
    (κ (AV.tup [AV.nils, AV.err 1]) [])
    (cond (decide (0 ≤ IntKind.i64.wrap n2))
     (cond (decide (IntKind.i64.wrap n2 ≤ IntKind.i64.wrap n2))
      (cond (decide (1 * IntKind.i64.wrap n2 ≤ 140737488355328))
       (cond (decide (0 < n2))
        (cond (decide (0 < (↑(olen none (List.replicate (IntKind.i64.wrap n2).toNat (0 : Int)).length 0) : Int)))
         (jumpN (fun l => evC g an 0 N c_S1 (some l)) (hasL c_S1) (ctx g an 0 N (bodyOf Tryd.f101) [1] (endK g an Tryd.f101 [] κ)) (fun l => nmOf 0 (an.label l)) N 0 (s_J1_0 (ishr IntKind.u64 x1 8) n2 1 ((List.replicate (IntKind.i64.wrap n2).toNat (0 : Int)).set 0 (IntKind.u8.wrap x1))))
         none)
        (κ (AV.tup [AV.own 0 [] 0 none, AV.err 0]) ([Blk.row IntKind.u8 false (List.replicate (IntKind.i64.wrap n2).toNat (0 : Int))])))
       none)
      none)
     none)) := by kernel_rfl
theorem eq {R : Type} (N : Nat) (κ : AV → List Blk → Option R) (x1 : Int) (n2 : Int) : evF g an N Tryd.f101 [AV.int IntKind.u64 x1, AV.int IntKind.i64 n2] [] κ =
  m N x1 n2 (κ (AV.tup [AV.nils, AV.err 1]) []) (fun b => κ (AV.tup [AV.own 0 [] 0 none, AV.err 0]) ([Blk.row IntKind.u8 false b])) := by
  rw [tree]
  simp only [run_J1_0]
  kernel_rfl
abbrev Ty : Type 1 := ∀ R : Type, Int → Int → Option R → ((List Int) → Option R) → Option R
def con (f : Ty) : Con := fun R args bs κ => match args, bs with
  | [AV.int IntKind.u64 x1, AV.int IntKind.i64 n2], [] => f R x1 n2 (κ (AV.tup [AV.nils, AV.err 1]) []) (fun b => κ (AV.tup [AV.own 0 [] 0 none, AV.err 0]) ([Blk.row IntKind.u8 false b]))
  | _, _ => none
theorem con_eq (f : Ty) (R : Type) (κ : AV → List Blk → Option R) (x1 : Int) (n2 : Int) : con f R [AV.int IntKind.u64 x1, AV.int IntKind.i64 n2] [] κ = f R x1 n2 (κ (AV.tup [AV.nils, AV.err 1]) []) (fun b => κ (AV.tup [AV.own 0 [] 0 none, AV.err 0]) ([Blk.row IntKind.u8 false b])) := rfl
noncomputable def M (N : Nat) : Ty := fun R x1 n2 kr0 kr1 => m (R := R) N x1 n2 kr0 kr1
def gts : List (Nat × AV) := [(0, .err 1)]
theorem gok (_N : Nat) : GOk g := giD_ok hm (by intro p hp; cases hp) (gtL_ok (by decide)) (ovL_ok (by intro p hp; cases hp)) 1
theorem ok (N : Nat) : SoundC Tryd.prog (gtL gts) 101 (con (M N)) := by
  refine SoundC.mono (evF_ok (gok N) hm an N Tryd.func101) fun R args bs κ r h => ?_
  unfold con at h
  split at h
  · exact (eq N κ _ _).trans h
  · cases h
end PutLittle

/-! ### Tryd.f72: PutBig -/
namespace PutBig
def an : Anns := ⟨fun i => findA i [], fun i => findA i [], true, fun _ => none, []⟩
noncomputable def g (mPutLittle : PutLittle.Ty) (mReverse : Reverse.Ty) : Gi := giW [102] (giD Tryd.prog (gtL [(0, .err 1)]) (fun _ => an) 0 [] (ovL [(101, PutLittle.con mPutLittle), (102, Reverse.con mReverse)]) 1)
noncomputable def m (mPutLittle : PutLittle.Ty) (mReverse : Reverse.Ty) {R : Type} (_N : Nat) (x1 : Int) (n2 : Int) (kr0 : Option R) (kr1 : (List Int) → Option R) : Option R :=
  mPutLittle R x1 n2
   kr0
   (fun b_c3 => mReverse R 0 none false b_c3
    (fun b_c4 b_1_c5 => cond (true && false == b_c4 && b_1_c5.length.beq b_c3.length && true)
     (kr1 b_1_c5)
     none))
theorem tree (mPutLittle : PutLittle.Ty) (mReverse : Reverse.Ty) {R : Type} (N : Nat) (κ : AV → List Blk → Option R) (x1 : Int) (n2 : Int) : evF (g mPutLittle mReverse) an N Tryd.f72 [AV.int IntKind.u64 x1, AV.int IntKind.i64 n2] [] κ =
  mPutLittle R x1 n2
   (κ (AV.tup [AV.nils, AV.err 1]) [])
   (fun b_c3 => mReverse R 0 none false b_c3
    (fun b_c4 b_1_c5 => cond (true && false == b_c4 && b_1_c5.length.beq b_c3.length && true)
     (κ (AV.tup [AV.own 0 [] 0 none, AV.err 0]) ([Blk.row IntKind.u8 false b_1_c5]))
     none)) := by kernel_rfl
theorem eq (mPutLittle : PutLittle.Ty) (mReverse : Reverse.Ty) {R : Type} (N : Nat) (κ : AV → List Blk → Option R) (x1 : Int) (n2 : Int) : evF (g mPutLittle mReverse) an N Tryd.f72 [AV.int IntKind.u64 x1, AV.int IntKind.i64 n2] [] κ =
  m mPutLittle mReverse N x1 n2 (κ (AV.tup [AV.nils, AV.err 1]) []) (fun b => κ (AV.tup [AV.own 0 [] 0 none, AV.err 0]) ([Blk.row IntKind.u8 false b])) := by
  rw [tree]
  kernel_rfl
abbrev Ty : Type 1 := ∀ R : Type, Int → Int → Option R → ((List Int) → Option R) → Option R
def con (f : Ty) : Con := fun R args bs κ => match args, bs with
  | [AV.int IntKind.u64 x1, AV.int IntKind.i64 n2], [] => f R x1 n2 (κ (AV.tup [AV.nils, AV.err 1]) []) (fun b => κ (AV.tup [AV.own 0 [] 0 none, AV.err 0]) ([Blk.row IntKind.u8 false b]))
  | _, _ => none
theorem con_eq (f : Ty) (R : Type) (κ : AV → List Blk → Option R) (x1 : Int) (n2 : Int) : con f R [AV.int IntKind.u64 x1, AV.int IntKind.i64 n2] [] κ = f R x1 n2 (κ (AV.tup [AV.nils, AV.err 1]) []) (fun b => κ (AV.tup [AV.own 0 [] 0 none, AV.err 0]) ([Blk.row IntKind.u8 false b])) := rfl
noncomputable def M (N : Nat) : Ty := fun R x1 n2 kr0 kr1 => m (PutLittle.M N) (Reverse.M N) (R := R) N x1 n2 kr0 kr1
def gts : List (Nat × AV) := [(0, .err 1)]
theorem gok (N : Nat) : GOk (g (PutLittle.M N) (Reverse.M N)) := giW_ok (giD_ok hm (by intro p hp; cases hp) (gtL_ok (by decide)) (ovL_ok (by
    intro p hp
    simp only [List.mem_cons, List.not_mem_nil, or_false] at hp
    rcases hp with rfl | rfl
    · exact ⟨(PutLittle.ok N).gt (gtL_sub (by repeat (first | exact subG_nil _ | refine subG_cons (by kernel_rfl) ?_))) (gtL_ok (by decide)), _, Tryd.func101, by kernel_rfl, by kernel_rfl⟩
    · exact ⟨(Reverse.ok N).gt (gtL_sub (by repeat (first | exact subG_nil _ | refine subG_cons (by kernel_rfl) ?_))) (gtL_ok (by decide)), _, Tryd.func102, by kernel_rfl, by kernel_rfl⟩
)) 1)
theorem ok (N : Nat) : SoundC Tryd.prog (gtL gts) 72 (con (M N)) := by
  refine SoundC.mono (evF_ok (gok N) hm an N Tryd.func72) fun R args bs κ r h => ?_
  unfold con at h
  split at h
  · exact (eq (PutLittle.M N) (Reverse.M N) N κ _ _).trans h
  · cases h
end PutBig

end Go.Proofs.YthajoenmfppenaaDoor.fn
