/- What a block of the stream comes to; the lists of words are printed by a program. -/
import Derived.Test.YtmijagoibgkocaaDoorNum
import Derived.Test.YtmijagoibgkocaaDoorFnStreamR
namespace Go.Proofs.YtmijagoibgkocaaDoor.fn
open Go Go.Proofs Go.Ev Go.Dg

theorem ex_get (l : List Int) : l = (List.range l.length).map fun i => l.getD i 0 := by
  refine List.ext_getElem? fun i => ?_
  rw [List.getElem?_map]
  by_cases h : i < l.length
  · rw [List.getElem?_range h]; simp [List.getD, List.getElem?_eq_getElem h]
  · rw [List.getElem?_eq_none (by omega), List.getElem?_eq_none (by rw [List.length_range]; omega)]; rfl
theorem ex12 (l : List Int) (h : l.length = 12) : l = [l.getD 0 0, l.getD 1 0, l.getD 2 0, l.getD 3 0, l.getD 4 0, l.getD 5 0, l.getD 6 0, l.getD 7 0, l.getD 8 0, l.getD 9 0, l.getD 10 0, l.getD 11 0] := (ex_get l).trans (by rw [h]; rfl)
theorem ex16 (l : List Int) (h : l.length = 16) : l = [l.getD 0 0, l.getD 1 0, l.getD 2 0, l.getD 3 0, l.getD 4 0, l.getD 5 0, l.getD 6 0, l.getD 7 0, l.getD 8 0, l.getD 9 0, l.getD 10 0, l.getD 11 0, l.getD 12 0, l.getD 13 0, l.getD 14 0, l.getD 15 0] := (ex_get l).trans (by rw [h]; rfl)
theorem ex32 (l : List Int) (h : l.length = 32) : l = [l.getD 0 0, l.getD 1 0, l.getD 2 0, l.getD 3 0, l.getD 4 0, l.getD 5 0, l.getD 6 0, l.getD 7 0, l.getD 8 0, l.getD 9 0, l.getD 10 0, l.getD 11 0, l.getD 12 0, l.getD 13 0, l.getD 14 0, l.getD 15 0, l.getD 16 0, l.getD 17 0, l.getD 18 0, l.getD 19 0, l.getD 20 0, l.getD 21 0, l.getD 22 0, l.getD 23 0, l.getD 24 0, l.getD 25 0, l.getD 26 0, l.getD 27 0, l.getD 28 0, l.getD 29 0, l.getD 30 0, l.getD 31 0] := (ex_get l).trans (by rw [h]; rfl)

def rt (x : Int) (n m : Int) : Int := ior .u32 (ishl .u32 x n) (ishr .u32 x m)
def w32 (z : Int) : Int := IntKind.u32.wrap z
def qd1 (a b d : Int) : Int := rt (ixor .u32 d (w32 (a + b))) 16 16
def qb1 (a b c d : Int) : Int := rt (ixor .u32 b (w32 (c + qd1 a b d))) 12 20
def qa (a b c d : Int) : Int := w32 (w32 (a + b) + qb1 a b c d)
def qd (a b c d : Int) : Int := rt (ixor .u32 (qd1 a b d) (qa a b c d)) 8 24
def qc (a b c d : Int) : Int := w32 (w32 (c + qd1 a b d) + qd a b c d)
def qb (a b c d : Int) : Int := rt (ixor .u32 (qb1 a b c d) (qc a b c d)) 7 25
/-- A quarter round at four places. -/
def Q (l : List Int) (a b c d : Nat) : List Int :=
  (((l.set a (qa (l.getD a 0) (l.getD b 0) (l.getD c 0) (l.getD d 0))).set b (qb (l.getD a 0) (l.getD b 0) (l.getD c 0) (l.getD d 0))).set c (qc (l.getD a 0) (l.getD b 0) (l.getD c 0) (l.getD d 0))).set d (qd (l.getD a 0) (l.getD b 0) (l.getD c 0) (l.getD d 0))
theorem Q_len (l : List Int) (a b c d : Nat) : (Q l a b c d).length = l.length := by unfold Q; simp only [List.length_set]

theorem Quarter_eq {R : Type} (N : Nat) (a b c d : Int) (r : Int → Int → Int → Int → Option R) : Quarter.M N R a b c d r = r (qa a b c d) (qb a b c d) (qc a b c d) (qd a b c d) := by kernel_rfl
theorem quarter_0 {R : Type} (N : Nat) (l : List Int) (r : List Int → Option R) : quarter.M N R l 0 4 8 12 r = r (Q l 0 4 8 12) := by kernel_rfl
theorem quarter_1 {R : Type} (N : Nat) (l : List Int) (r : List Int → Option R) : quarter.M N R l 1 5 9 13 r = r (Q l 1 5 9 13) := by kernel_rfl
theorem quarter_2 {R : Type} (N : Nat) (l : List Int) (r : List Int → Option R) : quarter.M N R l 2 6 10 14 r = r (Q l 2 6 10 14) := by kernel_rfl
theorem quarter_3 {R : Type} (N : Nat) (l : List Int) (r : List Int → Option R) : quarter.M N R l 3 7 11 15 r = r (Q l 3 7 11 15) := by kernel_rfl
theorem quarter_4 {R : Type} (N : Nat) (l : List Int) (r : List Int → Option R) : quarter.M N R l 0 5 10 15 r = r (Q l 0 5 10 15) := by kernel_rfl
theorem quarter_5 {R : Type} (N : Nat) (l : List Int) (r : List Int → Option R) : quarter.M N R l 1 6 11 12 r = r (Q l 1 6 11 12) := by kernel_rfl
theorem quarter_6 {R : Type} (N : Nat) (l : List Int) (r : List Int → Option R) : quarter.M N R l 2 7 8 13 r = r (Q l 2 7 8 13) := by kernel_rfl
theorem quarter_7 {R : Type} (N : Nat) (l : List Int) (r : List Int → Option R) : quarter.M N R l 3 4 9 14 r = r (Q l 3 4 9 14) := by kernel_rfl
theorem rQ_0 {R : Type} (N : Nat) (z : Bool) (l : List Int) (h : l.length = 16) (r : Bool → List Int → Option R) : rQuarter.M N R 0 none z l 0 4 8 12 r = r z (Q l 0 4 8 12) := by
  rw [ex16 l h]
  generalize l.getD 0 0 = x0
  generalize l.getD 1 0 = x1
  generalize l.getD 2 0 = x2
  generalize l.getD 3 0 = x3
  generalize l.getD 4 0 = x4
  generalize l.getD 5 0 = x5
  generalize l.getD 6 0 = x6
  generalize l.getD 7 0 = x7
  generalize l.getD 8 0 = x8
  generalize l.getD 9 0 = x9
  generalize l.getD 10 0 = x10
  generalize l.getD 11 0 = x11
  generalize l.getD 12 0 = x12
  generalize l.getD 13 0 = x13
  generalize l.getD 14 0 = x14
  generalize l.getD 15 0 = x15
  kernel_rfl
theorem rQ_1 {R : Type} (N : Nat) (z : Bool) (l : List Int) (h : l.length = 16) (r : Bool → List Int → Option R) : rQuarter.M N R 0 none z l 1 5 9 13 r = r z (Q l 1 5 9 13) := by
  rw [ex16 l h]
  generalize l.getD 0 0 = x0
  generalize l.getD 1 0 = x1
  generalize l.getD 2 0 = x2
  generalize l.getD 3 0 = x3
  generalize l.getD 4 0 = x4
  generalize l.getD 5 0 = x5
  generalize l.getD 6 0 = x6
  generalize l.getD 7 0 = x7
  generalize l.getD 8 0 = x8
  generalize l.getD 9 0 = x9
  generalize l.getD 10 0 = x10
  generalize l.getD 11 0 = x11
  generalize l.getD 12 0 = x12
  generalize l.getD 13 0 = x13
  generalize l.getD 14 0 = x14
  generalize l.getD 15 0 = x15
  kernel_rfl
theorem rQ_2 {R : Type} (N : Nat) (z : Bool) (l : List Int) (h : l.length = 16) (r : Bool → List Int → Option R) : rQuarter.M N R 0 none z l 2 6 10 14 r = r z (Q l 2 6 10 14) := by
  rw [ex16 l h]
  generalize l.getD 0 0 = x0
  generalize l.getD 1 0 = x1
  generalize l.getD 2 0 = x2
  generalize l.getD 3 0 = x3
  generalize l.getD 4 0 = x4
  generalize l.getD 5 0 = x5
  generalize l.getD 6 0 = x6
  generalize l.getD 7 0 = x7
  generalize l.getD 8 0 = x8
  generalize l.getD 9 0 = x9
  generalize l.getD 10 0 = x10
  generalize l.getD 11 0 = x11
  generalize l.getD 12 0 = x12
  generalize l.getD 13 0 = x13
  generalize l.getD 14 0 = x14
  generalize l.getD 15 0 = x15
  kernel_rfl
theorem rQ_3 {R : Type} (N : Nat) (z : Bool) (l : List Int) (h : l.length = 16) (r : Bool → List Int → Option R) : rQuarter.M N R 0 none z l 3 7 11 15 r = r z (Q l 3 7 11 15) := by
  rw [ex16 l h]
  generalize l.getD 0 0 = x0
  generalize l.getD 1 0 = x1
  generalize l.getD 2 0 = x2
  generalize l.getD 3 0 = x3
  generalize l.getD 4 0 = x4
  generalize l.getD 5 0 = x5
  generalize l.getD 6 0 = x6
  generalize l.getD 7 0 = x7
  generalize l.getD 8 0 = x8
  generalize l.getD 9 0 = x9
  generalize l.getD 10 0 = x10
  generalize l.getD 11 0 = x11
  generalize l.getD 12 0 = x12
  generalize l.getD 13 0 = x13
  generalize l.getD 14 0 = x14
  generalize l.getD 15 0 = x15
  kernel_rfl
theorem rQ_4 {R : Type} (N : Nat) (z : Bool) (l : List Int) (h : l.length = 16) (r : Bool → List Int → Option R) : rQuarter.M N R 0 none z l 0 5 10 15 r = r z (Q l 0 5 10 15) := by
  rw [ex16 l h]
  generalize l.getD 0 0 = x0
  generalize l.getD 1 0 = x1
  generalize l.getD 2 0 = x2
  generalize l.getD 3 0 = x3
  generalize l.getD 4 0 = x4
  generalize l.getD 5 0 = x5
  generalize l.getD 6 0 = x6
  generalize l.getD 7 0 = x7
  generalize l.getD 8 0 = x8
  generalize l.getD 9 0 = x9
  generalize l.getD 10 0 = x10
  generalize l.getD 11 0 = x11
  generalize l.getD 12 0 = x12
  generalize l.getD 13 0 = x13
  generalize l.getD 14 0 = x14
  generalize l.getD 15 0 = x15
  kernel_rfl
theorem rQ_5 {R : Type} (N : Nat) (z : Bool) (l : List Int) (h : l.length = 16) (r : Bool → List Int → Option R) : rQuarter.M N R 0 none z l 1 6 11 12 r = r z (Q l 1 6 11 12) := by
  rw [ex16 l h]
  generalize l.getD 0 0 = x0
  generalize l.getD 1 0 = x1
  generalize l.getD 2 0 = x2
  generalize l.getD 3 0 = x3
  generalize l.getD 4 0 = x4
  generalize l.getD 5 0 = x5
  generalize l.getD 6 0 = x6
  generalize l.getD 7 0 = x7
  generalize l.getD 8 0 = x8
  generalize l.getD 9 0 = x9
  generalize l.getD 10 0 = x10
  generalize l.getD 11 0 = x11
  generalize l.getD 12 0 = x12
  generalize l.getD 13 0 = x13
  generalize l.getD 14 0 = x14
  generalize l.getD 15 0 = x15
  kernel_rfl
theorem rQ_6 {R : Type} (N : Nat) (z : Bool) (l : List Int) (h : l.length = 16) (r : Bool → List Int → Option R) : rQuarter.M N R 0 none z l 2 7 8 13 r = r z (Q l 2 7 8 13) := by
  rw [ex16 l h]
  generalize l.getD 0 0 = x0
  generalize l.getD 1 0 = x1
  generalize l.getD 2 0 = x2
  generalize l.getD 3 0 = x3
  generalize l.getD 4 0 = x4
  generalize l.getD 5 0 = x5
  generalize l.getD 6 0 = x6
  generalize l.getD 7 0 = x7
  generalize l.getD 8 0 = x8
  generalize l.getD 9 0 = x9
  generalize l.getD 10 0 = x10
  generalize l.getD 11 0 = x11
  generalize l.getD 12 0 = x12
  generalize l.getD 13 0 = x13
  generalize l.getD 14 0 = x14
  generalize l.getD 15 0 = x15
  kernel_rfl
theorem rQ_7 {R : Type} (N : Nat) (z : Bool) (l : List Int) (h : l.length = 16) (r : Bool → List Int → Option R) : rQuarter.M N R 0 none z l 3 4 9 14 r = r z (Q l 3 4 9 14) := by
  rw [ex16 l h]
  generalize l.getD 0 0 = x0
  generalize l.getD 1 0 = x1
  generalize l.getD 2 0 = x2
  generalize l.getD 3 0 = x3
  generalize l.getD 4 0 = x4
  generalize l.getD 5 0 = x5
  generalize l.getD 6 0 = x6
  generalize l.getD 7 0 = x7
  generalize l.getD 8 0 = x8
  generalize l.getD 9 0 = x9
  generalize l.getD 10 0 = x10
  generalize l.getD 11 0 = x11
  generalize l.getD 12 0 = x12
  generalize l.getD 13 0 = x13
  generalize l.getD 14 0 = x14
  generalize l.getD 15 0 = x15
  kernel_rfl
theorem rQ_4w {R : Type} (N : Nat) (z : Bool) (x0 x1 x2 x3 : Int) (r : Bool → List Int → Option R) : rQuarter.M N R 0 none z [x0, x1, x2, x3] 0 1 2 3 r = r z (Q [x0, x1, x2, x3] 0 1 2 3) := by kernel_rfl

/-- A double round. -/
def D (l : List Int) : List Int := Q (Q (Q (Q (Q (Q (Q (Q l 0 4 8 12) 1 5 9 13) 2 6 10 14) 3 7 11 15) 0 5 10 15) 1 6 11 12) 2 7 8 13) 3 4 9 14
theorem D_len (l : List Int) : (D l).length = l.length := by unfold D; simp only [Q_len]
def Dn : Nat → List Int → List Int
  | 0, l => l
  | n + 1, l => Dn n (D l)
theorem Dn_len : ∀ n l, (Dn n l).length = l.length
  | 0, _ => rfl
  | n + 1, l => by show (Dn n (D l)).length = _; rw [Dn_len n, D_len]

theorem double_eq {R : Type} (N : Nat) (hN : 1000 < N) (l : List Int) (r : List Int → Option R) : double.M N R l r = r (D l) := by
  obtain ⟨M, rfl⟩ : ∃ M, N = M + 10 := ⟨N - 10, by omega⟩
  have h : double.M (M + 10) R l r = quarter.M (M + 10) R l 0 4 8 12 fun l => quarter.M (M + 10) R l 1 5 9 13 fun l => quarter.M (M + 10) R l 2 6 10 14 fun l => quarter.M (M + 10) R l 3 7 11 15 fun l =>
      quarter.M (M + 10) R l 0 5 10 15 fun l => quarter.M (M + 10) R l 1 6 11 12 fun l => quarter.M (M + 10) R l 2 7 8 13 fun l => quarter.M (M + 10) R l 3 4 9 14 r := by
    generalize hq : quarter.M (M + 10) = q
    show double.m (quarter.M (M + 10)) (M + 10) l r = _
    rw [hq]
    kernel_rfl
  rw [h, quarter_0, quarter_1, quarter_2, quarter_3, quarter_4, quarter_5, quarter_6, quarter_7]
  rfl

theorem rounds {R : Type} (N : Nat) (hN : 1000 < N) (ke : Int → List Int → Bool → List Int → Option R) (h0 : List Int) (z : Bool) : ∀ (d m i : Nat) (l : List Int), i + d = 10 → d < m → l.length = 16 →
    rBlock.L9 (rword.M N) (rQuarter.M N) N ke m (i : Int) h0 z l = ke 10 h0 z (Dn d l) := by
  intro d
  induction d with
  | zero =>
    intro m i l hi hm hl
    obtain ⟨m, rfl⟩ : ∃ k, m = k + 1 := ⟨m - 1, by omega⟩
    obtain rfl : i = 10 := by omega
    rfl
  | succ d ih =>
    intro m i l hi hm hl
    obtain ⟨m, rfl⟩ : ∃ k, m = k + 1 := ⟨m - 1, by omega⟩
    unfold rBlock.L9
    have e : ∀ k n : Nat, k = n → (true && z == z && k.beq n && true && true) = true := by
      intro k n h
      have : Nat.beq n n = true := Nat.beq_refl n
      rw [h, beq_self_eq_true, this]; rfl
    rw [decide_eq_true (by omega), cond_true, rQ_0 N z l hl, e _ _ (Q_len _ _ _ _ _), cond_true,
      rQ_1 N z _ (by simp only [Q_len]; exact hl), e _ _ (Q_len _ _ _ _ _), cond_true,
      rQ_2 N z _ (by simp only [Q_len]; exact hl), e _ _ (Q_len _ _ _ _ _), cond_true,
      rQ_3 N z _ (by simp only [Q_len]; exact hl), e _ _ (Q_len _ _ _ _ _), cond_true,
      rQ_4 N z _ (by simp only [Q_len]; exact hl), e _ _ (Q_len _ _ _ _ _), cond_true,
      rQ_5 N z _ (by simp only [Q_len]; exact hl), e _ _ (Q_len _ _ _ _ _), cond_true,
      rQ_6 N z _ (by simp only [Q_len]; exact hl), e _ _ (Q_len _ _ _ _ _), cond_true,
      rQ_7 N z _ (by simp only [Q_len]; exact hl), e _ _ (Q_len _ _ _ _ _), cond_true
      , wrap_i64z _ (by omega) (by omega)]
    exact ih m (i + 1) (D l) (by omega) (by omega) (by rw [D_len]; exact hl)

theorem rounds2 {R : Type} (N : Nat) (hN : 1000 < N) (ke : List Int → Int → List Int → Bool → List Int → Option R) (h0 : List Int) : ∀ (d m i : Nat) (l : List Int), i + d = 10 → d < m →
    Block.J1_0 (begin.M N) (double.M N) N ke m (i : Int) l h0 = Block.L11 (begin.M N) (double.M N) N ke N (Dn d l) 0 h0 true [] := by
  intro d
  induction d with
  | zero =>
    intro m i l hi hm
    obtain ⟨m, rfl⟩ : ∃ k, m = k + 1 := ⟨m - 1, by omega⟩
    obtain rfl : i = 10 := by omega
    rfl
  | succ d ih =>
    intro m i l hi hm
    obtain ⟨m, rfl⟩ : ∃ k, m = k + 1 := ⟨m - 1, by omega⟩
    unfold Block.J1_0
    rw [decide_eq_true (by omega), cond_true, double_eq N hN, wrap_i64z _ (by omega) (by omega)]
    exact ih m (i + 1) (D l) (by omega) (by omega)

end Go.Proofs.YtmijagoibgkocaaDoor.fn
