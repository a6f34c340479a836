/- Every block of the stream is the reference's; the lists of words are printed by a program. -/
import Derived.Test.YtmijagoibgkocaaDoorMStreamA
import Derived.Test.YtmijagoibgkocaaDoorFnStreamBlocks
namespace Go.Proofs.YtmijagoibgkocaaDoor.fn
open Go Go.Proofs Go.Ev Go.Dg

def leW (a b c d : Int) : Int := ior .u32 (ior .u32 (ior .u32 (w32 a) (ishl .u32 (w32 b) 8)) (ishl .u32 (w32 c) 16)) (ishl .u32 (w32 d) 24)
def rW (a b c d : Int) : Int := w32 (w32 (w32 (w32 a + w32 (256 * w32 b)) + w32 (65536 * w32 c)) + w32 (16777216 * w32 d))

theorem ior_lo (k : IntKind) (hs : k.signed = false) (x c s : Nat) (hx : x < 2 ^ s) (hc : c * 2 ^ s + x < 2 ^ k.bits) : ior k (x : Int) ((c * 2 ^ s : Nat) : Int) = ((c * 2 ^ s + x : Nat) : Int) := by
  have e1 : (x : Int) = un (BitVec.ofNat k.bits x) := by unfold un; rw [BitVec.toNat_ofNat, Nat.mod_eq_of_lt (by omega)]
  have e2 : ((c * 2 ^ s : Nat) : Int) = un (BitVec.ofNat k.bits (c * 2 ^ s)) := by unfold un; rw [BitVec.toNat_ofNat, Nat.mod_eq_of_lt (by omega)]
  rw [e1, e2, ior_un hs]
  unfold un
  rw [BitVec.toNat_or, BitVec.toNat_ofNat, BitVec.toNat_ofNat, Nat.mod_eq_of_lt (show x < 2 ^ k.bits by omega), Nat.mod_eq_of_lt (show c * 2 ^ s < 2 ^ k.bits by omega)]
  have h := Nat.two_pow_add_eq_or_of_lt hx c
  rw [Nat.mul_comm c, Nat.or_comm, ← h]

theorem ishl32 (a s : Nat) (hs : s ≤ 32) (h : a * 2 ^ s < 4294967296) : ishl .u32 (a : Int) (s : Int) = ((a * 2 ^ s : Nat) : Int) := by
  unfold ishl
  rw [Int.toNat_natCast, Nat.min_eq_left (by simp only [IntKind.bits]; omega), show (a : Int) * 2 ^ s = ((a * 2 ^ s : Nat) : Int) by simp, wrap_u32, Nat.mod_eq_of_lt h]

def isBy (l : List Int) : Prop := ∀ z ∈ l, 0 ≤ z ∧ z < 256

theorem isBy.nat {l : List Int} (h : isBy l) (i : Nat) : ∃ x : Nat, l.getD i 0 = (x : Int) ∧ x < 256 := by
  by_cases hi : i < l.length
  · have := h (l.getD i 0) (by simp [List.getD, List.getElem?_eq_getElem hi])
    exact ⟨(l.getD i 0).toNat, by omega, by omega⟩
  · exact ⟨0, by simp [List.getD, List.getElem?_eq_none (show l.length ≤ i by omega)], by omega⟩

theorem leW_eq (x0 x1 x2 x3 : Nat) (h0 : x0 < 256) (h1 : x1 < 256) (h2 : x2 < 256) (h3 : x3 < 256) : leW x0 x1 x2 x3 = rW x0 x1 x2 x3 := by
  unfold leW rW w32
  have s1 := ishl32 x1 8 (by omega) (by omega)
  have s2 := ishl32 x2 16 (by omega) (by omega)
  have s3 := ishl32 x3 24 (by omega) (by omega)
  rw [show ((24 : Nat) : Int) = 24 from rfl] at s3
  rw [show ((16 : Nat) : Int) = 16 from rfl] at s2
  rw [show ((8 : Nat) : Int) = 8 from rfl] at s1
  have i1 := ior_lo .u32 rfl x0 x1 8 (by omega) (by simp only [IntKind.bits]; omega)
  have i2 := ior_lo .u32 rfl (x1 * 256 + x0) x2 16 (by omega) (by simp only [IntKind.bits]; omega)
  have i3 := ior_lo .u32 rfl (x2 * 65536 + x1 * 256 + x0) x3 24 (by omega) (by simp only [IntKind.bits]; omega)
  have f1 : x1 * 2 ^ 8 + x0 = x1 * 256 + x0 := rfl
  have f2 : x2 * 2 ^ 16 + (x1 * 256 + x0) = x2 * 65536 + x1 * 256 + x0 := (Nat.add_assoc (x2 * 65536) (x1 * 256) x0).symm
  have c1 : (256 : Int) * (x1 : Int) = ((256 * x1 : Nat) : Int) := by omega
  have c2 : (65536 : Int) * (x2 : Int) = ((65536 * x2 : Nat) : Int) := by omega
  have c3 : (16777216 : Int) * (x3 : Int) = ((16777216 * x3 : Nat) : Int) := by omega
  have a1 : (x0 : Int) + ((256 * x1 : Nat) : Int) = ((x0 + 256 * x1 : Nat) : Int) := by omega
  have a2 : ((x0 + 256 * x1 : Nat) : Int) + ((65536 * x2 : Nat) : Int) = ((x0 + 256 * x1 + 65536 * x2 : Nat) : Int) := by omega
  have a3 : ((x0 + 256 * x1 + 65536 * x2 : Nat) : Int) + ((16777216 * x3 : Nat) : Int) = ((x0 + 256 * x1 + 65536 * x2 + 16777216 * x3 : Nat) : Int) := by omega
  rw [wrap_u32 x0, wrap_u32 x1, wrap_u32 x2, wrap_u32 x3, Nat.mod_eq_of_lt (show x0 < 4294967296 by omega), Nat.mod_eq_of_lt (show x1 < 4294967296 by omega), Nat.mod_eq_of_lt (show x2 < 4294967296 by omega), Nat.mod_eq_of_lt (show x3 < 4294967296 by omega),
    s1, s2, s3, i1, f1, i2, f2, i3, c1, c2, c3, wrap_u32, wrap_u32, wrap_u32, Nat.mod_eq_of_lt (show 256 * x1 < 4294967296 by omega), Nat.mod_eq_of_lt (show 65536 * x2 < 4294967296 by omega), Nat.mod_eq_of_lt (show 16777216 * x3 < 4294967296 by omega),
    a1, wrap_u32, Nat.mod_eq_of_lt (show x0 + 256 * x1 < 4294967296 by omega), a2, wrap_u32, Nat.mod_eq_of_lt (show x0 + 256 * x1 + 65536 * x2 < 4294967296 by omega), a3, wrap_u32, Nat.mod_eq_of_lt (show x0 + 256 * x1 + 65536 * x2 + 16777216 * x3 < 4294967296 by omega)]
  omega

theorem le_get {l : List Int} (h : isBy l) (a b c d : Nat) : leW (l.getD a 0) (l.getD b 0) (l.getD c 0) (l.getD d 0) = rW (l.getD a 0) (l.getD b 0) (l.getD c 0) (l.getD d 0) := by
  obtain ⟨x0, e0, h0⟩ := h.nat a
  obtain ⟨x1, e1, h1⟩ := h.nat b
  obtain ⟨x2, e2, h2⟩ := h.nat c
  obtain ⟨x3, e3, h3⟩ := h.nat d
  rw [e0, e1, e2, e3]
  exact leW_eq x0 x1 x2 x3 h0 h1 h2 h3

/-- The words at the beginning. -/
def bg (k : List Int) (c : Int) (n : List Int) : List Int := [1634760805, 857760878, 2036477234, 1797285236, rW (k.getD 0 0) (k.getD 1 0) (k.getD 2 0) (k.getD 3 0), rW (k.getD 4 0) (k.getD 5 0) (k.getD 6 0) (k.getD 7 0), rW (k.getD 8 0) (k.getD 9 0) (k.getD 10 0) (k.getD 11 0), rW (k.getD 12 0) (k.getD 13 0) (k.getD 14 0) (k.getD 15 0), rW (k.getD 16 0) (k.getD 17 0) (k.getD 18 0) (k.getD 19 0), rW (k.getD 20 0) (k.getD 21 0) (k.getD 22 0) (k.getD 23 0), rW (k.getD 24 0) (k.getD 25 0) (k.getD 26 0) (k.getD 27 0), rW (k.getD 28 0) (k.getD 29 0) (k.getD 30 0) (k.getD 31 0), c, rW (n.getD 0 0) (n.getD 1 0) (n.getD 2 0) (n.getD 3 0), rW (n.getD 4 0) (n.getD 5 0) (n.getD 6 0) (n.getD 7 0), rW (n.getD 8 0) (n.getD 9 0) (n.getD 10 0) (n.getD 11 0)]
theorem bg_len (k : List Int) (c : Int) (n : List Int) : (bg k c n).length = 16 := rfl

theorem begin_raw {R : Type} (M : Nat) (c : Int) (z : Option Bool) (k0 k1 k2 k3 k4 k5 k6 k7 k8 k9 k10 k11 k12 k13 k14 k15 k16 k17 k18 k19 k20 k21 k22 k23 k24 k25 k26 k27 k28 k29 k30 k31 n0 n1 n2 n3 n4 n5 n6 n7 n8 n9 n10 n11 : Int) (r : List Int → Option R) :
    begin.M (M + 30) R [k0, k1, k2, k3, k4, k5, k6, k7, k8, k9, k10, k11, k12, k13, k14, k15, k16, k17, k18, k19, k20, k21, k22, k23, k24, k25, k26, k27, k28, k29, k30, k31] c z [n0, n1, n2, n3, n4, n5, n6, n7, n8, n9, n10, n11] r = r [1634760805, 857760878, 2036477234, 1797285236, leW k0 k1 k2 k3, leW k4 k5 k6 k7, leW k8 k9 k10 k11, leW k12 k13 k14 k15, leW k16 k17 k18 k19, leW k20 k21 k22 k23, leW k24 k25 k26 k27, leW k28 k29 k30 k31, c, leW n0 n1 n2 n3, leW n4 n5 n6 n7, leW n8 n9 n10 n11] := by kernel_rfl

theorem begin_eq {R : Type} (N : Nat) (hN : 1000 < N) (k : List Int) (hk : k.length = 32) (bk : isBy k) (c : Int) (z : Option Bool) (n : List Int) (hn : n.length = 12) (bn : isBy n) (r : List Int → Option R) :
    begin.M N R k c z n r = r (bg k c n) := by
  obtain ⟨M, rfl⟩ : ∃ M, N = M + 30 := ⟨N - 30, by omega⟩
  have h := begin_raw M c z (k.getD 0 0) (k.getD 1 0) (k.getD 2 0) (k.getD 3 0) (k.getD 4 0) (k.getD 5 0) (k.getD 6 0) (k.getD 7 0) (k.getD 8 0) (k.getD 9 0) (k.getD 10 0) (k.getD 11 0) (k.getD 12 0) (k.getD 13 0) (k.getD 14 0) (k.getD 15 0) (k.getD 16 0) (k.getD 17 0) (k.getD 18 0) (k.getD 19 0) (k.getD 20 0) (k.getD 21 0) (k.getD 22 0) (k.getD 23 0) (k.getD 24 0) (k.getD 25 0) (k.getD 26 0) (k.getD 27 0) (k.getD 28 0) (k.getD 29 0) (k.getD 30 0) (k.getD 31 0) (n.getD 0 0) (n.getD 1 0) (n.getD 2 0) (n.getD 3 0) (n.getD 4 0) (n.getD 5 0) (n.getD 6 0) (n.getD 7 0) (n.getD 8 0) (n.getD 9 0) (n.getD 10 0) (n.getD 11 0) r
  rw [← ex32 k hk, ← ex12 n hn] at h
  rw [h]
  rw [le_get bk 0 1 2 3]
  rw [le_get bk 4 5 6 7]
  rw [le_get bk 8 9 10 11]
  rw [le_get bk 12 13 14 15]
  rw [le_get bk 16 17 18 19]
  rw [le_get bk 20 21 22 23]
  rw [le_get bk 24 25 26 27]
  rw [le_get bk 28 29 30 31]
  rw [le_get bn 0 1 2 3]
  rw [le_get bn 4 5 6 7]
  rw [le_get bn 8 9 10 11]
  rfl

theorem rbegin_raw {R : Type} (M m : Nat) (c : Int) (z : Option Bool) (k0 k1 k2 k3 k4 k5 k6 k7 k8 k9 k10 k11 k12 k13 k14 k15 k16 k17 k18 k19 k20 k21 k22 k23 k24 k25 k26 k27 k28 k29 k30 k31 : Int) (n : List Int) (ke : Int → Option Bool → List Int → Int → List Int → List Int → Option R) :
    rBlock.L3 (rword.M (M + 30)) (rQuarter.M (M + 30)) (M + 30) ke (m + 9) c z n 0 [k0, k1, k2, k3, k4, k5, k6, k7, k8, k9, k10, k11, k12, k13, k14, k15, k16, k17, k18, k19, k20, k21, k22, k23, k24, k25, k26, k27, k28, k29, k30, k31] [1634760805, 857760878, 2036477234, 1797285236] = ke c z n 8 [k0, k1, k2, k3, k4, k5, k6, k7, k8, k9, k10, k11, k12, k13, k14, k15, k16, k17, k18, k19, k20, k21, k22, k23, k24, k25, k26, k27, k28, k29, k30, k31] [1634760805, 857760878, 2036477234, 1797285236, rW k0 k1 k2 k3, rW k4 k5 k6 k7, rW k8 k9 k10 k11, rW k12 k13 k14 k15, rW k16 k17 k18 k19, rW k20 k21 k22 k23, rW k24 k25 k26 k27, rW k28 k29 k30 k31] := by kernel_rfl
theorem rword_0 {R : Type} (N : Nat) (z : Option Bool) (n0 n1 n2 n3 n4 n5 n6 n7 n8 n9 n10 n11 : Int) (r : Int → Option R) : rword.M N R z [n0, n1, n2, n3, n4, n5, n6, n7, n8, n9, n10, n11] 0 r = r (rW n0 n1 n2 n3) := by kernel_rfl
theorem rword_1 {R : Type} (N : Nat) (z : Option Bool) (n0 n1 n2 n3 n4 n5 n6 n7 n8 n9 n10 n11 : Int) (r : Int → Option R) : rword.M N R z [n0, n1, n2, n3, n4, n5, n6, n7, n8, n9, n10, n11] 1 r = r (rW n4 n5 n6 n7) := by kernel_rfl
theorem rword_2 {R : Type} (N : Nat) (z : Option Bool) (n0 n1 n2 n3 n4 n5 n6 n7 n8 n9 n10 n11 : Int) (r : Int → Option R) : rword.M N R z [n0, n1, n2, n3, n4, n5, n6, n7, n8, n9, n10, n11] 2 r = r (rW n8 n9 n10 n11) := by kernel_rfl

/-- A block's bytes. -/
def out (d h : List Int) : Nat → List Int
  | 0 => []
  | n + 1 => out d h n ++ [IntKind.u8.wrap (IntKind.u32.wrap (d.getD n 0 + h.getD n 0)), IntKind.u8.wrap (ishr .u32 (IntKind.u32.wrap (d.getD n 0 + h.getD n 0)) 8), IntKind.u8.wrap (ishr .u32 (IntKind.u32.wrap (d.getD n 0 + h.getD n 0)) 16), IntKind.u8.wrap (ishr .u32 (IntKind.u32.wrap (d.getD n 0 + h.getD n 0)) 24)]
theorem out_len (d h : List Int) : ∀ n, (out d h n).length = 4 * n
  | 0 => rfl
  | n + 1 => by
    show (out d h n ++ _).length = _
    rw [List.length_append, out_len d h n]
    show 4 * n + 4 = _
    omega

theorem out_loop {R : Type} (N : Nat) (d h : List Int) (ke : List Int → Int → List Int → Bool → List Int → Option R) (g1 g2) : ∀ (n m i : Nat) (z : Bool), i + n = 16 → n < m →
    Block.L11 g1 g2 N ke m d (i : Int) h z (out d h i) = ke d 16 h (z && decide (n = 0)) (out d h 16) := by
  intro n
  induction n with
  | zero =>
    intro m i z hi hm
    obtain ⟨m, rfl⟩ : ∃ k, m = k + 1 := ⟨m - 1, by omega⟩
    obtain rfl : i = 16 := by omega
    rw [decide_eq_true rfl, Bool.and_true]
    rfl
  | succ n ih =>
    intro m i z hi hm
    obtain ⟨m, rfl⟩ : ∃ k, m = k + 1 := ⟨m - 1, by omega⟩
    unfold Block.L11
    have e1 : decide ((i : Int) < 16) = true := decide_eq_true (by omega)
    have e2 : decide (0 ≤ (i : Int)) = true := decide_eq_true (by omega)
    rw [e1, e2, out_len, decide_eq_true (by omega), decide_eq_true (by omega), cond_true, cond_true, cond_true, cond_true, cond_true, cond_true, cond_true, wrap_i64z _ (by omega) (by omega)]
    rw [decide_eq_false (by omega), Bool.and_false]
    exact ih m (i + 1) false (by omega) (by omega)

theorem rout_loop {R : Type} (N : Nat) (d h : List Int) (hd : d.length = 16) (hh : h.length = 16) (z : Bool) (ke : Int → List Int → Bool → List Int → List Int → Option R) (X : List Int → Option R) (hke : ∀ a b c e f, ke a b c e f = X f) (g1 g2) : ∀ (n m i : Nat), i + n = 16 → n < m →
    rBlock.L21 g1 g2 N ke m (i : Int) h z d (out d h i) = X (out d h 16) := by
  intro n
  induction n with
  | zero =>
    intro m i hi hm
    obtain ⟨m, rfl⟩ : ∃ k, m = k + 1 := ⟨m - 1, by omega⟩
    obtain rfl : i = 16 := by omega
    exact hke _ _ _ _ _
  | succ n ih =>
    intro m i hi hm
    obtain ⟨m, rfl⟩ : ∃ k, m = k + 1 := ⟨m - 1, by omega⟩
    unfold rBlock.L21
    have ho : ∀ k, olen none k 0 = k := fun k => Nat.sub_zero k
    have e1 : decide ((i : Int) < 16) = true := decide_eq_true (by omega)
    have e2 : decide (0 ≤ (i : Int)) = true := decide_eq_true (by omega)
    have e3 : decide ((i : Int) < ((16 : Nat) : Int)) = true := e1
    rw [ho, ho, hd, hh, e1, e2, e3, out_len, decide_eq_true (by omega), decide_eq_true (by omega), cond_true, cond_true, cond_true, cond_true, cond_true, cond_true, cond_true, wrap_i64z _ (by omega) (by omega), Nat.zero_add]
    exact ih m (i + 1) (by omega) (by omega)

def blk (k : List Int) (c : Int) (n : List Int) : List Int := out (Dn 10 (bg k c n)) (bg k c n) 16

theorem Block_eq {R : Type} (N : Nat) (hN : 1000 < N) (k : List Int) (hk : k.length = 32) (bk : isBy k) (c : Int) (z : Option Bool) (n : List Int) (bn : isBy n) (e : Option R) (r : Bool → List Int → Option R) :
    Block.M N R k c z n e r = cond ((n.length : Int) != 12) e (r false (blk k c n)) := by
  show Block.m (begin.M N) (double.M N) N k c z n e r = _
  unfold Block.m
  by_cases hn : n.length = 12
  · have e1 : ((n.length : Int) != 12) = false := by rw [hn]; rfl
    rw [e1, cond_false, cond_false, begin_eq N hN k hk bk c z n hn bn, double_eq N hN]
    refine (rounds2 N hN _ _ 9 N 1 _ (by omega) (by omega)).trans ?_
    exact out_loop N _ _ _ _ _ 16 N 0 true (by omega) (by omega)
  · have e1 : ((n.length : Int) != 12) = true := by rw [bne_iff_ne]; omega
    rw [e1, cond_true, cond_true]

theorem rBlock_eq {R : Type} (N : Nat) (hN : 1000 < N) (k : List Int) (hk : k.length = 32) (c : Int) (z : Option Bool) (n : List Int) (hn : n.length = 12) (r : List Int → Option R) :
    rBlock.M N R k c z n r = r (blk k c n) := by
  obtain ⟨M, rfl⟩ : ∃ M, N = M + 30 := ⟨N - 30, by omega⟩
  have h3 := fun ke => rbegin_raw (R := R) M (M + 21) c z (k.getD 0 0) (k.getD 1 0) (k.getD 2 0) (k.getD 3 0) (k.getD 4 0) (k.getD 5 0) (k.getD 6 0) (k.getD 7 0) (k.getD 8 0) (k.getD 9 0) (k.getD 10 0) (k.getD 11 0) (k.getD 12 0) (k.getD 13 0) (k.getD 14 0) (k.getD 15 0) (k.getD 16 0) (k.getD 17 0) (k.getD 18 0) (k.getD 19 0) (k.getD 20 0) (k.getD 21 0) (k.getD 22 0) (k.getD 23 0) (k.getD 24 0) (k.getD 25 0) (k.getD 26 0) (k.getD 27 0) (k.getD 28 0) (k.getD 29 0) (k.getD 30 0) (k.getD 31 0) n ke
  rw [← ex32 k hk] at h3
  have w0 := fun r => rword_0 (R := R) (M + 30) z (n.getD 0 0) (n.getD 1 0) (n.getD 2 0) (n.getD 3 0) (n.getD 4 0) (n.getD 5 0) (n.getD 6 0) (n.getD 7 0) (n.getD 8 0) (n.getD 9 0) (n.getD 10 0) (n.getD 11 0) r
  rw [← ex12 n hn] at w0
  have w1 := fun r => rword_1 (R := R) (M + 30) z (n.getD 0 0) (n.getD 1 0) (n.getD 2 0) (n.getD 3 0) (n.getD 4 0) (n.getD 5 0) (n.getD 6 0) (n.getD 7 0) (n.getD 8 0) (n.getD 9 0) (n.getD 10 0) (n.getD 11 0) r
  rw [← ex12 n hn] at w1
  have w2 := fun r => rword_2 (R := R) (M + 30) z (n.getD 0 0) (n.getD 1 0) (n.getD 2 0) (n.getD 3 0) (n.getD 4 0) (n.getD 5 0) (n.getD 6 0) (n.getD 7 0) (n.getD 8 0) (n.getD 9 0) (n.getD 10 0) (n.getD 11 0) r
  rw [← ex12 n hn] at w2
  show rBlock.m (rword.M (M + 30)) (rQuarter.M (M + 30)) (M + 30) k c z n r = _
  unfold rBlock.m
  refine (h3 _).trans ?_
  rw [w0, w1, w2]
  have d : ∀ x y : Nat, x ≤ 100 → decide ((x + y) * 4 ≤ 140737488355328) = decide (y ≤ 35184372088732 + (100 - x)) := by
    intro x y h; exact decide_eq_decide.2 (by omega)
  have hcut : ∀ l : List Int, cut none 0 l = l := fun _ => rfl
  rw [hcut, List.nil_append]
  rw [decide_eq_true (show _ from by show (12 + 4) * 4 ≤ 140737488355328; decide), cond_true, decide_eq_true (show _ from by show 12 + 4 ≤ 140737488355328; decide), cond_true,
    decide_eq_true (show _ from by show (0 + 16) * 4 ≤ 140737488355328; decide), cond_true, decide_eq_true (show _ from by show 0 + 16 ≤ 140737488355328; decide), cond_true]
  refine (rounds (M + 30) hN _ (bg k c n) _ 10 (M + 30) 0 (bg k c n) (by omega) (by omega) rfl).trans ?_
  exact rout_loop (M + 30) _ _ ((Dn_len 10 _).trans rfl) rfl _ _ r (fun _ _ _ _ _ => rfl) _ _ 16 (M + 30) 0 (by omega) (by omega)

theorem alive06_eq {R : Type} (N : Nat) (r : Bool → Option R) : alive06.M N R r = r true := by kernel_rfl
theorem sNum_4 {R : Type} (N : Nat) (hN : 30 ≤ N) (r : Int → Option R) : Num.M N R 4 r = r 4 := by
  obtain ⟨M, rfl⟩ : ∃ M, N = M + 30 := ⟨N - 30, by omega⟩
  kernel_rfl

theorem ex4 (l : List Int) (h : l.length = 4) : l = [l.getD 0 0, l.getD 1 0, l.getD 2 0, l.getD 3 0] := (ex_get l).trans (by rw [h]; rfl)

theorem StreamBlocks_true {R : Type} (N : Nat) (hN : 1000 < N) (w : List Int) (k : List Int) (hk : k.length = 32) (bk : isBy k) (z : Option Bool) (n : List Int) (bn : isBy n) (r : Bool → Option R) :
    StreamBlocks.M N R w k z n r = r true := by
  show StreamBlocks.m (alive06.M N) (Quarter.M N) (rQuarter.M N) (Block.M N) (Num.M N) (rBlock.M N) N w k z n r = _
  unfold StreamBlocks.m
  rw [alive06_eq, Bool.not_true, cond_false]
  by_cases h50 : n.length ≤ 50
  · rw [decide_eq_false (by omega), cond_false, Quarter_eq, rQ_4w]
    generalize w.getD 0 0 = a
    generalize w.getD 1 0 = b
    generalize w.getD 2 0 = c
    generalize w.getD 3 0 = d
    have eQ : Q [a, b, c, d] 0 1 2 3 = [qa a b c d, qb a b c d, qc a b c d, qd a b c d] := rfl
    have t1 : (true && false == false && ([qa a b c d, qb a b c d, qc a b c d, qd a b c d].length).beq 4 && true && true) = true := rfl
    have g0 : [qa a b c d, qb a b c d, qc a b c d, qd a b c d].getD 0 0 = qa a b c d := rfl
    have g1 : [qa a b c d, qb a b c d, qc a b c d, qd a b c d].getD 1 0 = qb a b c d := rfl
    have g2 : [qa a b c d, qb a b c d, qc a b c d, qd a b c d].getD 2 0 = qc a b c d := rfl
    have g3 : [qa a b c d, qb a b c d, qc a b c d, qd a b c d].getD 3 0 = qd a b c d := rfl
    have l0 : decide ((0 : Int) < ((olen none [qa a b c d, qb a b c d, qc a b c d, qd a b c d].length 0 : Nat) : Int)) = true := rfl
    have l1 : decide ((1 : Int) < ((olen none [qa a b c d, qb a b c d, qc a b c d, qd a b c d].length 0 : Nat) : Int)) = true := rfl
    have l2 : decide ((2 : Int) < ((olen none [qa a b c d, qb a b c d, qc a b c d, qd a b c d].length 0 : Nat) : Int)) = true := rfl
    have l3 : decide ((3 : Int) < ((olen none [qa a b c d, qb a b c d, qc a b c d, qd a b c d].length 0 : Nat) : Int)) = true := rfl
    have ne : ∀ x : Int, (x != x) = false := fun x => by simp
    rw [eQ, t1, cond_true, l0, cond_true, g0, ne, cond_false, l1, cond_true, g1, ne, cond_false, l2, cond_true, g2, ne, cond_false, l3, cond_true, g3, ne, cond_false]
    refine (Block_eq N hN k hk bk a z n bn _ _).trans ?_
    by_cases hn : n.length = 12
    · have e1 : ((n.length : Int) != 12) = false := by rw [hn]; rfl
      rw [e1, cond_false, cond_false, rBlock_eq N hN k hk a z n hn, beq_self_eq_true]
    · have e1 : ((n.length : Int) != 12) = true := by rw [bne_iff_ne]; omega
      rw [e1, cond_true, cond_true, sNum_4 N (by omega)]
      rfl
  · rw [decide_eq_true (by omega), cond_true]

end Go.Proofs.YtmijagoibgkocaaDoor.fn
