/- What the number of bytes comes to. -/
import Derived.Test.YthajoenmfppenaaDoorFnWords
import Derived.Test.YthajoenmfppenaaDoorNum
namespace Go.Proofs.YthajoenmfppenaaDoor.fn
open Go Go.Proofs Go.Ev Go.Dg

/-! ### the number of bytes -/

def hor (p : Nat) (l : List Nat) : Nat := l.foldl (fun a c => a * 256 + c) p

theorem or_byte (a c : Nat) (ha : a < 72057594037927936) (hc : c < 256) : ior .u64 (ishl .u64 (a : Int) 8) (c : Int) = ((a * 256 + c : Nat) : Int) := by
  have e0 : ishl .u64 (a : Int) 8 = ((a * 256 : Nat) : Int) := by
    have e : (a : Int) * 2 ^ (min (8 : Int).toNat IntKind.u64.bits) = ((a * 256 : Nat) : Int) := by
      show (a : Int) * 2 ^ 8 = _
      omega
    unfold ishl
    rw [e, wrap_u64 _ (by omega)]
  have e1 : ((a * 256 : Nat) : Int) = un (BitVec.ofNat 64 (a * 256)) := by unfold un; rw [BitVec.toNat_ofNat, Nat.mod_eq_of_lt (by omega)]
  have e2 : (c : Int) = un (BitVec.ofNat 64 c) := by unfold un; rw [BitVec.toNat_ofNat, Nat.mod_eq_of_lt (by omega)]
  rw [e0, e1, e2, ior64]
  unfold un
  rw [BitVec.toNat_or, BitVec.toNat_ofNat, BitVec.toNat_ofNat, Nat.mod_eq_of_lt (show a * 256 < 2 ^ 64 by omega), Nat.mod_eq_of_lt (show c < 2 ^ 64 by omega)]
  have h := Nat.two_pow_add_eq_or_of_lt (i := 8) (b := c) (by omega) a
  rw [show a * 256 = 2 ^ 8 * a by omega]
  exact congrArg Int.ofNat h.symm

theorem Big_loop {R : Type} (N : Nat) (ke : Int → Option Bool → List Int → Int → Int → Option R) (z : Option Bool) (n : Nat) (hn : n ≤ 8) :
    ∀ (xs pre : List Nat) (p m : Nat), pre.length + xs.length = n → xs.length < m → p < 256 ^ pre.length → (∀ x ∈ xs, x < 256) →
      ∃ i, Big.L5 N ke m (p : Int) z (nn (pre ++ xs)) (n : Int) (pre.length : Int) = ke ((hor p xs : Nat) : Int) z (nn (pre ++ xs)) (n : Int) i := by
  intro xs
  induction xs with
  | nil =>
    intro pre p m h5 hm _ _
    obtain ⟨m, rfl⟩ : ∃ k, m = k + 1 := ⟨m - 1, by simp at hm; omega⟩
    refine ⟨(pre.length : Int), ?_⟩
    unfold Big.L5
    rw [decide_eq_false (by simp at h5; omega), cond_false]
    rfl
  | cons x xs ih =>
    intro pre p m h5 hm hp hx
    obtain ⟨m, rfl⟩ : ∃ k, m = k + 1 := ⟨m - 1, by simp at hm; omega⟩
    have hx0 := hx x (by simp)
    simp only [List.length_cons] at h5 hm
    have hp7 : p < 72057594037927936 := Nat.lt_of_lt_of_le hp (by
      have := Nat.pow_le_pow_right (n := 256) (by omega) (show pre.length ≤ 7 by omega)
      exact this)
    have hp' : p * 256 + x < 256 ^ (pre ++ [x]).length := by
      rw [List.length_append, List.length_singleton, Nat.pow_succ]
      have : (p + 1) * 256 ≤ 256 ^ pre.length * 256 := Nat.mul_le_mul_right _ hp
      omega
    obtain ⟨i, hi⟩ := ih (pre ++ [x]) (p * 256 + x) m (by simp; omega) (by omega) hp' (fun z hz => hx z (by simp [hz]))
    refine ⟨i, ?_⟩
    unfold Big.L5
    have c1 : decide ((pre.length : Int) < (n : Int)) = true := decide_eq_true (by omega)
    have c2 : decide (0 ≤ (pre.length : Int)) = true := decide_eq_true (by omega)
    have c3 : decide ((pre.length : Int) < ((nn (pre ++ x :: xs)).length : Int)) = true := decide_eq_true (by simp; omega)
    have g1 : (nn (pre ++ x :: xs)).getD (pre.length : Int).toNat 0 = (x : Int) := app_getD pre x xs rfl
    simp only [c1, c2, c3, cond_true, g1]
    rw [wrap_u64 x (by omega), or_byte p x hp7 hx0, wrap_i64z _ (by omega) (by omega), show (pre.length : Int) + 1 = ((pre ++ [x]).length : Int) by simp, app_next pre x xs, hi]
    rfl

theorem Big_eq {R : Type} (N : Nat) (hN : 1000 < N) (z : Option Bool) (xs : List Nat) (hl : xs.length ≤ 8) (hx : ∀ x ∈ xs, x < 256) (r : Int → Nat → Option R) : Big.M N R z (nn xs) r = r ((hor 0 xs : Nat) : Int) 0 := by
  show Big.m N z (nn xs) r = _
  unfold Big.m
  have e : ((nn xs).length : Int) = (xs.length : Int) := by simp
  rw [e, decide_eq_false (by omega), cond_false]
  obtain ⟨i, h⟩ := Big_loop N (fun x _ _ _ _ => r x 0) z xs.length hl xs [] 0 N (by simp) (by omega) (by simp) hx
  exact h

theorem Big_err {R : Type} (N : Nat) (z : Option Bool) (l : List Int) (hl : 8 < l.length) (r : Int → Nat → Option R) : Big.M N R z l r = r 0 3 := by
  show Big.m N z l r = _
  unfold Big.m
  rw [decide_eq_true (by omega), cond_true]

end Go.Proofs.YthajoenmfppenaaDoor.fn
