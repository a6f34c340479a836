/- What a number's bytes come to, the high one first. -/
import Derived.Test.YthajoenmfppenaaDoorFnBytes
import Derived.Test.YthajoenmfppenaaDoorNum
namespace Go.Proofs.YthajoenmfppenaaDoor.fn
open Go Go.Proofs Go.Ev Go.Dg
theorem rev_loop {R : Type} (N : Nat) (ke : Nat → Option Nat → Int → Int → Bool → List Int → Option R) (z : Bool) :
    ∀ (k : Nat) (mid p q : List Int) (m : Nat), mid.length ≤ 2 * k → p.length = q.length → p.length + mid.length + q.length ≤ 1000 → k < m →
      ∃ i j, Reverse.L1 N ke m 0 none (p.length : Int) ((p.length : Int) + mid.length - 1) z (p ++ (mid ++ q)) = ke 0 none i j z (p ++ (mid.reverse ++ q)) := by
  intro k
  induction k with
  | zero =>
    intro mid p q m h1 h2 h3 hm
    obtain ⟨m, rfl⟩ : ∃ k, m = k + 1 := ⟨m - 1, by omega⟩
    have : mid = [] := by simpa using h1
    subst this
    refine ⟨(p.length : Int), (p.length : Int) + (([] : List Int).length : Int) - 1, ?_⟩
    unfold Reverse.L1
    rw [decide_eq_false (by simp only [List.length_nil]; omega), cond_false]
    rfl
  | succ k ih =>
    intro mid p q m h1 h2 h3 hm
    obtain ⟨m, rfl⟩ : ∃ k, m = k + 1 := ⟨m - 1, by omega⟩
    match mid, h1, h3 with
    | [], _, _ =>
      refine ⟨(p.length : Int), (p.length : Int) + (([] : List Int).length : Int) - 1, ?_⟩
      unfold Reverse.L1
      rw [decide_eq_false (by simp only [List.length_nil]; omega), cond_false]
      rfl
    | [x], _, _ =>
      refine ⟨(p.length : Int), (p.length : Int) + (([x] : List Int).length : Int) - 1, ?_⟩
      unfold Reverse.L1
      rw [decide_eq_false (by simp), cond_false]
      rfl
    | x :: y0 :: rest, h1, h3 =>
      obtain ⟨m', y, hy⟩ : ∃ m' y, y0 :: rest = m' ++ [y] := ⟨(y0 :: rest).dropLast, (y0 :: rest).getLast (by simp), (List.dropLast_concat_getLast (by simp)).symm⟩
      rw [hy] at h1 h3 ⊢
      simp only [List.length_cons, List.length_append, List.length_nil] at h1 h3
      obtain ⟨i, j, hij⟩ := ih m' (p ++ [y]) (x :: q) m (by omega) (by simp; omega) (by simp; omega) (by omega)
      refine ⟨i, j, ?_⟩
      have e0 : p ++ (x :: (m' ++ [y]) ++ q) = p ++ x :: (m' ++ y :: q) := by simp
      have e1 : (p.length : Int) + ((x :: (m' ++ [y])).length : Int) - 1 = ((p.length + 1 + m'.length : Nat) : Int) := by simp only [List.length_cons, List.length_append, List.length_nil]; omega
      rw [e0, e1]
      have hlen : (p ++ x :: (m' ++ y :: q)).length = p.length + m'.length + q.length + 2 := by simp; omega
      have g1 : (p ++ x :: (m' ++ y :: q)).getD (0 + (p.length : Int).toNat) 0 = x := by
        rw [Nat.zero_add, Int.toNat_natCast, List.getD_eq_getElem?_getD, List.getElem?_append_right (Nat.le_refl _), Nat.sub_self]; rfl
      have g2 : (p ++ x :: (m' ++ y :: q)).getD (0 + ((p.length + 1 + m'.length : Nat) : Int).toNat) 0 = y := by
        rw [Nat.zero_add, Int.toNat_natCast, show p ++ x :: (m' ++ y :: q) = (p ++ x :: m') ++ y :: q by simp, List.getD_eq_getElem?_getD, List.getElem?_append_right (by simp; omega)]
        have : p.length + 1 + m'.length - (p ++ x :: m').length = 0 := by simp; omega
        rw [this]; rfl
      have s1 : (p ++ x :: (m' ++ y :: q)).set (0 + (p.length : Int).toNat) y = (p ++ y :: m') ++ y :: q := by
        rw [Nat.zero_add, Int.toNat_natCast, List.set_append_right _ _ (Nat.le_refl _), Nat.sub_self]; simp
      have s2 : ((p ++ y :: m') ++ y :: q).set (0 + ((p.length + 1 + m'.length : Nat) : Int).toNat) x = (p ++ [y]) ++ (m' ++ x :: q) := by
        rw [Nat.zero_add, Int.toNat_natCast, List.set_append_right _ _ (by simp; omega)]
        have : p.length + 1 + m'.length - (p ++ y :: m').length = 0 := by simp; omega
        rw [this]; simp
      unfold Reverse.L1
      rw [g1, g2, s1, s2]
      have hl2 : ((p ++ y :: m') ++ y :: q).length = p.length + m'.length + q.length + 2 := by simp; omega
      have c1 : decide ((p.length : Int) < ((p.length + 1 + m'.length : Nat) : Int)) = true := decide_eq_true (by omega)
      have c2 : decide (0 ≤ ((p.length + 1 + m'.length : Nat) : Int)) = true := decide_eq_true (by omega)
      have c3 : decide (((p.length + 1 + m'.length : Nat) : Int) < ((olen none (p ++ x :: (m' ++ y :: q)).length 0 : Nat) : Int)) = true := decide_eq_true (by simp only [olen, hlen]; omega)
      have c4 : decide (0 ≤ (p.length : Int)) = true := decide_eq_true (by omega)
      have c5 : decide ((p.length : Int) < ((olen none (p ++ x :: (m' ++ y :: q)).length 0 : Nat) : Int)) = true := decide_eq_true (by simp only [olen, hlen]; omega)
      have c6 : decide (((p.length + 1 + m'.length : Nat) : Int) < ((olen none ((p ++ y :: m') ++ y :: q).length 0 : Nat) : Int)) = true := decide_eq_true (by simp only [olen, hl2]; omega)
      simp only [c1, c2, c3, c4, c5, c6, cond_true]
      rw [wrap_i64z _ (by omega) (by omega), wrap_i64z _ (by omega) (by omega)]
      have e2 : (p.length : Int) + 1 = ((p ++ [y]).length : Int) := by simp
      have e3 : ((p.length + 1 + m'.length : Nat) : Int) - 1 = ((p ++ [y]).length : Int) + (m'.length : Int) - 1 := by simp only [List.length_append, List.length_cons, List.length_nil]; omega
      rw [e2, e3, hij]
      simp
theorem Reverse_eq {R : Type} (N : Nat) (hN : 1000 < N) (z : Bool) (l : List Int) (hl : l.length ≤ 1000) (r : Bool → List Int → Option R) : Reverse.M N R 0 none z l r = r z l.reverse := by
  show Reverse.m N 0 none z l r = _
  unfold Reverse.m
  obtain ⟨i, j, h⟩ := rev_loop N (fun _ _ _ _ h0 h1 => r h0 h1) z 1000 l [] [] N (by omega) rfl (by simpa using hl) (by omega)
  simp only [List.nil_append, List.append_nil, List.length_nil] at h
  have e : IntKind.i64.wrap (((olen none l.length 0 : Nat) : Int) - 1) = ((0 : Nat) : Int) + (l.length : Int) - 1 := by
    rw [wrap_i64z _ (by simp only [olen]; omega) (by simp only [olen]; omega)]; simp only [olen, Nat.sub_zero]; omega
  rw [e]
  exact h
theorem putl_loop {R : Type} (N : Nat) (ke : Int → Int → Int → List Int → Option R) (X n : Nat) (hX : X < 18446744073709551616) (hn : n ≤ 8) :
    ∀ (d i m : Nat), i + d = n → d < m → ∃ x i', PutLittle.J1_0 N ke m ((X / 256 ^ i : Nat) : Int) (n : Int) (i : Int) (nn (dig 256 i X ++ List.replicate d 0)) = ke x (n : Int) i' (nn (dig 256 n X)) := by
  intro d
  induction d with
  | zero =>
    intro i m h hm
    obtain ⟨m, rfl⟩ : ∃ k, m = k + 1 := ⟨m - 1, by omega⟩
    obtain rfl : i = n := by omega
    refine ⟨((X / 256 ^ i : Nat) : Int), (i : Int), ?_⟩
    unfold PutLittle.J1_0
    rw [decide_eq_false (by omega), cond_false]
    simp
  | succ d ih =>
    intro i m h hm
    obtain ⟨m, rfl⟩ : ∃ k, m = k + 1 := ⟨m - 1, by omega⟩
    obtain ⟨x, i', hi⟩ := ih (i + 1) m (by omega) (by omega)
    refine ⟨x, i', ?_⟩
    unfold PutLittle.J1_0
    have c1 : decide ((i : Int) < (n : Int)) = true := decide_eq_true (by omega)
    have c2 : decide (0 ≤ (i : Int)) = true := decide_eq_true (by omega)
    have c3 : decide ((i : Int) < ((olen none (nn (dig 256 i X ++ List.replicate (d + 1) 0)).length 0 : Nat) : Int)) = true := decide_eq_true (by simp [olen, dig_length]; omega)
    have e2 : ishr .u64 ((X / 256 ^ i : Nat) : Int) 8 = ((X / 256 ^ (i + 1) : Nat) : Int) := by
      have := ishr_nat .u64 (X / 256 ^ i) 8 (by decide)
      rw [show (2 : Nat) ^ 8 = 256 from rfl, Nat.div_div_eq_div_mul, ← Nat.pow_succ] at this
      exact this
    simp only [c1, c2, c3, cond_true, e2]
    rw [wrap_u8, Nat.zero_add, replicate_set (d + 1) _ (dig 256 i X) (by simp [dig_length]) (by omega), ← dig_snoc, Nat.add_sub_cancel, wrap_i64z _ (by omega) (by omega), show ((i : Int) + 1) = ((i + 1 : Nat) : Int) by omega, hi]
theorem PutLittle_eq {R : Type} (N : Nat) (hN : 1000 < N) (X n : Nat) (hX : X < 18446744073709551616) (hn : n ≤ 8) (r0 : Option R) (r1 : List Int → Option R) : PutLittle.M N R (X : Int) (n : Int) r0 r1 = r1 (nn (dig 256 n X)) := by
  show PutLittle.m N (X : Int) (n : Int) r0 r1 = _
  have e1 : IntKind.i64.wrap (n : Int) = (n : Int) := wrap_i64z _ (by omega) (by omega)
  have h0 : PutLittle.m N (X : Int) (n : Int) r0 r1 = PutLittle.J1_0 N (fun _ _ _ h => r1 h) (N + 1) (X : Int) (n : Int) 0 (List.replicate n (0 : Int)) := by
    unfold PutLittle.m
    rw [PutLittle.J1_0, e1]
    rw [decide_eq_false (show ¬ (n : Int) < 0 by omega), cond_false, decide_eq_false (show ¬ (n : Int) > 8 by omega), cond_false, decide_eq_true (show 0 ≤ (n : Int) by omega), cond_true, decide_eq_true (show (n : Int) ≤ (n : Int) by omega), cond_true, decide_eq_true (show 1 * (n : Int) ≤ 140737488355328 by omega), cond_true]
    simp only [Int.toNat_natCast]
    rfl
  rw [h0]
  obtain ⟨x, i, h⟩ := putl_loop N (fun _ _ _ h => r1 h) X n hX hn n 0 (N + 1) (by omega) (by omega)
  rw [show X / 256 ^ 0 = X by simp, show (dig 256 0 X ++ List.replicate n 0) = List.replicate n 0 from rfl] at h
  have : nn (List.replicate n 0) = List.replicate n (0 : Int) := by simp [nn]
  rw [this] at h
  exact h
theorem PutBig_eq {R : Type} (N : Nat) (hN : 1000 < N) (X n : Nat) (hX : X < 18446744073709551616) (hn : n ≤ 8) (r0 : Option R) (r1 : List Int → Option R) : PutBig.M N R (X : Int) (n : Int) r0 r1 = r1 (nn (dig 256 n X).reverse) := by
  show PutBig.m (PutLittle.M N) (Reverse.M N) N (X : Int) (n : Int) r0 r1 = _
  unfold PutBig.m
  rw [PutLittle_eq N hN X n hX hn, Reverse_eq N hN _ _ (by simp [dig_length]; omega)]
  simp [nn, Nat.beq_eq]
end Go.Proofs.YthajoenmfppenaaDoor.fn
