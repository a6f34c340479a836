/- What the numbers' bytes come to. -/
import Derived.Test.YtllnbcibleeogaaDoorFnBytesB
import Derived.Test.YtllnbcibleeogaaDoorMRowsB
import Derived.Test.YtllnbcibleeogaaDoorNum
namespace Go.Proofs.YtllnbcibleeogaaDoor.fn
open Go Go.Proofs Go.Ev Go.Dg

/-! ### turned round -/

theorem rev_loop {R : Type} (N : Nat) (ke : Nat → Option Nat → Int → Int → Bool → List Int → Option R) (z : Bool) :
    ∀ (k : Nat) (mid p q : List Int) (m : Nat), mid.length ≤ 2 * k → p.length = q.length → p.length + mid.length + q.length ≤ 1000 → k < m →
      ∃ i j, Reverse.L1 N ke m 0 none (p.length : Int) ((p.length : Int) + mid.length - 1) z (p ++ (mid ++ q)) = ke 0 none i j z (p ++ (mid.reverse ++ q)) := by
  intro k
  induction k with
  | zero =>
    intro mid p q m h1 h2 h3 hm
    obtain ⟨m, rfl⟩ : ∃ k, m = k + 1 := ⟨m - 1, by omega⟩
    have : mid = [] := by simpa using h1
    subst this
    refine ⟨(p.length : Int), (p.length : Int) + (([] : List Int).length : Int) - 1, ?_⟩
    unfold Reverse.L1
    rw [decide_eq_false (by simp only [List.length_nil]; omega), cond_false]
    rfl
  | succ k ih =>
    intro mid p q m h1 h2 h3 hm
    obtain ⟨m, rfl⟩ : ∃ k, m = k + 1 := ⟨m - 1, by omega⟩
    match mid, h1, h3 with
    | [], _, _ =>
      refine ⟨(p.length : Int), (p.length : Int) + (([] : List Int).length : Int) - 1, ?_⟩
      unfold Reverse.L1
      rw [decide_eq_false (by simp only [List.length_nil]; omega), cond_false]
      rfl
    | [x], _, _ =>
      refine ⟨(p.length : Int), (p.length : Int) + (([x] : List Int).length : Int) - 1, ?_⟩
      unfold Reverse.L1
      rw [decide_eq_false (by simp), cond_false]
      rfl
    | x :: y0 :: rest, h1, h3 =>
      obtain ⟨m', y, hy⟩ : ∃ m' y, y0 :: rest = m' ++ [y] := ⟨(y0 :: rest).dropLast, (y0 :: rest).getLast (by simp), (List.dropLast_concat_getLast (by simp)).symm⟩
      rw [hy] at h1 h3 ⊢
      simp only [List.length_cons, List.length_append, List.length_nil] at h1 h3
      obtain ⟨i, j, hij⟩ := ih m' (p ++ [y]) (x :: q) m (by omega) (by simp; omega) (by simp; omega) (by omega)
      refine ⟨i, j, ?_⟩
      have e0 : p ++ (x :: (m' ++ [y]) ++ q) = p ++ x :: (m' ++ y :: q) := by simp
      have e1 : (p.length : Int) + ((x :: (m' ++ [y])).length : Int) - 1 = ((p.length + 1 + m'.length : Nat) : Int) := by simp only [List.length_cons, List.length_append, List.length_nil]; omega
      rw [e0, e1]
      have hlen : (p ++ x :: (m' ++ y :: q)).length = p.length + m'.length + q.length + 2 := by simp; omega
      have g1 : (p ++ x :: (m' ++ y :: q)).getD (0 + (p.length : Int).toNat) 0 = x := by
        rw [Nat.zero_add, Int.toNat_natCast, List.getD_eq_getElem?_getD, List.getElem?_append_right (Nat.le_refl _), Nat.sub_self]; rfl
      have g2 : (p ++ x :: (m' ++ y :: q)).getD (0 + ((p.length + 1 + m'.length : Nat) : Int).toNat) 0 = y := by
        rw [Nat.zero_add, Int.toNat_natCast, show p ++ x :: (m' ++ y :: q) = (p ++ x :: m') ++ y :: q by simp, List.getD_eq_getElem?_getD, List.getElem?_append_right (by simp; omega)]
        have : p.length + 1 + m'.length - (p ++ x :: m').length = 0 := by simp; omega
        rw [this]; rfl
      have s1 : (p ++ x :: (m' ++ y :: q)).set (0 + (p.length : Int).toNat) y = (p ++ y :: m') ++ y :: q := by
        rw [Nat.zero_add, Int.toNat_natCast, List.set_append_right _ _ (Nat.le_refl _), Nat.sub_self]; simp
      have s2 : ((p ++ y :: m') ++ y :: q).set (0 + ((p.length + 1 + m'.length : Nat) : Int).toNat) x = (p ++ [y]) ++ (m' ++ x :: q) := by
        rw [Nat.zero_add, Int.toNat_natCast, List.set_append_right _ _ (by simp; omega)]
        have : p.length + 1 + m'.length - (p ++ y :: m').length = 0 := by simp; omega
        rw [this]; simp
      unfold Reverse.L1
      rw [g1, g2, s1, s2]
      have hl2 : ((p ++ y :: m') ++ y :: q).length = p.length + m'.length + q.length + 2 := by simp; omega
      have c1 : decide ((p.length : Int) < ((p.length + 1 + m'.length : Nat) : Int)) = true := decide_eq_true (by omega)
      have c2 : decide (0 ≤ ((p.length + 1 + m'.length : Nat) : Int)) = true := decide_eq_true (by omega)
      have c3 : decide (((p.length + 1 + m'.length : Nat) : Int) < ((olen none (p ++ x :: (m' ++ y :: q)).length 0 : Nat) : Int)) = true := decide_eq_true (by simp only [olen, hlen]; omega)
      have c4 : decide (0 ≤ (p.length : Int)) = true := decide_eq_true (by omega)
      have c5 : decide ((p.length : Int) < ((olen none (p ++ x :: (m' ++ y :: q)).length 0 : Nat) : Int)) = true := decide_eq_true (by simp only [olen, hlen]; omega)
      have c6 : decide (((p.length + 1 + m'.length : Nat) : Int) < ((olen none ((p ++ y :: m') ++ y :: q).length 0 : Nat) : Int)) = true := decide_eq_true (by simp only [olen, hl2]; omega)
      simp only [c1, c2, c3, c4, c5, c6, cond_true]
      rw [wrap_i64z _ (by omega) (by omega), wrap_i64z _ (by omega) (by omega)]
      have e2 : (p.length : Int) + 1 = ((p ++ [y]).length : Int) := by simp
      have e3 : ((p.length + 1 + m'.length : Nat) : Int) - 1 = ((p ++ [y]).length : Int) + (m'.length : Int) - 1 := by simp only [List.length_append, List.length_cons, List.length_nil]; omega
      rw [e2, e3, hij]
      simp

theorem Reverse_eq {R : Type} (N : Nat) (hN : 1000 < N) (z : Bool) (l : List Int) (hl : l.length ≤ 1000) (r : Bool → List Int → Option R) : Reverse.M N R 0 none z l r = r z l.reverse := by
  show Reverse.m N 0 none z l r = _
  unfold Reverse.m
  obtain ⟨i, j, h⟩ := rev_loop N (fun _ _ _ _ h0 h1 => r h0 h1) z 1000 l [] [] N (by omega) rfl (by simpa using hl) (by omega)
  simp only [List.nil_append, List.append_nil, List.length_nil] at h
  have e : IntKind.i64.wrap (((olen none l.length 0 : Nat) : Int) - 1) = ((0 : Nat) : Int) + (l.length : Int) - 1 := by
    rw [wrap_i64z _ (by simp only [olen]; omega) (by simp only [olen]; omega)]; simp only [olen, Nat.sub_zero]; omega
  rw [e]
  exact h

/-! ### a number's bytes -/

theorem putl_loop {R : Type} (N : Nat) (ke : Int → Int → Int → List Int → Option R) (X n : Nat) (hX : X < 18446744073709551616) (hn : n ≤ 8) :
    ∀ (d i m : Nat), i + d = n → d < m → ∃ x i', PutLittle.J1_0 N ke m ((X / 256 ^ i : Nat) : Int) (n : Int) (i : Int) (nn (dig 256 i X ++ List.replicate d 0)) = ke x (n : Int) i' (nn (dig 256 n X)) := by
  intro d
  induction d with
  | zero =>
    intro i m h hm
    obtain ⟨m, rfl⟩ : ∃ k, m = k + 1 := ⟨m - 1, by omega⟩
    obtain rfl : i = n := by omega
    refine ⟨((X / 256 ^ i : Nat) : Int), (i : Int), ?_⟩
    unfold PutLittle.J1_0
    rw [decide_eq_false (by omega), cond_false]
    simp
  | succ d ih =>
    intro i m h hm
    obtain ⟨m, rfl⟩ : ∃ k, m = k + 1 := ⟨m - 1, by omega⟩
    obtain ⟨x, i', hi⟩ := ih (i + 1) m (by omega) (by omega)
    refine ⟨x, i', ?_⟩
    unfold PutLittle.J1_0
    have c1 : decide ((i : Int) < (n : Int)) = true := decide_eq_true (by omega)
    have c2 : decide (0 ≤ (i : Int)) = true := decide_eq_true (by omega)
    have c3 : decide ((i : Int) < ((olen none (nn (dig 256 i X ++ List.replicate (d + 1) 0)).length 0 : Nat) : Int)) = true := decide_eq_true (by simp [olen, dig_length]; omega)
    have e2 : ishr .u64 ((X / 256 ^ i : Nat) : Int) 8 = ((X / 256 ^ (i + 1) : Nat) : Int) := by
      have := ishr_nat .u64 (X / 256 ^ i) 8 (by decide)
      rw [show (2 : Nat) ^ 8 = 256 from rfl, Nat.div_div_eq_div_mul, ← Nat.pow_succ] at this
      exact this
    simp only [c1, c2, c3, cond_true, e2]
    rw [wrap_u8, Nat.zero_add, replicate_set (d + 1) _ (dig 256 i X) (by simp [dig_length]) (by omega), ← dig_snoc, Nat.add_sub_cancel, wrap_i64z _ (by omega) (by omega), show ((i : Int) + 1) = ((i + 1 : Nat) : Int) by omega, hi]

theorem PutLittle_eq {R : Type} (N : Nat) (hN : 1000 < N) (X n : Nat) (hX : X < 18446744073709551616) (hn : n ≤ 8) (r0 : Option R) (r1 : List Int → Option R) : PutLittle.M N R (X : Int) (n : Int) r0 r1 = r1 (nn (dig 256 n X)) := by
  show PutLittle.m N (X : Int) (n : Int) r0 r1 = _
  have e1 : IntKind.i64.wrap (n : Int) = (n : Int) := wrap_i64z _ (by omega) (by omega)
  have h0 : PutLittle.m N (X : Int) (n : Int) r0 r1 = PutLittle.J1_0 N (fun _ _ _ h => r1 h) (N + 1) (X : Int) (n : Int) 0 (List.replicate n (0 : Int)) := by
    unfold PutLittle.m
    rw [PutLittle.J1_0, e1]
    rw [decide_eq_false (show ¬ (n : Int) < 0 by omega), cond_false, decide_eq_false (show ¬ (n : Int) > 8 by omega), cond_false, decide_eq_true (show 0 ≤ (n : Int) by omega), cond_true, decide_eq_true (show (n : Int) ≤ (n : Int) by omega), cond_true, decide_eq_true (show 1 * (n : Int) ≤ 140737488355328 by omega), cond_true]
    simp only [Int.toNat_natCast]
    rfl
  rw [h0]
  obtain ⟨x, i, h⟩ := putl_loop N (fun _ _ _ h => r1 h) X n hX hn n 0 (N + 1) (by omega) (by omega)
  rw [show X / 256 ^ 0 = X by simp, show (dig 256 0 X ++ List.replicate n 0) = List.replicate n 0 from rfl] at h
  have : nn (List.replicate n 0) = List.replicate n (0 : Int) := by simp [nn]
  rw [this] at h
  exact h

theorem PutLittle_err {R : Type} (N : Nat) (X n : Int) (h : n < 0 ∨ n > 8) (r0 : Option R) (r1 : List Int → Option R) : PutLittle.M N R X n r0 r1 = r0 := by
  show PutLittle.m N X n r0 r1 = _
  unfold PutLittle.m
  rcases h with h | h
  · rw [decide_eq_true h, cond_true]
  · rw [decide_eq_false (show ¬ n < 0 by omega), cond_false, decide_eq_true h, cond_true]

theorem PutBig_eq {R : Type} (N : Nat) (hN : 1000 < N) (X n : Nat) (hX : X < 18446744073709551616) (hn : n ≤ 8) (r0 : Option R) (r1 : List Int → Option R) : PutBig.M N R (X : Int) (n : Int) r0 r1 = r1 (nn (dig 256 n X).reverse) := by
  show PutBig.m (PutLittle.M N) (Reverse.M N) N (X : Int) (n : Int) r0 r1 = _
  unfold PutBig.m
  rw [PutLittle_eq N hN X n hX hn, Reverse_eq N hN _ _ (by simp [dig_length]; omega)]
  simp [nn, Nat.beq_eq]

theorem PutBig_err {R : Type} (N : Nat) (X n : Int) (h : n < 0 ∨ n > 8) (r0 : Option R) (r1 : List Int → Option R) : PutBig.M N R X n r0 r1 = r0 := by
  show PutBig.m (PutLittle.M N) (Reverse.M N) N X n r0 r1 = _
  unfold PutBig.m
  rw [PutLittle_err N X n h]

theorem rLittle_loop {R : Type} (N : Nat) (ke : Int → Int → Int → List Int → Option R) (X n : Nat) (hX : X < 18446744073709551616) (hn : n ≤ 8) :
    ∀ (d i m : Nat), i + d = n → d < m → ∃ x i', rLittle.L3 N ke m ((X / 256 ^ i : Nat) : Int) (n : Int) (i : Int) (nn (dig 256 i X)) = ke x (n : Int) i' (nn (dig 256 n X)) := by
  intro d
  induction d with
  | zero =>
    intro i m h hm
    obtain ⟨m, rfl⟩ : ∃ k, m = k + 1 := ⟨m - 1, by omega⟩
    obtain rfl : i = n := by omega
    refine ⟨((X / 256 ^ i : Nat) : Int), (i : Int), ?_⟩
    unfold rLittle.L3
    rw [decide_eq_false (by omega), cond_false]
  | succ d ih =>
    intro i m h hm
    obtain ⟨m, rfl⟩ : ∃ k, m = k + 1 := ⟨m - 1, by omega⟩
    obtain ⟨x, i', hi⟩ := ih (i + 1) m (by omega) (by omega)
    refine ⟨x, i', ?_⟩
    unfold rLittle.L3
    have c1 : decide ((i : Int) < (n : Int)) = true := decide_eq_true (by omega)
    have c2 : decide (((nn (dig 256 i X)).length + 1) * 1 ≤ 140737488355328) = true := decide_eq_true (by simp [dig_length]; omega)
    have c3 : decide ((nn (dig 256 i X)).length + 1 ≤ 140737488355328) = true := decide_eq_true (by simp [dig_length]; omega)
    have e2 : ((X / 256 ^ i : Nat) : Int).tdiv 256 = ((X / 256 ^ (i + 1) : Nat) : Int) := by
      rw [Int.tdiv_eq_ediv_of_nonneg (Int.natCast_nonneg _), Nat.pow_succ, ← Nat.div_div_eq_div_mul]; rfl
    have e3 : ((X / 256 ^ i : Nat) : Int).tmod 256 = ((X / 256 ^ i % 256 : Nat) : Int) := by
      rw [Int.tmod_eq_emod_of_nonneg (Int.natCast_nonneg _)]; rfl
    have hb : X / 256 ^ (i + 1) < 18446744073709551616 := Nat.lt_of_le_of_lt (Nat.div_le_self _ _) hX
    have e4 : nn (dig 256 i X) ++ [((X / 256 ^ i % 256 : Nat) : Int)] = nn (dig 256 (i + 1) X) := by rw [dig_snoc]; simp [nn]
    simp only [c1, c2, c3, cond_true, e2, e3]
    rw [wrap_u8, Nat.mod_mod, e4, wrap_u64 _ hb, wrap_i64z _ (by omega) (by omega), show ((i : Int) + 1) = ((i + 1 : Nat) : Int) by omega, hi]

theorem rLittle_eq {R : Type} (N : Nat) (hN : 1000 < N) (X n : Nat) (hX : X < 18446744073709551616) (hn : n ≤ 8) (r : List Int → Option R) : rLittle.M N R (X : Int) (n : Int) r = r (nn (dig 256 n X)) := by
  show rLittle.m N (X : Int) (n : Int) r = _
  unfold rLittle.m
  obtain ⟨x, i, h⟩ := rLittle_loop N (fun _ _ _ h => r h) X n hX hn n 0 N (by omega) (by omega)
  rw [show X / 256 ^ 0 = X by simp] at h
  exact h

theorem rReverse_loop {R : Type} (N : Nat) (ke : Option Bool → List Int → Option Bool → List Int → Int → Int → List Int → Option R) (z : Option Bool) (L : List Int) (hb : L.length ≤ 1000) :
    ∀ (xs pre : List Int) (m : Nat), L = pre ++ xs → xs.length < m → ∃ i, rReverse.L3 N ke m z L z L (L.length : Int) (pre.length : Int) (List.replicate xs.length 0 ++ pre.reverse) = ke z L z L (L.length : Int) i L.reverse := by
  intro xs
  induction xs with
  | nil =>
    intro pre m h0 hm
    obtain ⟨m, rfl⟩ : ∃ k, m = k + 1 := ⟨m - 1, by simp at hm; omega⟩
    have hp : L = pre := by simpa using h0
    subst hp
    refine ⟨(L.length : Int), ?_⟩
    unfold rReverse.L3
    rw [decide_eq_false (by omega), cond_false]
    rfl
  | cons x xs ih =>
    intro pre m h0 hm
    obtain ⟨m, rfl⟩ : ∃ k, m = k + 1 := ⟨m - 1, by simp at hm; omega⟩
    simp only [List.length_cons] at hm
    obtain ⟨i, hi⟩ := ih (pre ++ [x]) m (by rw [h0]; simp) (by omega)
    refine ⟨i, ?_⟩
    have hL : L.length = pre.length + xs.length + 1 := by rw [h0]; simp; omega
    unfold rReverse.L3
    have e1 : IntKind.i64.wrap (IntKind.i64.wrap ((L.length : Int) - 1) - (pre.length : Int)) = (xs.length : Int) := by
      rw [wrap_i64z ((L.length : Int) - 1) (by omega) (by omega), wrap_i64z _ (by omega) (by omega)]; omega
    have c1 : decide ((pre.length : Int) < (L.length : Int)) = true := decide_eq_true (by omega)
    have c2 : decide (0 ≤ (pre.length : Int)) = true := decide_eq_true (by omega)
    have c3 : decide (0 ≤ (xs.length : Int)) = true := decide_eq_true (by omega)
    have c4 : decide ((xs.length : Int) < ((olen none (List.replicate (x :: xs).length (0 : Int) ++ pre.reverse).length 0 : Nat) : Int)) = true := decide_eq_true (by simp [olen]; omega)
    have g1 : L.getD (pre.length : Int).toNat 0 = x := by
      rw [h0, Int.toNat_natCast, List.getD_eq_getElem?_getD, List.getElem?_append_right (Nat.le_refl _), Nat.sub_self]; rfl
    have s1 : (List.replicate (x :: xs).length (0 : Int) ++ pre.reverse).set (0 + (xs.length : Int).toNat) x = List.replicate xs.length 0 ++ (pre ++ [x]).reverse := by
      rw [Nat.zero_add, Int.toNat_natCast, List.length_cons, List.replicate_succ', List.append_assoc, List.set_append_right _ _ (by simp)]
      simp
    simp only [e1, c1, c2, c3, c4, cond_true, g1, s1]
    rw [wrap_i64z _ (by omega) (by omega), show (pre.length : Int) + 1 = ((pre ++ [x]).length : Int) by simp, hi]

theorem rReverse_eq {R : Type} (N : Nat) (hN : 1000 < N) (z : Option Bool) (L : List Int) (hb : L.length ≤ 1000) (r : List Int → Option R) : rReverse.M N R z L r = r L.reverse := by
  show rReverse.m N z L r = _
  unfold rReverse.m
  have e : IntKind.i64.wrap (L.length : Int) = (L.length : Int) := wrap_i64z _ (by omega) (by omega)
  rw [e, decide_eq_true (by omega), cond_true, decide_eq_true (by omega), cond_true, decide_eq_true (by omega), cond_true]
  obtain ⟨i, h⟩ := rReverse_loop N (fun _ _ _ _ _ _ h => r h) z L hb L [] N rfl (by omega)
  rw [List.reverse_nil, List.append_nil] at h
  rw [Int.toNat_natCast]
  exact h

/-! ### the number of bytes -/

def hor (p : Nat) (l : List Nat) : Nat := l.foldl (fun a c => a * 256 + c) p

theorem or_byte (a c : Nat) (ha : a < 72057594037927936) (hc : c < 256) : ior .u64 (ishl .u64 (a : Int) 8) (c : Int) = ((a * 256 + c : Nat) : Int) := by
  have e0 : ishl .u64 (a : Int) 8 = ((a * 256 : Nat) : Int) := by
    have e : (a : Int) * 2 ^ (min (8 : Int).toNat IntKind.u64.bits) = ((a * 256 : Nat) : Int) := by
      show (a : Int) * 2 ^ 8 = _
      omega
    unfold ishl
    rw [e, wrap_u64 _ (by omega)]
  have e1 : ((a * 256 : Nat) : Int) = un (BitVec.ofNat 64 (a * 256)) := by unfold un; rw [BitVec.toNat_ofNat, Nat.mod_eq_of_lt (by omega)]
  have e2 : (c : Int) = un (BitVec.ofNat 64 c) := by unfold un; rw [BitVec.toNat_ofNat, Nat.mod_eq_of_lt (by omega)]
  rw [e0, e1, e2, ior64]
  unfold un
  rw [BitVec.toNat_or, BitVec.toNat_ofNat, BitVec.toNat_ofNat, Nat.mod_eq_of_lt (show a * 256 < 2 ^ 64 by omega), Nat.mod_eq_of_lt (show c < 2 ^ 64 by omega)]
  have h := Nat.two_pow_add_eq_or_of_lt (i := 8) (b := c) (by omega) a
  rw [show a * 256 = 2 ^ 8 * a by omega]
  exact congrArg Int.ofNat h.symm

theorem Big_loop {R : Type} (N : Nat) (ke : Int → Option Bool → List Int → Int → Int → Option R) (z : Option Bool) (n : Nat) (hn : n ≤ 8) :
    ∀ (xs pre : List Nat) (p m : Nat), pre.length + xs.length = n → xs.length < m → p < 256 ^ pre.length → (∀ x ∈ xs, x < 256) →
      ∃ i, Big.L5 N ke m (p : Int) z (nn (pre ++ xs)) (n : Int) (pre.length : Int) = ke ((hor p xs : Nat) : Int) z (nn (pre ++ xs)) (n : Int) i := by
  intro xs
  induction xs with
  | nil =>
    intro pre p m h5 hm _ _
    obtain ⟨m, rfl⟩ : ∃ k, m = k + 1 := ⟨m - 1, by simp at hm; omega⟩
    refine ⟨(pre.length : Int), ?_⟩
    unfold Big.L5
    rw [decide_eq_false (by simp at h5; omega), cond_false]
    rfl
  | cons x xs ih =>
    intro pre p m h5 hm hp hx
    obtain ⟨m, rfl⟩ : ∃ k, m = k + 1 := ⟨m - 1, by simp at hm; omega⟩
    have hx0 := hx x (by simp)
    simp only [List.length_cons] at h5 hm
    have hp7 : p < 72057594037927936 := Nat.lt_of_lt_of_le hp (by
      have := Nat.pow_le_pow_right (n := 256) (by omega) (show pre.length ≤ 7 by omega)
      exact this)
    have hp' : p * 256 + x < 256 ^ (pre ++ [x]).length := by
      rw [List.length_append, List.length_singleton, Nat.pow_succ]
      have : (p + 1) * 256 ≤ 256 ^ pre.length * 256 := Nat.mul_le_mul_right _ hp
      omega
    obtain ⟨i, hi⟩ := ih (pre ++ [x]) (p * 256 + x) m (by simp; omega) (by omega) hp' (fun z hz => hx z (by simp [hz]))
    refine ⟨i, ?_⟩
    unfold Big.L5
    have c1 : decide ((pre.length : Int) < (n : Int)) = true := decide_eq_true (by omega)
    have c2 : decide (0 ≤ (pre.length : Int)) = true := decide_eq_true (by omega)
    have c3 : decide ((pre.length : Int) < ((nn (pre ++ x :: xs)).length : Int)) = true := decide_eq_true (by simp; omega)
    have g1 : (nn (pre ++ x :: xs)).getD (pre.length : Int).toNat 0 = (x : Int) := app_getD pre x xs rfl
    simp only [c1, c2, c3, cond_true, g1]
    rw [wrap_u64 x (by omega), or_byte p x hp7 hx0, wrap_i64z _ (by omega) (by omega), show (pre.length : Int) + 1 = ((pre ++ [x]).length : Int) by simp, app_next pre x xs, hi]
    rfl

theorem Big_eq {R : Type} (N : Nat) (hN : 1000 < N) (z : Option Bool) (xs : List Nat) (hl : xs.length ≤ 8) (hx : ∀ x ∈ xs, x < 256) (r : Int → Nat → Option R) : Big.M N R z (nn xs) r = r ((hor 0 xs : Nat) : Int) 0 := by
  show Big.m N z (nn xs) r = _
  unfold Big.m
  have e : ((nn xs).length : Int) = (xs.length : Int) := by simp
  rw [e, decide_eq_false (by omega), cond_false]
  obtain ⟨i, h⟩ := Big_loop N (fun x _ _ _ _ => r x 0) z xs.length hl xs [] 0 N (by simp) (by omega) (by simp) hx
  exact h

theorem Big_err {R : Type} (N : Nat) (z : Option Bool) (l : List Int) (hl : 8 < l.length) (r : Int → Nat → Option R) : Big.M N R z l r = r 0 3 := by
  show Big.m N z l r = _
  unfold Big.m
  rw [decide_eq_true (by omega), cond_true]

theorem rBig_loop {R : Type} (N : Nat) (ke : Int → Option Bool → List Int → Int → Int → Option R) (z : Option Bool) (n : Nat) (hn : n ≤ 8) :
    ∀ (xs pre : List Nat) (p m : Nat), pre.length + xs.length = n → xs.length < m → p < 256 ^ pre.length → (∀ x ∈ xs, x < 256) →
      ∃ i, rBig.L3 N ke m (p : Int) z (nn (pre ++ xs)) (n : Int) (pre.length : Int) = ke ((hor p xs : Nat) : Int) z (nn (pre ++ xs)) (n : Int) i := by
  intro xs
  induction xs with
  | nil =>
    intro pre p m h5 hm _ _
    obtain ⟨m, rfl⟩ : ∃ k, m = k + 1 := ⟨m - 1, by simp at hm; omega⟩
    refine ⟨(pre.length : Int), ?_⟩
    unfold rBig.L3
    rw [decide_eq_false (by simp at h5; omega), cond_false]
    rfl
  | cons x xs ih =>
    intro pre p m h5 hm hp hx
    obtain ⟨m, rfl⟩ : ∃ k, m = k + 1 := ⟨m - 1, by simp at hm; omega⟩
    have hx0 := hx x (by simp)
    simp only [List.length_cons] at h5 hm
    have hp7 : p < 72057594037927936 := Nat.lt_of_lt_of_le hp (by
      have := Nat.pow_le_pow_right (n := 256) (by omega) (show pre.length ≤ 7 by omega)
      exact this)
    have hp' : p * 256 + x < 256 ^ (pre ++ [x]).length := by
      rw [List.length_append, List.length_singleton, Nat.pow_succ]
      have : (p + 1) * 256 ≤ 256 ^ pre.length * 256 := Nat.mul_le_mul_right _ hp
      omega
    obtain ⟨i, hi⟩ := ih (pre ++ [x]) (p * 256 + x) m (by simp; omega) (by omega) hp' (fun z hz => hx z (by simp [hz]))
    refine ⟨i, ?_⟩
    unfold rBig.L3
    have c1 : decide ((pre.length : Int) < (n : Int)) = true := decide_eq_true (by omega)
    have c2 : decide (0 ≤ (pre.length : Int)) = true := decide_eq_true (by omega)
    have c3 : decide ((pre.length : Int) < ((nn (pre ++ x :: xs)).length : Int)) = true := decide_eq_true (by simp; omega)
    have g1 : (nn (pre ++ x :: xs)).getD (pre.length : Int).toNat 0 = (x : Int) := app_getD pre x xs rfl
    have e1 : IntKind.u64.wrap (IntKind.u64.wrap ((p : Int) * 256) + IntKind.u64.wrap (x : Int)) = ((p * 256 + x : Nat) : Int) := by
      rw [wrap_u64 x (by omega), wrap_u64z ((p : Int) * 256) (by omega) (by omega), wrap_u64z _ (by omega) (by omega)]; omega
    simp only [c1, c2, c3, cond_true, g1, e1]
    rw [wrap_i64z _ (by omega) (by omega), show (pre.length : Int) + 1 = ((pre ++ [x]).length : Int) by simp, app_next pre x xs, hi]
    rfl

theorem rBig_eq {R : Type} (N : Nat) (hN : 1000 < N) (z : Option Bool) (xs : List Nat) (hl : xs.length ≤ 8) (hx : ∀ x ∈ xs, x < 256) (r : Int → Option R) : rBig.M N R z (nn xs) r = r ((hor 0 xs : Nat) : Int) := by
  show rBig.m N z (nn xs) r = _
  unfold rBig.m
  have e : ((nn xs).length : Int) = (xs.length : Int) := by simp
  rw [e]
  obtain ⟨i, h⟩ := rBig_loop N (fun x _ _ _ _ => r x) z xs.length hl xs [] 0 N (by simp) (by omega) (by simp) hx
  exact h

theorem wLittle_eq {R : Type} (N : Nat) (hN : 1000 < N) (z : Option Bool) (l : List Int) (hl : l.length ≤ 1000) (r : Int → Nat → Option R) : wLittle.M N R z l r = Big.M N R none l.reverse r := by
  show wLittle.m (Clone.M N) (Reverse.M N) (Big.M N) N z l r = _
  unfold wLittle.m
  have hb : Clone.big l = true := decide_eq_true (by omega)
  show cond (Clone.big l) _ none = _
  rw [hb, cond_true, Reverse_eq N hN _ _ hl]
  simp [Nat.beq_eq]
end Go.Proofs.YtllnbcibleeogaaDoor.fn
