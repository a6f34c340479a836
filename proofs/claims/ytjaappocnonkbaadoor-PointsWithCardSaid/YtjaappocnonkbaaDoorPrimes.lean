/- Prime numbers, by powers of one number: Lucas' criterion, and what follows of it. No program in sight. -/
namespace Go.Prm

def Pr (p : Nat) : Prop := 2 ≤ p ∧ ∀ m, m ∣ p → m = 1 ∨ m = p

/-- As many as there are places, all unlike: every place is taken. -/
theorem onto : ∀ (n : Nat) (f : Nat → Nat), (∀ i, i < n → f i < n) → (∀ i j, i < n → j < n → f i = f j → i = j) → ∀ y, y < n → ∃ i, i < n ∧ f i = y
  | 0, _, _, _, y, hy => by omega
  | n + 1, f, h1, h2, y, hy => by
    by_cases hfn : f n = y
    · exact ⟨n, by omega, hfn⟩
    -- the others, with n's value laid where n stands
    have g1 : ∀ i, i < n → (if f i = n then f n else f i) < n := by
      intro i hi
      have a := h1 i (by omega)
      have b := h1 n (by omega)
      have c : f i ≠ f n := fun e => by have := h2 i n (by omega) (by omega) e; omega
      split <;> omega
    have g2 : ∀ i j, i < n → j < n → (if f i = n then f n else f i) = (if f j = n then f n else f j) → i = j := by
      intro i j hi hj e
      have ci : f i ≠ f n := fun e => by have := h2 i n (by omega) (by omega) e; omega
      have cj : f j ≠ f n := fun e => by have := h2 j n (by omega) (by omega) e; omega
      split at e <;> split at e
      · exact h2 i j (by omega) (by omega) (by omega)
      · exact absurd e.symm cj
      · exact absurd e ci
      · exact h2 i j (by omega) (by omega) e
    have hlt := h1 n (by omega)
    by_cases hyn : y = n
    · -- f n is below n: it is the value of one of the others
      obtain ⟨i, hi, e⟩ := onto n _ g1 g2 (f n) (by omega)
      by_cases hi' : f i = n
      · exact ⟨i, by omega, by omega⟩
      · simp only [hi', if_false] at e
        have := h2 i n (by omega) (by omega) e; omega
    · obtain ⟨i, hi, e⟩ := onto n _ g1 g2 y (by omega)
      by_cases hi' : f i = n
      · simp only [hi', if_true] at e; exact absurd e hfn
      · simp only [hi', if_false] at e; exact ⟨i, by omega, e⟩

theorem Pr.cop {q : Nat} (h : Pr q) (e : Nat) : Nat.gcd e q = 1 ∨ q ∣ e := by
  rcases h.2 _ (Nat.gcd_dvd_right e q) with h1 | h1
  · exact .inl h1
  · exact .inr (h1 ▸ Nat.gcd_dvd_left e q)

def prod (l : List Nat) : Nat := l.foldr (· * ·) 1

/-- A divisor of a product of primes that isn't all of it divides it with one of them left out. -/
theorem left_out : ∀ (l : List Nat) (e : Nat), (∀ q ∈ l, Pr q) → e ∣ prod l → e ≠ prod l → ∃ q ∈ l, e ∣ prod l / q
  | [], e, _, hd, hn => by
    simp only [prod, List.foldr_nil] at hd hn
    exact absurd (Nat.dvd_one.1 hd) hn
  | q :: l, e, hp, hd, hn => by
    have hq := hp q (by simp)
    have hq0 : 0 < q := by have := hq.1; omega
    have e1 : prod (q :: l) = q * prod l := rfl
    rw [e1] at hd hn ⊢
    rcases hq.cop e with h | ⟨e', rfl⟩
    · exact ⟨q, by simp, by rw [Nat.mul_div_cancel_left _ hq0]; exact Nat.Coprime.dvd_of_dvd_mul_left h hd⟩
    · have hd' : e' ∣ prod l := Nat.dvd_of_mul_dvd_mul_left hq0 hd
      obtain ⟨r, hr, hdr⟩ := left_out l e' (fun r hr => hp r (by simp [hr])) hd' (fun h => hn (by rw [h]))
      refine ⟨r, by simp [hr], ?_⟩
      have hrd : r ∣ prod l := by
        clear hdr hd' hn hd e1 hq hq0
        induction l with
        | nil => simp at hr
        | cons a l ih =>
          simp only [List.mem_cons] at hr
          rcases hr with rfl | hr
          · exact ⟨prod l, rfl⟩
          · obtain ⟨c, hc⟩ := ih (fun x hx => hp x (by simp only [List.mem_cons] at hx ⊢; rcases hx with h | h <;> simp [h])) hr
            exact ⟨a * c, by rw [show prod (a :: l) = a * prod l from rfl, hc, Nat.mul_left_comm]⟩
      rw [Nat.mul_div_assoc _ hrd]
      exact Nat.mul_dvd_mul_left q hdr

/-! ### powers, by squares -/

def pwm (m : Nat) : Nat → Nat → Nat → Nat
  | 0, _, _ => 1 % m
  | n + 1, a, e => cond (Nat.beq e 0) (1 % m) (cond (Nat.beq (e % 2) 1) ((a * pwm m n (a * a % m) (e / 2)) % m) (pwm m n (a * a % m) (e / 2)))

theorem pow_mod' (a e m : Nat) : (a % m) ^ e % m = a ^ e % m := (Nat.pow_mod a e m).symm

theorem pwm_eq (m : Nat) : ∀ (n a e : Nat), e < 2 ^ n → pwm m n a e = a ^ e % m
  | 0, a, e, h => by
    have : e = 0 := by simpa using h
    subst this; simp [pwm]
  | n + 1, a, e, h => by
    unfold pwm
    have he : e / 2 < 2 ^ n := by rw [Nat.pow_succ] at h; omega
    rw [pwm_eq m n _ _ he]
    cases h0 : Nat.beq e 0 with
    | true =>
      have := Nat.eq_of_beq_eq_true h0
      subst this; simp
    | false =>
      have e0 : (a * a) ^ (e / 2) = a ^ (2 * (e / 2)) := by rw [Nat.pow_mul, Nat.pow_two]
      simp only [cond_false]
      cases h1 : Nat.beq (e % 2) 1 with
      | true =>
        have h1' := Nat.eq_of_beq_eq_true h1
        simp only [cond_true]
        rw [pow_mod', Nat.mul_mod, Nat.mod_mod, ← Nat.mul_mod, e0, ← Nat.pow_succ', show (2 * (e / 2)).succ = e by omega]
      | false =>
        have h1' : e % 2 ≠ 1 := fun q => by rw [q] at h1; cases h1
        simp only [cond_false]
        rw [pow_mod', e0, show 2 * (e / 2) = e by omega]

/-- Lucas' criterion, in numbers. -/
def lucasB (n p g : Nat) (l : List Nat) : Bool := Nat.beq (prod l + 1) p && (Nat.beq (pwm p n g (p - 1)) 1 && l.all fun q => Nat.blt 0 q && !Nat.beq (pwm p n g ((p - 1) / q)) 1)

theorem lucas_pow {n p g : Nat} {l : List Nat} (hp : 2 ≤ p) (hl : ∀ q ∈ l, Pr q) (hn : p < 2 ^ n) (h : lucasB n p g l = true) :
    g ^ (p - 1) % p = 1 ∧ ∀ k, 0 < k → k < p - 1 → g ^ k % p ≠ 1 := by
  simp only [lucasB, Bool.and_eq_true, List.all_eq_true, Bool.not_eq_true'] at h
  obtain ⟨h1, h2, h3⟩ := h
  have h1 := Nat.eq_of_beq_eq_true h1
  have h2 := Nat.eq_of_beq_eq_true h2
  rw [pwm_eq _ _ _ _ (by omega)] at h2
  refine ⟨h2, fun k hk0 hk hone => ?_⟩
  -- the powers that are 1 are closed under the greatest common divisor
  have hg : ∀ a b : Nat, g ^ a % p = 1 → g ^ b % p = 1 → g ^ (Nat.gcd a b) % p = 1 := by
    intro a b
    induction a, b using Nat.gcd.induction with
    | H0 b => intro _ hb; simpa using hb
    | H1 a b ha ih =>
      intro h1 h2
      rw [Nat.gcd_rec]
      refine ih ?_ h1
      have e : b = a * (b / a) + b % a := (Nat.div_add_mod b a).symm
      rw [e, Nat.pow_add, Nat.pow_mul, Nat.mul_mod, Nat.pow_mod, h1, Nat.one_pow, Nat.mod_eq_of_lt (show 1 < p by omega), Nat.one_mul, Nat.mod_mod] at h2
      exact h2
  have hd := hg k (p - 1) hone h2
  have hle : Nat.gcd k (p - 1) ≤ k := Nat.gcd_le_left _ hk0
  have hpl : prod l = p - 1 := by omega
  obtain ⟨q, hq, c, hc⟩ := left_out l (Nat.gcd k (p - 1)) hl (by rw [hpl]; exact Nat.gcd_dvd_right k (p - 1)) (by omega)
  have hq3 := h3 q hq
  rw [pwm_eq _ _ _ _ (by have := Nat.div_le_self (p - 1) q; omega)] at hq3
  rw [hpl] at hc
  rw [hc, Nat.pow_mul, Nat.pow_mod, hd, Nat.one_pow, Nat.mod_eq_of_lt (show 1 < p by omega)] at hq3
  simp at hq3

/-- g's powers are all the numbers but nought modulo p. -/
def Gen (p g : Nat) : Prop := g ^ (p - 1) % p = 1 ∧ ∀ k, 0 < k → k < p - 1 → g ^ k % p ≠ 1
theorem lucas_gen {n p g : Nat} {l : List Nat} (hp : 2 ≤ p) (hl : ∀ q ∈ l, Pr q) (hn : p < 2 ^ n) (h : lucasB n p g l = true) : Gen p g := lucas_pow hp hl hn h

theorem pow_sub_one {p g : Nat} (hp : 2 ≤ p) (h1 : g ^ (p - 1) % p = 1) {i j : Nat} (hij : i ≤ j) (hj : j < p - 1) (he : g ^ i % p = g ^ j % p) : g ^ (j - i) % p = 1 := by
  -- times g^(p-1-i)
  have e1 : g ^ (p - 1) % p = g ^ i * g ^ (p - 1 - i) % p := by rw [← Nat.pow_add, show i + (p - 1 - i) = p - 1 by omega]
  have e2 : g ^ j * g ^ (p - 1 - i) % p = g ^ (j - i) % p := by
    rw [← Nat.pow_add, show j + (p - 1 - i) = (p - 1) + (j - i) by omega, Nat.pow_add, Nat.mul_mod, h1, Nat.one_mul, Nat.mod_mod]
  rw [← e2, Nat.mul_mod, ← he, ← Nat.mul_mod, ← e1, h1]

/-- What a number whose powers are all unlike makes: p is prime, and every number that isn't 0 is one of its powers. -/
theorem prim_root {p g : Nat} (hp : 2 ≤ p) (h1 : g ^ (p - 1) % p = 1) (h2 : ∀ k, 0 < k → k < p - 1 → g ^ k % p ≠ 1) (a : Nat) (ha : a % p ≠ 0) : ∃ i, i < p - 1 ∧ g ^ i % p = a % p := by
  have h0 : ∀ i, i < p - 1 → g ^ i % p ≠ 0 := by
    intro i hi h
    have e1 : g ^ (p - 1) % p = g ^ i * g ^ (p - 1 - i) % p := by rw [← Nat.pow_add, show i + (p - 1 - i) = p - 1 by omega]
    rw [Nat.mul_mod, h, Nat.zero_mul, Nat.zero_mod, h1] at e1
    cases e1
  obtain ⟨i, hi, e⟩ := onto (p - 1) (fun i => g ^ i % p - 1) (fun i hi => by
      have := Nat.mod_lt (g ^ i) (show 0 < p by omega)
      have := h0 i hi
      show g ^ i % p - 1 < p - 1
      omega) (fun i j hi hj he => by
      have a1 := h0 i hi
      have a2 := h0 j hj
      have he' : g ^ i % p = g ^ j % p := by
        have he2 : g ^ i % p - 1 = g ^ j % p - 1 := he
        omega
      rcases Nat.lt_trichotomy i j with h | h | h
      · exact absurd (pow_sub_one hp h1 (Nat.le_of_lt h) hj he') (h2 _ (by omega) (by omega))
      · exact h
      · exact absurd (pow_sub_one hp h1 (Nat.le_of_lt h) hi he'.symm) (h2 _ (by omega) (by omega))) (a % p - 1) (by have := Nat.mod_lt a (show 0 < p by omega); omega)
  have e' : g ^ i % p - 1 = a % p - 1 := e
  exact ⟨i, hi, by have := h0 i hi; omega⟩

theorem lucas_prime {n p g : Nat} {l : List Nat} (hp : 2 ≤ p) (hl : ∀ q ∈ l, Pr q) (hn : p < 2 ^ n) (h : lucasB n p g l = true) : Pr p := by
  obtain ⟨h1, h2⟩ := lucas_pow hp hl hn h
  refine ⟨hp, fun m hm => ?_⟩
  rcases Nat.lt_or_ge m p with hlt | hge
  · left
    have hm0 : m % p ≠ 0 := by
      rw [Nat.mod_eq_of_lt hlt]
      rintro rfl
      have := Nat.eq_zero_of_zero_dvd hm; omega
    obtain ⟨i, hi, e⟩ := prim_root hp h1 h2 m hm0
    -- m times g^(p-1-i) is 1
    have e1 : m * g ^ (p - 1 - i) % p = 1 := by
      rw [Nat.mul_mod, ← e, ← Nat.mul_mod, ← Nat.pow_add, show i + (p - 1 - i) = p - 1 by omega, h1]
    have : m ∣ 1 := by
      rw [← e1]
      exact (Nat.dvd_mod_iff hm).2 (Nat.dvd_mul_right _ _)
    exact Nat.dvd_one.1 this
  · right
    exact Nat.le_antisymm (Nat.le_of_dvd (by omega) hm) hge

/-- A small prime, by trial. -/
def tryB (p : Nat) : Nat → Bool
  | 0 => true
  | n + 1 => (Nat.ble n 1 || !Nat.beq (p % n) 0) && tryB p n

theorem tryB_ok {p : Nat} : ∀ {n : Nat}, tryB p n = true → ∀ m, m < n → m ∣ p → m ≤ 1
  | 0, _, m, hm, _ => by omega
  | n + 1, h, m, hm, hd => by
    simp only [tryB, Bool.and_eq_true, Bool.or_eq_true, Bool.not_eq_true'] at h
    rcases Nat.lt_or_ge m n with hlt | hge
    · exact tryB_ok h.2 m hlt hd
    · have : m = n := by omega
      subst this
      rcases h.1 with q | q
      · exact Nat.le_of_ble_eq_true q
      · have := Nat.mod_eq_zero_of_dvd hd
        rw [this] at q; cases q

theorem small_prime {p : Nat} (hp : 2 ≤ p) (h : tryB p p = true) : Pr p := by
  refine ⟨hp, fun m hm => ?_⟩
  have hle := Nat.le_of_dvd (by omega) hm
  rcases Nat.lt_or_ge m p with hlt | hge
  · left
    have := tryB_ok h m hlt hm
    have : m ≠ 0 := by rintro rfl; have := Nat.eq_zero_of_zero_dvd hm; omega
    omega
  · right; omega

/-- All of a list are prime. -/
def Ps (l : List Nat) : Prop := ∀ q ∈ l, Pr q
theorem Ps.nil : Ps [] := fun _ h => by simp at h
theorem Ps.cons {q : Nat} {l : List Nat} (h : Pr q) (hl : Ps l) : Ps (q :: l) := fun r hr => by
  simp only [List.mem_cons] at hr
  rcases hr with rfl | hr
  · exact h
  · exact hl r hr
end Go.Prm
