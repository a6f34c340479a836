/- Numbers modulo 2^255 - 19: powers, inverses, roots. No program in sight. -/
import Derived.Test.YtjaappocnonkbaaDoorCert
namespace Go.Fp
open Go.Prm

def PP : Nat := 57896044618658097711785492504343953926634992332820282019728792003956564819949
theorem prime : Pr PP := p57896044618658097711785492504343953926634992332820282019728792003956564819949
theorem two_pows : 2 ^ (PP - 1) % PP = 1 ∧ ∀ k, 0 < k → k < PP - 1 → 2 ^ k % PP ≠ 1 := by
  have h : Gen PP 2 := by rw [show PP = 57896044618658097711785492504343953926634992332820282019728792003956564819949 from rfl]; exact pows57896044618658097711785492504343953926634992332820282019728792003956564819949
  exact h
theorem PP_two : 2 ≤ PP := prime.1
theorem PP_pos : 0 < PP := by have := PP_two; omega

theorem pow_mod (a n : Nat) : (a % PP) ^ n % PP = a ^ n % PP := (Nat.pow_mod a n PP).symm

theorem gen (a : Nat) (h : a % PP ≠ 0) : ∃ i, i < PP - 1 ∧ 2 ^ i % PP = a % PP := prim_root PP_two two_pows.1 two_pows.2 a h

theorem one_lt : 1 < PP := by have := PP_two; omega

theorem fermat (a : Nat) (h : a % PP ≠ 0) : a ^ (PP - 1) % PP = 1 := by
  obtain ⟨i, _, hi⟩ := gen a h
  rw [← pow_mod a, ← hi, pow_mod, ← Nat.pow_mul, Nat.mul_comm, Nat.pow_mul, ← pow_mod, two_pows.1, Nat.one_pow, Nat.mod_eq_of_lt one_lt]

theorem inv (a : Nat) (h : a % PP ≠ 0) : a * a ^ (PP - 2) % PP = 1 := by
  rw [← Nat.pow_succ', show (PP - 2).succ = PP - 1 by have := PP_two; omega, fermat a h]

theorem nzd (a b : Nat) (h : a * b % PP = 0) : a % PP = 0 ∨ b % PP = 0 := by
  by_cases ha : a % PP = 0
  · exact .inl ha
  · right
    have h1 := inv a ha
    have h2 : b * (a * a ^ (PP - 2)) % PP = b % PP := by rw [Nat.mul_mod, h1, Nat.mul_one, Nat.mod_mod]
    rw [← h2, ← Nat.mul_assoc, Nat.mul_comm b a, Nat.mul_mod, h, Nat.zero_mul, Nat.zero_mod]

theorem pow_zero_mod (a n : Nat) (h : a % PP = 0) (hn : 0 < n) : a ^ n % PP = 0 := by
  rw [← pow_mod, h, Nat.zero_pow hn, Nat.zero_mod]

/-- A square that is 1. -/
theorem sq_one (x : Nat) (h : x * x % PP = 1) : x % PP = 1 ∨ x % PP = PP - 1 := by
  have h2 := PP_two
  have hx := Nat.mod_lt x PP_pos
  generalize hy : x % PP = y at hx ⊢
  have h3 : y * y % PP = 1 := by rw [← hy, ← Nat.mul_mod]; exact h
  have hy0 : 0 < y := by
    rcases Nat.eq_zero_or_pos y with q | q
    · subst q; rw [Nat.zero_mul, Nat.zero_mod] at h3; omega
    · exact q
  -- (y - 1) (y + 1) is 0
  have h4 : (y - 1) * (y + 1) % PP = 0 := by
    obtain ⟨k, rfl⟩ : ∃ k, y = k + 1 := ⟨y - 1, by omega⟩
    have e : (k + 1) * (k + 1) = (k + 1 - 1) * (k + 1 + 1) + 1 := by
      simp only [Nat.add_sub_cancel, Nat.add_mul, Nat.mul_add, Nat.one_mul, Nat.mul_one]; omega
    rw [e] at h3
    generalize (k + 1 - 1) * (k + 1 + 1) = u at h3
    have hu := Nat.mod_lt u PP_pos
    rw [Nat.add_mod, Nat.mod_eq_of_lt (show 1 < PP by omega)] at h3
    rcases Nat.lt_or_ge (u % PP + 1) PP with q | q
    · rw [Nat.mod_eq_of_lt q] at h3; omega
    · have : u % PP + 1 = PP := by omega
      rw [this, Nat.mod_self] at h3; omega
  rcases nzd _ _ h4 with q | q
  · left
    rw [Nat.mod_eq_of_lt (by omega)] at q; omega
  · right
    rcases Nat.lt_or_ge (y + 1) PP with g | g
    · rw [Nat.mod_eq_of_lt g] at q; omega
    · omega

/-! ### roots -/

/-- A root of -1. -/
def II : Nat := 19681161376707505956807079304988542015446066515923890162744021073123829784752
theorem II_sq : II * II % PP = PP - 1 := by decide +kernel
def e8 : Nat := 7237005577332262213973186563042994240829374041602535252466099000494570602494
theorem e8_eq : 8 * e8 = PP + 3 := by decide +kernel

/-- Is a number a square? -/
def isSq (a : Nat) : Prop := a % PP = 0 ∨ a ^ ((PP - 1) / 2) % PP = 1

theorem half_two : 2 * ((PP - 1) / 2) = PP - 1 ∧ 4 * ((PP - 1) / 4) = PP - 1 := by decide +kernel

theorem ra_sq (a : Nat) : a ^ e8 * a ^ e8 % PP = a * a ^ ((PP - 1) / 4) % PP := by
  rw [← Nat.pow_add, ← Nat.pow_succ']
  rfl

theorem neg_mul (x y : Nat) (h : x % PP = PP - 1) : x * y % PP = (PP - y % PP) % PP := by
  have hy := Nat.mod_lt y PP_pos
  have h2 := PP_two
  rw [Nat.mul_mod, h]
  generalize y % PP = z at hy
  rcases Nat.eq_zero_or_pos z with q | q
  · subst q; rw [Nat.mul_zero, Nat.zero_mod, Nat.sub_zero, Nat.mod_self]
  · have e : (PP - 1) * z = (PP - z) + PP * (z - 1) := by
      obtain ⟨k, rfl⟩ : ∃ k, z = k + 1 := ⟨z - 1, by omega⟩
      rw [Nat.sub_mul, Nat.one_mul, Nat.add_sub_cancel, Nat.mul_add, Nat.mul_one]
      have : k + 1 ≤ PP := by omega
      omega
    rw [e, Nat.add_mul_mod_self_left]

/-- Twice the sign of a square. -/
theorem quarter_sq (a : Nat) : a ^ ((PP - 1) / 4) * a ^ ((PP - 1) / 4) % PP = a ^ ((PP - 1) / 2) % PP := by
  rw [← Nat.pow_add]
  rfl

/-- The program's road to a root: r, or r times a root of -1. -/
def rt (a : Nat) : Nat := if a ^ e8 * a ^ e8 % PP = a % PP then a ^ e8 % PP else a ^ e8 * II % PP

theorem rt_lt (a : Nat) : rt a < PP := by unfold rt; split <;> exact Nat.mod_lt _ PP_pos

theorem rt_zero (a : Nat) (h : a % PP = 0) : rt a = 0 := by
  have he : 0 < e8 := by decide +kernel
  have h1 := pow_zero_mod a e8 h he
  unfold rt
  rw [Nat.mul_mod, h1, h, Nat.mul_zero, Nat.zero_mod, if_pos rfl]

/-- It is one, just if the number is a square. -/
theorem rt_ok (a : Nat) : rt a * rt a % PP = a % PP ↔ isSq a := by
  by_cases h0 : a % PP = 0
  · rw [rt_zero a h0, h0]
    exact ⟨fun _ => .inl h0, fun _ => by rw [Nat.mul_zero, Nat.zero_mod]⟩
  · have hP := PP_two
    have hra := ra_sq a
    have hq := quarter_sq a
    have ht := Nat.mod_lt (a ^ ((PP - 1) / 4)) PP_pos
    -- times a is told apart
    have hc : ∀ x : Nat, a * x % PP = a % PP → x % PP = 1 := by
      intro x hx
      have h1 := inv a h0
      have h2 : x * (a * a ^ (PP - 2)) % PP = x % PP := by rw [Nat.mul_mod, h1, Nat.mul_one, Nat.mod_mod]
      rw [← h2, ← Nat.mul_assoc, Nat.mul_comm x a, Nat.mul_mod, hx, ← Nat.mul_mod, h1]
    have hc' : ∀ x : Nat, x % PP = 1 → a * x % PP = a % PP := fun x hx => by rw [Nat.mul_mod, hx, Nat.mul_one, Nat.mod_mod]
    by_cases h1 : a ^ e8 * a ^ e8 % PP = a % PP
    · have ht1 := hc _ (hra.symm.trans h1)
      have : isSq a := by
        right
        rw [← hq, Nat.mul_mod, ht1, Nat.mod_eq_of_lt one_lt]
      refine ⟨fun _ => this, fun _ => ?_⟩
      unfold rt
      rw [if_pos h1, ← Nat.mul_mod, h1]
    · have e : rt a * rt a % PP = a * (a ^ ((PP - 1) / 4) * (PP - 1)) % PP := by
        unfold rt
        rw [if_neg h1, ← Nat.mul_mod, show a ^ e8 * II * (a ^ e8 * II) = (a ^ e8 * a ^ e8) * (II * II) by
          rw [Nat.mul_mul_mul_comm], Nat.mul_mod, hra, II_sq, Nat.mod_mul_mod, Nat.mul_assoc]
      rw [e]
      generalize hT : a ^ ((PP - 1) / 4) = t at hra hq ht
      have hneg : t * (PP - 1) % PP = 1 ↔ t % PP = PP - 1 := by
        constructor
        · intro h
          have h2 : t * (PP - 1) * (PP - 1) % PP = (PP - 1) % PP := by rw [Nat.mul_mod, h, Nat.one_mul, Nat.mod_mod]
          have h3 : (PP - 1) * (PP - 1) % PP = 1 := by decide +kernel
          rw [Nat.mul_assoc, Nat.mul_mod, h3, Nat.mul_one, Nat.mod_mod, Nat.mod_eq_of_lt (show PP - 1 < PP by omega)] at h2
          exact h2
        · intro h
          have h3 : (PP - 1) * (PP - 1) % PP = 1 := by decide +kernel
          rw [Nat.mul_mod, h, Nat.mod_eq_of_lt (show PP - 1 < PP by omega), h3]
      have ht1 : t % PP ≠ 1 := fun h => h1 (by rw [hra]; exact hc' t h)
      constructor
      · intro h
        right
        have := hneg.1 (hc _ h)
        rw [← hq, Nat.mul_mod, this]
        decide +kernel
      · intro h
        rcases h with h | h
        · exact absurd h h0
        · rw [← hq] at h
          rcases sq_one t h with g | g
          · exact absurd g ht1
          · exact hc' _ (hneg.2 g)

/-- Squares are squares. -/
theorem sq_isSq (r : Nat) : isSq (r * r) := by
  by_cases h : r % PP = 0
  · left; rw [Nat.mul_mod, h, Nat.mul_zero, Nat.zero_mod]
  · right
    rw [← Nat.pow_two, ← Nat.pow_mul, half_two.1, fermat r h]

theorem isSq_mod (a : Nat) : isSq (a % PP) ↔ isSq a := by
  unfold isSq
  rw [Nat.mod_mod, pow_mod]

/-- Of two numbers that aren't 0: their product is a square if both are, or none. -/
theorem isSq_mul (a b : Nat) (ha : a % PP ≠ 0) (hb : b % PP ≠ 0) : isSq (a * b) ↔ (isSq a ↔ isSq b) := by
  have hab : a * b % PP ≠ 0 := fun h => by rcases nzd a b h with q | q <;> contradiction
  have key : ∀ x, x % PP ≠ 0 → (x ^ ((PP - 1) / 2) % PP = 1 ∨ x ^ ((PP - 1) / 2) % PP = PP - 1) := by
    intro x hx
    apply sq_one
    rw [← Nat.pow_add, ← Nat.two_mul, half_two.1, fermat x hx]
  have s : ∀ x, x % PP ≠ 0 → (isSq x ↔ x ^ ((PP - 1) / 2) % PP = 1) := fun x hx => ⟨fun h => h.resolve_left hx, .inr⟩
  rw [s _ hab, s _ ha, s _ hb, Nat.mul_pow, Nat.mul_mod]
  have h1 : (1 : Nat) ≠ PP - 1 := by decide +kernel
  have h2 : 1 * 1 % PP = 1 := by decide +kernel
  have h3 : (PP - 1) * (PP - 1) % PP = 1 := by decide +kernel
  have h4 : 1 * (PP - 1) % PP = PP - 1 := by decide +kernel
  have h5 : (PP - 1) * 1 % PP = PP - 1 := by decide +kernel
  rcases key a ha with p | p <;> rcases key b hb with q | q <;> rw [p, q]
  · simp [h2]
  · rw [h4]; simp [h1.symm]
  · rw [h5]; simp [h1.symm]
  · rw [h3]; simp [h1.symm]

/-- The even one of a number and what it lacks. -/
def even (r : Nat) : Nat := if r % 2 = 1 then PP - r else r

theorem even_ok (r : Nat) (hr : r < PP) : even r < PP ∧ even r % 2 = 0 ∧ (even r = r ∨ even r + r = PP) := by
  have hodd : PP % 2 = 1 := by decide +kernel
  unfold even
  split <;> omega

/-- Numbers of one square are the same, or together 0. -/
theorem same_sq (r s : Nat) (h : r * r % PP = s * s % PP) : r % PP = s % PP ∨ (r + s) % PP = 0 := by
  have hs := Nat.mod_lt s PP_pos
  -- (r - s) (r + s) is 0
  have h1 : (r + (PP - s % PP)) * (r + s) % PP = 0 := by
    have e : (r + (PP - s % PP)) * (r + s) + (s % PP) * s + (s % PP) * r = r * r + r * s + PP * (r + s) := by
      have : (PP - s % PP) * (r + s) + s % PP * (r + s) = PP * (r + s) := by rw [← Nat.add_mul]; congr 1; omega
      rw [Nat.add_mul, Nat.mul_add r, Nat.mul_add (s % PP)] at *
      omega
    have h2 : ((r + (PP - s % PP)) * (r + s) + (s % PP) * s + (s % PP) * r) % PP = (s * s + r * s) % PP := by
      rw [e, Nat.add_mul_mod_self_left, Nat.add_mod, h, ← Nat.add_mod]
    have h3 : ((s % PP) * s + (s % PP) * r) % PP = (s * s + r * s) % PP := by
      rw [Nat.add_mod, Nat.mod_mul_mod, Nat.mod_mul_mod, ← Nat.add_mod, Nat.mul_comm s r]
    rw [Nat.add_assoc, Nat.add_mod, h3] at h2
    generalize (r + (PP - s % PP)) * (r + s) = u at h2 ⊢
    generalize s * s + r * s = v at h2
    have hu := Nat.mod_lt u PP_pos
    have hv := Nat.mod_lt v PP_pos
    rcases Nat.lt_or_ge (u % PP + v % PP) PP with q | q
    · rw [Nat.mod_eq_of_lt q] at h2; omega
    · rw [Nat.mod_eq_sub_mod q, Nat.mod_eq_of_lt (by omega)] at h2; omega
  rcases nzd _ _ h1 with q | q
  · left
    rw [Nat.add_mod] at q
    have hr := Nat.mod_lt r PP_pos
    rcases Nat.eq_zero_or_pos (s % PP) with g | g
    · rw [g, Nat.sub_zero, Nat.mod_self, Nat.add_zero, Nat.mod_mod] at q; rw [q, g]
    · rw [Nat.mod_eq_of_lt (show PP - s % PP < PP by omega)] at q
      rcases Nat.lt_or_ge (r % PP + (PP - s % PP)) PP with k | k
      · rw [Nat.mod_eq_of_lt k] at q; omega
      · rw [Nat.mod_eq_sub_mod k, Nat.mod_eq_of_lt (by omega)] at q; omega
  · exact .inr q
end Go.Fp
