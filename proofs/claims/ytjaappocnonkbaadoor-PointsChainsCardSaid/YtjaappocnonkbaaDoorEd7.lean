/- Which numbers are points, and the numbers of points. No program in sight. -/
import Derived.Test.YtjaappocnonkbaaDoorEd6
namespace Go.Proofs.YtjaappocnonkbaaDoor.fn
open Go Go.Proofs Go.Ev Go.Dg

section ring
variable {α : Type} [Lean.Grind.CommRing α]
theorem sq_opp_ring (u v : α) (h : u + v = 0) : u * u = v * v := by grind
theorem den_ring (a : α) (h : a + 1 = 0) : a = 0 - 1 := by grind
theorem den0_ring (d : α) (h : d * (0 * 0) + 1 = 0) : (1 : α) = 0 := by grind
theorem on_root_ring (d x y i : α) (hi : (d * (y * y) + 1) * i = 1) (h : x * x = (y * y - 1) * i) : (y * y - x * x) = 1 + d * (x * x) * (y * y) := by grind
theorem root_on_ring (d x y : α) (h : y * y - x * x = 1 + d * (x * x) * (y * y)) : x * x * (d * (y * y) + 1) = (y * y - 1) * 1 := by grind
theorem on_neg2_ring (d x y : α) (h : y * y - x * x = 1 + d * (x * x) * (y * y)) : y * y - (0 - x) * (0 - x) = 1 + d * ((0 - x) * (0 - x)) * (y * y) := by grind
end ring

theorem den_ne (y : F) : dd * (y * y) + 1 ≠ 0 := by
  intro h
  have h3 : dd * (y * y) = ii * ii := by rw [ii_sq]; exact den_ring _ h
  have h4 := no_root h3
  rw [h4] at h
  exact one_ne (den0_ring dd h)

/-- What x's square is, by y. -/
def uu (y : F) : F := (y * y - 1) * iv (dd * (y * y) + 1)

theorem on_of_root {x y : F} (h : x * x = uu y) : On (x, y) := on_root_ring dd x y _ (mul_iv (den_ne y)) h

/-- The even root. -/
def er (u : F) : Nat := Fp.even (Fp.rt u.val)
theorem er_facts (n : Nat) : Fp.even (Fp.rt n) < PP ∧ Fp.even (Fp.rt n) % 2 = 0 ∧ (Fp.even (Fp.rt n) = Fp.rt n ∨ Fp.even (Fp.rt n) + Fp.rt n = PP) ∧ (Fp.isSq n → Fp.rt n * Fp.rt n % PP = n % PP) := by
  have h1 := Fp.even_ok (Fp.rt n) (Fp.rt_lt n)
  have h2 := (Fp.rt_ok n).2
  exact ⟨h1.1, h1.2.1, h1.2.2, h2⟩
theorem er_lt (u : F) : er u < PP := (er_facts u.val).1
theorem er_even (u : F) : er u % 2 = 0 := (er_facts u.val).2.1
theorem er_sq_nat (n : Nat) (h : Fp.isSq n) : φ (Fp.even (Fp.rt n)) * φ (Fp.even (Fp.rt n)) = φ n := by
  obtain ⟨_, _, h4, h5⟩ := er_facts n
  have h5 := h5 h
  generalize Fp.even (Fp.rt n) = e at *
  generalize Fp.rt n = r at *
  have h6 : φ r * φ r = φ n := by rw [← φ_mul, φ_iff.2 h5]
  rcases h4 with h4 | h4
  · rw [h4, h6]
  · rw [← h6]
    have e1 : φ e + φ r = 0 := by
      rw [← φ_add, h4, ← φ_zero, φ_iff, Nat.mod_self, Nat.zero_mod]
    exact sq_opp_ring _ _ e1
theorem er_sq {u : F} (h : Fp.isSq u.val) : φ (er u) * φ (er u) = u := (er_sq_nat u.val h).trans (φ_val u)

open Classical in
/-- The point of a number of 256 bits. -/
noncomputable def dec (B : Nat) : Option (F × F) :=
  if B % 57896044618658097711785492504343953926634992332820282019728792003956564819968 < PP then
    if Fp.isSq (uu (φ (B % 57896044618658097711785492504343953926634992332820282019728792003956564819968))).val then
      if 57896044618658097711785492504343953926634992332820282019728792003956564819968 ≤ B then (if er (uu (φ (B % 57896044618658097711785492504343953926634992332820282019728792003956564819968))) = 0 then none else some (0 - φ (er (uu (φ (B % 57896044618658097711785492504343953926634992332820282019728792003956564819968)))), φ (B % 57896044618658097711785492504343953926634992332820282019728792003956564819968)))
      else some (φ (er (uu (φ (B % 57896044618658097711785492504343953926634992332820282019728792003956564819968)))), φ (B % 57896044618658097711785492504343953926634992332820282019728792003956564819968))
    else none
  else none

theorem dec_on {B : Nat} {p : F × F} (h : dec B = some p) : On p := by
  unfold dec at h
  split at h
  · split at h
    · rename_i hs
      have ho : On (φ (er (uu (φ (B % 57896044618658097711785492504343953926634992332820282019728792003956564819968)))), φ (B % 57896044618658097711785492504343953926634992332820282019728792003956564819968)) := on_of_root (er_sq hs)
      split at h
      · split at h
        · cases h
        · cases h; exact on_neg2_ring dd _ _ ho
      · cases h; exact ho
    · cases h
  · cases h

/-- The number of a point's bytes. -/
def pb (p : F × F) : Nat := p.2.val + (if p.1.val % 2 = 1 then 57896044618658097711785492504343953926634992332820282019728792003956564819968 else 0)

theorem pb_lt (p : F × F) : pb p < 256 ^ 32 := by
  have h1 := p.2.isLt
  have h2 := PP_T
  have h3 : 256 ^ 32 = 2 * 57896044618658097711785492504343953926634992332820282019728792003956564819968 := by decide +kernel
  rw [h3]
  unfold pb
  split <;> omega

theorem val_φ {x : Nat} (h : x < PP) : (φ x).val = x := Nat.mod_eq_of_lt h
theorem neg_val (x : Nat) (h : x < PP) (h0 : x ≠ 0) : (0 - φ x : F).val = PP - x := by
  show (PP - x % PP + (0 : F).val) % PP = PP - x
  rw [Nat.mod_eq_of_lt h]
  show (PP - x + 0) % PP = PP - x
  rw [Nat.add_zero, Nat.mod_eq_of_lt (by omega)]

theorem dec_pb {B : Nat} {p : F × F} (hB : B < 256 ^ 32) (h : dec B = some p) : pb p = B := by
  have h3 : 256 ^ 32 = 2 * 57896044618658097711785492504343953926634992332820282019728792003956564819968 := by decide +kernel
  have hodd := PP_odd
  rw [h3] at hB
  unfold dec at h
  split at h
  · rename_i hy
    split at h
    · have e1 := er_lt (uu (φ (B % 57896044618658097711785492504343953926634992332820282019728792003956564819968)))
      have e2 := er_even (uu (φ (B % 57896044618658097711785492504343953926634992332820282019728792003956564819968)))
      split at h
      · split at h
        · cases h
        · rename_i hT h0
          cases h
          unfold pb
          simp only
          rw [neg_val _ e1 h0, val_φ hy, if_pos (by omega)]
          omega
      · rename_i hT
        cases h
        unfold pb
        simp only
        rw [val_φ e1, val_φ hy, if_neg (by omega)]
        omega
    · cases h
  · cases h

/-- Points of one number are the same. -/
theorem pb_inj {p q : F × F} (hp : On p) (hq : On q) (h : pb p = pb q) : p = q := by
  have h1 := p.2.isLt
  have h2 := q.2.isLt
  have h3 := PP_T
  unfold pb at h
  refine same_bits hp hq (Fin.ext ?_) ?_
  · split at h <;> split at h <;> omega
  · split at h <;> split at h <;> omega

end Go.Proofs.YtjaappocnonkbaaDoor.fn
