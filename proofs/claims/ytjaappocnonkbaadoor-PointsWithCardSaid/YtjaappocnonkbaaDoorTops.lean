/- The last byte's first bit, of 32 bytes. -/
import Derived.Test.YtjaappocnonkbaaDoorMF
namespace Go.Proofs.YtjaappocnonkbaaDoor.fn
open Go Go.Proofs Go.Ev Go.Dg

theorem top_get (B : Nat) : (nn (dig 256 32 B)).getD 31 0 = ((B / 256 ^ 31 % 256 : Nat) : Int) := by rw [nn_getD, dig_getD 32 B 31 (by omega)]

theorem top_low (B : Nat) : (nn (dig 256 32 B)).set 31 ((B / 256 ^ 31 % 256 % 128 : Nat) : Int) = nn (dig 256 32 (B % 57896044618658097711785492504343953926634992332820282019728792003956564819968)) := by
  rw [nn_set, show dig 256 32 B = _ from dig_snoc 256 31 B, List.set_append_right _ _ (by simp [dig_length]), dig_length, Nat.sub_self, Nat.mod_mod_of_dvd _ (by decide)]
  show nn (dig 256 31 B ++ [B / 256 ^ 31 % 128]) = _
  rw [dig_top 256 31 B 128 (by decide) (by decide) (by decide), show (256 : Nat) ^ 31 * 128 = 57896044618658097711785492504343953926634992332820282019728792003956564819968 by decide +kernel]

theorem top_high (B : Nat) (hB : B < 256 ^ 32) : 128 ≤ B / 256 ^ 31 % 256 ↔ 57896044618658097711785492504343953926634992332820282019728792003956564819968 ≤ B := by
  have h1 : 256 ^ 31 * 128 = 57896044618658097711785492504343953926634992332820282019728792003956564819968 := by decide +kernel
  have h2 : 256 ^ 32 = 256 ^ 31 * 256 := by decide +kernel
  rw [h2] at hB
  rw [← h1]
  generalize (256 : Nat) ^ 31 = c at *
  have hc : 0 < c := by
    rcases Nat.eq_zero_or_pos c with h | h
    · subst h; simp at hB
    · exact h
  have h3 : B / c < 256 := Nat.div_lt_of_lt_mul hB
  rw [Nat.mod_eq_of_lt h3, Nat.le_div_iff_mul_le hc, Nat.mul_comm]

/-- The bit put in. -/
theorem top_put (v : Nat) (hv : v < 57896044618658097711785492504343953926634992332820282019728792003956564819968) : (nn (dig 256 32 v)).set 31 ((v / 256 ^ 31 % 256 + 128 : Nat) : Int) = nn (dig 256 32 (v + 57896044618658097711785492504343953926634992332820282019728792003956564819968)) ∧ v / 256 ^ 31 % 256 < 128 := by
  have h1 : 256 ^ 31 * 128 = 57896044618658097711785492504343953926634992332820282019728792003956564819968 := by decide +kernel
  have h4 : v / 256 ^ 31 < 128 := Nat.div_lt_of_lt_mul (by rw [h1]; exact hv)
  have h5 : v / 256 ^ 31 % 256 = v / 256 ^ 31 := Nat.mod_eq_of_lt (by omega)
  refine ⟨?_, by omega⟩
  rw [nn_set, show dig 256 32 v = _ from dig_snoc 256 31 v, List.set_append_right _ _ (by simp [dig_length]), dig_length, Nat.sub_self, h5]
  show nn (dig 256 31 v ++ [v / 256 ^ 31 + 128]) = _
  rw [show dig 256 32 (v + 57896044618658097711785492504343953926634992332820282019728792003956564819968) = _ from dig_snoc 256 31 (v + 57896044618658097711785492504343953926634992332820282019728792003956564819968), ← h1]
  have hc : 0 < 256 ^ 31 := by decide +kernel
  have e1 : dig 256 31 (v + 256 ^ 31 * 128) = dig 256 31 v := by
    rw [← dig_mod (B := 256) 31 (v + 256 ^ 31 * 128), Nat.add_mul_mod_self_left, dig_mod]
  rw [e1, Nat.add_mul_div_left _ _ hc, Nat.mod_eq_of_lt (show v / 256 ^ 31 + 128 < 256 by omega)]

theorem top_bits : ∀ x : Fin 256, iandn .u8 (x.val : Int) 128 = ((x.val % 128 : Nat) : Int) ∧ (x.val < 128 → ior .u8 (x.val : Int) 128 = ((x.val + 128 : Nat) : Int)) := by decide +kernel

end Go.Proofs.YtjaappocnonkbaaDoor.fn
