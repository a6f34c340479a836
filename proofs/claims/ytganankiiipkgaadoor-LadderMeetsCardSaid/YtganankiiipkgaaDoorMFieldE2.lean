/- What the field's references make of masked bytes and of small numbers. -/
import Derived.Test.YtganankiiipkgaaDoorMFieldE
namespace Go.Proofs.YtganankiiipkgaaDoor.fn
open Go Go.Proofs Go.Ev Go.Dg

theorem rMasked_eq {R : Type} (N : Nat) (hN : 100 < N) (B : Nat) (_hB : B < M256) (r : List Int → Option R) : rMasked.M N R (nn (dig 256 32 B)) r = r (U (B % 57896044618658097711785492504343953926634992332820282019728792003956564819968 % PP)) := by
  show rMasked.m (rRead.M N) (rLeast.M N) N _ r = _
  unfold rMasked.m
  have h31 : (nn (dig 256 32 B)).getD 31 0 = ((B / 256 ^ 31 % 256 : Nat) : Int) := by rw [nn_getD, dig_getD 32 B 31 (by omega)]
  have e1 : ((B / 256 ^ 31 % 256 : Nat) : Int).tmod 128 = ((B / 256 ^ 31 % 256 % 128 : Nat) : Int) := tmodN _ 128
  have e2 : (nn (dig 256 32 B)).set 31 ((B / 256 ^ 31 % 256 % 128 : Nat) : Int) = nn (dig 256 32 (B % 57896044618658097711785492504343953926634992332820282019728792003956564819968)) := by
    rw [nn_set, show dig 256 32 B = _ from dig_snoc 256 31 B, List.set_append_right _ _ (by simp [dig_length]), dig_length, Nat.sub_self, Nat.mod_mod_of_dvd _ (by decide)]
    show nn (dig 256 31 B ++ [B / 256 ^ 31 % 128]) = _
    rw [dig_top 256 31 B 128 (by decide) (by decide) (by decide), show (256 : Nat) ^ 31 * 128 = 57896044618658097711785492504343953926634992332820282019728792003956564819968 by decide +kernel]
  have hT : B % 57896044618658097711785492504343953926634992332820282019728792003956564819968 < M256 := by
    have h1 := Nat.mod_lt B (show 0 < 57896044618658097711785492504343953926634992332820282019728792003956564819968 by decide)
    have h2 := T_M
    omega
  rw [h31, e1, e2, rRead_eq N hN _ hT, rLeast_eq N hN _ hT]

theorem rSmall_eq {R : Type} (N : Nat) (hN : 100 < N) (n : Int) (hn : -9223372036854775808 ≤ n ∧ n < 9223372036854775808) (r : List Int → Option R) :
    rSmall.M N R n r = r (U (if n < 0 then PP - (-n).toNat else n.toNat)) := by
  show rSmall.m (rSub.M N) N n r = _
  unfold rSmall.m
  have hP : 100000000000000000000 < PP := by decide +kernel
  have hM := PP_M.1
  have row : ∀ k : Nat, k < 18446744073709551616 → ([((k % 4294967296 : Nat) : Int), ((k / 4294967296 % 4294967296 : Nat) : Int), 0, 0, 0, 0, 0, 0] : List Int) = U k := by
    intro k hk
    have h0 : k / 4294967296 / 4294967296 = 0 := Nat.div_eq_of_lt (by omega)
    show _ = nn (dig 4294967296 8 k)
    simp only [dig, h0, Nat.zero_mod, Nat.zero_div]
    rfl
  by_cases h : n < 0
  · obtain ⟨k, hk⟩ := Int.eq_ofNat_of_zero_le (show 0 ≤ -n by omega)
    have hn' : n = -(k : Int) := by omega
    subst hn'
    have e1 : IntKind.u64.wrap (0 - IntKind.u64.wrap (-(k : Int))) = (k : Int) := by
      rw [wrap_u (k := .u64) rfl, wrap_u (k := .u64) rfl]
      unfold un
      simp only [IntKind.bits, BitVec.toNat_ofInt]
      omega
    have e2 : ishr .u64 (k : Int) 32 = ((k / 4294967296 : Nat) : Int) := ishr_nat .u64 k 32 (by decide)
    rw [decide_eq_true h, cond_true, e1, e2, wrap_u32, wrap_u32, row k (by omega), zeros8', rSub_eq N hN 0 k (by omega) (by omega), Nat.zero_add, Nat.mod_eq_of_lt (show k < PP by omega), Nat.mod_eq_of_lt (show PP - k < PP by omega), if_pos h]
    congr 3
    omega
  · obtain ⟨k, rfl⟩ := Int.eq_ofNat_of_zero_le (show 0 ≤ n by omega)
    have e2 : ishr .u64 (k : Int) 32 = ((k / 4294967296 : Nat) : Int) := ishr_nat .u64 k 32 (by decide)
    rw [decide_eq_false h, cond_false, wrap_u64 k (by omega), e2, wrap_u32, wrap_u32, row k (by omega), if_neg h]
    rfl
end Go.Proofs.YtganankiiipkgaaDoor.fn
