/- Numbers as rows of digits, and carries. No program in sight. -/
import Derived.Test.YthajoenmfppenaaDoorEv4
namespace Go.Dg
open Go Go.Ev
def dig (B : Nat) : Nat → Nat → List Nat
  | 0, _ => []
  | n + 1, v => v % B :: dig B n (v / B)
theorem dig_length (B : Nat) : ∀ (n v : Nat), (dig B n v).length = n
  | 0, _ => rfl
  | n + 1, v => by simp [dig, dig_length B n]
theorem dig_append {B : Nat} : ∀ (m n v : Nat), dig B (m + n) v = dig B m v ++ dig B n (v / B ^ m)
  | 0, n, v => by simp [dig]
  | m + 1, n, v => by
    rw [show m + 1 + n = (m + n) + 1 by omega]
    simp only [dig, List.cons_append]
    rw [dig_append m n, Nat.div_div_eq_div_mul, Nat.pow_succ, Nat.mul_comm B]
abbrev nn (l : List Nat) : List Int := l.map Int.ofNat
theorem nn_set (l : List Nat) (i v : Nat) : (nn l).set i (v : Int) = nn (l.set i v) := by simp [nn, List.map_set]
theorem wrap_u64 (a : Nat) (h : a < 18446744073709551616) : IntKind.wrap .u64 (a : Int) = (a : Int) := by
  rw [wrap_u (k := .u64) rfl]
  unfold un
  simp only [IntKind.bits, BitVec.toNat_ofInt]
  omega
theorem wrap_u8 (a : Nat) : IntKind.wrap .u8 (a : Int) = ((a % 256 : Nat) : Int) := by
  rw [wrap_u (k := .u8) rfl]
  unfold un
  simp only [IntKind.bits, BitVec.toNat_ofInt]
  omega
theorem wrap_u64z (z : Int) (h0 : 0 ≤ z) (h : z < 18446744073709551616) : IntKind.wrap .u64 z = z := by
  obtain ⟨a, rfl⟩ := Int.eq_ofNat_of_zero_le h0
  exact wrap_u64 a (by omega)
theorem wrap_i64z (z : Int) (h0 : -9223372036854775808 ≤ z) (h : z < 9223372036854775808) : IntKind.wrap .i64 z = z := by
  unfold IntKind.wrap
  simp only [IntKind.signed, IntKind.bits, Bool.true_and]
  split
  · rename_i hc
    have hc := of_decide_eq_true hc
    omega
  · rename_i hc
    have hc := of_decide_eq_false (Bool.eq_false_iff.2 hc)
    omega
theorem ishr_nat (k : IntKind) (a w : Nat) (hw : w ≤ k.bits) : ishr k (a : Int) (w : Int) = ((a / 2 ^ w : Nat) : Int) := by
  unfold ishr
  rw [Int.toNat_natCast, Nat.min_eq_left hw]
  have : ((2 : Int) ^ w) = ((2 ^ w : Nat) : Int) := by simp
  rw [this, Int.fdiv_eq_ediv_of_nonneg _ (Int.natCast_nonneg _)]
  rfl
end Go.Dg
namespace Go.Dg
open Go Go.Ev
theorem app_set (pre : List Nat) (r : Nat) (rest : List Nat) {i : Int} (hi : i = pre.length) (v : Nat) : (nn (pre ++ r :: rest)).set i.toNat (v : Int) = nn ((pre ++ [v]) ++ rest) := by
  subst hi
  rw [Int.toNat_natCast, nn_set, List.set_append_right _ _ (Nat.le_refl _), Nat.sub_self]
  simp
end Go.Dg
namespace Go.Dg
open Go Go.Ev
theorem dig_snoc (B n v : Nat) : dig B (n + 1) v = dig B n v ++ [v / B ^ n % B] := by
  rw [dig_append n 1 v]; rfl
theorem replicate_set (n : Nat) (v : Nat) (pre : List Nat) {i : Int} (hi : i = pre.length) (hn : 0 < n) : (nn (pre ++ List.replicate n 0)).set i.toNat (v : Int) = nn ((pre ++ [v]) ++ List.replicate (n - 1) 0) := by
  obtain ⟨n, rfl⟩ : ∃ k, n = k + 1 := ⟨n - 1, by omega⟩
  rw [List.replicate_succ, app_set pre 0 _ hi v, Nat.add_sub_cancel]
end Go.Dg
namespace Go.Dg
open Go Go.Ev
end Go.Dg
namespace Go.Dg
open Go Go.Ev
theorem app_set' (pre : List Nat) (r : Nat) (rest : List Nat) {i : Int} (hi : i = pre.length) (v : Nat) : (nn (pre ++ r :: rest)).set i.toNat (v : Int) = nn (pre ++ v :: rest) := by
  rw [app_set pre r rest hi v]; simp
theorem tdivN (a b : Nat) : (a : Int).tdiv (b : Int) = ((a / b : Nat) : Int) := by
  rw [Int.tdiv_eq_ediv_of_nonneg (Int.natCast_nonneg _)]; rfl
theorem tmodN (a b : Nat) : (a : Int).tmod (b : Int) = ((a % b : Nat) : Int) := by
  rw [Int.tmod_eq_emod_of_nonneg (Int.natCast_nonneg _)]; rfl
end Go.Dg
namespace Go.Dg
open Go Go.Ev
end Go.Dg
namespace Go.Dg
open Go Go.Ev
end Go.Dg
namespace Go.Dg
open Go Go.Ev
end Go.Dg
