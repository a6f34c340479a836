/- Numbers as rows of digits, and carries. No program in sight. -/
import Derived.Test.YtjaekdcbjfgcpaaDoorEv4
namespace Go.Dg
open Go Go.Ev

/-- The number of a row of digits, the low one first. -/
def vl (B : Nat) : List Nat → Nat
  | [] => 0
  | x :: xs => x + B * vl B xs

/-- So many digits of a number. -/
def dig (B : Nat) : Nat → Nat → List Nat
  | 0, _ => []
  | n + 1, v => v % B :: dig B n (v / B)

theorem dig_length (B : Nat) : ∀ (n v : Nat), (dig B n v).length = n
  | 0, _ => rfl
  | n + 1, v => by simp [dig, dig_length B n]

theorem vl_append (B : Nat) : ∀ (a b : List Nat), vl B (a ++ b) = vl B a + B ^ a.length * vl B b
  | [], b => by simp [vl]
  | x :: a, b => by
    simp only [List.cons_append, vl, vl_append B a b, List.length_cons, Nat.pow_succ, Nat.mul_add]
    rw [Nat.add_assoc, Nat.mul_comm (B ^ a.length) B, Nat.mul_assoc]

theorem vl_dig {B : Nat} : ∀ (n v : Nat), vl B (dig B n v) = v % B ^ n
  | 0, v => by simp [dig, vl, Nat.mod_one]
  | n + 1, v => by
    simp only [dig, vl, vl_dig n]
    rw [Nat.pow_succ, Nat.mul_comm (B ^ n) B, Nat.mod_mul]

theorem vl_lt {B : Nat} : ∀ {l : List Nat}, (∀ x ∈ l, x < B) → vl B l < B ^ l.length
  | [], _ => by simp [vl]
  | x :: l, h => by
    have h1 := h x (by simp)
    have h2 := vl_lt (l := l) fun y hy => h y (by simp [hy])
    simp only [vl, List.length_cons, Nat.pow_succ]
    have : B * (vl B l + 1) ≤ B * B ^ l.length := Nat.mul_le_mul_left B h2
    rw [Nat.mul_add, Nat.mul_one] at this
    rw [Nat.mul_comm (B ^ l.length) B]; omega

theorem dig_lt {B : Nat} (hB : 0 < B) : ∀ (n v : Nat), ∀ x ∈ dig B n v, x < B
  | 0, _, x, h => by simp [dig] at h
  | n + 1, v, x, h => by
    simp only [dig, List.mem_cons] at h
    rcases h with rfl | h
    · exact Nat.mod_lt _ hB
    · exact dig_lt hB n _ x h

theorem dig_vl {B : Nat} : ∀ {l : List Nat}, (∀ x ∈ l, x < B) → dig B l.length (vl B l) = l
  | [], _ => rfl
  | x :: l, h => by
    have h1 := h x (by simp)
    have hB : 0 < B := by omega
    have h2 := dig_vl (l := l) fun y hy => h y (by simp [hy])
    simp only [List.length_cons, dig, vl]
    rw [Nat.add_mul_mod_self_left, Nat.mod_eq_of_lt h1, Nat.add_mul_div_left _ _ hB, Nat.div_eq_of_lt h1, Nat.zero_add, h2]

theorem ex_dig {B : Nat} {l : List Nat} {n : Nat} (hn : l.length = n) (h : ∀ x ∈ l, x < B) : l = dig B n (vl B l) ∧ vl B l < B ^ n := by
  subst hn; exact ⟨(dig_vl h).symm, vl_lt h⟩

theorem dig_get {B : Nat} : ∀ (n v i : Nat), i < n → (dig B n v)[i]? = some (v / B ^ i % B)
  | 0, _, _, h => by omega
  | n + 1, v, 0, _ => by simp [dig]
  | n + 1, v, i + 1, h => by
    simp only [dig, List.getElem?_cons_succ]
    rw [dig_get n _ i (by omega), Nat.div_div_eq_div_mul, Nat.pow_succ, Nat.mul_comm B]

theorem dig_getD {B : Nat} (n v i : Nat) (h : i < n) : (dig B n v).getD i 0 = v / B ^ i % B := by
  rw [List.getD_eq_getElem?_getD, dig_get n v i h]; rfl

theorem dig_mod {B : Nat} : ∀ (n v : Nat), dig B n (v % B ^ n) = dig B n v
  | 0, _ => rfl
  | n + 1, v => by
    simp only [dig]
    have e : v % B ^ (n + 1) = v % B + B * (v / B % B ^ n) := by rw [Nat.pow_succ, Nat.mul_comm (B ^ n) B, Nat.mod_mul]
    rcases Nat.eq_zero_or_pos B with h0 | hB
    · subst h0
      congr 1
      · simp
      · simp
    · have h1 := Nat.mod_lt v hB
      rw [e, Nat.add_mul_mod_self_left, Nat.mod_mod, Nat.add_mul_div_left _ _ hB, Nat.div_eq_of_lt h1, Nat.zero_add, dig_mod n]

theorem dig_inj {B n v w : Nat} (hv : v < B ^ n) (hw : w < B ^ n) (h : dig B n v = dig B n w) : v = w := by
  have := congrArg (vl B) h
  rwa [vl_dig, vl_dig, Nat.mod_eq_of_lt hv, Nat.mod_eq_of_lt hw] at this

theorem dig_ext {B n : Nat} {l : List Nat} {v : Nat} (hl : l.length = n) (h : ∀ i, i < n → l[i]? = some (v / B ^ i % B)) : l = dig B n v := by
  apply List.ext_getElem?
  intro i
  by_cases hi : i < n
  · rw [h i hi, dig_get n v i hi]
  · rw [List.getElem?_eq_none (by omega), List.getElem?_eq_none (by rw [dig_length]; omega)]

theorem dig_zero (B : Nat) : ∀ n, dig B n 0 = List.replicate n 0
  | 0 => rfl
  | n + 1 => by simp [dig, dig_zero B n, List.replicate_succ]

theorem dig_append {B : Nat} : ∀ (m n v : Nat), dig B (m + n) v = dig B m v ++ dig B n (v / B ^ m)
  | 0, n, v => by simp [dig]
  | m + 1, n, v => by
    rw [show m + 1 + n = (m + n) + 1 by omega]
    simp only [dig, List.cons_append]
    rw [dig_append m n, Nat.div_div_eq_div_mul, Nat.pow_succ, Nat.mul_comm B]

/-! ### carries -/

def car (B : Nat) : Nat → List Nat → List Nat × Nat
  | o, [] => ([], o)
  | o, x :: xs => (((x + o) % B) :: (car B ((x + o) / B) xs).1, (car B ((x + o) / B) xs).2)

theorem car_dig {B : Nat} (hB : 0 < B) : ∀ (l : List Nat) (o : Nat), car B o l = (dig B l.length (vl B l + o), (vl B l + o) / B ^ l.length)
  | [], o => by simp [car, dig, vl]
  | x :: l, o => by
    have e : x + B * vl B l + o = (x + o) + B * vl B l := by omega
    simp only [car, car_dig hB l, vl, List.length_cons, dig]
    rw [e, Nat.add_mul_mod_self_left, Nat.add_mul_div_left _ _ hB]
    have h1 : vl B l + (x + o) / B = (x + o) / B + vl B l := Nat.add_comm _ _
    rw [h1]
    congr 1
    rw [Nat.pow_succ, Nat.mul_comm (B ^ l.length) B, ← Nat.div_div_eq_div_mul, Nat.add_mul_div_left _ _ hB]

/-! ### numbers of the machine -/

abbrev nn (l : List Nat) : List Int := l.map Int.ofNat

theorem nn_getD (l : List Nat) (i : Nat) : (nn l).getD i 0 = ((l.getD i 0 : Nat) : Int) := by
  simp only [nn, List.getD_eq_getElem?_getD, List.getElem?_map]
  cases l[i]? <;> rfl

theorem nn_set (l : List Nat) (i v : Nat) : (nn l).set i (v : Int) = nn (l.set i v) := by simp [nn, List.map_set]

theorem ex_nn : ∀ (l : List Int) (M : Nat), (∀ x ∈ l, 0 ≤ x ∧ x < (M : Int)) → ∃ L : List Nat, l = nn L ∧ ∀ x ∈ L, x < M
  | [], _, _ => ⟨[], rfl, fun _ h => by simp at h⟩
  | x :: l, M, h => by
    obtain ⟨L, rfl, hL⟩ := ex_nn l M fun y hy => h y (by simp [hy])
    have h1 := h x (by simp)
    refine ⟨x.toNat :: L, by simp [nn]; omega, fun y hy => ?_⟩
    simp only [List.mem_cons] at hy
    rcases hy with rfl | hy
    · omega
    · exact hL y hy

theorem wrap_nat {k : IntKind} (a : Nat) (h : a < 2 ^ (k.bits - 1)) : k.wrap (a : Int) = (a : Int) := by
  have h2 : (2 : Int) ^ k.bits = 2 * 2 ^ (k.bits - 1) := by cases k <;> rfl
  have h3 : (a : Int) < 2 ^ (k.bits - 1) := by
    have := Int.ofNat_lt.2 h
    simpa using this
  unfold IntKind.wrap
  simp only [h2]
  rw [Int.emod_eq_of_lt (by omega) (by omega)]
  split
  · rename_i hc
    simp only [Bool.and_eq_true, decide_eq_true_eq] at hc
    omega
  · rfl

theorem wrap_u64 (a : Nat) (h : a < 18446744073709551616) : IntKind.wrap .u64 (a : Int) = (a : Int) := by
  rw [wrap_u (k := .u64) rfl]
  unfold un
  simp only [IntKind.bits, BitVec.toNat_ofInt]
  omega

theorem wrap_u32 (a : Nat) : IntKind.wrap .u32 (a : Int) = ((a % 4294967296 : Nat) : Int) := by
  rw [wrap_u (k := .u32) rfl]
  unfold un
  simp only [IntKind.bits, BitVec.toNat_ofInt]
  omega

theorem wrap_u8 (a : Nat) : IntKind.wrap .u8 (a : Int) = ((a % 256 : Nat) : Int) := by
  rw [wrap_u (k := .u8) rfl]
  unfold un
  simp only [IntKind.bits, BitVec.toNat_ofInt]
  omega

theorem wrap_u64z (z : Int) (h0 : 0 ≤ z) (h : z < 18446744073709551616) : IntKind.wrap .u64 z = z := by
  obtain ⟨a, rfl⟩ := Int.eq_ofNat_of_zero_le h0
  exact wrap_u64 a (by omega)

theorem wrap_i64z (z : Int) (h0 : -9223372036854775808 ≤ z) (h : z < 9223372036854775808) : IntKind.wrap .i64 z = z := by
  unfold IntKind.wrap
  simp only [IntKind.signed, IntKind.bits, Bool.true_and]
  split
  · rename_i hc
    have hc := of_decide_eq_true hc
    omega
  · rename_i hc
    have hc := of_decide_eq_false (Bool.eq_false_iff.2 hc)
    omega

theorem iand_mask (a w : Nat) (ha : a < 18446744073709551616) (hw : w ≤ 63) : iand .u64 (a : Int) ((2 ^ w - 1 : Nat) : Int) = ((a % 2 ^ w : Nat) : Int) := by
  have h2 : 2 ^ w ≤ 2 ^ 63 := Nat.pow_le_pow_right (by omega) hw
  have e1 : (a : Int) = un (BitVec.ofNat 64 a) := by unfold un; rw [BitVec.toNat_ofNat, Nat.mod_eq_of_lt (by omega)]
  have e2 : ((2 ^ w - 1 : Nat) : Int) = un (BitVec.ofNat 64 (2 ^ w - 1)) := by unfold un; rw [BitVec.toNat_ofNat, Nat.mod_eq_of_lt (by omega)]
  rw [e1, e2, iand64]
  unfold un
  rw [BitVec.toNat_and, BitVec.toNat_ofNat, BitVec.toNat_ofNat, Nat.mod_eq_of_lt (show a < 2 ^ 64 by omega), Nat.mod_eq_of_lt (show 2 ^ w - 1 < 2 ^ 64 by omega), Nat.and_two_pow_sub_one_eq_mod]

theorem ishr_nat (k : IntKind) (a w : Nat) (hw : w ≤ k.bits) : ishr k (a : Int) (w : Int) = ((a / 2 ^ w : Nat) : Int) := by
  unfold ishr
  rw [Int.toNat_natCast, Nat.min_eq_left hw]
  have : ((2 : Int) ^ w) = ((2 ^ w : Nat) : Int) := by simp
  rw [this, Int.fdiv_eq_ediv_of_nonneg _ (Int.natCast_nonneg _)]
  rfl

end Go.Dg
namespace Go.Dg
open Go Go.Ev

/-! ### rows that are gone through, place by place -/

theorem app_getD (pre : List Nat) (x : Nat) (xs : List Nat) {i : Int} (hi : i = pre.length) : (nn (pre ++ x :: xs)).getD i.toNat 0 = (x : Int) := by
  subst hi
  rw [Int.toNat_natCast, nn_getD, List.getD_eq_getElem?_getD, List.getElem?_append_right (Nat.le_refl _), Nat.sub_self]
  rfl

theorem app_set (pre : List Nat) (r : Nat) (rest : List Nat) {i : Int} (hi : i = pre.length) (v : Nat) : (nn (pre ++ r :: rest)).set i.toNat (v : Int) = nn ((pre ++ [v]) ++ rest) := by
  subst hi
  rw [Int.toNat_natCast, nn_set, List.set_append_right _ _ (Nat.le_refl _), Nat.sub_self]
  simp

theorem app_next (pre : List Nat) (x : Nat) (xs : List Nat) : pre ++ x :: xs = (pre ++ [x]) ++ xs := by simp

/-- A row less another one, digit by digit, with what is owed. -/
def bor (B : Nat) : Nat → List Nat → List Nat → List Nat × Nat
  | o, x :: xs, y :: ys => ((x + B - y - o) % B :: (bor B (1 - (x + B - y - o) / B) xs ys).1, (bor B (1 - (x + B - y - o) / B) xs ys).2)
  | o, _, _ => ([], o)

def lt01 (a b : Nat) : Nat := if a < b then 1 else 0
theorem lt01_congr {a b c d : Nat} (h : a < b ↔ c < d) : lt01 a b = lt01 c d := by
  unfold lt01
  by_cases hq : a < b
  · rw [if_pos hq, if_pos (h.1 hq)]
  · rw [if_neg hq, if_neg fun g => hq (h.2 g)]
theorem lt01_yes {a b : Nat} (h : a < b) : lt01 a b = 1 := if_pos h
theorem lt01_no {a b : Nat} (h : b ≤ a) : lt01 a b = 0 := if_neg (by omega)
theorem lt01_le (a b : Nat) : lt01 a b ≤ 1 := by unfold lt01; split <;> omega

theorem bor_dig {B : Nat} (hB : 1 < B) : ∀ (n : Nat) (xs ys : List Nat) (o : Nat), xs.length = n → ys.length = n → (∀ x ∈ xs, x < B) → (∀ y ∈ ys, y < B) → o ≤ 1 →
    bor B o xs ys = (dig B n (vl B xs + B ^ n - vl B ys - o), lt01 (vl B xs) (vl B ys + o))
  | 0, xs, ys, o, h1, h2, _, _, ho => by
    have e1 := List.length_eq_zero_iff.1 h1
    have e2 := List.length_eq_zero_iff.1 h2
    subst e1; subst e2
    simp only [bor, vl, dig]
    congr 1
    rcases Nat.lt_or_ge 0 o with h | h
    · rw [lt01_yes (by omega)]; omega
    · rw [lt01_no (by omega)]; omega
  | n + 1, x :: xs, y :: ys, o, h1, h2, hx, hy, ho => by
    have hx0 := hx x (by simp)
    have hy0 := hy y (by simp)
    have hx' : ∀ z ∈ xs, z < B := fun z hz => hx z (by simp [hz])
    have hy' : ∀ z ∈ ys, z < B := fun z hz => hy z (by simp [hz])
    have l1 : xs.length = n := by simpa using h1
    have l2 : ys.length = n := by simpa using h2
    have by1 : vl B ys < B ^ n := l2 ▸ vl_lt hy'
    have hz : (x + B - y - o) / B = if x < y + o then 0 else 1 := by
      split
      · exact Nat.div_eq_of_lt (by omega)
      · exact Nat.div_eq_of_lt_le (by omega) (by omega)
    have hz2 : (x + B - y - o) % B = if x < y + o then x + B - y - o else x - y - o := by
      split
      · exact Nat.mod_eq_of_lt (by omega)
      · rw [show x + B - y - o = (x - y - o) + B by omega, Nat.add_mod_right]
        exact Nat.mod_eq_of_lt (by omega)
    simp only [bor]
    rw [bor_dig hB n xs ys _ l1 l2 hx' hy' (by omega), hz, hz2]
    simp only [vl, dig, Nat.pow_succ]
    have hp : B ^ n * B = B * B ^ n := Nat.mul_comm _ _
    rw [hp]
    by_cases hc : x < y + o
    · simp only [hc, if_true]
      have e : x + B * vl B xs + B * B ^ n - (y + B * vl B ys) - o = (x + B - y - o) + B * (vl B xs + B ^ n - vl B ys - 1) := by
        have : B * (vl B xs + B ^ n - vl B ys - 1) = B * vl B xs + B * B ^ n - B * vl B ys - B := by
          rw [Nat.mul_sub, Nat.mul_sub, Nat.mul_add, Nat.mul_one]
        have h3 : B * (vl B ys + 1) ≤ B * B ^ n := Nat.mul_le_mul_left B by1
        rw [Nat.mul_add, Nat.mul_one] at h3
        omega
      rw [e, Nat.add_mul_mod_self_left, Nat.mod_eq_of_lt (show x + B - y - o < B by omega), Nat.add_mul_div_left _ _ (by omega), Nat.div_eq_of_lt (show x + B - y - o < B by omega), Nat.zero_add]
      congr 1
      have h4 : vl B xs < vl B ys + (1 - 0) ↔ x + B * vl B xs < y + B * vl B ys + o := by
        constructor
        · intro h
          have : B * vl B xs ≤ B * vl B ys := Nat.mul_le_mul_left B (by omega)
          omega
        · intro h
          rcases Nat.lt_or_ge (vl B ys) (vl B xs) with g | g
          · have : B * (vl B ys + 1) ≤ B * vl B xs := Nat.mul_le_mul_left B g
            rw [Nat.mul_add, Nat.mul_one] at this
            omega
          · omega
      exact lt01_congr h4
    · simp only [hc, if_false]
      have e : x + B * vl B xs + B * B ^ n - (y + B * vl B ys) - o = (x - y - o) + B * (vl B xs + B ^ n - vl B ys - 0) := by
        have : B * (vl B xs + B ^ n - vl B ys - 0) = B * vl B xs + B * B ^ n - B * vl B ys := by
          rw [Nat.sub_zero, Nat.mul_sub, Nat.mul_add]
        have h3 : B * vl B ys ≤ B * B ^ n := Nat.mul_le_mul_left B (Nat.le_of_lt by1)
        omega
      rw [e, Nat.add_mul_mod_self_left, Nat.mod_eq_of_lt (show x - y - o < B by omega), Nat.add_mul_div_left _ _ (by omega), Nat.div_eq_of_lt (show x - y - o < B by omega), Nat.zero_add]
      congr 1
      have h4 : vl B xs < vl B ys + (1 - 1) ↔ x + B * vl B xs < y + B * vl B ys + o := by
        constructor
        · intro h
          have : B * (vl B xs + 1) ≤ B * vl B ys := Nat.mul_le_mul_left B (by omega)
          rw [Nat.mul_add, Nat.mul_one] at this
          omega
        · intro h
          rcases Nat.lt_or_ge (vl B xs) (vl B ys) with g | g
          · omega
          · have : B * vl B ys ≤ B * vl B xs := Nat.mul_le_mul_left B g
            omega
      exact lt01_congr h4
end Go.Dg
namespace Go.Dg
open Go Go.Ev

theorem dig_snoc (B n v : Nat) : dig B (n + 1) v = dig B n v ++ [v / B ^ n % B] := by
  rw [dig_append n 1 v]; rfl

/-- A digit's digits. -/
theorem sub_digit (v q r c n : Nat) (h : r < n) : v / (c ^ n) ^ q % c ^ n / c ^ r % c = v / c ^ (n * q + r) % c := by
  have e : c ^ n = c ^ r * c ^ (n - r) := by rw [← Nat.pow_add]; congr 1; omega
  rw [← Nat.pow_mul]
  generalize hu : v / c ^ (n * q) = u
  rw [e, Nat.mod_mul_right_div_self, Nat.mod_mod_of_dvd _ (Nat.dvd_of_pow_dvd (show 1 ≤ n - r by omega) (Nat.dvd_refl _)), ← hu, Nat.div_div_eq_div_mul, ← Nat.pow_add]

theorem bit_digit (v i : Nat) : v / 256 ^ (i / 8) % 256 / 2 ^ (i % 8) % 2 = v / 2 ^ i % 2 := by
  have h := sub_digit v (i / 8) (i % 8) 2 8 (Nat.mod_lt _ (by decide))
  rw [show (2 : Nat) ^ 8 = 256 from rfl] at h
  rw [h, Nat.div_add_mod]

theorem replicate_set (n : Nat) (v : Nat) (pre : List Nat) {i : Int} (hi : i = pre.length) (hn : 0 < n) : (nn (pre ++ List.replicate n 0)).set i.toNat (v : Int) = nn ((pre ++ [v]) ++ List.replicate (n - 1) 0) := by
  obtain ⟨n, rfl⟩ : ∃ k, n = k + 1 := ⟨n - 1, by omega⟩
  rw [List.replicate_succ, app_set pre 0 _ hi v, Nat.add_sub_cancel]

theorem ior_bit (a o : Nat) (ha : a < 9223372036854775808) (ho : o ≤ 1) : ior .u64 ((2 * a : Nat) : Int) (o : Int) = ((2 * a + o : Nat) : Int) := by
  have e1 : ((2 * a : Nat) : Int) = un (BitVec.ofNat 64 (2 * a)) := by unfold un; rw [BitVec.toNat_ofNat, Nat.mod_eq_of_lt (by omega)]
  have e2 : (o : Int) = un (BitVec.ofNat 64 o) := by unfold un; rw [BitVec.toNat_ofNat, Nat.mod_eq_of_lt (by omega)]
  rw [e1, e2, ior64]
  unfold un
  rw [BitVec.toNat_or, BitVec.toNat_ofNat, BitVec.toNat_ofNat, Nat.mod_eq_of_lt (show 2 * a < 2 ^ 64 by omega), Nat.mod_eq_of_lt (show o < 2 ^ 64 by omega)]
  have := Nat.two_pow_add_eq_or_of_lt (i := 1) (b := o) (by omega) a
  simpa using congrArg Int.ofNat this.symm

theorem ishl_one (a : Nat) (ha : a < 9223372036854775808) : ishl .u64 (a : Int) 1 = ((2 * a : Nat) : Int) := by
  have e : (a : Int) * 2 ^ (min (1 : Int).toNat IntKind.u64.bits) = ((2 * a : Nat) : Int) := by
    show (a : Int) * 2 ^ 1 = _
    omega
  unfold ishl
  rw [e, wrap_u64 _ (by omega)]

theorem iand_one8 (a : Nat) (ha : a < 256) : iand .u8 (a : Int) 1 = ((a % 2 : Nat) : Int) := by
  have e1 : (a : Int) = un (BitVec.ofNat 8 a) := by unfold un; rw [BitVec.toNat_ofNat, Nat.mod_eq_of_lt (by omega)]
  have e2 : (1 : Int) = un (1#8) := rfl
  rw [e1, e2, iand8]
  unfold un
  rw [BitVec.toNat_and, BitVec.toNat_ofNat, Nat.mod_eq_of_lt (show a < 2 ^ 8 by omega)]
  have := Nat.and_two_pow_sub_one_eq_mod a 1
  exact congrArg Int.ofNat this

/-- A bit of a row of bytes. -/
theorem bit8 (b i : Nat) (hb : b < 256) : iand .u8 (ishr .u8 (b : Int) ((i % 8 : Nat) : Int)) 1 = ((b / 2 ^ (i % 8) % 2 : Nat) : Int) := by
  rw [ishr_nat .u8 b (i % 8) (by simp only [IntKind.bits]; omega), iand_one8 _ (by have := Nat.div_le_self b (2 ^ (i % 8)); omega)]

/-- Sums of rows. -/
def addL : List Nat → List Nat → List Nat
  | x :: xs, y :: ys => (x + y) :: addL xs ys
  | _, _ => []

theorem addL_length : ∀ (xs ys : List Nat), xs.length = ys.length → (addL xs ys).length = xs.length
  | [], _, _ => rfl
  | x :: xs, [], h => by simp at h
  | x :: xs, y :: ys, h => by simp only [addL, List.length_cons]; rw [addL_length xs ys (by simpa using h)]

theorem vl_addL (B : Nat) : ∀ (xs ys : List Nat), xs.length = ys.length → vl B (addL xs ys) = vl B xs + vl B ys
  | [], [], _ => rfl
  | [], y :: ys, h => by simp at h
  | x :: xs, [], h => by simp at h
  | x :: xs, y :: ys, h => by
    simp only [addL, vl, vl_addL B xs ys (by simpa using h), Nat.mul_add]; omega

/-- A row, and so many times another one. -/
def mulL (c : Nat) : List Nat → List Nat → List Nat
  | x :: xs, y :: ys => (x + c * y) :: mulL c xs ys
  | _, _ => []

theorem mulL_length (c : Nat) : ∀ (xs ys : List Nat), xs.length = ys.length → (mulL c xs ys).length = xs.length
  | [], _, _ => rfl
  | x :: xs, [], h => by simp at h
  | x :: xs, y :: ys, h => by simp only [mulL, List.length_cons]; rw [mulL_length c xs ys (by simpa using h)]

theorem vl_mulL (B c : Nat) : ∀ (xs ys : List Nat), xs.length = ys.length → vl B (mulL c xs ys) = vl B xs + c * vl B ys
  | [], [], _ => by simp [mulL, vl]
  | [], y :: ys, h => by simp at h
  | x :: xs, [], h => by simp at h
  | x :: xs, y :: ys, h => by
    simp only [mulL, vl, vl_mulL B c xs ys (by simpa using h), Nat.mul_add]
    rw [Nat.mul_left_comm c B]; omega
end Go.Dg
namespace Go.Dg
open Go Go.Ev

/-- What a digit has too much goes to the next one; the last one keeps it. -/
def cnx (B : Nat) : List Nat → List Nat
  | x :: y :: r => (x % B) :: cnx B ((y + x / B) :: r)
  | l => l
termination_by l => l.length

theorem cnx_one (B x : Nat) : cnx B [x] = [x] := by unfold cnx; rfl
theorem cnx_cons (B x y : Nat) (r : List Nat) : cnx B (x :: y :: r) = (x % B) :: cnx B ((y + x / B) :: r) := by rw [cnx]

theorem cnx_dig {B : Nat} (hB : 0 < B) : ∀ (l : List Nat) (x : Nat), cnx B (x :: l) = dig B l.length (vl B (x :: l)) ++ [vl B (x :: l) / B ^ l.length]
  | [], x => by simp [cnx_one, dig, vl]
  | y :: l, x => by
    rw [cnx_cons, cnx_dig hB l]
    have e : vl B (x :: y :: l) = x + B * vl B (y :: l) := rfl
    have e2 : vl B ((y + x / B) :: l) = vl B (y :: l) + x / B := by simp only [vl]; omega
    have e3 : vl B (x :: y :: l) / B = vl B (y :: l) + x / B := by rw [e, Nat.add_mul_div_left _ _ hB, Nat.add_comm]
    have e4 : vl B (x :: y :: l) % B = x % B := by rw [e, Nat.add_mul_mod_self_left]
    rw [List.length_cons, e2]
    simp only [dig, List.cons_append]
    rw [e3, e4, Nat.pow_succ, Nat.mul_comm (B ^ l.length) B, ← Nat.div_div_eq_div_mul, e3]

theorem cnx_full {B : Nat} (hB : 0 < B) {l : List Nat} {n : Nat} (hn : l.length = n + 1) (h : vl B l < B ^ (n + 1)) : cnx B l = dig B (n + 1) (vl B l) := by
  cases l with
  | nil => simp at hn
  | cons x l =>
    simp only [List.length_cons, Nat.add_right_cancel_iff] at hn
    rw [cnx_dig hB, dig_snoc, hn]
    congr 2
    rw [Nat.mod_eq_of_lt]
    apply Nat.div_lt_of_lt_mul
    rw [← Nat.pow_succ]; exact h

/-- One more bit. -/
theorem dig_bit (k n u i b : Nat) (hk : 0 < k) (hu : u < 2 ^ i) (hb : b ≤ 1) (_hi : i / k < n) :
    dig (2 ^ k) n (u + b * 2 ^ i) = (dig (2 ^ k) n u).set (i / k) (u / (2 ^ k) ^ (i / k) % 2 ^ k + b * 2 ^ (i % k)) ∧ u / (2 ^ k) ^ (i / k) % 2 ^ k < 2 ^ (i % k) := by
  have hdm : i = k * (i / k) + i % k := (Nat.div_add_mod i k).symm
  have hlt : i % k < k := Nat.mod_lt _ hk
  have hq : u / (2 ^ k) ^ (i / k) < 2 ^ (i % k) := by
    apply Nat.div_lt_of_lt_mul
    rw [← Nat.pow_mul, ← Nat.pow_add, ← hdm]; exact hu
  have hq2 : u / (2 ^ k) ^ (i / k) % 2 ^ k = u / (2 ^ k) ^ (i / k) := Nat.mod_eq_of_lt (Nat.lt_of_lt_of_le hq (Nat.pow_le_pow_right (by omega) (by omega)))
  refine ⟨?_, by rw [hq2]; exact hq⟩
  apply (dig_ext (by simp [dig_length]) fun j hj => ?_).symm
  rw [List.getElem?_set, dig_length]
  rcases Nat.lt_trichotomy j (i / k) with h | h | h
  · rw [if_neg (by omega), dig_get n u j hj]
    congr 1
    have e : b * 2 ^ i = (2 ^ k) ^ j * (2 ^ k * (b * 2 ^ (i - k * j - k))) := by
      have hk2 : k * j + k ≤ k * (i / k) := by
        have := Nat.mul_le_mul_left k (show j + 1 ≤ i / k by omega)
        rw [Nat.mul_add, Nat.mul_one] at this; exact this
      have : 2 ^ i = (2 ^ k) ^ j * (2 ^ k * 2 ^ (i - k * j - k)) := by
        rw [← Nat.pow_mul, ← Nat.pow_add, ← Nat.pow_add]; congr 1; omega
      rw [this]
      rw [Nat.mul_left_comm, Nat.mul_left_comm b]
    rw [e, Nat.add_mul_div_left _ _ (Nat.pow_pos (Nat.pow_pos (by omega))), Nat.add_mul_mod_self_left]
  · subst h
    rw [if_pos rfl, if_pos hj]
    congr 1
    have e : b * 2 ^ i = (2 ^ k) ^ (i / k) * (b * 2 ^ (i % k)) := by
      have : 2 ^ i = (2 ^ k) ^ (i / k) * 2 ^ (i % k) := by rw [← Nat.pow_mul, ← Nat.pow_add, ← hdm]
      rw [this, Nat.mul_left_comm]
    have hL : (u + b * 2 ^ i) / (2 ^ k) ^ (i / k) = u / (2 ^ k) ^ (i / k) + b * 2 ^ (i % k) := by
      rw [e, Nat.add_mul_div_left _ _ (Nat.pow_pos (Nat.pow_pos (by omega)))]
    have h1 : b * 2 ^ (i % k) ≤ 1 * 2 ^ (i % k) := Nat.mul_le_mul_right _ hb
    have h2 : 2 ^ (i % k + 1) ≤ 2 ^ k := Nat.pow_le_pow_right (by omega) (by omega)
    rw [Nat.pow_succ] at h2
    have hm : (u / (2 ^ k) ^ (i / k) + b * 2 ^ (i % k)) % 2 ^ k = u / (2 ^ k) ^ (i / k) + b * 2 ^ (i % k) := Nat.mod_eq_of_lt (by omega)
    rw [hL, hq2, hm]
  · rw [if_neg (by omega), dig_get n u j hj]
    congr 1
    have hup : ∀ w, w < 2 ^ (i + 1) → w / (2 ^ k) ^ j = 0 := fun w hw => Nat.div_eq_of_lt (Nat.lt_of_lt_of_le hw (by
      rw [← Nat.pow_mul]
      apply Nat.pow_le_pow_right (by omega)
      have := Nat.mul_le_mul_left k (show i / k + 1 ≤ j by omega)
      rw [Nat.mul_add, Nat.mul_one] at this
      omega))
    have h1 : b * 2 ^ i ≤ 1 * 2 ^ i := Nat.mul_le_mul_right _ hb
    have h2 : 2 ^ (i + 1) = 2 ^ i * 2 := Nat.pow_succ 2 i
    rw [hup u (by omega), hup (u + b * 2 ^ i) (by omega)]

theorem mod_bit (v i : Nat) : v % 2 ^ (i + 1) = v % 2 ^ i + (v / 2 ^ i % 2) * 2 ^ i := by
  rw [Nat.pow_succ, Nat.mod_mul, Nat.mul_comm (2 ^ i)]

/-- A bit put behind others. -/
theorem ior_put (k : IntKind) (hs : k.signed = false) (x b s : Nat) (hx : x < 2 ^ s) (hb : b ≤ 1) (hsb : s < k.bits) : ior k (x : Int) ((b * 2 ^ s : Nat) : Int) = ((x + b * 2 ^ s : Nat) : Int) := by
  have hp : 2 ^ (s + 1) ≤ 2 ^ k.bits := Nat.pow_le_pow_right (by omega) hsb
  rw [Nat.pow_succ] at hp
  have h1 : b * 2 ^ s ≤ 1 * 2 ^ s := Nat.mul_le_mul_right _ hb
  have e1 : (x : Int) = un (BitVec.ofNat k.bits x) := by unfold un; rw [BitVec.toNat_ofNat, Nat.mod_eq_of_lt (by omega)]
  have e2 : ((b * 2 ^ s : Nat) : Int) = un (BitVec.ofNat k.bits (b * 2 ^ s)) := by unfold un; rw [BitVec.toNat_ofNat, Nat.mod_eq_of_lt (by omega)]
  rw [e1, e2, ior_un hs]
  unfold un
  rw [BitVec.toNat_or, BitVec.toNat_ofNat, BitVec.toNat_ofNat, Nat.mod_eq_of_lt (show x < 2 ^ k.bits by omega), Nat.mod_eq_of_lt (show b * 2 ^ s < 2 ^ k.bits by omega)]
  have h := Nat.two_pow_add_eq_or_of_lt hx b
  rw [Nat.or_comm, Nat.mul_comm b, ← h, Nat.add_comm]

theorem ishl_bit (k : IntKind) (hs : k.signed = false) (b s : Nat) (hb : b ≤ 1) (hsb : s < k.bits) : ishl k (b : Int) (s : Int) = ((b * 2 ^ s : Nat) : Int) := by
  have hp : 2 ^ (s + 1) ≤ 2 ^ k.bits := Nat.pow_le_pow_right (by omega) hsb
  rw [Nat.pow_succ] at hp
  have h1 : b * 2 ^ s ≤ 1 * 2 ^ s := Nat.mul_le_mul_right _ hb
  unfold ishl
  rw [Int.toNat_natCast, Nat.min_eq_left (by omega)]
  have e : (b : Int) * 2 ^ s = ((b * 2 ^ s : Nat) : Int) := by simp
  have h2 : 0 < 2 ^ s := Nat.pow_pos (by omega)
  rw [e, wrap_u hs]
  unfold un
  rw [BitVec.toNat_ofInt]
  have h3 : ((b * 2 ^ s : Nat) : Int) % (2 : Int) ^ k.bits = ((b * 2 ^ s : Nat) : Int) := by
    apply Int.emod_eq_of_lt (Int.natCast_nonneg _)
    have h4 : b * 2 ^ s < 2 ^ k.bits := by omega
    have := Int.ofNat_lt.2 h4
    simpa using this
  have h5 : ((2 ^ k.bits : Nat) : Int) = (2 : Int) ^ k.bits := by simp
  rw [h5, h3, Int.toNat_natCast]
end Go.Dg
namespace Go.Dg
open Go Go.Ev
theorem app_set' (pre : List Nat) (r : Nat) (rest : List Nat) {i : Int} (hi : i = pre.length) (v : Nat) : (nn (pre ++ r :: rest)).set i.toNat (v : Int) = nn (pre ++ v :: rest) := by
  rw [app_set pre r rest hi v]; simp
theorem tdivN (a b : Nat) : (a : Int).tdiv (b : Int) = ((a / b : Nat) : Int) := by
  rw [Int.tdiv_eq_ediv_of_nonneg (Int.natCast_nonneg _)]; rfl
theorem tmodN (a b : Nat) : (a : Int).tmod (b : Int) = ((a % b : Nat) : Int) := by
  rw [Int.tmod_eq_emod_of_nonneg (Int.natCast_nonneg _)]; rfl
end Go.Dg
namespace Go.Dg
open Go Go.Ev
theorem dig_low (B n w c : Nat) : dig B n (w % (B ^ n * c)) = dig B n w := by
  rw [← dig_mod n (w % (B ^ n * c)), Nat.mod_mul_right_mod, dig_mod]

/-- Digits whose last one is cut. -/
theorem dig_top (B n w c : Nat) (_hB : 0 < B) (hc : 0 < c) (hcB : c ≤ B) : dig B n w ++ [w / B ^ n % c] = dig B (n + 1) (w % (B ^ n * c)) := by
  rw [dig_snoc, dig_low, Nat.mod_mul_right_div_self]
  congr 2
  exact (Nat.mod_eq_of_lt (Nat.lt_of_lt_of_le (Nat.mod_lt _ hc) hcB)).symm

theorem iand_one64 (a : Nat) (ha : a < 18446744073709551616) : iand .u64 (a : Int) 1 = ((a % 2 : Nat) : Int) := iand_mask a 1 ha (by omega)

theorem sub_bit26 (v i : Nat) : v / 67108864 ^ (i / 26) % 67108864 / 2 ^ (i % 26) % 2 = v / 2 ^ i % 2 := by
  have h := sub_digit v (i / 26) (i % 26) 2 26 (Nat.mod_lt _ (by decide))
  rw [show (2 : Nat) ^ 26 = 67108864 from rfl] at h
  rw [h, Nat.div_add_mod]
end Go.Dg
namespace Go.Dg
open Go Go.Ev

/-- One more small digit. -/
theorem dig_put (c k n u i b : Nat) (hc : 1 < c) (hk : 0 < k) (hu : u < c ^ i) (hb : b < c) :
    dig (c ^ k) n (u + b * c ^ i) = (dig (c ^ k) n u).set (i / k) (u / (c ^ k) ^ (i / k) % c ^ k + b * c ^ (i % k)) ∧ u / (c ^ k) ^ (i / k) % c ^ k < c ^ (i % k) := by
  have hc0 : 0 < c := by omega
  have hdm : i = k * (i / k) + i % k := (Nat.div_add_mod i k).symm
  have hlt : i % k < k := Nat.mod_lt _ hk
  have hq : u / (c ^ k) ^ (i / k) < c ^ (i % k) := by
    apply Nat.div_lt_of_lt_mul
    rw [← Nat.pow_mul, ← Nat.pow_add, ← hdm]; exact hu
  have hq2 : u / (c ^ k) ^ (i / k) % c ^ k = u / (c ^ k) ^ (i / k) := Nat.mod_eq_of_lt (Nat.lt_of_lt_of_le hq (Nat.pow_le_pow_right hc0 (by omega)))
  refine ⟨?_, by rw [hq2]; exact hq⟩
  apply (dig_ext (by simp [dig_length]) fun j hj => ?_).symm
  rw [List.getElem?_set, dig_length]
  rcases Nat.lt_trichotomy j (i / k) with h | h | h
  · rw [if_neg (by omega), dig_get n u j hj]
    congr 1
    have e : b * c ^ i = (c ^ k) ^ j * (c ^ k * (b * c ^ (i - k * j - k))) := by
      have hk2 : k * j + k ≤ k * (i / k) := by
        have := Nat.mul_le_mul_left k (show j + 1 ≤ i / k by omega)
        rw [Nat.mul_add, Nat.mul_one] at this; exact this
      have : c ^ i = (c ^ k) ^ j * (c ^ k * c ^ (i - k * j - k)) := by
        rw [← Nat.pow_mul, ← Nat.pow_add, ← Nat.pow_add]; congr 1; omega
      rw [this]
      rw [Nat.mul_left_comm, Nat.mul_left_comm b]
    rw [e, Nat.add_mul_div_left _ _ (Nat.pow_pos (Nat.pow_pos hc0)), Nat.add_mul_mod_self_left]
  · subst h
    rw [if_pos rfl, if_pos hj]
    congr 1
    have e : b * c ^ i = (c ^ k) ^ (i / k) * (b * c ^ (i % k)) := by
      have : c ^ i = (c ^ k) ^ (i / k) * c ^ (i % k) := by rw [← Nat.pow_mul, ← Nat.pow_add, ← hdm]
      rw [this, Nat.mul_left_comm]
    have hL : (u + b * c ^ i) / (c ^ k) ^ (i / k) = u / (c ^ k) ^ (i / k) + b * c ^ (i % k) := by
      rw [e, Nat.add_mul_div_left _ _ (Nat.pow_pos (Nat.pow_pos hc0))]
    have h1 : (b + 1) * c ^ (i % k) ≤ c * c ^ (i % k) := Nat.mul_le_mul_right _ hb
    have h2 : c ^ (i % k + 1) ≤ c ^ k := Nat.pow_le_pow_right hc0 (by omega)
    rw [Nat.pow_succ, Nat.mul_comm] at h2
    rw [Nat.add_mul, Nat.one_mul] at h1
    have hm : (u / (c ^ k) ^ (i / k) + b * c ^ (i % k)) % c ^ k = u / (c ^ k) ^ (i / k) + b * c ^ (i % k) := Nat.mod_eq_of_lt (by omega)
    rw [hL, hq2, hm]
  · rw [if_neg (by omega), dig_get n u j hj]
    congr 1
    have hup : ∀ w, w < c ^ (i + 1) → w / (c ^ k) ^ j = 0 := fun w hw => Nat.div_eq_of_lt (Nat.lt_of_lt_of_le hw (by
      rw [← Nat.pow_mul]
      apply Nat.pow_le_pow_right hc0
      have := Nat.mul_le_mul_left k (show i / k + 1 ≤ j by omega)
      rw [Nat.mul_add, Nat.mul_one] at this
      omega))
    have h1 : (b + 1) * c ^ i ≤ c * c ^ i := Nat.mul_le_mul_right _ hb
    rw [Nat.add_mul, Nat.one_mul] at h1
    have h2 : c ^ (i + 1) = c * c ^ i := by rw [Nat.pow_succ, Nat.mul_comm]
    rw [hup u (by omega), hup (u + b * c ^ i) (by omega)]

theorem mod_put (v i c : Nat) : v % c ^ (i + 1) = v % c ^ i + (v / c ^ i % c) * c ^ i := by
  rw [Nat.pow_succ, Nat.mod_mul, Nat.mul_comm (c ^ i)]

/-- Rows that are compared from above. -/
theorem lt_step (a b W i : Nat) (h : a / W ^ (i + 1) = b / W ^ (i + 1)) : a / W ^ i % W = b / W ^ i % W → a / W ^ i = b / W ^ i := by
  intro h2
  rw [Nat.pow_succ, ← Nat.div_div_eq_div_mul, ← Nat.div_div_eq_div_mul] at h
  rw [← Nat.div_add_mod (a / W ^ i) W, ← Nat.div_add_mod (b / W ^ i) W, h, h2]

theorem lt_digit (a b W i : Nat) (_hW : 0 < W) (h : a / W ^ (i + 1) = b / W ^ (i + 1)) (hne : a / W ^ i % W ≠ b / W ^ i % W) : a / W ^ i % W < b / W ^ i % W ↔ a < b := by
  rw [Nat.pow_succ, ← Nat.div_div_eq_div_mul, ← Nat.div_div_eq_div_mul] at h
  have ha := Nat.div_add_mod (a / W ^ i) W
  have hb := Nat.div_add_mod (b / W ^ i) W
  rw [h] at ha
  have key : ∀ x y : Nat, x / W ^ i < y / W ^ i → x < y := fun x y hxy => by
    rcases Nat.lt_or_ge x y with g | g
    · exact g
    · have := Nat.div_le_div_right (c := W ^ i) g; omega
  constructor
  · intro g; exact key a b (by omega)
  · intro g
    rcases Nat.lt_trichotomy (a / W ^ i % W) (b / W ^ i % W) with q | q | q
    · exact q
    · exact absurd q hne
    · have := key b a (by omega); omega
end Go.Dg
namespace Go.Dg
open Go Go.Ev
theorem dparts {B : Nat} (hB : 0 < B) (i n d P q : Nat) (h : P + B ^ i * q < B ^ (i + n + 1)) :
    dig B i P ++ dig B n (P / B ^ i + q) ++ [(P / B ^ i + q) / B ^ n % B] ++ List.replicate d 0 = dig B (i + (n + (1 + d))) (P + B ^ i * q) := by
  rw [dig_append, dig_append, dig_append, Nat.add_mul_div_left _ _ (Nat.pow_pos hB)]
  have e4 : dig B i (P + B ^ i * q) = dig B i P := by rw [← dig_mod i (P + _), Nat.add_mul_mod_self_left, dig_mod]
  have e5 : (P / B ^ i + q) / B ^ n / B ^ 1 = 0 := by
    rw [← Nat.add_mul_div_left _ _ (Nat.pow_pos hB), Nat.div_div_eq_div_mul, Nat.div_div_eq_div_mul, ← Nat.pow_add, ← Nat.pow_add]
    exact Nat.div_eq_of_lt h
  rw [e4, e5, dig_zero, show dig B 1 ((P / B ^ i + q) / B ^ n) = [(P / B ^ i + q) / B ^ n % B] from rfl]
  simp only [List.append_assoc]
end Go.Dg
