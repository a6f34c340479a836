/- The base point and its order; the ladder goes along its multiples. -/
import Derived.Test.YtjaappocnonkbaaDoorEd2
namespace Go.Proofs.YtjaappocnonkbaaDoor.fn
open Go Go.Proofs Go.Ev Go.Dg

def BX : Nat := 15112221349535400772501151409588531511454012693041857206046113283949847762202
def BY : Nat := 46316835694926478169428394003475163141307993866256225615783033603165251855960
def LL : Nat := 7237005577332262213973186563042994240857116359379907606001950938285454250989
def baseP : F × F := (φ BX, φ BY)

theorem LL_prime : Prm.Pr LL := Prm.p7237005577332262213973186563042994240857116359379907606001950938285454250989

theorem base_on : On baseP := by
  have h : (BY * BY + (PP - BX * BX % PP)) % PP = (1 + DD * (BX * BX) * (BY * BY)) % PP := by decide +kernel
  have h2 := φ_iff.2 h
  rw [φ_sub, φ_add, φ_mul, φ_mul, φ_mul, φ_mul, φ_mul] at h2
  exact h2

/-! ### its order -/

def sN (x y u v : Nat) : Nat := DD * ((x * u % PP) * (y * v % PP) % PP) % PP
def zN (z w : Nat) : Nat := (z * w % PP) * (z * w % PP) % PP
def lN (x y z u v w : Nat) : Nat := (zN z w + (PP - sN x y u v % PP)) % PP
def mN (x y z u v w : Nat) : Nat := (zN z w + sN x y u v) % PP
def xN (x y z u v w : Nat) : Nat := z * w % PP * ((x * v + u * y) % PP) % PP * lN x y z u v w % PP
def yN (x y z u v w : Nat) : Nat := z * w % PP * ((y * v + x * u) % PP) % PP * mN x y z u v w % PP
def tN (x y z u v w : Nat) : Nat := mN x y z u v w * lN x y z u v w % PP

theorem Rep3.sumN {p q : F × F} {x y z u v w : Nat} (hp : On p) (hq : On q) (h : Rep3 p (φ x) (φ y) (φ z)) (k : Rep3 q (φ u) (φ v) (φ w)) :
    Rep3 (addP p q) (φ (xN x y z u v w)) (φ (yN x y z u v w)) (φ (tN x y z u v w)) := by
  have g := Rep3.sum hp hq h k
  have e1 : φ (xN x y z u v w) = sumX (φ x) (φ y) (φ z) (φ u) (φ v) (φ w) := by
    simp only [xN, lN, zN, sN, sumX, φ_mod, φ_mul, φ_add, φ_neg, addneg]; rfl
  have e2 : φ (yN x y z u v w) = sumY (φ x) (φ y) (φ z) (φ u) (φ v) (φ w) := by
    simp only [yN, mN, zN, sN, sumY, φ_mod, φ_mul, φ_add]; rfl
  have e3 : φ (tN x y z u v w) = sumZ (φ x) (φ y) (φ z) (φ u) (φ v) (φ w) := by
    simp only [tN, lN, mN, zN, sN, sumZ, φ_mod, φ_mul, φ_add, φ_neg, addneg]; rfl
  rw [e1, e2, e3]
  exact g

/-- Bit by bit: whether so many times the base point is nought. -/
def runN (L : Nat) : Nat → Nat → Nat → Nat → Bool
  | 0, x, y, z => Nat.beq (x % PP) 0 && Nat.beq (y % PP) (z % PP)
  | n + 1, x, y, z => cond (Nat.beq (L / 2 ^ n % 2) 1)
      (runN L n (xN (xN x y z x y z) (yN x y z x y z) (tN x y z x y z) BX BY 1) (yN (xN x y z x y z) (yN x y z x y z) (tN x y z x y z) BX BY 1) (tN (xN x y z x y z) (yN x y z x y z) (tN x y z x y z) BX BY 1))
      (runN L n (xN x y z x y z) (yN x y z x y z) (tN x y z x y z))

section ring
variable {α : Type} [Lean.Grind.CommRing α]
theorem one_rep_ring (a : α) : a = a * 1 := by grind
end ring

theorem base_rep : Rep3 baseP (φ BX) (φ BY) (φ 1) := ⟨one_ne, one_rep_ring _, one_rep_ring _⟩
theorem zero_rep : Rep3 zeroP (φ 0) (φ 1) (φ 1) := ⟨one_ne, (zero_mul_ring _).symm, one_rep_ring _⟩

theorem rep_zero {p : F × F} {x y z : F} (h : Rep3 p x y z) (hx : x = 0) (hy : y = z) : p = zeroP := by
  obtain ⟨hz, h1, h2⟩ := h
  refine Prod.ext ?_ ?_
  · exact (no_div (h1.symm.trans hx)).resolve_right hz
  · refine cancel hz ?_
    rw [← h2, hy]
    exact (one_rep_ring z).trans (comm_ring _ _)

theorem run_ok (L : Nat) : ∀ (n k x y z : Nat), Rep3 (mulP k baseP) (φ x) (φ y) (φ z) → runN L n x y z = true → mulP (k * 2 ^ n + L % 2 ^ n) baseP = zeroP := by
  intro n
  induction n with
  | zero =>
    intro k x y z h hr
    simp only [runN, Bool.and_eq_true] at hr
    rw [Nat.pow_zero, Nat.mod_one, Nat.mul_one, Nat.add_zero]
    exact rep_zero h (φ_zero_iff.1 (Nat.eq_of_beq_eq_true hr.1)) (φ_iff.2 (Nat.eq_of_beq_eq_true hr.2))
  | succ n ih =>
    intro k x y z h hr
    have hk := base_on.mul k
    have h2 := Rep3.sumN hk hk h h
    rw [← mulP_add base_on] at h2
    have hL : L % 2 ^ (n + 1) = L / 2 ^ n % 2 * 2 ^ n + L % 2 ^ n := by
      rw [Nat.pow_succ, Nat.mod_mul, Nat.mul_comm, Nat.add_comm]
    unfold runN at hr
    cases hb : Nat.beq (L / 2 ^ n % 2) 1 with
    | true =>
      rw [hb, cond_true] at hr
      have h3 := Rep3.sumN (base_on.mul _) base_on h2 base_rep
      have h4 := ih (k + k + 1) _ _ _ h3 hr
      rw [hL, Nat.eq_of_beq_eq_true hb, ← h4]
      congr 1
      rw [Nat.pow_succ, Nat.add_mul, ← Nat.two_mul, ← Nat.add_assoc, Nat.mul_comm (2 ^ n) 2, ← Nat.mul_assoc, Nat.mul_comm k 2]
    | false =>
      rw [hb, cond_false] at hr
      have h4 := ih (k + k) _ _ _ h2 hr
      have hb0 : L / 2 ^ n % 2 = 0 := by
        have h5 : L / 2 ^ n % 2 ≠ 1 := by
          intro h6
          rw [h6] at hb
          cases hb
        omega
      rw [hL, hb0, ← h4]
      congr 1
      rw [Nat.pow_succ, ← Nat.two_mul, Nat.zero_mul, Nat.zero_add, Nat.mul_comm (2 ^ n) 2, ← Nat.mul_assoc, Nat.mul_comm k 2]

theorem run_base : runN LL 253 0 1 1 = true := by kernel_rfl

theorem base_order : mulP LL baseP = zeroP := by
  have h := run_ok LL 253 0 0 1 1 zero_rep run_base
  have e : 0 * 2 ^ 253 + LL % 2 ^ 253 = LL := by decide +kernel
  rwa [e] at h

theorem base_ne : baseP ≠ zeroP := by
  intro h
  have h1 : BX % PP = 0 := φ_zero_iff.2 (congrArg Prod.fst h)
  revert h1
  decide +kernel

/-- A multiple of the base point that is nought is a multiple by the order. -/
theorem base_mul_zero {n : Nat} (h : mulP n baseP = zeroP) : LL ∣ n := by
  have h1 := mulP_gcd base_on LL n base_order h
  rcases LL_prime.2 (Nat.gcd LL n) (Nat.gcd_dvd_left _ _) with h2 | h2
  · rw [h2, mulP_one] at h1
    exact absurd h1 base_ne
  · rw [← h2]
    exact Nat.gcd_dvd_right _ _

end Go.Proofs.YtjaappocnonkbaaDoor.fn
