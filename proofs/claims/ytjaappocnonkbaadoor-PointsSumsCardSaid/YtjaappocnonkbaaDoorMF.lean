/- The field of the numbers modulo p; the references at numbers that are given. -/
import Derived.Test.YtjaappocnonkbaaDoorMFieldG
namespace Go.Proofs.YtjaappocnonkbaaDoor.fn
open Go Go.Proofs Go.Ev Go.Dg

/-! ### the field -/

instance nzPP : NeZero PP := ⟨Nat.pos_iff_ne_zero.1 PP_pos⟩
/-- The numbers modulo p. -/
abbrev F := Fin PP
noncomputable instance : Lean.Grind.CommRing F := inferInstance
def φ (x : Nat) : F := ⟨x % PP, Nat.mod_lt _ PP_pos⟩

theorem φ_iff {x y : Nat} : φ x = φ y ↔ x % PP = y % PP := by simp [φ]
theorem φ_zero_iff {x : Nat} : x % PP = 0 ↔ φ x = φ 0 := by rw [φ_iff, Nat.zero_mod]
theorem φ_mod (x : Nat) : φ (x % PP) = φ x := φ_iff.2 (Nat.mod_mod _ _)
theorem φ_add (x y : Nat) : φ (x + y) = φ x + φ y := Fin.ext (Nat.add_mod x y PP)
theorem φ_mul (x y : Nat) : φ (x * y) = φ x * φ y := Fin.ext (Nat.mul_mod x y PP)
theorem φ_sub (x y : Nat) : φ (x + (PP - y % PP)) = φ x - φ y := by
  apply Fin.ext
  show (x + (PP - y % PP)) % PP = (PP - y % PP + x % PP) % PP
  rw [Nat.add_mod_mod, Nat.add_comm]
theorem φ_zero : φ 0 = 0 := rfl
theorem φ_one : φ 1 = 1 := rfl
theorem φ_addE (x y : Nat) : φ (addE x y) = φ x + φ y := by rw [φ_iff.2 (addE_mod x y), φ_add]
theorem φ_mulE (x y : Nat) : φ (mulE x y) = φ x * φ y := by rw [φ_iff.2 (mulE_mod x y), φ_mul]
theorem φ_subE {x y : Nat} (h : y < 1852673427797059126777135760139006525652319754650249024631321344126610074238976) : φ (subE x y) = φ x - φ y := by rw [φ_iff.2 (subE_mod h), φ_sub]

section ring
variable {α : Type} [Lean.Grind.CommRing α]
theorem up_zero (u x : α) : u = u + 0 * x := by grind
theorem up_ring (u b c n : α) : u + b - c + n * (b - c) = u + (n + 1) * (b - c) := by grind
theorem down_ring (u b c n : α) : u - b + c + n * (c - b) = u + (n + 1) * (c - b) := by grind
theorem back_ring (u b c n : α) : u + n * (b - c) + n * (c - b) = u := by grind
theorem dist_ring (a b c : α) : (a + b) * c = c * b + a * c := by grind
theorem neg_ring (a b : α) : a - b = 0 - (b - a) := by grind
theorem comm_ring (a b : α) : a * b = b * a := by grind
end ring
theorem natF_zero : φ 0 = 0 := rfl
theorem natF_succ (d : Nat) : φ (d + 1) = φ d + 1 := φ_add d 1

theorem mulF_comm (x y : F) : x * y = y * x := comm_ring x y

theorem addneg_ring {α : Type} [Lean.Grind.CommRing α] (x y : α) : x + (0 - y) = x - y := by grind
theorem φ_neg (y : Nat) : φ (PP - y % PP) = 0 - φ y := by
  have h := φ_sub 0 y
  rwa [Nat.zero_add] at h
theorem addneg (x y : F) : x + (0 - y) = x - y := addneg_ring x y

theorem rt_mod (x : Nat) : Fp.rt (x % PP) = Fp.rt x := by
  have h : ∀ e, (x % PP) ^ e % PP = x ^ e % PP := fun e => (Nat.pow_mod x e PP).symm
  have h2 : ∀ e, (x % PP) ^ e * (x % PP) ^ e % PP = x ^ e * x ^ e % PP := fun e => by rw [Nat.mul_mod, h, ← Nat.mul_mod]
  have h3 : ∀ e z, (x % PP) ^ e * z % PP = x ^ e * z % PP := fun e z => by rw [Nat.mul_mod, h, ← Nat.mul_mod]
  obtain ⟨_, e8, _, _, _, hrt⟩ := the_eighth
  rw [hrt, hrt, h2, h3, h, Nat.mod_mod]
theorem even_lt (x : Nat) : Fp.even (Fp.rt x) < M256 := by
  have h1 := (Fp.even_ok _ (Fp.rt_lt x)).1
  have h2 : Fp.PP < M256 := PP_M.1
  omega

theorem T_Q (B : Nat) : B % 57896044618658097711785492504343953926634992332820282019728792003956564819968 < 1852673427797059126777135760139006525652319754650249024631321344126610074238976 := Nat.lt_trans (Nat.mod_lt _ (by decide)) (by decide)

/-! ### at numbers that are given -/

theorem PP_odd : PP % 2 = 1 := by decide +kernel

/-- The even root of what is an even number's square. -/
theorem even_rt (x a : Nat) (hx : x < PP) (h2 : x % 2 = 0) (h : x * x % PP = a % PP) : Fp.isSq a ∧ Fp.even (Fp.rt a) = x := by
  have hs : Fp.isSq a := by
    have h1 := Fp.sq_isSq x
    rw [← Fp.isSq_mod] at h1 ⊢
    rwa [show a % Fp.PP = x * x % Fp.PP from h.symm]
  refine ⟨hs, ?_⟩
  have hr := Fp.rt_lt a
  have hr' : Fp.rt a < PP := hr
  have h3 : Fp.rt a * Fp.rt a % PP = x * x % PP := ((Fp.rt_ok a).2 hs).trans h.symm
  have hp := PP_odd
  rcases Fp.same_sq _ _ h3 with h4 | h4
  · have h5 : Fp.rt a = x := by
      have e1 : Fp.rt a % PP = x % PP := h4
      rwa [Nat.mod_eq_of_lt hr', Nat.mod_eq_of_lt hx] at e1
    unfold Fp.even
    rw [h5, if_neg (by omega)]
  · have h5 : (Fp.rt a + x) % PP = 0 := h4
    have h6 : Fp.rt a + x = 0 ∨ Fp.rt a + x = PP := by
      by_cases hc : Fp.rt a + x < PP
      · rw [Nat.mod_eq_of_lt hc] at h5; exact .inl h5
      · rw [Nat.mod_eq_sub_mod (by omega), Nat.mod_eq_of_lt (by omega)] at h5; omega
    unfold Fp.even
    rw [← PP_eq]
    split <;> omega

theorem inv_at (v w : Nat) (h : v * w % PP = 1) (hw : w < PP) : v ^ (PP - 2) % PP = w := by
  have hv : v % Fp.PP ≠ 0 := by
    intro h0
    have h0' : v % PP = 0 := h0
    rw [Nat.mul_mod, h0', Nat.zero_mul, Nat.zero_mod] at h
    omega
  have h1 : v * v ^ (PP - 2) % PP = 1 := Fp.inv v hv
  generalize v ^ (PP - 2) = u at *
  have h2 : u % PP = u * (v * w) % PP := by
    rw [Nat.mul_mod, h, Nat.mul_one, Nat.mod_mod]
  have h3 : u * (v * w) = v * u * w := by rw [← Nat.mul_assoc, Nat.mul_comm u v]
  rw [h2, h3, Nat.mul_mod, h1, Nat.one_mul, Nat.mod_mod, Nat.mod_eq_of_lt hw]

theorem rInvert_at {R : Type} (N : Nat) (hN : 1000 < N) (v w : Nat) (hv : v < M256) (h : v * w % PP = 1) (hw : w < PP) (r : List Int → Option R) : rInvert.M N R (U v) r = r (U w) := by
  rw [rInvert_eq N hN v hv, inv_at v w h hw]
theorem rTimes_at {R : Type} (N : Nat) (hN : 100 < N) (a b c : Nat) (ha : a < M256) (hb : b < M256) (h : a * b % PP = c) (r : List Int → Option R) : rTimes.M N R (U a) (U b) r = r (U c) := by
  rw [rTimes_eq N hN a b ha hb, h]
theorem rAdd_at {R : Type} (N : Nat) (hN : 100 < N) (a b c : Nat) (ha : a < M256) (hb : b < M256) (h : (a + b) % PP = c) (r : List Int → Option R) : rAdd.M N R (U a) (U b) r = r (U c) := by
  rw [rAdd_eq N hN a b ha hb, h]
theorem rSub_at {R : Type} (N : Nat) (hN : 100 < N) (a b c : Nat) (ha : a < M256) (hb : b < M256) (h : (a + (PP - b % PP)) % PP = c) (r : List Int → Option R) : rSub.M N R (U a) (U b) r = r (U c) := by
  rw [rSub_eq N hN a b ha hb, h]
theorem rRoot_at {R : Type} (N : Nat) (hN : 1000 < N) (a x : Nat) (ha : a < M256) (hx : x < PP) (h2 : x % 2 = 0) (h : x * x % PP = a % PP) (r : List Int → Bool → Option R) : rRoot.M N R (U a) r = r (U x) true := by
  obtain ⟨h3, h4⟩ := even_rt x a hx h2 h
  rw [rRoot_eq N hN a ha, if_pos h3, h4]

end Go.Proofs.YtjaappocnonkbaaDoor.fn
