/- Both ways of the ladder come to the same. -/
import Derived.Test.YtganankiiipkgaaDoorEd4
namespace Go.Proofs.YtganankiiipkgaaDoor.fn
open Go Go.Proofs Go.Ev Go.Dg

/-! ### points of the base point's order -/

/-- A point of the base point's order. -/
structure Ord (t : F × F) : Prop where
  on : On t
  mul : mulP LL t = zeroP
  ne : t ≠ zeroP

theorem Ord.dvd {t : F × F} (h : Ord t) {n : Nat} (h0 : mulP n t = zeroP) : LL ∣ n := by
  have h1 := mulP_gcd h.on LL n h.mul h0
  rcases LL_prime.2 (Nat.gcd LL n) (Nat.gcd_dvd_left _ _) with h2 | h2
  · rw [h2, mulP_one] at h1
    exact absurd h1 h.ne
  · rw [← h2]
    exact Nat.gcd_dvd_right _ _

theorem Ord.of_dvd {t : F × F} (h : Ord t) {n : Nat} (h0 : LL ∣ n) : mulP n t = zeroP := by
  obtain ⟨c, rfl⟩ := h0
  rw [Nat.mul_comm, mulP_times h.on h.mul]

theorem base_ord : Ord baseP := ⟨base_on, base_order, base_ne⟩

theorem Ord.mulP {t : F × F} (h : Ord t) {n : Nat} (hn : ¬ LL ∣ n) : Ord (mulP n t) := by
  refine ⟨h.on.mul n, ?_, fun h0 => hn (h.dvd h0)⟩
  rw [← mulP_mul h.on]
  exact h.of_dvd ⟨n, rfl⟩

section ring
variable {α : Type} [Lean.Grind.CommRing α]
theorem x_zero_ring (d x y : α) (h : y * y - x * x = 1 + d * (x * x) * (y * y)) (hy : y * y = 1) : x * x * (1 + d) = 0 := by grind
theorem four_ring (d x i : α) (h : (0 : α) * 0 - x * x = 1 + d * (x * x) * (0 * 0)) (hi : (1 - d * x * x * 0 * 0) * i = 1) : (0 * 0 + x * x) * i = 0 - 1 := by grind
theorem four2_ring (x i : α) : (x * 0 + x * 0) * i = 0 := by grind
theorem two_ring (d i : α) (hi : (1 - d * 0 * 0 * (0 - 1) * (0 - 1)) * i = 1) : ((0 - 1) * (0 - 1) + 0 * 0) * i = 1 ∧ (0 * (0 - 1) + 0 * (0 - 1)) * (1 : α) = 0 := by constructor <;> grind
theorem zz_ring (a i : α) : (0 * a + 0 * a) * i = 0 := by grind
theorem one_of_ring (y : α) (h : 1 - y = 0) : y * y = 1 := by grind
theorem eq_one_ring (y : α) (h : 1 - y = 0) : y = 1 := by grind
theorem on_two_ring (d : α) : (0 - 1 : α) * (0 - 1) - 0 * 0 = 1 + d * (0 * 0) * ((0 - 1) * (0 - 1)) := by grind
end ring

theorem x_zero {t : F × F} (h : On t) (hy : t.2 * t.2 = 1) : t.1 = 0 := by
  have h1 := (no_div (x_zero_ring dd t.1 t.2 h hy)).resolve_right dd_one_ne
  exact (no_div h1).elim id id

theorem two_point : addP (0, 0 - 1) (0, 0 - 1) = zeroP := by
  have ho : On ((0, 0 - 1) : F × F) := on_two_ring dd
  obtain ⟨_, h2⟩ := complete ho ho
  exact Prod.ext (zz_ring _ _) (two_ring dd _ (mul_iv h2)).1

theorem four_point {t : F × F} (h : On t) (hy : t.2 = 0) : mulP 4 t = zeroP := by
  have h2 : addP t t = (0, 0 - 1) := by
    obtain ⟨_, h3⟩ := complete h h
    obtain ⟨x, y⟩ := t
    simp only at hy
    subst hy
    exact Prod.ext (four2_ring _ _) (four_ring dd x _ h (mul_iv h3))
  have h4 : mulP 2 t = addP t t := by
    show addP (mulP 1 t) t = _
    rw [mulP_one]
  rw [show (4 : Nat) = 2 + 2 from rfl, mulP_add h, h4, h2, two_point]

theorem LL_cop (n : Nat) (hn : ¬ LL ∣ n) : Nat.Coprime LL n := by
  rcases LL_prime.2 (Nat.gcd LL n) (Nat.gcd_dvd_left _ _) with h2 | h2
  · exact h2
  · exact absurd (h2 ▸ Nat.gcd_dvd_right LL n) hn

theorem LL_mul {m n : Nat} (h : LL ∣ m * n) : LL ∣ m ∨ LL ∣ n := by
  by_cases hm : LL ∣ m
  · exact .inl hm
  · exact .inr ((LL_cop m hm).dvd_of_dvd_mul_left h)

theorem LL_small {n : Nat} (h0 : 0 < n) (h : n < LL) : ¬ LL ∣ n := fun hd => by have := Nat.le_of_dvd h0 hd; omega

theorem Ord.y_ne {t : F × F} (h : Ord t) (k : Nat) : (fn.mulP k t).2 ≠ 0 := by
  intro h0
  have h1 := four_point (h.on.mul k) h0
  rw [← mulP_mul h.on] at h1
  rcases LL_mul (h.dvd h1) with h2 | h2
  · exact LL_small (by omega) (by decide +kernel) h2
  · rw [h.of_dvd h2] at h0
    exact one_ne h0

theorem Ord.y_ne_one {t : F × F} (h : Ord t) : 1 - t.2 ≠ 0 := by
  intro h0
  exact h.ne (Prod.ext (x_zero h.on (one_of_ring _ h0)) (eq_one_ring _ h0))

theorem Ord.y_ne_mone {t : F × F} (h : Ord t) : t.2 ≠ 0 - 1 := by
  intro h0
  have h1 : t = (0, 0 - 1) := Prod.ext (x_zero h.on (by rw [h0]; exact mone_ring)) h0
  have h2 : fn.mulP 2 t = zeroP := by
    show addP (fn.mulP 1 t) t = _
    rw [mulP_one, h1, two_point]
  exact LL_small (by omega) (by decide +kernel) (h.dvd h2)

/-! ### the ladder -/

structure Inv (t : F × F) (s : St) (k : Nat) : Prop where
  fst : Rel s.1 s.2.1 (mulP k t)
  snd : Rel s.2.2.1 s.2.2.2 (mulP (k + 1) t)

theorem sub_mul {t : F × F} (h : On t) (k : Nat) : addP (mulP k t) (negP (mulP (k + 1) t)) = negP t ∧ addP (mulP (k + 1) t) (negP (mulP k t)) = t := by
  have hk := h.mul k
  have hk1 := h.mul (k + 1)
  have e : mulP (k + 1) t = addP (mulP k t) t := rfl
  constructor
  · refine addP_cancel hk1 (hk.add hk1.neg) h.neg ?_
    rw [addP_comm (mulP k t), ← addP_assoc hk1 hk1.neg hk, addP_neg hk1, zero_addP, e, addP_assoc hk h h.neg, addP_neg h, addP_zero]
  · rw [e, addP_comm (mulP k t) t, addP_assoc h hk hk.neg, addP_neg hk, addP_zero]

theorem Inv.step {t : F × F} (h : Ord t) {u : F} (hu : u * (1 - t.2) = 1 + t.2) {s : St} {k : Nat} (hi : Inv t s k) (b : Bool) : Inv t (stp b u s) (2 * k + (if b then 1 else 0)) := by
  obtain ⟨h1, h2⟩ := hi
  have hk := h.on.mul k
  have hk1 := h.on.mul (k + 1)
  obtain ⟨d1, d2⟩ := sub_mul h.on k
  cases b
  · refine ⟨?_, ?_⟩
    · have g := h1.dbl hk
      rw [← mulP_add h.on, show k + k = 2 * k by omega] at g
      exact g
    · have g := h1.diff hk hk1 h2 (congrArg Prod.snd d1) hu h.y_ne_one h.y_ne_mone (h.y_ne k)
      rw [← mulP_add h.on, show k + (k + 1) = 2 * k + 1 by omega] at g
      exact g
  · refine ⟨?_, ?_⟩
    · have g := h2.diff hk1 hk h1 (congrArg Prod.snd d2) hu h.y_ne_one h.y_ne_mone (h.y_ne (k + 1))
      rw [← mulP_add h.on, show (k + 1) + k = 2 * k + 1 by omega] at g
      exact g
    · have g := h2.dbl hk1
      rw [← mulP_add h.on, show (k + 1) + (k + 1) = 2 * k + 1 + 1 by omega] at g
      exact g

def vl (k : List Nat) : Nat → Nat → Nat
  | 0, a => a
  | n + 1, a => vl k n (2 * a + bit k n)

theorem Inv.lad {t : F × F} (h : Ord t) {u : F} (hu : u * (1 - t.2) = 1 + t.2) (k : List Nat) : ∀ (n : Nat) (s : St) (a : Nat), Inv t s a → Inv t (lad k u n s) (vl k n a) := by
  intro n
  induction n with
  | zero => intro s a hi; exact hi
  | succ n ih =>
    intro s a hi
    rw [lad_succ]
    have e : (if decide (bit k n = 1) = true then 1 else 0) = bit k n := by
      have := bit_lt k n
      split <;> simp_all <;> omega
    have g := hi.step h hu (decide (bit k n = 1))
    rw [e] at g
    exact ih _ _ g

section ring
variable {α : Type} [Lean.Grind.CommRing α]
theorem st0_ring (u y : α) (hu : u * (1 - y) = 1 + y) : u - 1 = y * (u + 1) ∧ (u + 1) * (1 - y) = 1 + 1 ∧ (1 : α) - 0 = 1 * (1 + 0) ∧ (1 : α) + 0 = 1 := by refine ⟨?_, ?_, ?_, ?_⟩ <;> grind
theorem zm_ring (a : α) : a * 0 = 0 := by grind
theorem end_ring (x z y i w : α) (h : x - z = y * (x + z)) (hi : z * i = 1) (hw : w = x * i) : w * (1 - y) = 1 + y := by grind
theorem end0_ring (x z y : α) (h : x - z = y * (x + z)) (hz : z = 0) : x * (1 - y) = 0 ∧ x + z = x := by constructor <;> grind
end ring

theorem Inv.start {t : F × F} {u : F} (hu : u * (1 - t.2) = 1 + t.2) : Inv t (st0 u) 0 := by
  obtain ⟨h1, h2, h3, h4⟩ := st0_ring u t.2 hu
  refine ⟨⟨?_, h3⟩, ⟨?_, ?_⟩⟩
  · show (1 : F) + 0 ≠ 0
    rw [h4]; exact one_ne
  · show u + 1 ≠ 0
    intro h0
    rw [h0] at h2
    exact two_ne (h2.symm.trans (zero_mul_ring _))
  · show u - 1 = (fn.mulP 1 t).2 * (u + 1)
    rw [mulP_one]; exact h1

/-- v stands for a point's y. -/
def Us (v : Nat) (p : F × F) : Prop := φ v * (1 - p.2) = 1 + p.2

theorem iv_val (x z : F) : φ (x.val * z.val ^ (PP - 2) % PP) = x * iv z := by
  unfold iv
  generalize z.val ^ (PP - 2) = w
  rw [φ_mod, φ_mul, φ_val]

theorem Rel.out {s : St} {p : F × F} (h : Rel s.1 s.2.1 p) (hp : 1 - p.2 ≠ 0) : Us (outv s) p := by
  have hz : s.2.1 ≠ 0 := by
    intro h0
    obtain ⟨e1, e2⟩ := end0_ring _ _ _ h.2 h0
    have h3 := h.1
    rw [e2] at h3
    exact (no_div e1).elim h3 hp
  exact end_ring s.1 s.2.1 p.2 (iv s.2.1) _ h.2 (mul_iv hz) (iv_val _ _)

theorem outv_lt (s : St) : outv s < PP := Nat.mod_lt _ PP_pos

theorem vl_succ (k : List Nat) (n a : Nat) : vl k (n + 1) a = vl k n (2 * a + bit k n) := rfl

/-- The number that a key's bits are. -/
def keyN (k : List Nat) : Nat := vl (clamp k) 255 0

theorem ladder_us {t : F × F} (h : Ord t) (k : List Nat) (B : Nat) (hB : B < PP) (hu : Us B t) (hk : ¬ LL ∣ keyN k) : ladder k B < PP ∧ Us (ladder k B) (mulP (keyN k) t) := by
  have hT : B % 57896044618658097711785492504343953926634992332820282019728792003956564819968 = B := Nat.mod_eq_of_lt (by have := PP_T; omega)
  unfold ladder
  rw [hT]
  exact ⟨outv_lt _, ((Inv.start hu).lad h hu (clamp k) 255).fst.out (h.mulP hk).y_ne_one⟩

/-! ### which numbers keys are -/

theorem vl_bounds (k : List Nat) : ∀ (n a : Nat), a * 2 ^ n ≤ vl k n a ∧ vl k n a < (a + 1) * 2 ^ n := by
  intro n
  induction n with
  | zero => intro a; exact ⟨by simp [vl], by simp [vl]⟩
  | succ n ih =>
    intro a
    obtain ⟨h1, h2⟩ := ih (2 * a + bit k n)
    have hb := bit_lt k n
    have e : vl k (n + 1) a = vl k n (2 * a + bit k n) := rfl
    rw [e]
    refine ⟨Nat.le_trans ?_ h1, Nat.lt_of_lt_of_le h2 ?_⟩
    · rw [Nat.pow_succ, Nat.mul_comm (2 ^ n) 2, ← Nat.mul_assoc]
      exact Nat.mul_le_mul_right _ (by omega)
    · rw [Nat.pow_succ, Nat.mul_comm (2 ^ n) 2, ← Nat.mul_assoc]
      exact Nat.mul_le_mul_right _ (by omega)

theorem vl_last (k : List Nat) (h0 : bit k 0 = 0) (h1 : bit k 1 = 0) (h2 : bit k 2 = 0) : ∀ (n a : Nat), ∃ a', vl k (n + 3) a = 8 * a' := by
  intro n
  induction n with
  | zero =>
    intro a
    refine ⟨a, ?_⟩
    show 2 * (2 * (2 * a + bit k 2) + bit k 1) + bit k 0 = 8 * a
    omega
  | succ n ih => intro a; exact ih (2 * a + bit k (n + 3))

theorem clamp_bits (k : List Nat) (hl : k.length = 32) : bit (clamp k) 0 = 0 ∧ bit (clamp k) 1 = 0 ∧ bit (clamp k) 2 = 0 ∧ bit (clamp k) 254 = 1 := by
  obtain ⟨h1, h2⟩ := clamp_get k hl
  unfold bit
  simp only [show 0 / 8 = 0 from rfl, show 254 / 8 = 31 from rfl, show 0 % 8 = 0 from rfl, show 1 % 8 = 1 from rfl, show 2 % 8 = 2 from rfl, show 254 % 8 = 6 from rfl, h1, h2]
  refine ⟨?_, ?_, ?_, ?_⟩ <;> omega

theorem key_no (k : List Nat) (hl : k.length = 32) : ¬ LL ∣ keyN k := by
  obtain ⟨h0, h1, h2, h3⟩ := clamp_bits k hl
  obtain ⟨m, hm⟩ := vl_last (clamp k) h0 h1 h2 252 0
  have e : keyN k = vl (clamp k) 254 1 := by
    unfold keyN
    rw [show (255 : Nat) = 254 + 1 from rfl, vl_succ, h3]
  have hm' : keyN k = 8 * m := hm
  obtain ⟨b1, b2⟩ := vl_bounds (clamp k) 254 1
  rw [← e] at b1 b2
  have hL : 2 ^ 252 < LL := by decide +kernel
  have e1 : 1 * 2 ^ 254 = 8 * 2 ^ 251 := by decide +kernel
  have e2 : (1 + 1) * 2 ^ 254 = 8 * 2 ^ 252 := by decide +kernel
  have e3 : 0 < 2 ^ 251 := by decide +kernel
  rw [e1, hm'] at b1
  rw [e2, hm'] at b2
  generalize 2 ^ 251 = c at *
  generalize 2 ^ 252 = c' at *
  rw [hm']
  intro hd
  rcases LL_mul hd with h | h
  · exact LL_small (by omega) (by decide +kernel) h
  · exact LL_small (by omega) (by omega) h

/-! ### both ways -/

theorem us_one {v w : Nat} {p : F × F} (hv : v < PP) (hw : w < PP) (h : Us v p) (k : Us w p) (hp : 1 - p.2 ≠ 0) : v = w := by
  have e : φ v = φ w := cancel hp (h.trans k.symm)
  have := φ_iff.1 e
  rwa [Nat.mod_eq_of_lt hv, Nat.mod_eq_of_lt hw] at this

theorem us_base : Us 9 baseP := by
  have h : 9 * (1 + (PP - BY % PP)) % PP = (1 + BY) % PP := by decide +kernel
  have h2 := φ_iff.2 h
  rw [φ_mul, φ_sub, φ_add] at h2
  exact h2

theorem us_ne {v : Nat} {p : F × F} (hp : Ord p) (h : Us v p) : v ≠ 0 := by
  rintro rfl
  refine hp.y_ne_mone ?_
  have h2 : (0 : F) * (1 - p.2) = 1 + p.2 := h
  rw [zero_mul_ring] at h2
  exact neg_of_ring _ h2.symm

theorem both_ways (a b : List Nat) (ha : a.length = 32) (hb : b.length = 32) : ladder a (ladder b 9) = ladder b (ladder a 9) ∧ ladder a (ladder b 9) ≠ 0 := by
  have na := key_no a ha
  have nb := key_no b hb
  have h9 : 9 < PP := by decide +kernel
  obtain ⟨a1, a2⟩ := ladder_us base_ord a 9 h9 us_base na
  obtain ⟨b1, b2⟩ := ladder_us base_ord b 9 h9 us_base nb
  have oa := base_ord.mulP na
  have ob := base_ord.mulP nb
  obtain ⟨c1, c2⟩ := ladder_us ob a _ b1 b2 na
  obtain ⟨d1, d2⟩ := ladder_us oa b _ a1 a2 nb
  rw [← mulP_mul base_on] at c2 d2
  rw [Nat.mul_comm] at d2
  have nab : ¬ LL ∣ keyN a * keyN b := fun h => (LL_mul h).elim na nb
  have oab := base_ord.mulP nab
  exact ⟨us_one c1 d1 c2 d2 oab.y_ne_one, us_ne oab c2⟩

theorem LadderMeets_true {R : Type} (N : Nat) (hN : 1000 < N) (A B : Nat) (r : Bool → Option R) : LadderMeets.M N R (nn (dig 256 32 A)) (nn (dig 256 32 B)) r = r true := by
  show LadderMeets.m (alive10.M N) (Base.M N) (Shared.M N) N _ _ r = _
  unfold LadderMeets.m
  have la := dig_length 256 32 A
  have ka := dig_lt (B := 256) (by decide) 32 A
  have lb := dig_length 256 32 B
  have kb := dig_lt (B := 256) (by decide) 32 B
  obtain ⟨h1, h2⟩ := both_ways _ _ la lb
  rw [alive10_eq N hN, Bool.not_true, cond_false, Base_eq N hN _ lb kb, Shared_eq N hN _ la ka, if_neg h2, Base_eq N hN _ la ka, Shared_eq N hN _ lb kb, ← h1, if_neg h2]
  show cond true (cond true (r _) _) _ = _
  rw [cond_true, cond_true, beq_self_eq_true]
end Go.Proofs.YtganankiiipkgaaDoor.fn
