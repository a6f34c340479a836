/- What the reference's roots come to. -/
import Derived.Test.YtjaappocnonkbaaDoorMFieldF
namespace Go.Proofs.YtjaappocnonkbaaDoor.fn
open Go Go.Proofs Go.Ev Go.Dg

/-- The reference's root. -/
theorem U_beq {a b : Nat} (ha : a < M256) (hb : b < M256) : (U a == U b) = decide (a = b) := beq_row (B := 4294967296) (n := 8) (by rw [M256_eq]; exact ha) (by rw [M256_eq]; exact hb)

theorem U_odd (a : Nat) (_ha : a < M256) : ((U a).getD 0 0).tmod 2 = ((a % 2 : Nat) : Int) := by
  rw [U_get a 0 (by omega)]
  have : ((a / 4294967296 ^ 0 % 4294967296 : Nat) : Int).tmod 2 = ((a / 4294967296 ^ 0 % 4294967296 % 2 : Nat) : Int) := tmodN _ 2
  rw [this, Nat.pow_zero, Nat.div_one, Nat.mod_mod_of_dvd _ (by decide)]

theorem pw_two (e : Nat) (h : Nat.blt e (2 ^ 256) = true) (hb : Nat.beq (Prm.pwm PP 256 2 e) Fp.II = true) : 2 ^ e % PP = Fp.II := by
  rw [← Prm.pwm_eq PP 256 2 e (Nat.blt_eq.mp h)]
  exact Nat.eq_of_beq_eq_true hb

theorem two_quarter : ∃ e, (PP - 1) / 2 / 2 = e ∧ 2 ^ e % PP = Fp.II ∧ e < M256 := by
  have h1 : Nat.blt ((PP - 1) / 2 / 2) (2 ^ 256) = true := by decide +kernel
  have h2 : Nat.beq (Prm.pwm PP 256 2 ((PP - 1) / 2 / 2)) Fp.II = true := by decide +kernel
  have h3 : (PP - 1) / 2 / 2 < M256 := by decide +kernel
  generalize (PP - 1) / 2 / 2 = e at *
  exact ⟨e, rfl, pw_two e h1 h2, h3⟩

theorem the_half : ∃ e, (PP - 1) / 2 = e ∧ e < M256 ∧ ∀ a, Fp.isSq a ↔ a % PP = 0 ∨ a ^ e % PP = 1 :=
  ⟨(PP - 1) / 2, rfl, by decide +kernel, fun a => Iff.rfl⟩

theorem rt_as (e : Nat) (h : e = Fp.e8) (a : Nat) : Fp.rt a = if a ^ e * a ^ e % PP = a % PP then a ^ e % PP else a ^ e * Fp.II % PP := by
  subst h; rfl

theorem the_eighth : ∃ k e, (PP - 5) / 2 / 2 / 2 = k ∧ k < M256 ∧ k + 1 = e ∧ ∀ a, Fp.rt a = if a ^ e * a ^ e % PP = a % PP then a ^ e % PP else a ^ e * Fp.II % PP :=
  ⟨(PP - 5) / 2 / 2 / 2, Fp.e8, rfl, by decide +kernel, by decide +kernel, rt_as _ rfl⟩

theorem pw_e8 (a k e : Nat) (h : k + 1 = e) : (a % PP) ^ k % PP * (a % PP) % PP = a ^ e % PP := by
  subst h
  rw [← Nat.pow_mod, ← Nat.mul_mod, ← Nat.pow_succ]

open Classical in
theorem rRoot_eq {R : Type} (N : Nat) (hN : 1000 < N) (a : Nat) (ha : a < M256) (r : List Int → Bool → Option R) : rRoot.M N R (U a) r = if Fp.isSq a then r (U (Fp.even (Fp.rt a))) true else r (U 0) false := by
  show rRoot.m (rLeast.M N) (rP.M N) (rminus.M N) (rhalf.M N) (rPower.M N) (rTimes.M N) N (U a) r = _
  unfold rRoot.m
  have hN' : 100 < N := by omega
  have hM := PP_M.1
  have hP := PP_big
  have hb := PP_lt_M a
  have five : ([5, 0, 0, 0, 0, 0, 0, 0] : List Int) = U 5 := by decide +kernel
  rw [rLeast_eq N hN' a ha, zeros8', U_beq hb (by omega)]
  by_cases h0 : a % PP = 0
  · have hs : Fp.isSq a := .inl h0
    rw [h0, decide_eq_true rfl, cond_true, if_pos hs, Fp.rt_zero a h0]
    rfl
  · obtain ⟨hf, hfe, hfb, hfs⟩ := the_half
    obtain ⟨k8, e8, hke, hkb, hk1, hrt⟩ := the_eighth
    rw [decide_eq_false h0, cond_false, rP_eq, P_row, one_row, rminus_eq N hN' PP 1 hM (by omega), rhalf_eq N hN' _ (by omega), hfe, rPower_eq N hN _ _ hb hfb, U_beq (PP_lt_M _) (by omega)]
    rw [← Nat.pow_mod]
    by_cases h1 : a ^ hf % PP = 1
    · have hs : Fp.isSq a := (hfs a).2 (.inr h1)
      rw [decide_eq_true h1, if_pos hs]
      simp only [Bool.not_true, cond_false]
      rw [rP_eq, five, rminus_eq N hN' PP 5 hM (by omega), rhalf_eq N hN' _ (by omega), rhalf_eq N hN' _ (by omega), rhalf_eq N hN' _ (by omega), hke, rPower_eq N hN _ _ hb hkb, rTimes_eq N hN' _ _ (PP_lt_M _) hb, rTimes_eq N hN' _ _ (PP_lt_M _) (PP_lt_M _), U_beq (PP_lt_M _) hb]
      have e2 := pw_e8 a k8 e8 hk1
      rw [e2, ← Nat.mul_mod]
      have fin : ∀ u, u = Fp.rt a → (bif ((U u).getD 0 0).tmod 2 == 1 then rP.M N R (rminus.M N R (U PP) (U u) fun v => r v true) else r (U u) true) = r (U (Fp.even (Fp.rt a))) true := by
        rintro u rfl
        have hu := Fp.rt_lt a
        have hu' : Fp.rt a < PP := hu
        rw [U_odd _ (by omega)]
        unfold Fp.even
        by_cases ho : Fp.rt a % 2 = 1
        · rw [ho, show (((1 : Nat) : Int) == 1) = true from rfl, cond_true, rP_eq, rminus_eq N hN' PP _ hM (by omega), if_pos rfl, ← PP_eq]
        · rw [show Fp.rt a % 2 = 0 by omega, show (((0 : Nat) : Int) == 1) = false from rfl, cond_false, if_neg (by omega)]
      by_cases hc : a ^ e8 * a ^ e8 % PP = a % PP
      · rw [decide_eq_true hc]
        simp only [Bool.not_true, cond_false]
        refine fin _ ?_
        rw [hrt, if_pos hc]
      · rw [decide_eq_false hc]
        simp only [Bool.not_false, cond_true]
        rw [rP_eq, rminus_eq N hN' PP 1 hM (by omega), rhalf_eq N hN' _ (by omega), rhalf_eq N hN' _ (by omega), two_row]
        obtain ⟨e, he, e3, e4⟩ := two_quarter
        rw [he, rPower_eq N hN 2 e (by omega) (by omega)]
        have hII : Fp.II < M256 := by decide +kernel
        rw [e3, rTimes_eq N hN' _ _ (PP_lt_M _) hII]
        refine fin _ ?_
        rw [hrt, if_neg hc, Nat.mod_mul_mod]
    · have hs : ¬ Fp.isSq a := fun q => ((hfs a).1 q).elim h0 h1
      rw [decide_eq_false h1, if_neg hs]
      rfl
end Go.Proofs.YtjaappocnonkbaaDoor.fn
