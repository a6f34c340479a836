/- What the field's law of roots says is so; its long terms are printed by a program. -/
import Derived.Test.YtganankiiipkgaaDoorMFieldH
import Derived.Test.YtganankiiipkgaaDoorFnFieldL2
namespace Go.Proofs.YtganankiiipkgaaDoor.fn
open Go Go.Proofs Go.Ev Go.Dg

theorem PP_odd : PP % 2 = 1 := by decide +kernel

/-- The even root of what is an even number's square. -/
theorem even_rt (x a : Nat) (hx : x < PP) (h2 : x % 2 = 0) (h : x * x % PP = a % PP) : Fp.isSq a ∧ Fp.even (Fp.rt a) = x := by
  have hs : Fp.isSq a := by
    have h1 := Fp.sq_isSq x
    rw [← Fp.isSq_mod] at h1 ⊢
    rwa [show a % Fp.PP = x * x % Fp.PP from h.symm]
  refine ⟨hs, ?_⟩
  have hr := Fp.rt_lt a
  have hr' : Fp.rt a < PP := hr
  have h3 : Fp.rt a * Fp.rt a % PP = x * x % PP := ((Fp.rt_ok a).2 hs).trans h.symm
  have hp := PP_odd
  rcases Fp.same_sq _ _ h3 with h4 | h4
  · have h5 : Fp.rt a = x := by
      have e1 : Fp.rt a % PP = x % PP := h4
      rwa [Nat.mod_eq_of_lt hr', Nat.mod_eq_of_lt hx] at e1
    unfold Fp.even
    rw [h5, if_neg (by omega)]
  · have h5 : (Fp.rt a + x) % PP = 0 := h4
    have h6 : Fp.rt a + x = 0 ∨ Fp.rt a + x = PP := by
      by_cases hc : Fp.rt a + x < PP
      · rw [Nat.mod_eq_of_lt hc] at h5; exact .inl h5
      · rw [Nat.mod_eq_sub_mod (by omega), Nat.mod_eq_of_lt (by omega)] at h5; omega
    unfold Fp.even
    rw [← PP_eq]
    split <;> omega

theorem inv_at (v w : Nat) (h : v * w % PP = 1) (hw : w < PP) : v ^ (PP - 2) % PP = w := by
  have hv : v % Fp.PP ≠ 0 := by
    intro h0
    have h0' : v % PP = 0 := h0
    rw [Nat.mul_mod, h0', Nat.zero_mul, Nat.zero_mod] at h
    omega
  have h1 : v * v ^ (PP - 2) % PP = 1 := Fp.inv v hv
  generalize v ^ (PP - 2) = u at *
  have h2 : u % PP = u * (v * w) % PP := by
    rw [Nat.mul_mod, h, Nat.mul_one, Nat.mod_mod]
  have h3 : u * (v * w) = v * u * w := by rw [← Nat.mul_assoc, Nat.mul_comm u v]
  rw [h2, h3, Nat.mul_mod, h1, Nat.one_mul, Nat.mod_mod, Nat.mod_eq_of_lt hw]

theorem rInvert_at {R : Type} (N : Nat) (hN : 1000 < N) (v w : Nat) (hv : v < M256) (h : v * w % PP = 1) (hw : w < PP) (r : List Int → Option R) : rInvert.M N R (U v) r = r (U w) := by
  rw [rInvert_eq N hN v hv, inv_at v w h hw]
theorem rTimes_at {R : Type} (N : Nat) (hN : 100 < N) (a b c : Nat) (ha : a < M256) (hb : b < M256) (h : a * b % PP = c) (r : List Int → Option R) : rTimes.M N R (U a) (U b) r = r (U c) := by
  rw [rTimes_eq N hN a b ha hb, h]
theorem rAdd_at {R : Type} (N : Nat) (hN : 100 < N) (a b c : Nat) (ha : a < M256) (hb : b < M256) (h : (a + b) % PP = c) (r : List Int → Option R) : rAdd.M N R (U a) (U b) r = r (U c) := by
  rw [rAdd_eq N hN a b ha hb, h]
theorem rSub_at {R : Type} (N : Nat) (hN : 100 < N) (a b c : Nat) (ha : a < M256) (hb : b < M256) (h : (a + (PP - b % PP)) % PP = c) (r : List Int → Option R) : rSub.M N R (U a) (U b) r = r (U c) := by
  rw [rSub_eq N hN a b ha hb, h]
theorem rRoot_at {R : Type} (N : Nat) (hN : 1000 < N) (a x : Nat) (ha : a < M256) (hx : x < PP) (h2 : x % 2 = 0) (h : x * x % PP = a % PP) (r : List Int → Bool → Option R) : rRoot.M N R (U a) r = r (U x) true := by
  obtain ⟨h3, h4⟩ := even_rt x a hx h2 h
  rw [rRoot_eq N hN a ha, if_pos h3, h4]

theorem rowCurveU : ([324630691, 1978355146, 1094834347, 7342669, 2004478104, 2361868409, 728759923, 1375956206] : List Int) = U 37095705934669439343138083508754565189542113879843219016388785533085940283555 := by decide +kernel
theorem rowCurveE : ([56195235, 47411844, 25868126, 20251911, 28682, 31357478, 7604119, 66702899, 15608687, 1343707] : List Int) = E 37095705934669439343138083508754565189542113879843219016388785533085940283555 := by decide +kernel
theorem rowBaseXU : ([2401621274, 3377868128, 2502272946, 1764542304, 4258716764, 3232031281, 3446559742, 560543443] : List Int) = U 15112221349535400772501151409588531511454012693041857206046113283949847762202 := by decide +kernel
theorem rowBaseXE : ([52811034, 25909283, 41626773, 25318550, 6892743, 58046231, 38675231, 22018818, 47435118, 547405] : List Int) = E 15112221349535400772501151409588531511454012693041857206046113283949847762202 := by decide +kernel
theorem rowBaseYU : ([1717986904, 1717986918, 1717986918, 1717986918, 1717986918, 1717986918, 1717986918, 1717986918] : List Int) = U 46316835694926478169428394003475163141307993866256225615783033603165251855960 := by decide +kernel
theorem rowBaseYE : ([40265304, 26843545, 40265318, 26843545, 40265318, 26843545, 40265318, 26843545, 40265318, 1677721] : List Int) = E 46316835694926478169428394003475163141307993866256225615783033603165251855960 := by decide +kernel
theorem row4 : ([4, 0, 0, 0, 0, 0, 0, 0] : List Int) = U 4 := by decide +kernel
theorem row5 : ([5, 0, 0, 0, 0, 0, 0, 0] : List Int) = U 5 := by decide +kernel
theorem row121665 : ([121665, 0, 0, 0, 0, 0, 0, 0] : List Int) = U 121665 := by decide +kernel
theorem row121666 : ([121666, 0, 0, 0, 0, 0, 0, 0] : List Int) = U 121666 := by decide +kernel

theorem rConstants_eq {R : Type} (N : Nat) (hN : 1000 < N) (r : Bool → Option R) : rConstants.M N R r = r true := by
  show rConstants.m (rBaseY.M N) (rTimes.M N) (rSub.M N) (rCurve.M N) (rAdd.M N) (rInvert.M N) (rRoot.M N) (rBaseX.M N) N r = _
  unfold rConstants.m
  have hN' : 100 < N := by omega
  show rTimes.M N R _ _ _ = _
  rw [rowBaseYU, rowBaseXU, rowCurveU, row4, row5, row121665, row121666, zeros8', one_row]
  rw [rTimes_at N hN' _ _ 37053468555941182535542715202780130513046395093004980492626426882532201484768 (by decide +kernel) (by decide +kernel) (by decide +kernel)]
  rw [rSub_at N hN' _ _ 37053468555941182535542715202780130513046395093004980492626426882532201484767 (by decide +kernel) (by decide +kernel) (by decide +kernel)]
  show rTimes.M N R _ _ _ = _
  rw [rTimes_at N hN' _ _ 35320460721920060721965471946471712506633951349663716574434581141966314745465 (by decide +kernel) (by decide +kernel) (by decide +kernel)]
  rw [rAdd_at N hN' _ _ 35320460721920060721965471946471712506633951349663716574434581141966314745466 (by decide +kernel) (by decide +kernel) (by decide +kernel)]
  rw [rInvert_at N hN _ 36615873626505047815401509688526422966742341385236691817538452001808239043262 (by decide +kernel) (by decide +kernel) (by decide +kernel)]
  rw [rTimes_at N hN' _ _ 26187595835145689230469591415084376402084551887632582719101735842039498021991 (by decide +kernel) (by decide +kernel) (by decide +kernel)]
  rw [rRoot_at N hN _ 15112221349535400772501151409588531511454012693041857206046113283949847762202 (by decide +kernel) (by decide +kernel) (by decide +kernel) (by decide +kernel)]
  show rSub.M N R _ _ _ = _
  rw [rSub_at N hN' _ _ 57896044618658097711785492504343953926634992332820282019728792003956564698284 (by decide +kernel) (by decide +kernel) (by decide +kernel)]
  rw [rInvert_at N hN _ 37095705934669439343138083508754565189542113879843219016388785533085940283556 (by decide +kernel) (by decide +kernel) (by decide +kernel)]
  rw [rTimes_at N hN' _ _ 37095705934669439343138083508754565189542113879843219016388785533085940283555 (by decide +kernel) (by decide +kernel) (by decide +kernel)]
  rw [beq_self_eq_true, cond_true]
  show rInvert.M N R _ _ = _
  rw [rInvert_at N hN _ 11579208923731619542357098500868790785326998466564056403945758400791312963990 (by decide +kernel) (by decide +kernel) (by decide +kernel)]
  rw [rTimes_at N hN' _ _ 46316835694926478169428394003475163141307993866256225615783033603165251855960 (by decide +kernel) (by decide +kernel) (by decide +kernel)]
  rw [beq_self_eq_true, cond_true, cond_true]
  show r _ = _
  rw [beq_self_eq_true]

theorem same_at {R : Type} (N : Nat) (hN : 1000 < N) (a : Nat) (ha : a < PP) (r : Bool → Option R) : same.M N R (E a) (U a) r = r true := by
  rw [same_eq N hN a a (Nat.lt_trans ha PP_Q) (Nat.lt_trans ha PP_M.1), decide_eq_true (Nat.mod_eq_of_lt ha)]

theorem ids {R : Type} (N : Nat) (r : Option R) : Curve.M N R r = r ∧ rCurve.M N R r = r ∧ BaseX.M N R r = r ∧ rBaseX.M N R r = r ∧ BaseY.M N R r = r ∧ rBaseY.M N R r = r := ⟨rfl, rfl, rfl, rfl, rfl, rfl⟩

theorem con_true {R : Type} (N : Nat) (hN : 1000 < N) (r : Bool → Option R) : (rConstants.M N R (fun v_c55 => cond v_c55 (Curve.M N R (rCurve.M N R (same.M N R ([56195235, 47411844, 25868126, 20251911, 28682, 31357478, 7604119, 66702899, 15608687, 1343707]) ([324630691, 1978355146, 1094834347, 7342669, 2004478104, 2361868409, 728759923, 1375956206]) (fun v_c56 => cond v_c56 (BaseX.M N R (rBaseX.M N R (same.M N R ([52811034, 25909283, 41626773, 25318550, 6892743, 58046231, 38675231, 22018818, 47435118, 547405]) ([2401621274, 3377868128, 2502272946, 1764542304, 4258716764, 3232031281, 3446559742, 560543443]) (fun v_c57 => cond v_c57 (BaseY.M N R (rBaseY.M N R (same.M N R ([40265304, 26843545, 40265318, 26843545, 40265318, 26843545, 40265318, 26843545, 40265318, 1677721]) ([1717986904, 1717986918, 1717986918, 1717986918, 1717986918, 1717986918, 1717986918, 1717986918]) (fun v_c58 => r v_c58)))) (r false))))) (r false))))) (r false))) = r true := by
  rw [rConstants_eq N hN, cond_true]
  rw [(ids N _).1, (ids N _).2.1]
  rw [rowCurveE, rowCurveU, same_at N hN _ (by decide +kernel), cond_true]
  rw [(ids N _).2.2.1, (ids N _).2.2.2.1]
  rw [rowBaseXE, rowBaseXU, same_at N hN _ (by decide +kernel), cond_true]
  rw [(ids N _).2.2.2.2.1, (ids N _).2.2.2.2.2]
  rw [rowBaseYE, rowBaseYU, same_at N hN _ (by decide +kernel)]

theorem pick_true {R : Type} (N : Nat) (hN : 1000 < N) (yes : Bool) (a b : Nat) (ha : a < 1852673427797059126777135760139006525652319754650249024631321344126610074238976) (hb : b < 1852673427797059126777135760139006525652319754650249024631321344126610074238976) (r : Bool → Option R) : (ePick.M N R yes (E a) (E b) (fun v_c52 => cond yes (Same.M N R v_c52 (E a) (fun v_c53 => cond (!v_c53) (r false) (cond (!yes) (Same.M N R v_c52 (E b) (fun v_c54 => cond (!v_c54) (r false) (rConstants.M N R (fun v_c55 => cond v_c55 (Curve.M N R (rCurve.M N R (same.M N R ([56195235, 47411844, 25868126, 20251911, 28682, 31357478, 7604119, 66702899, 15608687, 1343707]) ([324630691, 1978355146, 1094834347, 7342669, 2004478104, 2361868409, 728759923, 1375956206]) (fun v_c56 => cond v_c56 (BaseX.M N R (rBaseX.M N R (same.M N R ([52811034, 25909283, 41626773, 25318550, 6892743, 58046231, 38675231, 22018818, 47435118, 547405]) ([2401621274, 3377868128, 2502272946, 1764542304, 4258716764, 3232031281, 3446559742, 560543443]) (fun v_c57 => cond v_c57 (BaseY.M N R (rBaseY.M N R (same.M N R ([40265304, 26843545, 40265318, 26843545, 40265318, 26843545, 40265318, 26843545, 40265318, 1677721]) ([1717986904, 1717986918, 1717986918, 1717986918, 1717986918, 1717986918, 1717986918, 1717986918]) (fun v_c58 => r v_c58)))) (r false))))) (r false))))) (r false))))) (rConstants.M N R (fun v_c59 => cond v_c59 (Curve.M N R (rCurve.M N R (same.M N R ([56195235, 47411844, 25868126, 20251911, 28682, 31357478, 7604119, 66702899, 15608687, 1343707]) ([324630691, 1978355146, 1094834347, 7342669, 2004478104, 2361868409, 728759923, 1375956206]) (fun v_c60 => cond v_c60 (BaseX.M N R (rBaseX.M N R (same.M N R ([52811034, 25909283, 41626773, 25318550, 6892743, 58046231, 38675231, 22018818, 47435118, 547405]) ([2401621274, 3377868128, 2502272946, 1764542304, 4258716764, 3232031281, 3446559742, 560543443]) (fun v_c61 => cond v_c61 (BaseY.M N R (rBaseY.M N R (same.M N R ([40265304, 26843545, 40265318, 26843545, 40265318, 26843545, 40265318, 26843545, 40265318, 1677721]) ([1717986904, 1717986918, 1717986918, 1717986918, 1717986918, 1717986918, 1717986918, 1717986918]) (fun v_c62 => r v_c62)))) (r false))))) (r false))))) (r false)))))) (cond (!yes) (Same.M N R v_c52 (E b) (fun v_c63 => cond (!v_c63) (r false) (rConstants.M N R (fun v_c64 => cond v_c64 (Curve.M N R (rCurve.M N R (same.M N R ([56195235, 47411844, 25868126, 20251911, 28682, 31357478, 7604119, 66702899, 15608687, 1343707]) ([324630691, 1978355146, 1094834347, 7342669, 2004478104, 2361868409, 728759923, 1375956206]) (fun v_c65 => cond v_c65 (BaseX.M N R (rBaseX.M N R (same.M N R ([52811034, 25909283, 41626773, 25318550, 6892743, 58046231, 38675231, 22018818, 47435118, 547405]) ([2401621274, 3377868128, 2502272946, 1764542304, 4258716764, 3232031281, 3446559742, 560543443]) (fun v_c66 => cond v_c66 (BaseY.M N R (rBaseY.M N R (same.M N R ([40265304, 26843545, 40265318, 26843545, 40265318, 26843545, 40265318, 26843545, 40265318, 1677721]) ([1717986904, 1717986918, 1717986918, 1717986918, 1717986918, 1717986918, 1717986918, 1717986918]) (fun v_c67 => r v_c67)))) (r false))))) (r false))))) (r false))))) (rConstants.M N R (fun v_c68 => cond v_c68 (Curve.M N R (rCurve.M N R (same.M N R ([56195235, 47411844, 25868126, 20251911, 28682, 31357478, 7604119, 66702899, 15608687, 1343707]) ([324630691, 1978355146, 1094834347, 7342669, 2004478104, 2361868409, 728759923, 1375956206]) (fun v_c69 => cond v_c69 (BaseX.M N R (rBaseX.M N R (same.M N R ([52811034, 25909283, 41626773, 25318550, 6892743, 58046231, 38675231, 22018818, 47435118, 547405]) ([2401621274, 3377868128, 2502272946, 1764542304, 4258716764, 3232031281, 3446559742, 560543443]) (fun v_c70 => cond v_c70 (BaseY.M N R (rBaseY.M N R (same.M N R ([40265304, 26843545, 40265318, 26843545, 40265318, 26843545, 40265318, 26843545, 40265318, 1677721]) ([1717986904, 1717986918, 1717986918, 1717986918, 1717986918, 1717986918, 1717986918, 1717986918]) (fun v_c71 => r v_c71)))) (r false))))) (r false))))) (r false)))))) = r true := by
  rw [ePick_eq N (by omega)]
  cases yes
  · simp only [cond_false, Bool.not_false, cond_true, Bool.false_eq_true, if_false]
    rw [Same_eq N hN _ _ hb hb, decide_eq_true rfl, Bool.not_true, cond_false]
    exact con_true N hN r
  · simp only [cond_false, Bool.not_true, cond_true, if_true]
    rw [Same_eq N hN _ _ ha ha, decide_eq_true rfl, Bool.not_true, cond_false]
    exact con_true N hN r

open Classical in
noncomputable def sqB (u : Nat) : Bool := decide (Fp.isSq u)
open Classical in
theorem eRoot_as {R : Type} (N : Nat) (hN : 1000 < N) (u : Nat) (hu : u < 1852673427797059126777135760139006525652319754650249024631321344126610074238976) (k : List Int → Bool → Option R) : eRoot.M N R (E u) k = k (if Fp.isSq u then E (rootE u) else E 0) (sqB u) := by
  unfold sqB
  rw [eRoot_eq N hN u hu]
  by_cases h : Fp.isSq u
  · simp only [if_pos h, decide_eq_true h]
  · simp only [if_neg h, decide_eq_false h]
theorem sq_ring {α : Type} [Lean.Grind.CommRing α] (u v : α) (h : u + v = 0) : u * u = v * v := by grind

theorem rest_true {R : Type} (N : Nat) (hN : 1000 < N) (yes : Bool) (a b : Nat) (ha : a < 1852673427797059126777135760139006525652319754650249024631321344126610074238976) (hb : b < 1852673427797059126777135760139006525652319754650249024631321344126610074238976) (r : Bool → Option R) : (eRoot.M N R (E a) (fun _v_c43 v_1_c44 => eRoot.M N R (E b) (fun _v_c45 v_1_c46 => eTimes.M N R (E a) (E b) (fun v_c47 => eRoot.M N R v_c47 (fun _v_c48 v_1_c49 => eZero.M N R (E a) (fun v_c50 => cond (!v_c50) (eZero.M N R (E b) (fun v_c51 => cond (!v_c51) (cond (!v_1_c49 == (v_1_c44 == v_1_c46)) (r false) (ePick.M N R yes (E a) (E b) (fun v_c52 => cond yes (Same.M N R v_c52 (E a) (fun v_c53 => cond (!v_c53) (r false) (cond (!yes) (Same.M N R v_c52 (E b) (fun v_c54 => cond (!v_c54) (r false) (rConstants.M N R (fun v_c55 => cond v_c55 (Curve.M N R (rCurve.M N R (same.M N R ([56195235, 47411844, 25868126, 20251911, 28682, 31357478, 7604119, 66702899, 15608687, 1343707]) ([324630691, 1978355146, 1094834347, 7342669, 2004478104, 2361868409, 728759923, 1375956206]) (fun v_c56 => cond v_c56 (BaseX.M N R (rBaseX.M N R (same.M N R ([52811034, 25909283, 41626773, 25318550, 6892743, 58046231, 38675231, 22018818, 47435118, 547405]) ([2401621274, 3377868128, 2502272946, 1764542304, 4258716764, 3232031281, 3446559742, 560543443]) (fun v_c57 => cond v_c57 (BaseY.M N R (rBaseY.M N R (same.M N R ([40265304, 26843545, 40265318, 26843545, 40265318, 26843545, 40265318, 26843545, 40265318, 1677721]) ([1717986904, 1717986918, 1717986918, 1717986918, 1717986918, 1717986918, 1717986918, 1717986918]) (fun v_c58 => r v_c58)))) (r false))))) (r false))))) (r false))))) (rConstants.M N R (fun v_c59 => cond v_c59 (Curve.M N R (rCurve.M N R (same.M N R ([56195235, 47411844, 25868126, 20251911, 28682, 31357478, 7604119, 66702899, 15608687, 1343707]) ([324630691, 1978355146, 1094834347, 7342669, 2004478104, 2361868409, 728759923, 1375956206]) (fun v_c60 => cond v_c60 (BaseX.M N R (rBaseX.M N R (same.M N R ([52811034, 25909283, 41626773, 25318550, 6892743, 58046231, 38675231, 22018818, 47435118, 547405]) ([2401621274, 3377868128, 2502272946, 1764542304, 4258716764, 3232031281, 3446559742, 560543443]) (fun v_c61 => cond v_c61 (BaseY.M N R (rBaseY.M N R (same.M N R ([40265304, 26843545, 40265318, 26843545, 40265318, 26843545, 40265318, 26843545, 40265318, 1677721]) ([1717986904, 1717986918, 1717986918, 1717986918, 1717986918, 1717986918, 1717986918, 1717986918]) (fun v_c62 => r v_c62)))) (r false))))) (r false))))) (r false)))))) (cond (!yes) (Same.M N R v_c52 (E b) (fun v_c63 => cond (!v_c63) (r false) (rConstants.M N R (fun v_c64 => cond v_c64 (Curve.M N R (rCurve.M N R (same.M N R ([56195235, 47411844, 25868126, 20251911, 28682, 31357478, 7604119, 66702899, 15608687, 1343707]) ([324630691, 1978355146, 1094834347, 7342669, 2004478104, 2361868409, 728759923, 1375956206]) (fun v_c65 => cond v_c65 (BaseX.M N R (rBaseX.M N R (same.M N R ([52811034, 25909283, 41626773, 25318550, 6892743, 58046231, 38675231, 22018818, 47435118, 547405]) ([2401621274, 3377868128, 2502272946, 1764542304, 4258716764, 3232031281, 3446559742, 560543443]) (fun v_c66 => cond v_c66 (BaseY.M N R (rBaseY.M N R (same.M N R ([40265304, 26843545, 40265318, 26843545, 40265318, 26843545, 40265318, 26843545, 40265318, 1677721]) ([1717986904, 1717986918, 1717986918, 1717986918, 1717986918, 1717986918, 1717986918, 1717986918]) (fun v_c67 => r v_c67)))) (r false))))) (r false))))) (r false))))) (rConstants.M N R (fun v_c68 => cond v_c68 (Curve.M N R (rCurve.M N R (same.M N R ([56195235, 47411844, 25868126, 20251911, 28682, 31357478, 7604119, 66702899, 15608687, 1343707]) ([324630691, 1978355146, 1094834347, 7342669, 2004478104, 2361868409, 728759923, 1375956206]) (fun v_c69 => cond v_c69 (BaseX.M N R (rBaseX.M N R (same.M N R ([52811034, 25909283, 41626773, 25318550, 6892743, 58046231, 38675231, 22018818, 47435118, 547405]) ([2401621274, 3377868128, 2502272946, 1764542304, 4258716764, 3232031281, 3446559742, 560543443]) (fun v_c70 => cond v_c70 (BaseY.M N R (rBaseY.M N R (same.M N R ([40265304, 26843545, 40265318, 26843545, 40265318, 26843545, 40265318, 26843545, 40265318, 1677721]) ([1717986904, 1717986918, 1717986918, 1717986918, 1717986918, 1717986918, 1717986918, 1717986918]) (fun v_c71 => r v_c71)))) (r false))))) (r false))))) (r false))))))) (ePick.M N R yes (E a) (E b) (fun v_c72 => cond yes (Same.M N R v_c72 (E a) (fun v_c73 => cond (!v_c73) (r false) (cond (!yes) (Same.M N R v_c72 (E b) (fun v_c74 => cond (!v_c74) (r false) (rConstants.M N R (fun v_c75 => cond v_c75 (Curve.M N R (rCurve.M N R (same.M N R ([56195235, 47411844, 25868126, 20251911, 28682, 31357478, 7604119, 66702899, 15608687, 1343707]) ([324630691, 1978355146, 1094834347, 7342669, 2004478104, 2361868409, 728759923, 1375956206]) (fun v_c76 => cond v_c76 (BaseX.M N R (rBaseX.M N R (same.M N R ([52811034, 25909283, 41626773, 25318550, 6892743, 58046231, 38675231, 22018818, 47435118, 547405]) ([2401621274, 3377868128, 2502272946, 1764542304, 4258716764, 3232031281, 3446559742, 560543443]) (fun v_c77 => cond v_c77 (BaseY.M N R (rBaseY.M N R (same.M N R ([40265304, 26843545, 40265318, 26843545, 40265318, 26843545, 40265318, 26843545, 40265318, 1677721]) ([1717986904, 1717986918, 1717986918, 1717986918, 1717986918, 1717986918, 1717986918, 1717986918]) (fun v_c78 => r v_c78)))) (r false))))) (r false))))) (r false))))) (rConstants.M N R (fun v_c79 => cond v_c79 (Curve.M N R (rCurve.M N R (same.M N R ([56195235, 47411844, 25868126, 20251911, 28682, 31357478, 7604119, 66702899, 15608687, 1343707]) ([324630691, 1978355146, 1094834347, 7342669, 2004478104, 2361868409, 728759923, 1375956206]) (fun v_c80 => cond v_c80 (BaseX.M N R (rBaseX.M N R (same.M N R ([52811034, 25909283, 41626773, 25318550, 6892743, 58046231, 38675231, 22018818, 47435118, 547405]) ([2401621274, 3377868128, 2502272946, 1764542304, 4258716764, 3232031281, 3446559742, 560543443]) (fun v_c81 => cond v_c81 (BaseY.M N R (rBaseY.M N R (same.M N R ([40265304, 26843545, 40265318, 26843545, 40265318, 26843545, 40265318, 26843545, 40265318, 1677721]) ([1717986904, 1717986918, 1717986918, 1717986918, 1717986918, 1717986918, 1717986918, 1717986918]) (fun v_c82 => r v_c82)))) (r false))))) (r false))))) (r false)))))) (cond (!yes) (Same.M N R v_c72 (E b) (fun v_c83 => cond (!v_c83) (r false) (rConstants.M N R (fun v_c84 => cond v_c84 (Curve.M N R (rCurve.M N R (same.M N R ([56195235, 47411844, 25868126, 20251911, 28682, 31357478, 7604119, 66702899, 15608687, 1343707]) ([324630691, 1978355146, 1094834347, 7342669, 2004478104, 2361868409, 728759923, 1375956206]) (fun v_c85 => cond v_c85 (BaseX.M N R (rBaseX.M N R (same.M N R ([52811034, 25909283, 41626773, 25318550, 6892743, 58046231, 38675231, 22018818, 47435118, 547405]) ([2401621274, 3377868128, 2502272946, 1764542304, 4258716764, 3232031281, 3446559742, 560543443]) (fun v_c86 => cond v_c86 (BaseY.M N R (rBaseY.M N R (same.M N R ([40265304, 26843545, 40265318, 26843545, 40265318, 26843545, 40265318, 26843545, 40265318, 1677721]) ([1717986904, 1717986918, 1717986918, 1717986918, 1717986918, 1717986918, 1717986918, 1717986918]) (fun v_c87 => r v_c87)))) (r false))))) (r false))))) (r false))))) (rConstants.M N R (fun v_c88 => cond v_c88 (Curve.M N R (rCurve.M N R (same.M N R ([56195235, 47411844, 25868126, 20251911, 28682, 31357478, 7604119, 66702899, 15608687, 1343707]) ([324630691, 1978355146, 1094834347, 7342669, 2004478104, 2361868409, 728759923, 1375956206]) (fun v_c89 => cond v_c89 (BaseX.M N R (rBaseX.M N R (same.M N R ([52811034, 25909283, 41626773, 25318550, 6892743, 58046231, 38675231, 22018818, 47435118, 547405]) ([2401621274, 3377868128, 2502272946, 1764542304, 4258716764, 3232031281, 3446559742, 560543443]) (fun v_c90 => cond v_c90 (BaseY.M N R (rBaseY.M N R (same.M N R ([40265304, 26843545, 40265318, 26843545, 40265318, 26843545, 40265318, 26843545, 40265318, 1677721]) ([1717986904, 1717986918, 1717986918, 1717986918, 1717986918, 1717986918, 1717986918, 1717986918]) (fun v_c91 => r v_c91)))) (r false))))) (r false))))) (r false)))))))) (ePick.M N R yes (E a) (E b) (fun v_c92 => cond yes (Same.M N R v_c92 (E a) (fun v_c93 => cond (!v_c93) (r false) (cond (!yes) (Same.M N R v_c92 (E b) (fun v_c94 => cond (!v_c94) (r false) (rConstants.M N R (fun v_c95 => cond v_c95 (Curve.M N R (rCurve.M N R (same.M N R ([56195235, 47411844, 25868126, 20251911, 28682, 31357478, 7604119, 66702899, 15608687, 1343707]) ([324630691, 1978355146, 1094834347, 7342669, 2004478104, 2361868409, 728759923, 1375956206]) (fun v_c96 => cond v_c96 (BaseX.M N R (rBaseX.M N R (same.M N R ([52811034, 25909283, 41626773, 25318550, 6892743, 58046231, 38675231, 22018818, 47435118, 547405]) ([2401621274, 3377868128, 2502272946, 1764542304, 4258716764, 3232031281, 3446559742, 560543443]) (fun v_c97 => cond v_c97 (BaseY.M N R (rBaseY.M N R (same.M N R ([40265304, 26843545, 40265318, 26843545, 40265318, 26843545, 40265318, 26843545, 40265318, 1677721]) ([1717986904, 1717986918, 1717986918, 1717986918, 1717986918, 1717986918, 1717986918, 1717986918]) (fun v_c98 => r v_c98)))) (r false))))) (r false))))) (r false))))) (rConstants.M N R (fun v_c99 => cond v_c99 (Curve.M N R (rCurve.M N R (same.M N R ([56195235, 47411844, 25868126, 20251911, 28682, 31357478, 7604119, 66702899, 15608687, 1343707]) ([324630691, 1978355146, 1094834347, 7342669, 2004478104, 2361868409, 728759923, 1375956206]) (fun v_c100 => cond v_c100 (BaseX.M N R (rBaseX.M N R (same.M N R ([52811034, 25909283, 41626773, 25318550, 6892743, 58046231, 38675231, 22018818, 47435118, 547405]) ([2401621274, 3377868128, 2502272946, 1764542304, 4258716764, 3232031281, 3446559742, 560543443]) (fun v_c101 => cond v_c101 (BaseY.M N R (rBaseY.M N R (same.M N R ([40265304, 26843545, 40265318, 26843545, 40265318, 26843545, 40265318, 26843545, 40265318, 1677721]) ([1717986904, 1717986918, 1717986918, 1717986918, 1717986918, 1717986918, 1717986918, 1717986918]) (fun v_c102 => r v_c102)))) (r false))))) (r false))))) (r false)))))) (cond (!yes) (Same.M N R v_c92 (E b) (fun v_c103 => cond (!v_c103) (r false) (rConstants.M N R (fun v_c104 => cond v_c104 (Curve.M N R (rCurve.M N R (same.M N R ([56195235, 47411844, 25868126, 20251911, 28682, 31357478, 7604119, 66702899, 15608687, 1343707]) ([324630691, 1978355146, 1094834347, 7342669, 2004478104, 2361868409, 728759923, 1375956206]) (fun v_c105 => cond v_c105 (BaseX.M N R (rBaseX.M N R (same.M N R ([52811034, 25909283, 41626773, 25318550, 6892743, 58046231, 38675231, 22018818, 47435118, 547405]) ([2401621274, 3377868128, 2502272946, 1764542304, 4258716764, 3232031281, 3446559742, 560543443]) (fun v_c106 => cond v_c106 (BaseY.M N R (rBaseY.M N R (same.M N R ([40265304, 26843545, 40265318, 26843545, 40265318, 26843545, 40265318, 26843545, 40265318, 1677721]) ([1717986904, 1717986918, 1717986918, 1717986918, 1717986918, 1717986918, 1717986918, 1717986918]) (fun v_c107 => r v_c107)))) (r false))))) (r false))))) (r false))))) (rConstants.M N R (fun v_c108 => cond v_c108 (Curve.M N R (rCurve.M N R (same.M N R ([56195235, 47411844, 25868126, 20251911, 28682, 31357478, 7604119, 66702899, 15608687, 1343707]) ([324630691, 1978355146, 1094834347, 7342669, 2004478104, 2361868409, 728759923, 1375956206]) (fun v_c109 => cond v_c109 (BaseX.M N R (rBaseX.M N R (same.M N R ([52811034, 25909283, 41626773, 25318550, 6892743, 58046231, 38675231, 22018818, 47435118, 547405]) ([2401621274, 3377868128, 2502272946, 1764542304, 4258716764, 3232031281, 3446559742, 560543443]) (fun v_c110 => cond v_c110 (BaseY.M N R (rBaseY.M N R (same.M N R ([40265304, 26843545, 40265318, 26843545, 40265318, 26843545, 40265318, 26843545, 40265318, 1677721]) ([1717986904, 1717986918, 1717986918, 1717986918, 1717986918, 1717986918, 1717986918, 1717986918]) (fun v_c111 => r v_c111)))) (r false))))) (r false))))) (r false)))))))))))) = r true := by
  have hN' : 100 < N := by omega
  have P := pick_true N hN yes a b ha hb r
  have hab := mulE_lt ha hb
  have key : a % PP ≠ 0 → b % PP ≠ 0 → (Fp.isSq (mulE a b) ↔ (Fp.isSq a ↔ Fp.isSq b)) := by
    intro h1 h2
    rw [← Fp.isSq_mul a b h1 h2, ← Fp.isSq_mod, show mulE a b % Fp.PP = a * b % Fp.PP from mulE_mod a b, Fp.isSq_mod]
  rw [eRoot_as N hN a ha, eRoot_as N hN b hb, eTimes_eq N hN' _ _ ha hb, eRoot_as N hN _ hab, eZero_eq N hN a ha]
  by_cases h1 : a % PP = 0
  · rw [decide_eq_true h1, Bool.not_true, cond_false]
    exact P
  · rw [decide_eq_false h1, Bool.not_false, cond_true, eZero_eq N hN b hb]
    by_cases h2 : b % PP = 0
    · rw [decide_eq_true h2, Bool.not_true, cond_false]
      exact P
    · rw [decide_eq_false h2, Bool.not_false, cond_true]
      have e : (sqB (mulE a b) == (sqB a == sqB b)) = true := by
        have k3 := key h1 h2
        unfold sqB
        by_cases q1 : Fp.isSq a <;> by_cases q2 : Fp.isSq b <;> by_cases q3 : Fp.isSq (mulE a b) <;> simp_all
      rw [e, Bool.not_true, cond_false]
      exact P

theorem root_sq (a : Nat) (ha : a < 1852673427797059126777135760139006525652319754650249024631321344126610074238976) : rootE (mulE a a) % PP = Fp.even (Fp.rt (mulE a a)) ∧ Fp.even (Fp.rt (mulE a a)) % 2 = 0 ∧ rootE (mulE a a) * rootE (mulE a a) % PP = a * a % PP ∧
    (¬ rootE (mulE a a) % PP = a % PP → (rootE (mulE a a) + a) % PP = 0) ∧ Fp.isSq (mulE a a) := by
  have hs : Fp.isSq (mulE a a) := by
    rw [← Fp.isSq_mod, show mulE a a % Fp.PP = a * a % Fp.PP from mulE_mod a a, Fp.isSq_mod]
    exact Fp.sq_isSq a
  have h1 := rootE_mod (mulE a a) (mulE_lt ha ha)
  obtain ⟨h2, h3, h4⟩ := Fp.even_ok _ (Fp.rt_lt (mulE a a))
  have h5 : Fp.rt (mulE a a) * Fp.rt (mulE a a) % PP = a * a % PP := ((Fp.rt_ok _).2 hs).trans (mulE_mod a a)
  have h6 : Fp.even (Fp.rt (mulE a a)) * Fp.even (Fp.rt (mulE a a)) % PP = a * a % PP := by
    rcases h4 with h4 | h4
    · rw [h4, h5]
    · rw [← h5]
      have e1 : φ (Fp.even (Fp.rt (mulE a a))) + φ (Fp.rt (mulE a a)) = 0 := by
        rw [← φ_add, h4, ← φ_zero, φ_iff, PP_eq, Nat.mod_self, Nat.zero_mod]
      refine φ_iff.1 ?_
      rw [φ_mul, φ_mul]
      exact sq_ring _ _ e1
  have h7 : rootE (mulE a a) * rootE (mulE a a) % PP = a * a % PP := by rw [Nat.mul_mod, h1, h6]
  refine ⟨h1, h3, h7, fun hn => ?_, hs⟩
  rcases Fp.same_sq _ _ h7 with h | h
  · exact absurd h hn
  · exact h

theorem FieldRoots_true {R : Type} (N : Nat) (hN : 1000 < N) (A B : Nat) (yes : Bool) (r : Bool → Option R) : FieldRoots.M N R (nn (dig 256 32 A)) (nn (dig 256 32 B)) yes r = r true := by
  show FieldRoots.m (alive09.M N) (fRead.M N) (Square.M N) (eRoot.M N) (Same.M N) (Odd.M N) (eAdd.M N) (eZero.M N) (eTimes.M N) (ePick.M N) (rConstants.M N) (Curve.M N) (rCurve.M N) (same.M N) (BaseX.M N) (rBaseX.M N) (BaseY.M N) (rBaseY.M N) N _ _ yes r = _
  unfold FieldRoots.m
  have hN' : 100 < N := by omega
  have a := T_Q A
  have b := T_Q B
  rw [alive_eq N hN, fRead_eq N hN A, fRead_eq N hN B]
  generalize A % 57896044618658097711785492504343953926634992332820282019728792003956564819968 = x at *
  generalize B % 57896044618658097711785492504343953926634992332820282019728792003956564819968 = y at *
  have rest := rest_true N hN yes x y a b r
  obtain ⟨h1, h2, h3, h4, h5⟩ := root_sq x a
  have s1 := mulE_lt a a
  have s2 := rootE_lt (mulE x x) s1
  simp only [Bool.not_true, cond_false]
  rw [Square_eq N hN' x a, eRoot_eq N hN _ s1, if_pos h5, Bool.not_true, cond_false]
  generalize rootE (mulE x x) = u at *
  have s3 := mulE_lt s2 s2
  have s4 := addE_lt s2 a
  rw [Square_eq N hN' u s2, Square_eq N hN' x a, Same_eq N hN _ _ s3 s1, decide_eq_true (by rw [mulE_mod, mulE_mod, h3]), Bool.not_true, cond_false]
  rw [Odd_eq N hN' u s2, decide_eq_false (by rw [h1]; omega), cond_false, Same_eq N hN _ _ s2 a]
  by_cases h : u % PP = x % PP
  · rw [decide_eq_true h, Bool.not_true, cond_false]
    exact rest
  · rw [decide_eq_false h, Bool.not_false, cond_true, eAdd_eq N hN' _ _ s2 a, eZero_eq N hN _ s4, decide_eq_true (by rw [addE_mod]; exact h4 h), Bool.not_true, cond_false]
    exact rest

end Go.Proofs.YtganankiiipkgaaDoor.fn
