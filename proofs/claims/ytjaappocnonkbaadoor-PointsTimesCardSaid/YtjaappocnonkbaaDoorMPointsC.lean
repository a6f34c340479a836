/- Which bytes the program reads as which points. -/
import Derived.Test.YtjaappocnonkbaaDoorMPointsB
namespace Go.Proofs.YtjaappocnonkbaaDoor.fn
open Go Go.Proofs Go.Ev Go.Dg

theorem top_odd : ∀ x : Fin 256, (iand .u8 (x.val : Int) 128 != 0) = decide (128 ≤ x.val) := by decide +kernel

/-- What the root is taken of. -/
def uE (y : Nat) : Nat := mulE (subE (mulE y y) 1) (invE (addE (mulE DD (mulE y y)) 1))
theorem uE_den (y : Nat) (hy : y < 1852673427797059126777135760139006525652319754650249024631321344126610074238976) : addE (mulE DD (mulE y y)) 1 < 1852673427797059126777135760139006525652319754650249024631321344126610074238976 := addE_lt (mulE_lt rows_lt.1 (mulE_lt hy hy)) one_Q
theorem uE_lt (y : Nat) (hy : y < 1852673427797059126777135760139006525652319754650249024631321344126610074238976) : uE y < 1852673427797059126777135760139006525652319754650249024631321344126610074238976 := mulE_lt (subE_lt (mulE_lt hy hy)) (invE_rep _ (uE_den y hy)).lt
theorem φ_uE (y : Nat) (hy : y < 1852673427797059126777135760139006525652319754650249024631321344126610074238976) : φ (uE y) = uu (φ y) := by
  unfold uE uu dd
  rw [φ_mulE, φ_invE _ (uE_den y hy), φ_subE one_Q, φ_addE, φ_mulE, φ_mulE, φ_mulE, φ_one]
theorem uE_val (y : Nat) (hy : y < 1852673427797059126777135760139006525652319754650249024631321344126610074238976) : (uu (φ y)).val = uE y % PP := by rw [← φ_uE y hy]; rfl
theorem uE_sq (y : Nat) (hy : y < 1852673427797059126777135760139006525652319754650249024631321344126610074238976) : Fp.isSq (uu (φ y)).val ↔ Fp.isSq (uE y) := by rw [uE_val y hy]; exact Fp.isSq_mod _
theorem er_uE (y : Nat) (hy : y < 1852673427797059126777135760139006525652319754650249024631321344126610074238976) : er (uu (φ y)) = rootE (uE y) % PP := by
  unfold er
  rw [uE_val y hy, rt_mod, rootE_mod _ (uE_lt y hy)]
theorem φ_rootE (y : Nat) (hy : y < 1852673427797059126777135760139006525652319754650249024631321344126610074238976) : φ (rootE (uE y)) = φ (er (uu (φ y))) := by rw [er_uE y hy, φ_mod]

theorem beq40 : (!Nat.beq 4 0) = true := rfl
theorem beq00 : (!Nat.beq 0 0) = false := rfl

open Classical in
theorem pRead_as {R : Type} (N : Nat) (hN : 1000 < N) (B : Nat) (hB : B < 256 ^ 32) (r : List Int → List Int → List Int → List Int → Nat → Option R) :
    pRead.M N R (nn (dig 256 32 B)) r =
      if B % 57896044618658097711785492504343953926634992332820282019728792003956564819968 < PP then
        if Fp.isSq (uE (B % 57896044618658097711785492504343953926634992332820282019728792003956564819968)) then
          if 57896044618658097711785492504343953926634992332820282019728792003956564819968 ≤ B then (if rootE (uE (B % 57896044618658097711785492504343953926634992332820282019728792003956564819968)) % PP = 0 then r (E 0) (E 0) (E 0) (E 0) 4 else r (E (subE 0 (rootE (uE (B % 57896044618658097711785492504343953926634992332820282019728792003956564819968))))) (E (B % 57896044618658097711785492504343953926634992332820282019728792003956564819968)) (E 1) (E (mulE (subE 0 (rootE (uE (B % 57896044618658097711785492504343953926634992332820282019728792003956564819968)))) (B % 57896044618658097711785492504343953926634992332820282019728792003956564819968))) 0)
          else r (E (rootE (uE (B % 57896044618658097711785492504343953926634992332820282019728792003956564819968)))) (E (B % 57896044618658097711785492504343953926634992332820282019728792003956564819968)) (E 1) (E (mulE (rootE (uE (B % 57896044618658097711785492504343953926634992332820282019728792003956564819968))) (B % 57896044618658097711785492504343953926634992332820282019728792003956564819968))) 0
        else r (E 0) (E 0) (E 0) (E 0) 4
      else r (E 0) (E 0) (E 0) (E 0) 4 := by
  have hN' : 100 < N := by omega
  have hT := T_Q B
  have hT2 : B % 57896044618658097711785492504343953926634992332820282019728792003956564819968 < 256 ^ 32 := Nat.lt_of_le_of_lt (Nat.mod_le _ _) hB
  show pRead.m (Strict.M N) (Square.M N) (Small.M N) (eSub.M N) (Curve.M N) (eTimes.M N) (eAdd.M N) (eInvert.M N) (eRoot.M N) (eZero.M N) (pat.M N) N _ r = _
  unfold pRead.m
  have h1 := (top_bits ⟨B / 256 ^ 31 % 256, Nat.mod_lt _ (by decide)⟩).1
  have h2 := top_odd ⟨B / 256 ^ 31 % 256, Nat.mod_lt _ (by decide)⟩
  simp only at h1 h2
  rw [top_get, h1, h2, top_low, Strict_eq N hN _ hT2, zeros10]
  have ho : decide (128 ≤ B / 256 ^ 31 % 256) = decide (57896044618658097711785492504343953926634992332820282019728792003956564819968 ≤ B) := by rw [Bool.eq_iff_iff, decide_eq_true_iff, decide_eq_true_iff]; exact top_high B hB
  rw [ho]
  generalize B % 57896044618658097711785492504343953926634992332820282019728792003956564819968 = y at *
  by_cases c1 : y < PP
  · have l1 := mulE_lt hT hT
    have l2 := subE_lt (b := 1) l1
    have l3 := mulE_lt rows_lt.1 l1
    have l4 := addE_lt l3 one_Q
    have l5 := (invE_rep _ l4).lt
    have l6 := mulE_lt l2 l5
    rw [if_pos c1, if_pos c1, beq00, cond_false, Square_eq N hN' _ hT, Small1 N hN', eSub_eq N hN' _ _ l1 one_Q]
    show eTimes.M N R _ _ _ = _
    rw [rowDE, eTimes_eq N hN' _ _ rows_lt.1 l1, eAdd_eq N hN' _ _ l3 one_Q, eInvert_eq N hN _ l4, eTimes_eq N hN' _ _ l2 l5]
    rw [show mulE (subE (mulE y y) 1) (invE (addE (mulE DD (mulE y y)) 1)) = uE y from rfl] at l6 ⊢
    rw [eRoot_eq N hN _ l6]
    have l7 := rootE_lt _ l6
    by_cases c2 : Fp.isSq (uE y)
    · rw [if_pos c2, if_pos c2, Bool.not_true, cond_false]
      obtain ⟨_, ep⟩ := pat_eq (R := R) N hN' (rootE (uE y)) y l7 hT
      by_cases c3 : 57896044618658097711785492504343953926634992332820282019728792003956564819968 ≤ B
      · have l8 := subE_lt (b := rootE (uE y)) zero_Q
        obtain ⟨_, eq⟩ := pat_eq (R := R) N hN' (subE 0 (rootE (uE y))) y l8 hT
        rw [if_pos c3, decide_eq_true c3, cond_true, eZero_eq N hN _ l7]
        by_cases c4 : rootE (uE y) % PP = 0
        · rw [if_pos c4, decide_eq_true c4, cond_true]
        · rw [if_neg c4, decide_eq_false c4, cond_false, cond_true, Small0 N hN', eSub_eq N hN' _ _ zero_Q l7, eq]
      · rw [if_neg c3, decide_eq_false c3, cond_false, cond_false, ep]
    · rw [if_neg c2, if_neg c2, Bool.not_false, cond_true]
  · rw [if_neg c1, if_neg c1, beq40, cond_true]

open Classical in
theorem dec_as (B : Nat) : dec B =
      if B % 57896044618658097711785492504343953926634992332820282019728792003956564819968 < PP then
        if Fp.isSq (uE (B % 57896044618658097711785492504343953926634992332820282019728792003956564819968)) then
          if 57896044618658097711785492504343953926634992332820282019728792003956564819968 ≤ B then (if rootE (uE (B % 57896044618658097711785492504343953926634992332820282019728792003956564819968)) % PP = 0 then none else some (φ (subE 0 (rootE (uE (B % 57896044618658097711785492504343953926634992332820282019728792003956564819968)))), φ (B % 57896044618658097711785492504343953926634992332820282019728792003956564819968)))
          else some (φ (rootE (uE (B % 57896044618658097711785492504343953926634992332820282019728792003956564819968))), φ (B % 57896044618658097711785492504343953926634992332820282019728792003956564819968))
        else none
      else none := by
  have hT := T_Q B
  have l7 := rootE_lt _ (uE_lt _ hT)
  have h1 := uE_sq _ hT
  have h2 := φ_rootE _ hT
  have h3 := er_uE _ hT
  unfold dec
  rw [φ_subE l7, φ_zero]
  by_cases c1 : B % 57896044618658097711785492504343953926634992332820282019728792003956564819968 < PP
  · rw [if_pos c1, if_pos c1]
    by_cases c2 : Fp.isSq (uE (B % 57896044618658097711785492504343953926634992332820282019728792003956564819968))
    · rw [if_pos c2, if_pos (h1.2 c2)]
      by_cases c3 : 57896044618658097711785492504343953926634992332820282019728792003956564819968 ≤ B
      · rw [if_pos c3, if_pos c3]
        by_cases c4 : rootE (uE (B % 57896044618658097711785492504343953926634992332820282019728792003956564819968)) % PP = 0
        · rw [if_pos c4, if_pos (h3.trans c4)]
        · rw [if_neg c4, if_neg (fun h => c4 (h3.symm.trans h)), h2]
      · rw [if_neg c3, if_neg c3, h2]
    · rw [if_neg c2, if_neg (fun h => c2 (h1.1 h))]
  · rw [if_neg c1, if_neg c1]

theorem pRead_none {R : Type} (N : Nat) (hN : 1000 < N) (B : Nat) (hB : B < 256 ^ 32) (h : dec B = none) (r : List Int → List Int → List Int → List Int → Nat → Option R) :
    pRead.M N R (nn (dig 256 32 B)) r = r (E 0) (E 0) (E 0) (E 0) 4 := by
  rw [pRead_as N hN B hB]
  rw [dec_as] at h
  split
  · rename_i c1
    rw [if_pos c1] at h
    split
    · rename_i c2
      rw [if_pos c2] at h
      split
      · rename_i c3
        rw [if_pos c3] at h
        split
        · rfl
        · rename_i c4
          rw [if_neg c4] at h
          cases h
      · rename_i c3
        rw [if_neg c3] at h
        cases h
    · rfl
  · rfl

theorem pRead_some {R : Type} (N : Nat) (hN : 1000 < N) (B : Nat) (hB : B < 256 ^ 32) {p : F × F} (h : dec B = some p) :
    ∃ a b c d, PP4 p a b c d ∧ ∀ r : List Int → List Int → List Int → List Int → Nat → Option R, pRead.M N R (nn (dig 256 32 B)) r = r (E a) (E b) (E c) (E d) 0 := by
  have hT := T_Q B
  have hN' : 100 < N := by omega
  have l7 := rootE_lt _ (uE_lt _ hT)
  rw [dec_as] at h
  by_cases c1 : B % 57896044618658097711785492504343953926634992332820282019728792003956564819968 < PP
  · rw [if_pos c1] at h
    by_cases c2 : Fp.isSq (uE (B % 57896044618658097711785492504343953926634992332820282019728792003956564819968))
    · rw [if_pos c2] at h
      by_cases c3 : 57896044618658097711785492504343953926634992332820282019728792003956564819968 ≤ B
      · rw [if_pos c3] at h
        by_cases c4 : rootE (uE (B % 57896044618658097711785492504343953926634992332820282019728792003956564819968)) % PP = 0
        · rw [if_pos c4] at h; cases h
        · rw [if_neg c4] at h
          cases h
          obtain ⟨p, _⟩ := pat_eq (R := R) N hN' (subE 0 (rootE (uE (B % 57896044618658097711785492504343953926634992332820282019728792003956564819968)))) (B % 57896044618658097711785492504343953926634992332820282019728792003956564819968) (subE_lt zero_Q) hT
          exact ⟨_, _, _, _, p, fun r => by rw [pRead_as N hN B hB, if_pos c1, if_pos c2, if_pos c3, if_neg c4]⟩
      · rw [if_neg c3] at h
        cases h
        obtain ⟨p, _⟩ := pat_eq (R := R) N hN' (rootE (uE (B % 57896044618658097711785492504343953926634992332820282019728792003956564819968))) (B % 57896044618658097711785492504343953926634992332820282019728792003956564819968) l7 hT
        exact ⟨_, _, _, _, p, fun r => by rw [pRead_as N hN B hB, if_pos c1, if_pos c2, if_neg c3]⟩
    · rw [if_neg c2] at h; cases h
  · rw [if_neg c1] at h; cases h

end Go.Proofs.YtjaappocnonkbaaDoor.fn
