/- What the field's laws of sums, readings and inverses say is so. -/
import Derived.Test.YtganankiiipkgaaDoorMFieldG
import Derived.Test.YtganankiiipkgaaDoorFnFieldL
namespace Go.Proofs.YtganankiiipkgaaDoor.fn
open Go Go.Proofs Go.Ev Go.Dg

/-! ### the field -/

instance nzPP : NeZero PP := ⟨Nat.pos_iff_ne_zero.1 PP_pos⟩
/-- The numbers modulo p. -/
abbrev F := Fin PP
noncomputable instance : Lean.Grind.CommRing F := inferInstance
def φ (x : Nat) : F := ⟨x % PP, Nat.mod_lt _ PP_pos⟩

theorem φ_iff {x y : Nat} : φ x = φ y ↔ x % PP = y % PP := by simp [φ]
theorem φ_zero_iff {x : Nat} : x % PP = 0 ↔ φ x = φ 0 := by rw [φ_iff, Nat.zero_mod]
theorem φ_mod (x : Nat) : φ (x % PP) = φ x := φ_iff.2 (Nat.mod_mod _ _)
theorem φ_add (x y : Nat) : φ (x + y) = φ x + φ y := Fin.ext (Nat.add_mod x y PP)
theorem φ_mul (x y : Nat) : φ (x * y) = φ x * φ y := Fin.ext (Nat.mul_mod x y PP)
theorem φ_sub (x y : Nat) : φ (x + (PP - y % PP)) = φ x - φ y := by
  apply Fin.ext
  show (x + (PP - y % PP)) % PP = (PP - y % PP + x % PP) % PP
  rw [Nat.add_mod_mod, Nat.add_comm]
theorem φ_zero : φ 0 = 0 := rfl
theorem φ_one : φ 1 = 1 := rfl
theorem φ_addE (x y : Nat) : φ (addE x y) = φ x + φ y := by rw [φ_iff.2 (addE_mod x y), φ_add]
theorem φ_mulE (x y : Nat) : φ (mulE x y) = φ x * φ y := by rw [φ_iff.2 (mulE_mod x y), φ_mul]
theorem φ_subE {x y : Nat} (h : y < 1852673427797059126777135760139006525652319754650249024631321344126610074238976) : φ (subE x y) = φ x - φ y := by rw [φ_iff.2 (subE_mod h), φ_sub]

section ring
variable {α : Type} [Lean.Grind.CommRing α]
theorem up_zero (u x : α) : u = u + 0 * x := by grind
theorem up_ring (u b c n : α) : u + b - c + n * (b - c) = u + (n + 1) * (b - c) := by grind
theorem down_ring (u b c n : α) : u - b + c + n * (c - b) = u + (n + 1) * (c - b) := by grind
theorem back_ring (u b c n : α) : u + n * (b - c) + n * (c - b) = u := by grind
theorem dist_ring (a b c : α) : (a + b) * c = c * b + a * c := by grind
theorem neg_ring (a b : α) : a - b = 0 - (b - a) := by grind
theorem comm_ring (a b : α) : a * b = b * a := by grind
end ring
theorem natF_zero : φ 0 = 0 := rfl
theorem natF_succ (d : Nat) : φ (d + 1) = φ d + 1 := φ_add d 1

/-! ### the same in both -/

theorem same_eq {R : Type} (N : Nat) (hN : 1000 < N) (a v : Nat) (ha : a < 1852673427797059126777135760139006525652319754650249024631321344126610074238976) (hv : v < M256) (r : Bool → Option R) : same.M N R (E a) (U v) r = r (decide (a % PP = v)) := by
  show same.m (eBytes.M N) (rBytes.M N) N (E a) (U v) r = _
  unfold same.m
  rw [eBytes_eq N hN a ha, rBytes_eq N (by omega) v, beq_row (lt256 _) (by rw [PP_256.2]; exact hv)]

theorem alive_row : ∃ w, w = nn (dig 256 32 (smallE (-1) % PP)) ∧ (w.getD 0 0 == 236 && (w.getD 1 0 == 255 && w.getD 31 0 == 127)) = true := ⟨_, rfl, by decide +kernel⟩

theorem alive_eq {R : Type} (N : Nat) (hN : 1000 < N) (r : Bool → Option R) : alive09.M N R r = r true := by
  show alive09.m (Small.M N) (eBytes.M N) N r = _
  unfold alive09.m
  rw [Small_eq N (by omega) (-1) (by omega), eBytes_eq N hN _ (smallE_lt _ (by omega))]
  obtain ⟨w, hw, h⟩ := alive_row
  rw [← hw]
  simp only [Bool.and_eq_true] at h
  rw [h.1, h.2.1, h.2.2]
  rfl

theorem T_Q (B : Nat) : B % 57896044618658097711785492504343953926634992332820282019728792003956564819968 < 1852673427797059126777135760139006525652319754650249024631321344126610074238976 := Nat.lt_trans (Nat.mod_lt _ (by decide)) (by decide)

/-! ### sums -/

theorem FieldSums_true {R : Type} (N : Nat) (hN : 1000 < N) (A B : Nat) (hA : A < 256 ^ 32) (hB : B < 256 ^ 32) (r : Bool → Option R) : FieldSums.M N R (nn (dig 256 32 A)) (nn (dig 256 32 B)) r = r true := by
  show FieldSums.m (alive09.M N) (fRead.M N) (rMasked.M N) (eAdd.M N) (rAdd.M N) (same.M N) (eSub.M N) (rSub.M N) (eTimes.M N) (rTimes.M N) (Square.M N) (Same.M N) N _ _ r = _
  unfold FieldSums.m
  have hN' : 100 < N := by omega
  rw [PP_256.2] at hA hB
  have a := T_Q A
  have b := T_Q B
  rw [alive_eq N hN, fRead_eq N hN A, fRead_eq N hN B, rMasked_eq N hN' A hA, rMasked_eq N hN' B hB]
  generalize A % 57896044618658097711785492504343953926634992332820282019728792003956564819968 = x at *
  generalize B % 57896044618658097711785492504343953926634992332820282019728792003956564819968 = y at *
  have hx := PP_lt_M x
  have hy := PP_lt_M y
  have c1 : addE x y % PP = (x % PP + y % PP) % PP := by rw [addE_mod, Nat.add_mod]
  have c2 : subE x y % PP = (x % PP + (PP - y % PP % PP)) % PP := by rw [subE_mod b, Nat.mod_mod, Nat.mod_add_mod]
  have c3 : ∀ x y : Nat, mulE x y % PP = (x % PP * (y % PP)) % PP := fun x y => by rw [mulE_mod, Nat.mul_mod]
  simp only [Bool.not_true, cond_false]
  rw [eAdd_eq N hN' _ _ a b, rAdd_eq N hN' _ _ hx hy, same_eq N hN _ _ (addE_lt a b) (PP_lt_M _), decide_eq_true c1, cond_true]
  rw [eSub_eq N hN' _ _ a b, rSub_eq N hN' _ _ hx hy, same_eq N hN _ _ (subE_lt a) (PP_lt_M _), decide_eq_true c2, cond_true]
  rw [eTimes_eq N hN' _ _ a b, rTimes_eq N hN' _ _ hx hy, same_eq N hN _ _ (mulE_lt a b) (PP_lt_M _), decide_eq_true (c3 _ _), cond_true]
  rw [Square_eq N hN' _ a, rTimes_eq N hN' _ _ hx hx, same_eq N hN _ _ (mulE_lt a a) (PP_lt_M _), decide_eq_true (c3 _ _), cond_true]
  rw [Same_eq N hN _ _ a b, U_beq hx hy]
  simp only [beq_self_eq_true, cond_true]
  rw [Same_eq N hN _ _ a a, decide_eq_true rfl]

/-! ### readings -/

theorem Num_4 {R : Type} (N : Nat) (hN : 30 ≤ N) (r : Int → Option R) : Num.M N R 4 r = r 4 := by
  obtain ⟨M, rfl⟩ : ∃ M, N = M + 30 := ⟨N - 30, by omega⟩
  kernel_rfl

theorem reads_tail {R : Type} (N : Nat) (hN : 1000 < N) (x : Nat) (hx : x < 1852673427797059126777135760139006525652319754650249024631321344126610074238976) (n : Int) (hn : -9223372036854775808 ≤ n ∧ n < 9223372036854775808) (r : Bool → Option R) :
    (Small.M N R n fun v_c26 => rSmall.M N R n fun v_c27 => same.M N R v_c26 v_c27 fun v_c28 => cond v_c28
                       (Odd.M N R (E x)
                        (fun v_c29 => cond (v_c29 == (((U (x % PP)).getD 0 0).tmod 2 == 1))
                         (eZero.M N R (E x)
                          (fun v_c30 => r (v_c30 == (U (x % PP) == [0, 0, 0, 0, 0, 0, 0, 0]))))
                         (r false)))
                       (r false)) = r true := by
  have hN' : 100 < N := by omega
  have hM := PP_M.1
  have hP := PP_big
  have hb := PP_lt_M x
  have hP2 : 100000000000000000000 < PP := by decide +kernel
  rw [Small_eq N hN' n hn, rSmall_eq N hN' n hn, same_eq N hN _ _ (smallE_lt n hn) (by split <;> omega), decide_eq_true (smallE_mod n hn), cond_true, Odd_eq N hN' x hx, U_odd _ hb]
  have e : (((x % PP % 2 : Nat) : Int) == 1) = decide (x % PP % 2 = 1) := by
    rw [Bool.eq_iff_iff, beq_iff_eq, decide_eq_true_iff]; omega
  rw [e, eZero_eq N hN x hx, zeros8', U_beq hb (by omega)]
  simp

theorem FieldReads_true {R : Type} (N : Nat) (hN : 1000 < N) (B : Nat) (hB : B < 256 ^ 32) (n : Int) (hn : -9223372036854775808 ≤ n ∧ n < 9223372036854775808) (r : Bool → Option R) : FieldReads.M N R (nn (dig 256 32 B)) n r = r true := by
  show FieldReads.m (alive09.M N) (rMasked.M N) (fRead.M N) (rBytes.M N) (Strict.M N) (same.M N) (eZero.M N) (Num.M N) (Small.M N) (rSmall.M N) (Odd.M N) N _ n r = _
  unfold FieldReads.m
  have hN' : 100 < N := by omega
  have hB' := hB
  rw [PP_256.2] at hB'
  have b := T_Q B
  have hx := PP_lt_M (B % 57896044618658097711785492504343953926634992332820282019728792003956564819968)
  have hPT := PP_T
  rw [alive_eq N hN, rMasked_eq N hN' B hB', fRead_eq N hN B, rBytes_eq N hN', Strict_eq N hN B hB]
  simp only [Bool.not_true, cond_false]
  have tail := reads_tail N hN (B % 57896044618658097711785492504343953926634992332820282019728792003956564819968) b n hn r
  have e1 : (nn (dig 256 32 (B % 57896044618658097711785492504343953926634992332820282019728792003956564819968 % PP)) == nn (dig 256 32 B)) = decide (B < PP) := by
    rw [beq_row (lt256 _) hB, Bool.eq_iff_iff, decide_eq_true_iff, decide_eq_true_iff]
    have hlt := Nat.mod_lt (B % 57896044618658097711785492504343953926634992332820282019728792003956564819968) PP_pos
    constructor
    · intro h; omega
    · intro h
      rw [Nat.mod_eq_of_lt (show B < 57896044618658097711785492504343953926634992332820282019728792003956564819968 by omega), Nat.mod_eq_of_lt h]
  rw [e1]
  by_cases h : B < PP
  · rw [if_pos h, decide_eq_true h]
    have e2 : B % 57896044618658097711785492504343953926634992332820282019728792003956564819968 = B := Nat.mod_eq_of_lt (by omega)
    have e3 : B % PP = B := Nat.mod_eq_of_lt h
    rw [same_eq N hN _ _ b hx, decide_eq_true rfl]
    rw [e2] at tail hx b ⊢
    simp only [Bool.not_true, cond_false, cond_true, show Nat.beq 0 0 = true from rfl, beq_self_eq_true]
    rw [same_eq N hN _ _ b hx, decide_eq_true rfl]
    simp only [Bool.not_true, cond_false]
    exact tail
  · rw [if_neg h, decide_eq_false h]
    rw [same_eq N hN _ _ b hx, decide_eq_true rfl]
    simp only [Bool.not_true, cond_false, cond_true, show Nat.beq 4 0 = false from rfl, beq_self_eq_true, Bool.not_false]
    rw [eZero_eq N hN 0 (by decide), decide_eq_true (Nat.zero_mod _)]
    simp only [Bool.not_true, cond_false]
    rw [Num_4 N (by omega)]
    simp only [show ((4 : Int) != 4) = false from rfl, cond_false]
    exact tail

/-! ### inverses and roots -/

theorem rt_mod (x : Nat) : Fp.rt (x % PP) = Fp.rt x := by
  have h : ∀ e, (x % PP) ^ e % PP = x ^ e % PP := fun e => (Nat.pow_mod x e PP).symm
  have h2 : ∀ e, (x % PP) ^ e * (x % PP) ^ e % PP = x ^ e * x ^ e % PP := fun e => by rw [Nat.mul_mod, h, ← Nat.mul_mod]
  have h3 : ∀ e z, (x % PP) ^ e * z % PP = x ^ e * z % PP := fun e z => by rw [Nat.mul_mod, h, ← Nat.mul_mod]
  obtain ⟨_, e8, _, _, _, hrt⟩ := the_eighth
  rw [hrt, hrt, h2, h3, h, Nat.mod_mod]
theorem even_lt (x : Nat) : Fp.even (Fp.rt x) < M256 := by
  have h1 := (Fp.even_ok _ (Fp.rt_lt x)).1
  have h2 : Fp.PP < M256 := PP_M.1
  omega

theorem FieldInverts_true {R : Type} (N : Nat) (hN : 1000 < N) (A : Nat) (hA : A < 256 ^ 32) (r : Bool → Option R) : FieldInverts.M N R (nn (dig 256 32 A)) r = r true := by
  show FieldInverts.m (alive09.M N) (fRead.M N) (rMasked.M N) (eInvert.M N) (rInvert.M N) (same.M N) (eRoot.M N) (rRoot.M N) N _ r = _
  unfold FieldInverts.m
  have hN' : 100 < N := by omega
  rw [PP_256.2] at hA
  have a := T_Q A
  rw [alive_eq N hN, fRead_eq N hN A, rMasked_eq N hN' A hA]
  generalize A % 57896044618658097711785492504343953926634992332820282019728792003956564819968 = x at *
  have hx := PP_lt_M x
  have hi := invE_rep x a
  simp only [Bool.not_true, cond_false]
  rw [eInvert_eq N hN x a, rInvert_eq N hN _ hx, same_eq N hN _ _ hi.lt (PP_lt_M _), hi.eq, ← Nat.pow_mod, decide_eq_true rfl]
  simp only [Bool.not_true, cond_false]
  rw [eRoot_eq N hN x a, rRoot_eq N hN _ hx, rRoot_eq N hN _ hx]
  have hs : Fp.isSq (x % PP) ↔ Fp.isSq x := Fp.isSq_mod x
  have hr : Fp.rt (x % PP) = Fp.rt x := rt_mod x
  by_cases h : Fp.isSq x
  · rw [if_pos h, if_pos (hs.2 h)]
    simp only [beq_self_eq_true, cond_true]
    rw [same_eq N hN _ _ (rootE_lt x a) (even_lt _), rootE_mod x a, hr, decide_eq_true rfl]
  · rw [if_neg h, if_neg (fun q => h (hs.1 q))]
    simp only [beq_self_eq_true, cond_true]
    rw [same_eq N hN _ _ (by decide) (by decide +kernel), Nat.zero_mod, decide_eq_true rfl]

/-! ### chains -/

theorem up_loop {R : Type} (N : Nat) (hN : 1000 < N) (ke : Int → List Int → List Int → List Int → List Int → List Int → Option R) (a b c : Nat) (_ha : a < 1852673427797059126777135760139006525652319754650249024631321344126610074238976) (hb : b < 1852673427797059126777135760139006525652319754650249024631321344126610074238976) (hc : c < 1852673427797059126777135760139006525652319754650249024631321344126610074238976) :
    ∀ (d i m u v : Nat), i + d = 40 → d < m → u < 1852673427797059126777135760139006525652319754650249024631321344126610074238976 → v < 1852673427797059126777135760139006525652319754650249024631321344126610074238976 →
      ∃ u' v' : Nat, u' < 1852673427797059126777135760139006525652319754650249024631321344126610074238976 ∧ v' < 1852673427797059126777135760139006525652319754650249024631321344126610074238976 ∧ φ u' = φ u + φ d * (φ b - φ c) ∧
        FieldChains.L7 (alive09.M N) (fRead.M N) (eAdd.M N) (eSub.M N) (eTimes.M N) (Same.M N) (Small.M N) (eZero.M N) (eInvert.M N) N ke m (i : Int) (E a) (E b) (E c) (E u) (E v) = ke 40 (E a) (E b) (E c) (E u') (E v') := by
  have hN' : 100 < N := by omega
  intro d
  induction d with
  | zero =>
    intro i m u v h hm hu hv
    obtain ⟨m, rfl⟩ : ∃ k, m = k + 1 := ⟨m - 1, by omega⟩
    obtain rfl : i = 40 := by omega
    refine ⟨u, v, hu, hv, ?_, ?_⟩
    · rw [natF_zero]; exact up_zero _ _
    · unfold FieldChains.L7
      rw [decide_eq_false (by omega), cond_false]
      rfl
  | succ d ih =>
    intro i m u v h hm hu hv
    obtain ⟨m, rfl⟩ : ∃ k, m = k + 1 := ⟨m - 1, by omega⟩
    have s1 := addE_lt hu hb
    have s2 := subE_lt (b := c) s1
    have s3 := mulE_lt hv hb
    have s4 := addE_lt s3 hc
    obtain ⟨u', v', hu', hv', h1, h2⟩ := ih (i + 1) m _ _ (by omega) (by omega) s2 s4
    refine ⟨u', v', hu', hv', ?_, ?_⟩
    · rw [h1, φ_subE hc, φ_addE, natF_succ]
      exact up_ring _ _ _ _
    · unfold FieldChains.L7
      rw [decide_eq_true (by omega), cond_true, eAdd_eq N hN' _ _ hu hb, eSub_eq N hN' _ _ s1 hc, eTimes_eq N hN' _ _ hv hb, eAdd_eq N hN' _ _ s3 hc, wrap_i64z _ (by omega) (by omega), show ((i : Int) + 1) = ((i + 1 : Nat) : Int) by omega]
      exact h2

theorem down_loop {R : Type} (N : Nat) (hN : 1000 < N) (ke : Int → List Int → List Int → List Int → List Int → List Int → Option R) (a b c w : Nat) (hb : b < 1852673427797059126777135760139006525652319754650249024631321344126610074238976) (hc : c < 1852673427797059126777135760139006525652319754650249024631321344126610074238976) :
    ∀ (d i m u : Nat), i + d = 40 → d < m → u < 1852673427797059126777135760139006525652319754650249024631321344126610074238976 →
      ∃ u' : Nat, u' < 1852673427797059126777135760139006525652319754650249024631321344126610074238976 ∧ φ u' = φ u + φ d * (φ c - φ b) ∧
        FieldChains.L13 (alive09.M N) (fRead.M N) (eAdd.M N) (eSub.M N) (eTimes.M N) (Same.M N) (Small.M N) (eZero.M N) (eInvert.M N) N ke m (i : Int) (E a) (E b) (E c) (E w) (E u) = ke 40 (E a) (E b) (E c) (E w) (E u') := by
  have hN' : 100 < N := by omega
  intro d
  induction d with
  | zero =>
    intro i m u h hm hu
    obtain ⟨m, rfl⟩ : ∃ k, m = k + 1 := ⟨m - 1, by omega⟩
    obtain rfl : i = 40 := by omega
    refine ⟨u, hu, ?_, ?_⟩
    · rw [natF_zero]; exact up_zero _ _
    · unfold FieldChains.L13
      rw [decide_eq_false (by omega), cond_false]
      rfl
  | succ d ih =>
    intro i m u h hm hu
    obtain ⟨m, rfl⟩ : ∃ k, m = k + 1 := ⟨m - 1, by omega⟩
    have s1 := subE_lt (b := b) hu
    have s2 := addE_lt s1 hc
    obtain ⟨u', hu', h1, h2⟩ := ih (i + 1) m _ (by omega) (by omega) s2
    refine ⟨u', hu', ?_, ?_⟩
    · rw [h1, φ_addE, φ_subE hb, natF_succ]
      exact down_ring _ _ _ _
    · unfold FieldChains.L13
      rw [decide_eq_true (by omega), cond_true, eSub_eq N hN' _ _ hu hb, eAdd_eq N hN' _ _ s1 hc, wrap_i64z _ (by omega) (by omega), show ((i : Int) + 1) = ((i + 1 : Nat) : Int) by omega]
      exact h2

theorem FieldChains_true {R : Type} (N : Nat) (hN : 1000 < N) (A B C : Nat) (r : Bool → Option R) : FieldChains.M N R (nn (dig 256 32 A)) (nn (dig 256 32 B)) (nn (dig 256 32 C)) r = r true := by
  show FieldChains.m (alive09.M N) (fRead.M N) (eAdd.M N) (eSub.M N) (eTimes.M N) (Same.M N) (Small.M N) (eZero.M N) (eInvert.M N) N _ _ _ r = _
  unfold FieldChains.m
  have hN' : 100 < N := by omega
  have a := T_Q A
  have b := T_Q B
  have c := T_Q C
  rw [alive_eq N hN, fRead_eq N hN A, fRead_eq N hN B, fRead_eq N hN C]
  generalize A % 57896044618658097711785492504343953926634992332820282019728792003956564819968 = x at *
  generalize B % 57896044618658097711785492504343953926634992332820282019728792003956564819968 = y at *
  generalize C % 57896044618658097711785492504343953926634992332820282019728792003956564819968 = z at *
  simp only [Bool.not_true, cond_false]
  obtain ⟨u, v, hu, hv, e1, e2⟩ := up_loop N hN (fun _t25_c71 h0_c72 h1_c73 h2_c74 h3_c75 h4_c76 => FieldChains.L13 (alive09.M N) (fRead.M N) (eAdd.M N) (eSub.M N) (eTimes.M N) (Same.M N) (Small.M N) (eZero.M N) (eInvert.M N) N
         (fun _t39_c79 h0_c80 h1_c81 h2_c82 h3_c83 h4_c84 => eAdd.M N R h0_c80 h1_c81
          (fun v_c85 => eTimes.M N R v_c85 h2_c82
           (fun v_c86 => eTimes.M N R h2_c82 h1_c81
            (fun v_c87 => eTimes.M N R h0_c80 h2_c82
             (fun v_c88 => eAdd.M N R v_c87 v_c88
              (fun v_c89 => Same.M N R h4_c84 h0_c80
               (fun v_c90 => cond v_c90
                (Same.M N R v_c86 v_c89
                 (fun v_c91 => cond v_c91
                  (eSub.M N R h0_c80 h1_c81
                   (fun v_c92 => Small.M N R 0
                    (fun v_c93 => eSub.M N R h1_c81 h0_c80
                     (fun v_c94 => eSub.M N R v_c93 v_c94
                      (fun v_c95 => Same.M N R v_c92 v_c95
                       (fun v_c96 => cond v_c96
                        (eTimes.M N R h3_c83 h2_c82
                         (fun v_c97 => eTimes.M N R h2_c82 h3_c83
                          (fun v_c98 => Same.M N R v_c97 v_c98
                           (fun v_c99 => cond v_c99
                            (eZero.M N R h0_c80
                             (fun v_c100 => cond v_c100
                              (r true)
                              (eInvert.M N R h0_c80
                               (fun v_c101 => eTimes.M N R h0_c80 v_c101
                                (fun v_c102 => Small.M N R 1
                                 (fun v_c103 => Same.M N R v_c102 v_c103
                                  (fun v_c104 => r v_c104)))))))
                            (r false)))))
                        (r false)))))))
                  (r false)))
                (r false)))))))) N 0 h0_c72 h1_c73 h2_c74 h4_c76 h3_c75) x y z a b c 40 0 N x x rfl (by omega) a a
  refine Eq.trans e2 ?_
  show FieldChains.L13 (alive09.M N) (fRead.M N) (eAdd.M N) (eSub.M N) (eTimes.M N) (Same.M N) (Small.M N) (eZero.M N) (eInvert.M N) N _ N ((0 : Nat) : Int) _ _ _ _ _ = _
  obtain ⟨w, hw, f1, f2⟩ := down_loop N hN (fun _t39_c79 h0_c80 h1_c81 h2_c82 h3_c83 h4_c84 => eAdd.M N R h0_c80 h1_c81
          (fun v_c85 => eTimes.M N R v_c85 h2_c82
           (fun v_c86 => eTimes.M N R h2_c82 h1_c81
            (fun v_c87 => eTimes.M N R h0_c80 h2_c82
             (fun v_c88 => eAdd.M N R v_c87 v_c88
              (fun v_c89 => Same.M N R h4_c84 h0_c80
               (fun v_c90 => cond v_c90
                (Same.M N R v_c86 v_c89
                 (fun v_c91 => cond v_c91
                  (eSub.M N R h0_c80 h1_c81
                   (fun v_c92 => Small.M N R 0
                    (fun v_c93 => eSub.M N R h1_c81 h0_c80
                     (fun v_c94 => eSub.M N R v_c93 v_c94
                      (fun v_c95 => Same.M N R v_c92 v_c95
                       (fun v_c96 => cond v_c96
                        (eTimes.M N R h3_c83 h2_c82
                         (fun v_c97 => eTimes.M N R h2_c82 h3_c83
                          (fun v_c98 => Same.M N R v_c97 v_c98
                           (fun v_c99 => cond v_c99
                            (eZero.M N R h0_c80
                             (fun v_c100 => cond v_c100
                              (r true)
                              (eInvert.M N R h0_c80
                               (fun v_c101 => eTimes.M N R h0_c80 v_c101
                                (fun v_c102 => Small.M N R 1
                                 (fun v_c103 => Same.M N R v_c102 v_c103
                                  (fun v_c104 => r v_c104)))))))
                            (r false)))))
                        (r false)))))))
                  (r false)))
                (r false)))))))) x y z v b c 40 0 N u rfl (by omega) hu
  refine Eq.trans f2 ?_
  have l1 := addE_lt a b
  have l2 := mulE_lt l1 c
  have l3 := mulE_lt c b
  have l4 := mulE_lt a c
  have l5 := addE_lt l3 l4
  have l6 := subE_lt (b := y) a
  have l7 := subE_lt (b := x) b
  have s0 : smallE 0 = 0 := rfl
  have s1 : smallE 1 = 1 := rfl
  have hz : (0 : Nat) < 1852673427797059126777135760139006525652319754650249024631321344126610074238976 := by decide
  have l8 := subE_lt (b := subE y x) hz
  have l9 := mulE_lt hv c
  have l10 := mulE_lt c hv
  have hi := invE_rep x a
  have l11 := mulE_lt a hi.lt
  rw [eAdd_eq N hN' _ _ a b, eTimes_eq N hN' _ _ l1 c, eTimes_eq N hN' _ _ c b, eTimes_eq N hN' _ _ a c, eAdd_eq N hN' _ _ l3 l4]
  rw [Same_eq N hN _ _ hw a, decide_eq_true (φ_iff.1 (by rw [f1, e1]; exact back_ring _ _ _ _)), cond_true]
  rw [Same_eq N hN _ _ l2 l5, decide_eq_true (φ_iff.1 (by simp only [φ_addE, φ_mulE]; exact dist_ring _ _ _)), cond_true]
  rw [eSub_eq N hN' _ _ a b, Small_eq N hN' 0 (by omega), s0, eSub_eq N hN' _ _ b a, eSub_eq N hN' _ _ hz l7]
  rw [Same_eq N hN _ _ l6 l8, decide_eq_true (φ_iff.1 (by rw [φ_subE b, φ_subE l7, φ_subE a, φ_zero]; exact neg_ring _ _)), cond_true]
  rw [eTimes_eq N hN' _ _ hv c, eTimes_eq N hN' _ _ c hv, Same_eq N hN _ _ l9 l10, decide_eq_true (φ_iff.1 (by simp only [φ_mulE]; exact comm_ring _ _)), cond_true]
  rw [eZero_eq N hN _ a]
  by_cases h : x % PP = 0
  · rw [decide_eq_true h, cond_true]
  · rw [decide_eq_false h, cond_false, eInvert_eq N hN x a, eTimes_eq N hN' _ _ a hi.lt, Small_eq N hN' 1 (by omega), s1, Same_eq N hN _ _ l11 (by decide)]
    rw [decide_eq_true]
    have h1 := Fp.inv x h
    have h2 : 1 % PP = 1 := by decide +kernel
    rw [mulE_mod, Nat.mul_mod, hi.eq, ← Nat.mul_mod, h2]
    exact h1

end Go.Proofs.YtganankiiipkgaaDoor.fn
