/- Levels, roots, and what is above, beside and on every way: both answer alike. -/
import Derived.Test.YtllnbcibleeogaaDoorFnPlacesB
import Derived.Test.YtllnbcibleeogaaDoorMPlacesA
namespace Go.Proofs.YtllnbcibleeogaaDoor.fn
open Go Go.Proofs Go.Ev

def isR (n : Int) : Bool := n == 1 || n == 2 || n == 4 || n == 8 || n == 16
def hasP (x n : Int) : Bool := isR n && decide (0 ≤ x) && decide (x ≤ 2 * n - 2)

theorem rRight_eq {R : Type} (N : Nat) (n : Int) (r : Bool → Option R) : rRight.M N R n r = r (isR n) := by
  show rRight.m N n r = _
  unfold rRight.m isR
  cases n == 1 <;> cases n == 2 <;> cases n == 4 <;> cases n == 8 <;> simp

theorem pRight_eq {R : Type} (N : Nat) (n : Int) (r : Bool → Option R) : pRight.M N R n r = r (isR n) := by
  show pRight.m N n r = _
  by_cases h : 1 ≤ n ∧ n ≤ 16
  · have : n = 1 ∨ n = 2 ∨ n = 3 ∨ n = 4 ∨ n = 5 ∨ n = 6 ∨ n = 7 ∨ n = 8 ∨ n = 9 ∨ n = 10 ∨ n = 11 ∨ n = 12 ∨ n = 13 ∨ n = 14 ∨ n = 15 ∨ n = 16 := by omega
    rcases this with rfl | rfl | rfl | rfl | rfl | rfl | rfl | rfl | rfl | rfl | rfl | rfl | rfl | rfl | rfl | rfl <;> rfl
  · unfold pRight.m
    have e : isR n = false := by
      unfold isR
      simp
      omega
    rw [e]
    by_cases h1 : 1 ≤ n
    · have h2 : ¬ n ≤ 16 := by omega
      simp [h1, h2]
    · have : ¬ n ≥ 1 := h1
      simp [this]

theorem isR_some {n : Int} (h : isR n = true) : n = 1 ∨ n = 2 ∨ n = 4 ∨ n = 8 ∨ n = 16 := by
  unfold isR at h
  simp only [Bool.or_eq_true, beq_iff_eq] at h
  omega

theorem has_eq {R : Type} (N : Nat) (x n : Int) (r : Bool → Option R) : has.M N R x n r = r (hasP x n) := by
  show has.m _ N x n r = _
  unfold has.m
  rw [pRight_eq]
  cases h : isR n with
  | false => simp [hasP, h]
  | true =>
    have hn := isR_some h
    rw [w64 (n - 1) (by omega) (by omega), w64 _ (by omega) (by omega)]
    simp only [cond_true, hasP, h, Bool.true_and]
    by_cases hx : 0 ≤ x
    · have : x ≥ 0 := hx
      simp only [this, decide_true, cond_true, Bool.true_and]
      congr 2
      apply propext
      omega
    · have : ¬ x ≥ 0 := hx
      simp [this]

theorem rHas_eq {R : Type} (N : Nat) (x n : Int) (r : Bool → Option R) : rHas.M N R x n r = r (hasP x n) := by
  show rHas.m _ N x n r = _
  unfold rHas.m
  rw [rRight_eq]
  cases h : isR n with
  | false => simp [hasP, h]
  | true =>
    have hn := isR_some h
    rw [w64 (2 * n) (by omega) (by omega), w64 _ (by omega) (by omega)]
    simp only [cond_true, hasP, h, Bool.true_and]
    by_cases hx : 0 ≤ x
    · have : x ≥ 0 := hx
      simp only [this, decide_true, cond_true, Bool.true_and]
    · have : ¬ x ≥ 0 := hx
      simp [this]

theorem Root_eq {R : Type} (N : Nat) (n : Int) (r : Int → Option R) : Root.M N R n r = r (cond (isR n) (n - 1) 0) := by
  show Root.m _ N n r = _
  unfold Root.m
  rw [pRight_eq]
  cases h : isR n with
  | false => rfl
  | true =>
    have hn := isR_some h
    rw [w64 _ (by omega) (by omega)]
    rfl

/-- Every number has some level. -/
theorem Level_loop (N : Nat) : ∀ (n : Nat) (x k : Int), 0 ≤ x → x < 2 ^ n → ∀ f, ∃ k', ∀ {R : Type} (r : Int → Option R), Level.J1_0 N (fun _ k => r k) (n + 1 + f) x k = r k'
  | 0, x, k, h0, h1, f => by
    have : x = 0 := by simp at h1; omega
    subst this
    refine ⟨k, fun r => ?_⟩
    rw [show 0 + 1 + f = f + 1 by omega]
    rfl
  | n + 1, x, k, h0, h1, f => by
    have e : ishr .i64 x 1 = x / 2 := by
      show x.fdiv (2 ^ 1) = _
      rw [Int.fdiv_eq_ediv_of_nonneg _ (by decide)]
      rfl
    have h2 : x / 2 < 2 ^ n := by
      have : (2 : Int) ^ (n + 1) = 2 * 2 ^ n := by rw [Int.pow_succ]; omega
      omega
    obtain ⟨k', hk⟩ := Level_loop N n (x / 2) (IntKind.i64.wrap (k + 1)) (by omega) h2 f
    rw [show n + 1 + 1 + f = (n + 1 + f) + 1 by omega]
    cases hc : (iand .i64 x 1 == 1) with
    | true =>
      refine ⟨k', fun r => ?_⟩
      rw [Level.J1_0, hc, cond_true, e]
      exact hk r
    | false =>
      refine ⟨k, fun r => ?_⟩
      rw [Level.J1_0, hc, cond_false]

theorem Level_any (N : Nat) (hN : 100 ≤ N) (x : Int) (h0 : -9223372036854775808 ≤ x) (h1 : x < 9223372036854775808) : ∃ k, ∀ {R : Type} (r : Int → Option R), Level.M N R x r = r k := by
  by_cases hx : x < 0
  · refine ⟨0, fun r => ?_⟩
    show Level.m N x r = _
    unfold Level.m
    simp [hx]
  · have e : ishr .i64 x 1 = x / 2 := by
      show x.fdiv (2 ^ 1) = _
      rw [Int.fdiv_eq_ediv_of_nonneg _ (by decide)]
      rfl
    obtain ⟨k', hk⟩ := Level_loop N 63 (x / 2) 1 (by omega) (by omega) (N - 64)
    rw [show 63 + 1 + (N - 64) = N by omega] at hk
    cases hc : (iand .i64 x 1 == 1) with
    | true =>
      refine ⟨k', fun r => ?_⟩
      show Level.m N x r = _
      unfold Level.m
      rw [hc, e]
      have : decide (x < 0) = false := by simp; omega
      rw [this, cond_false, cond_true]
      exact hk r
    | false =>
      refine ⟨0, fun r => ?_⟩
      show Level.m N x r = _
      unfold Level.m
      rw [hc]
      have : decide (x < 0) = false := by simp; omega
      rw [this]
      rfl

theorem Below_out {R : Type} (N : Nat) (hN : 100 ≤ N) (x : Int) (h0 : -9223372036854775808 ≤ x) (h1 : x < 9223372036854775808) (hx : inP x = false) (r : Int → Int → Nat → Option R) : Below.M N R x r = r 0 0 1 := by
  show Below.m _ _ N x r = _
  unfold Below.m
  obtain ⟨k, hk⟩ := Level_any N hN x h0 h1
  rw [hk, isP_eq, hx]
  rfl

theorem Num_1 {R : Type} (N : Nat) (hN : 30 ≤ N) (r : Int → Option R) : Num.M N R 1 r = r 1 := by
  obtain ⟨M, rfl⟩ : ∃ M, N = M + 30 := ⟨N - 30, by omega⟩
  kernel_rfl

/-- What the law says of a place of the greatest tree. -/
theorem numbers_in {R : Type} (N : Nat) (hN : 60 ≤ N) (k : Nat) (hk : k < 31) (r : Bool → Option R) :
    Below.M N R (k : Int) (fun v_c15 v_1_c16 v_2_c17 => Leaves.M N R (k : Int) (fun v_c18 v_1_c19 => Level.M N R (k : Int)
               (fun v_c24 => rLevel.M N R (k : Int)
                (fun v0_c25 => cond (v_c24 != v0_c25)
                 (r false)
                 (rLeaves.M N R (k : Int)
                  (fun _v0_c26 w0_c27 => SameInts.M N R v_c18 v_1_c19 none w0_c27
                   (fun v_c28 => cond (!v_c28)
                    (r false)
                    (cond ((k : Int).tmod 2 == 0)
                     (cond (v_c15 == 0)
                      (cond (v_1_c16 == 0)
                       (Num.M N R v_2_c17
                        (fun v_c29 => r (v_c29 == 11)))
                       (r false))
                      (r false))
                     (rKids.M N R (k : Int)
                      (fun v_c30 v_1_c31 => cond (v_2_c17.beq 0)
                       (cond (v_c15 == v_c30)
                        (r (v_1_c16 == v_1_c31))
                        (r false))
                       (r false)))))))))))= r true := by
  obtain ⟨M, rfl⟩ : ∃ M, N = M + 60 := ⟨N - 60, by omega⟩
  clear hN
  revert k
  refine all31 ?_ ?_ ?_ ?_ ?_ ?_ ?_ ?_ ?_ ?_ ?_ ?_ ?_ ?_ ?_ ?_ ?_ ?_ ?_ ?_ ?_ ?_ ?_ ?_ ?_ ?_ ?_ ?_ ?_ ?_ ?_
  all_goals (show _ = _; kernel_rfl)

theorem PlacesNumbers_true {R : Type} (N : Nat) (hN : 100 ≤ N) (x n : Int) (h0 : -9223372036854775808 ≤ x) (h1 : x < 9223372036854775808) (r : Bool → Option R) : PlacesNumbers.M N R x n r = r true := by
  show PlacesNumbers.m _ _ _ _ _ _ _ _ _ _ _ _ N x n r = _
  unfold PlacesNumbers.m
  rw [alive17_eq N (by omega)]
  simp only [Bool.not_true, cond_false]
  simp only [rRight_eq, pRight_eq, Root_eq]
  have tail : ∀ (v : Bool), Below.M N R x (fun v_c15 v_1_c16 v_2_c17 => Leaves.M N R x
            (fun v_c18 v_1_c19 => cond (decide (x < 0))
             (cond (v_c15 == 0)
              (cond (v_1_c16 == 0)
               (Num.M N R v_2_c17
                (fun v_c20 => cond (v_c20 == 1)
                 (cond ((↑v_1_c19.length : Int) == 0)
                  (cond (decide (x > 0))
                   (r true)
                   (Level.M N R x
                    (fun v_c21 => r (v_c21 == 0))))
                  (r false))
                 (r false)))
               (r false))
              (r false))
             (cond (decide (x > 30))
              (cond (v_c15 == 0)
               (cond (v_1_c16 == 0)
                (Num.M N R v_2_c17
                 (fun v_c22 => cond (v_c22 == 1)
                  (cond ((↑v_1_c19.length : Int) == 0)
                   (cond (decide (x > 0))
                    (r true)
                    (Level.M N R x
                     (fun v_c23 => r (v_c23 == 0))))
                   (r false))
                  (r false)))
                (r false))
               (r false))
              (Level.M N R x
               (fun v_c24 => rLevel.M N R x
                (fun v0_c25 => cond (v_c24 != v0_c25)
                 (r false)
                 (rLeaves.M N R x
                  (fun _v0_c26 w0_c27 => SameInts.M N R v_c18 v_1_c19 none w0_c27
                   (fun v_c28 => cond (!v_c28)
                    (r false)
                    (cond (x.tmod 2 == 0)
                     (cond (v_c15 == 0)
                      (cond (v_1_c16 == 0)
                       (Num.M N R v_2_c17
                        (fun v_c29 => r (v_c29 == 11)))
                       (r false))
                      (r false))
                     (rKids.M N R x
                      (fun v_c30 v_1_c31 => cond (v_2_c17.beq 0)
                       (cond (v_c15 == v_c30)
                        (r (v_1_c16 == v_1_c31))
                        (r false))
                       (r false))))))))))))) = r true := by
    intro _
    cases hx : inP x with
    | false =>
      rw [Below_out N hN x h0 h1 hx, Leaves_out N x hx]
      by_cases hneg : x < 0
      · have e1 : decide (x < 0) = true := by simpa using hneg
        have e2 : decide (x > 0) = false := by simp; omega
        have e3 : ∀ (f : Int → Option R), Level.M N R x f = f 0 := by
          intro f
          show Level.m N x f = _
          unfold Level.m
          rw [e1]; rfl
        simp only [e1, e2, cond_true, cond_false, e3, Num_1 N (show 30 ≤ N by omega)]
        rfl
      · have hgt : x > 30 := by
          simp only [inP, Bool.and_eq_false_iff, decide_eq_false_iff_not] at hx
          omega
        have e1 : decide (x < 0) = false := by simp; omega
        have e2 : decide (x > 30) = true := by simpa using hgt
        have e3 : decide (x > 0) = true := by simp; omega
        simp only [e1, e2, e3, cond_true, cond_false, Num_1 N (show 30 ≤ N by omega)]
        rfl
    | true =>
      obtain ⟨k, rfl, hk⟩ := inP_some hx
      have e1 : decide ((k : Int) < 0) = false := by simp
      have e2 : decide ((k : Int) > 30) = false := by simp; omega
      simp only [e1, e2, cond_false]
      exact numbers_in N (by omega) k hk r
  cases h : isR n with
  | true =>
    have hn := isR_some h
    rw [w64 _ (by omega) (by omega)]
    simp only [cond_true, beq_self_eq_true, Bool.not_true, cond_false, bne_self_eq_false]
    exact tail true
  | false =>
    simp only [cond_false, beq_self_eq_true, Bool.not_true, bne_self_eq_false]
    exact tail true

/-! ### ways -/

theorem Above_out {R : Type} (N : Nat) (x n : Int) (h : hasP x n = false) (r : Int → Nat → Option R) : Above.M N R x n r = r 0 1 := by
  show Above.m _ _ _ N x n r = _
  unfold Above.m
  rw [has_eq, h]; rfl
theorem Beside_out {R : Type} (N : Nat) (x n : Int) (h : hasP x n = false) (r : Int → Nat → Option R) : Beside.M N R x n r = r 0 1 := by
  show Beside.m _ _ N x n r = _
  unfold Beside.m
  rw [Above_out N x n h]; rfl
theorem rAbove_out {R : Type} (N : Nat) (x n : Int) (h : hasP x n = false) (r : Int → Int → Option R) : rAbove.M N R x n r = r 0 1 := by
  show rAbove.m _ _ N x n r = _
  unfold rAbove.m
  rw [rHas_eq, h]; rfl
theorem rBeside_out {R : Type} (N : Nat) (x n : Int) (h : hasP x n = false) (r : Int → Int → Option R) : rBeside.M N R x n r = r 0 1 := by
  show rBeside.m _ _ N x n r = _
  unfold rBeside.m
  rw [rAbove_out N x n h]; rfl
theorem Way_out {R : Type} (N : Nat) (hN : 1 ≤ N) (x n : Int) (h : hasP x n = false) (r : List Int → Option R) : Way.M N R x n r = r [] := by
  obtain ⟨M, rfl⟩ : ∃ M, N = M + 1 := ⟨N - 1, by omega⟩
  show Way.m _ _ x n r = _
  unfold Way.m
  rw [Above_out _ x n h]; rfl
theorem Coway_out {R : Type} (N : Nat) (hN : 2 ≤ N) (x n : Int) (h : hasP x n = false) (r : List Int → Option R) : Coway.M N R x n r = r [] := by
  obtain ⟨M, rfl⟩ : ∃ M, N = M + 2 := ⟨N - 2, by omega⟩
  show Coway.m _ _ _ x n r = _
  unfold Coway.m
  rw [Way_out _ (by omega) x n h]
  have c1 : decide ((1 + ([] : List Int).length) * 8 ≤ 140737488355328) = true := by decide
  have c2 : decide (1 + ([] : List Int).length ≤ 140737488355328) = true := by decide
  rw [c1, c2, cond_true, cond_true]
  show Coway.L3 _ _ _ _ (M + 1 + 1) n 1 0 _ ([x] ++ []) true [] = _
  rw [Coway.L3]
  have hb : ∀ (f : Int → Nat → Option R), Beside.M (M + 2) R (([x] ++ ([] : List Int)).getD (0 + (0 : Int).toNat) 0) n f = f 0 1 := fun f => Beside_out (M + 2) x n h f
  simp only [hb]
  rfl

/-- What the law says of a tree's place. -/
theorem ways_in {R : Type} (M : Nat) (r : Bool → Option R) : ∀ (n : Int), isR n = true → ∀ k : Nat, k < 31 → (k : Int) ≤ 2 * n - 2 → PlacesWays.M (M + 60) R (k : Int) n r = r true := by
  intro n hn
  rcases isR_some hn with rfl | rfl | rfl | rfl | rfl
  all_goals
    refine all31 ?_ ?_ ?_ ?_ ?_ ?_ ?_ ?_ ?_ ?_ ?_ ?_ ?_ ?_ ?_ ?_ ?_ ?_ ?_ ?_ ?_ ?_ ?_ ?_ ?_ ?_ ?_ ?_ ?_ ?_ ?_
    all_goals first
      | (intro h; exact absurd h (by decide))
      | (intro _; show _ = _; kernel_rfl)

theorem PlacesWays_true {R : Type} (N : Nat) (hN : 100 ≤ N) (x n : Int) (r : Bool → Option R) : PlacesWays.M N R x n r = r true := by
  cases h : hasP x n with
  | true =>
    simp only [hasP, Bool.and_eq_true, decide_eq_true_eq] at h
    obtain ⟨⟨h1, h2⟩, h3⟩ := h
    have hn := isR_some h1
    obtain ⟨k, rfl⟩ : ∃ k : Nat, x = (k : Int) := ⟨x.toNat, by omega⟩
    have := ways_in (N - 60) r n h1 k (by omega) h3
    rw [show N - 60 + 60 = N by omega] at this
    exact this
  | false =>
    show PlacesWays.m _ _ _ _ _ _ _ _ _ _ _ _ N x n r = _
    unfold PlacesWays.m
    rw [alive17_eq N (by omega)]
    simp only [Bool.not_true, cond_false, Above_out N x n h, Beside_out N x n h, rAbove_out N x n h, rBeside_out N x n h, Num_1 N (show 30 ≤ N by omega), rHas_eq, h, Way_out N (show 1 ≤ N by omega) x n h, Coway_out N (show 2 ≤ N by omega) x n h]
    rfl

end Go.Proofs.YtllnbcibleeogaaDoor.fn
