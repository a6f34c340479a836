/- Where any two places meet. Partly printed by a program (its parts stand in the texts of the places' other laws, too). -/
import Derived.Test.YtbliikcgcgalmaaDoorNum
import Derived.Test.YtbliikcgcgalmaaDoorFnPlacesMeet
namespace Go.Proofs.YtbliikcgcgalmaaDoor.fn
open Go Go.Proofs Go.Ev Go.Dg

/-- A place's level. -/
def levN (x : Nat) : Nat := if x % 2 = 0 then 0 else if x % 4 = 1 then 1 else if x % 8 = 3 then 2 else if x % 16 = 7 then 3 else 4
def inP (x : Int) : Bool := decide (0 ≤ x) && decide (x ≤ 30)
def undN (x y : Nat) : Bool := Nat.ble (levN y) (levN x) && Nat.ble x (y + (2 ^ levN x - 1)) && Nat.ble y (x + (2 ^ levN x - 1))
def und (x y : Int) : Bool := inP x && inP y && undN x.toNat y.toNat

theorem inP_some {x : Int} (h : inP x = true) : ∃ k : Nat, x = (k : Int) ∧ k < 31 := by
  simp only [inP, Bool.and_eq_true, decide_eq_true_eq] at h
  exact ⟨x.toNat, by omega, by omega⟩

theorem isP_eq {R : Type} (N : Nat) (x : Int) (r : Bool → Option R) : isP.M N R x r = r (inP x) := by
  show isP.m N x r = _
  unfold isP.m inP
  by_cases h : 0 ≤ x
  · have : decide (x ≥ 0) = true := by simpa using h
    simp only [cond_true, h, decide_true, Bool.true_and]
  · have : decide (x ≥ 0) = false := by simpa using h
    simp only [cond_false, h, decide_false, Bool.false_and]

/-- A property of all places, by cases. -/
theorem all31 {p : Nat → Prop} (h0 : p 0) (h1 : p 1) (h2 : p 2) (h3 : p 3) (h4 : p 4) (h5 : p 5) (h6 : p 6) (h7 : p 7) (h8 : p 8) (h9 : p 9) (h10 : p 10) (h11 : p 11) (h12 : p 12) (h13 : p 13) (h14 : p 14) (h15 : p 15) (h16 : p 16) (h17 : p 17) (h18 : p 18) (h19 : p 19) (h20 : p 20) (h21 : p 21) (h22 : p 22) (h23 : p 23) (h24 : p 24) (h25 : p 25) (h26 : p 26) (h27 : p 27) (h28 : p 28) (h29 : p 29) (h30 : p 30) : ∀ k, k < 31 → p k
  | 0, _ => h0
  | 1, _ => h1
  | 2, _ => h2
  | 3, _ => h3
  | 4, _ => h4
  | 5, _ => h5
  | 6, _ => h6
  | 7, _ => h7
  | 8, _ => h8
  | 9, _ => h9
  | 10, _ => h10
  | 11, _ => h11
  | 12, _ => h12
  | 13, _ => h13
  | 14, _ => h14
  | 15, _ => h15
  | 16, _ => h16
  | 17, _ => h17
  | 18, _ => h18
  | 19, _ => h19
  | 20, _ => h20
  | 21, _ => h21
  | 22, _ => h22
  | 23, _ => h23
  | 24, _ => h24
  | 25, _ => h25
  | 26, _ => h26
  | 27, _ => h27
  | 28, _ => h28
  | 29, _ => h29
  | 30, _ => h30
  | n + 31, h => absurd h (by omega)

theorem Level_eq {R : Type} (N : Nat) (hN : 10 ≤ N) (k : Nat) (hk : k < 31) (r : Int → Option R) : Level.M N R (k : Int) r = r (levN k : Int) := by
  obtain ⟨M, rfl⟩ : ∃ M, N = M + 10 := ⟨N - 10, by omega⟩
  revert k
  refine all31 ?_ ?_ ?_ ?_ ?_ ?_ ?_ ?_ ?_ ?_ ?_ ?_ ?_ ?_ ?_ ?_ ?_ ?_ ?_ ?_ ?_ ?_ ?_ ?_ ?_ ?_ ?_ ?_ ?_ ?_ ?_
  all_goals (show _ = _; kernel_rfl)

theorem levN_le (k : Nat) : levN k ≤ 4 := by
  unfold levN
  repeat' split
  all_goals omega

theorem ishl_lev (k : Nat) : ishl .i64 1 (levN k : Int) = ((2 ^ levN k : Nat) : Int) := by
  have h := levN_le k
  generalize levN k = n at *
  have : n = 0 ∨ n = 1 ∨ n = 2 ∨ n = 3 ∨ n = 4 := by omega
  rcases this with rfl | rfl | rfl | rfl | rfl <;> rfl

theorem pow_lev (k : Nat) : 1 ≤ 2 ^ levN k ∧ 2 ^ levN k ≤ 16 := by
  have h := levN_le k
  generalize levN k = n at *
  have : n = 0 ∨ n = 1 ∨ n = 2 ∨ n = 3 ∨ n = 4 := by omega
  rcases this with rfl | rfl | rfl | rfl | rfl <;> decide

theorem w64 (z : Int) (h0 : -1000000 ≤ z) (h1 : z ≤ 1000000) : IntKind.i64.wrap z = z := by
  unfold IntKind.wrap
  simp only [IntKind.bits, IntKind.signed, Bool.true_and]
  split
  · rename_i h; simp at h; omega
  · rename_i h; simp at h; omega

theorem Under_eq {R : Type} (N : Nat) (hN : 10 ≤ N) (x y : Int) (r : Bool → Option R) : Under.M N R x y r = r (und x y) := by
  show Under.m _ _ N x y r = _
  unfold Under.m
  rw [isP_eq]
  cases hx : inP x with
  | false => simp only [und, hx, Bool.false_and, Bool.not_false, cond_true]
  | true =>
    obtain ⟨a, rfl, ha⟩ := inP_some hx
    simp only [Bool.not_true, cond_false]
    rw [isP_eq]
    cases hy : inP y with
    | false => simp only [und, hx, hy, Bool.and_false, Bool.false_and, Bool.not_false, cond_true]
    | true =>
      obtain ⟨b, rfl, hb⟩ := inP_some hy
      simp only [Bool.not_true, cond_false]
      rw [Level_eq N hN a ha, Level_eq N hN b hb, Level_eq N hN a ha]
      have hl := levN_le a
      have h0 : (true && decide ((levN a : Int) < 0)) = false := by simp
      rw [h0, cond_false, ishl_lev]
      obtain ⟨p1, p2⟩ := pow_lev a
      rw [w64 (((2 ^ levN a : Nat) : Int) - 1) (by omega) (by omega), w64 _ (by omega) (by omega), w64 _ (by omega) (by omega)]
      simp only [und, hx, hy, Bool.true_and, undN, Int.toNat_natCast]
      have e1 : decide ((levN b : Int) ≤ (levN a : Int)) = Nat.ble (levN b) (levN a) := by
        rw [Bool.eq_iff_iff, decide_eq_true_eq, Nat.ble_eq]; omega
      have e2 : decide ((b : Int) ≥ (a : Int) - (((2 ^ levN a : Nat) : Int) - 1)) = Nat.ble a (b + (2 ^ levN a - 1)) := by
        rw [Bool.eq_iff_iff, decide_eq_true_eq, Nat.ble_eq]; omega
      have e3 : decide ((b : Int) ≤ (a : Int) + (((2 ^ levN a : Nat) : Int) - 1)) = Nat.ble b (a + (2 ^ levN a - 1)) := by
        rw [Bool.eq_iff_iff, decide_eq_true_eq, Nat.ble_eq]; omega
      rw [e1, e2, e3]
      cases Nat.ble (levN b) (levN a) <;> cases Nat.ble a (b + (2 ^ levN a - 1)) <;> simp

def isR (n : Int) : Bool := n == 1 || n == 2 || n == 4 || n == 8 || n == 16
def hasP (x n : Int) : Bool := isR n && decide (0 ≤ x) && decide (x ≤ 2 * n - 2)

theorem rRight_eq {R : Type} (N : Nat) (n : Int) (r : Bool → Option R) : rRight.M N R n r = r (isR n) := by
  show rRight.m N n r = _
  unfold rRight.m isR
  cases n == 1 <;> cases n == 2 <;> cases n == 4 <;> cases n == 8 <;> simp

theorem pRight_eq {R : Type} (N : Nat) (n : Int) (r : Bool → Option R) : pRight.M N R n r = r (isR n) := by
  show pRight.m N n r = _
  by_cases h : 1 ≤ n ∧ n ≤ 16
  · have : n = 1 ∨ n = 2 ∨ n = 3 ∨ n = 4 ∨ n = 5 ∨ n = 6 ∨ n = 7 ∨ n = 8 ∨ n = 9 ∨ n = 10 ∨ n = 11 ∨ n = 12 ∨ n = 13 ∨ n = 14 ∨ n = 15 ∨ n = 16 := by omega
    rcases this with rfl | rfl | rfl | rfl | rfl | rfl | rfl | rfl | rfl | rfl | rfl | rfl | rfl | rfl | rfl | rfl <;> rfl
  · unfold pRight.m
    have e : isR n = false := by
      unfold isR
      simp
      omega
    rw [e]
    by_cases h1 : 1 ≤ n
    · have h2 : ¬ n ≤ 16 := by omega
      simp [h1, h2]
    · have : ¬ n ≥ 1 := h1
      simp [this]

theorem isR_some {n : Int} (h : isR n = true) : n = 1 ∨ n = 2 ∨ n = 4 ∨ n = 8 ∨ n = 16 := by
  unfold isR at h
  simp only [Bool.or_eq_true, beq_iff_eq] at h
  omega

theorem has_eq {R : Type} (N : Nat) (x n : Int) (r : Bool → Option R) : has.M N R x n r = r (hasP x n) := by
  show has.m _ N x n r = _
  unfold has.m
  rw [pRight_eq]
  cases h : isR n with
  | false => simp [hasP, h]
  | true =>
    have hn := isR_some h
    rw [w64 (n - 1) (by omega) (by omega), w64 _ (by omega) (by omega)]
    simp only [cond_true, hasP, h, Bool.true_and]
    by_cases hx : 0 ≤ x
    · have : x ≥ 0 := hx
      simp only [this, decide_true, cond_true, Bool.true_and]
      congr 2
      apply propext
      omega
    · have : ¬ x ≥ 0 := hx
      simp [this]

theorem rHas_eq {R : Type} (N : Nat) (x n : Int) (r : Bool → Option R) : rHas.M N R x n r = r (hasP x n) := by
  show rHas.m _ N x n r = _
  unfold rHas.m
  rw [rRight_eq]
  cases h : isR n with
  | false => simp [hasP, h]
  | true =>
    have hn := isR_some h
    rw [w64 (2 * n) (by omega) (by omega), w64 _ (by omega) (by omega)]
    simp only [cond_true, hasP, h, Bool.true_and]
    by_cases hx : 0 ≤ x
    · have : x ≥ 0 := hx
      simp only [this, decide_true, cond_true, Bool.true_and]
    · have : ¬ x ≥ 0 := hx
      simp [this]


theorem rUnder_in {R : Type} (M : Nat) (r : Bool → Option R) : ∀ k : Nat, k < 31 → ∀ l : Nat, l < 31 → rUnder.M (M + 60) R (k : Int) (l : Int) r = r (undN k l) := by
  refine all31 ?_ ?_ ?_ ?_ ?_ ?_ ?_ ?_ ?_ ?_ ?_ ?_ ?_ ?_ ?_ ?_ ?_ ?_ ?_ ?_ ?_ ?_ ?_ ?_ ?_ ?_ ?_ ?_ ?_ ?_ ?_
  all_goals refine all31 ?_ ?_ ?_ ?_ ?_ ?_ ?_ ?_ ?_ ?_ ?_ ?_ ?_ ?_ ?_ ?_ ?_ ?_ ?_ ?_ ?_ ?_ ?_ ?_ ?_ ?_ ?_ ?_ ?_ ?_ ?_
  all_goals (show _ = _; kernel_rfl)

theorem meet_1 {R : Type} (M : Nat) (r : Bool → Option R) : ∀ k : Nat, k < 31 → (k : Int) ≤ 0 → ∀ l : Nat, l < 31 → (l : Int) ≤ 0 → PlacesMeet.M (M + 80) R (k : Int) (l : Int) 1 r = r true := by
  refine all31 ?_ ?_ ?_ ?_ ?_ ?_ ?_ ?_ ?_ ?_ ?_ ?_ ?_ ?_ ?_ ?_ ?_ ?_ ?_ ?_ ?_ ?_ ?_ ?_ ?_ ?_ ?_ ?_ ?_ ?_ ?_
  all_goals first
    | (intro h; exact absurd h (by decide))
    | (intro _
       refine all31 ?_ ?_ ?_ ?_ ?_ ?_ ?_ ?_ ?_ ?_ ?_ ?_ ?_ ?_ ?_ ?_ ?_ ?_ ?_ ?_ ?_ ?_ ?_ ?_ ?_ ?_ ?_ ?_ ?_ ?_ ?_
       all_goals first
         | (intro h; exact absurd h (by decide))
         | (intro _; show _ = _; kernel_rfl))

theorem meet_2 {R : Type} (M : Nat) (r : Bool → Option R) : ∀ k : Nat, k < 31 → (k : Int) ≤ 2 → ∀ l : Nat, l < 31 → (l : Int) ≤ 2 → PlacesMeet.M (M + 80) R (k : Int) (l : Int) 2 r = r true := by
  refine all31 ?_ ?_ ?_ ?_ ?_ ?_ ?_ ?_ ?_ ?_ ?_ ?_ ?_ ?_ ?_ ?_ ?_ ?_ ?_ ?_ ?_ ?_ ?_ ?_ ?_ ?_ ?_ ?_ ?_ ?_ ?_
  all_goals first
    | (intro h; exact absurd h (by decide))
    | (intro _
       refine all31 ?_ ?_ ?_ ?_ ?_ ?_ ?_ ?_ ?_ ?_ ?_ ?_ ?_ ?_ ?_ ?_ ?_ ?_ ?_ ?_ ?_ ?_ ?_ ?_ ?_ ?_ ?_ ?_ ?_ ?_ ?_
       all_goals first
         | (intro h; exact absurd h (by decide))
         | (intro _; show _ = _; kernel_rfl))

theorem meet_4 {R : Type} (M : Nat) (r : Bool → Option R) : ∀ k : Nat, k < 31 → (k : Int) ≤ 6 → ∀ l : Nat, l < 31 → (l : Int) ≤ 6 → PlacesMeet.M (M + 80) R (k : Int) (l : Int) 4 r = r true := by
  refine all31 ?_ ?_ ?_ ?_ ?_ ?_ ?_ ?_ ?_ ?_ ?_ ?_ ?_ ?_ ?_ ?_ ?_ ?_ ?_ ?_ ?_ ?_ ?_ ?_ ?_ ?_ ?_ ?_ ?_ ?_ ?_
  all_goals first
    | (intro h; exact absurd h (by decide))
    | (intro _
       refine all31 ?_ ?_ ?_ ?_ ?_ ?_ ?_ ?_ ?_ ?_ ?_ ?_ ?_ ?_ ?_ ?_ ?_ ?_ ?_ ?_ ?_ ?_ ?_ ?_ ?_ ?_ ?_ ?_ ?_ ?_ ?_
       all_goals first
         | (intro h; exact absurd h (by decide))
         | (intro _; show _ = _; kernel_rfl))

theorem meet_8 {R : Type} (M : Nat) (r : Bool → Option R) : ∀ k : Nat, k < 31 → (k : Int) ≤ 14 → ∀ l : Nat, l < 31 → (l : Int) ≤ 14 → PlacesMeet.M (M + 80) R (k : Int) (l : Int) 8 r = r true := by
  refine all31 ?_ ?_ ?_ ?_ ?_ ?_ ?_ ?_ ?_ ?_ ?_ ?_ ?_ ?_ ?_ ?_ ?_ ?_ ?_ ?_ ?_ ?_ ?_ ?_ ?_ ?_ ?_ ?_ ?_ ?_ ?_
  all_goals first
    | (intro h; exact absurd h (by decide))
    | (intro _
       refine all31 ?_ ?_ ?_ ?_ ?_ ?_ ?_ ?_ ?_ ?_ ?_ ?_ ?_ ?_ ?_ ?_ ?_ ?_ ?_ ?_ ?_ ?_ ?_ ?_ ?_ ?_ ?_ ?_ ?_ ?_ ?_
       all_goals first
         | (intro h; exact absurd h (by decide))
         | (intro _; show _ = _; kernel_rfl))

theorem meet_16 {R : Type} (M : Nat) (r : Bool → Option R) : ∀ k : Nat, k < 31 → (k : Int) ≤ 30 → ∀ l : Nat, l < 31 → (l : Int) ≤ 30 → PlacesMeet.M (M + 80) R (k : Int) (l : Int) 16 r = r true := by
  refine all31 ?_ ?_ ?_ ?_ ?_ ?_ ?_ ?_ ?_ ?_ ?_ ?_ ?_ ?_ ?_ ?_ ?_ ?_ ?_ ?_ ?_ ?_ ?_ ?_ ?_ ?_ ?_ ?_ ?_ ?_ ?_
  all_goals first
    | (intro h; exact absurd h (by decide))
    | (intro _
       refine all31 ?_ ?_ ?_ ?_ ?_ ?_ ?_ ?_ ?_ ?_ ?_ ?_ ?_ ?_ ?_ ?_ ?_ ?_ ?_ ?_ ?_ ?_ ?_ ?_ ?_ ?_ ?_ ?_ ?_ ?_ ?_
       all_goals first
         | (intro h; exact absurd h (by decide))
         | (intro _; show _ = _; kernel_rfl))

theorem alive17_M {R : Type} (M : Nat) (r : Bool → Option R) : alive17.M (M + 80) R r = r true := by show _ = _; kernel_rfl
theorem num1_M {R : Type} (M : Nat) (r : Int → Option R) : Num.M (M + 80) R 1 r = r 1 := by show _ = _; kernel_rfl

theorem Common_bad {R : Type} (N : Nat) (x y n : Int) (h : (hasP x n && hasP y n) = false) (k : Int → Nat → Option R) : Common.M N R x y n k = k 0 1 := by
  show Common.m (has.M N) _ _ N x y n k = _
  unfold Common.m
  rw [has_eq]
  cases hx : hasP x n with
  | false => rfl
  | true =>
    rw [hx, Bool.true_and] at h
    simp only [Bool.not_true, cond_false]
    rw [has_eq, h]
    rfl

/-- What is asked behind the first line. -/
noncomputable def tailM {R : Type} (N : Nat) (x y n : Int) (r : Bool → Option R) : Option R :=
  Common.M N R x y n (fun c e => rHas.M N R x n (fun h => cond (!h) (cond (c == 0) (Num.M N R e (fun q => r (q == 1))) (r false))
    (rHas.M N R y n (fun h => cond (!h) (cond (c == 0) (Num.M N R e (fun q => r (q == 1))) (r false))
      (cond (e.beq 0) (rCommon.M N R x y n (fun q => r (c == q))) (r false))))))

theorem tail_bad {R : Type} (M : Nat) (x y n : Int) (h : (hasP x n && hasP y n) = false) (r : Bool → Option R) : tailM (M + 80) x y n r = r true := by
  unfold tailM
  rw [Common_bad _ x y n h, rHas_eq]
  have e0 : ((0 : Int) == 0) = true := rfl
  rw [e0, cond_true, num1_M]
  cases hx : hasP x n with
  | false => rfl
  | true =>
    rw [hx, Bool.true_and] at h
    simp only [Bool.not_true, cond_false]
    rw [rHas_eq, h]
    rfl

theorem und_out {x y : Int} (h : (inP x && inP y) = false) : und x y = false := by unfold und; rw [h, Bool.false_and]

theorem PlacesMeet_tail {R : Type} (M : Nat) (x y n : Int) (r : Bool → Option R) : PlacesMeet.M (M + 80) R x y n r = tailM (M + 80) x y n r := by
  show PlacesMeet.m (alive17.M (M + 80)) (Under.M (M + 80)) (rUnder.M (M + 80)) (Common.M (M + 80)) (rHas.M (M + 80)) (Num.M (M + 80)) (rCommon.M (M + 80)) (M + 80) x y n r = _
  unfold PlacesMeet.m tailM
  rw [alive17_M, Bool.not_true, cond_false]
  have hN : 10 ≤ M + 80 := by omega
  have ef : (!false == false) = false := rfl
  have et : (!true == true) = false := rfl
  by_cases h1 : 0 ≤ x
  · rw [decide_eq_true (show x ≥ 0 from h1), cond_true]
    by_cases h2 : x ≤ 30
    · rw [decide_eq_true h2, cond_true]
      by_cases h3 : 0 ≤ y
      · rw [decide_eq_true (show y ≥ 0 from h3), cond_true, Under_eq _ hN]
        by_cases h4 : y ≤ 30
        · rw [decide_eq_true h4, cond_true]
          have hu := rUnder_in (M + 20) (fun v0 => cond (!und x y == v0) (r false) (tailM (M + 80) x y n r)) x.toNat (by omega) y.toNat (by omega)
          rw [Int.toNat_of_nonneg h1, Int.toNat_of_nonneg h3] at hu
          unfold tailM at hu
          refine hu.trans ?_
          have e : und x y = undN x.toNat y.toNat := by
            unfold und inP
            rw [decide_eq_true h1, decide_eq_true h2, decide_eq_true h3, decide_eq_true h4]; rfl
          rw [e]
          cases undN x.toNat y.toNat with
          | false => rw [ef, cond_false]
          | true => rw [et, cond_false]
        · have e : und x y = false := und_out (by unfold inP; rw [decide_eq_false h4, Bool.and_false, Bool.and_false])
          rw [decide_eq_false h4, cond_false, e, ef, cond_false]
      · have e : und x y = false := und_out (by unfold inP; rw [decide_eq_false h3, Bool.false_and, Bool.and_false])
        rw [decide_eq_false (show ¬ y ≥ 0 from h3), cond_false, Under_eq _ hN, e, ef, cond_false]
    · have e : und x y = false := und_out (by unfold inP; rw [decide_eq_false h2, Bool.and_false, Bool.false_and])
      rw [decide_eq_false h2, cond_false, Under_eq _ hN, e, ef, cond_false]
  · have e : und x y = false := und_out (by unfold inP; rw [decide_eq_false h1, Bool.false_and, Bool.false_and])
    rw [decide_eq_false (show ¬ x ≥ 0 from h1), cond_false, Under_eq _ hN, e, ef, cond_false]

theorem PlacesMeet_true {R : Type} (N : Nat) (hN : 100 ≤ N) (x y n : Int) (r : Bool → Option R) : PlacesMeet.M N R x y n r = r true := by
  obtain ⟨M, rfl⟩ : ∃ M, N = M + 80 := ⟨N - 80, by omega⟩
  cases h : hasP x n && hasP y n with
  | false => rw [PlacesMeet_tail]; exact tail_bad M x y n h r
  | true =>
    rw [Bool.and_eq_true] at h
    obtain ⟨hx, hy⟩ := h
    simp only [hasP, Bool.and_eq_true, decide_eq_true_eq] at hx hy
    have hn := isR_some hx.1.1
    obtain ⟨a, rfl⟩ : ∃ a : Nat, x = (a : Int) := ⟨x.toNat, by omega⟩
    obtain ⟨b, rfl⟩ : ∃ b : Nat, y = (b : Int) := ⟨y.toNat, by omega⟩
    rcases hn with rfl | rfl | rfl | rfl | rfl
    · exact meet_1 M r a (by omega) (by omega) b (by omega) (by omega)
    · exact meet_2 M r a (by omega) (by omega) b (by omega) (by omega)
    · exact meet_4 M r a (by omega) (by omega) b (by omega) (by omega)
    · exact meet_8 M r a (by omega) (by omega) b (by omega) (by omega)
    · exact meet_16 M r a (by omega) (by omega) b (by omega) (by omega)

end Go.Proofs.YtbliikcgcgalmaaDoor.fn
