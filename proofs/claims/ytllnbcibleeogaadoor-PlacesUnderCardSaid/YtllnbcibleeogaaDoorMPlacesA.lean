/- What the places' functions come to. -/
import Derived.Test.YtllnbcibleeogaaDoorFnPlaces
import Derived.Test.YtllnbcibleeogaaDoorMWordsA
namespace Go.Proofs.YtllnbcibleeogaaDoor.fn
open Go Go.Proofs Go.Ev

/-- A place's level. -/
def levN (x : Nat) : Nat := if x % 2 = 0 then 0 else if x % 4 = 1 then 1 else if x % 8 = 3 then 2 else if x % 16 = 7 then 3 else 4
def inP (x : Int) : Bool := decide (0 ≤ x) && decide (x ≤ 30)
def undN (x y : Nat) : Bool := Nat.ble (levN y) (levN x) && Nat.ble x (y + (2 ^ levN x - 1)) && Nat.ble y (x + (2 ^ levN x - 1))
def und (x y : Int) : Bool := inP x && inP y && undN x.toNat y.toNat

theorem inP_some {x : Int} (h : inP x = true) : ∃ k : Nat, x = (k : Int) ∧ k < 31 := by
  simp only [inP, Bool.and_eq_true, decide_eq_true_eq] at h
  exact ⟨x.toNat, by omega, by omega⟩

theorem isP_eq {R : Type} (N : Nat) (x : Int) (r : Bool → Option R) : isP.M N R x r = r (inP x) := by
  show isP.m N x r = _
  unfold isP.m inP
  by_cases h : 0 ≤ x
  · have : decide (x ≥ 0) = true := by simpa using h
    simp only [cond_true, h, decide_true, Bool.true_and]
  · have : decide (x ≥ 0) = false := by simpa using h
    simp only [cond_false, h, decide_false, Bool.false_and]

/-- A property of all places, by cases. -/
theorem all31 {p : Nat → Prop} (h0 : p 0) (h1 : p 1) (h2 : p 2) (h3 : p 3) (h4 : p 4) (h5 : p 5) (h6 : p 6) (h7 : p 7) (h8 : p 8) (h9 : p 9) (h10 : p 10) (h11 : p 11) (h12 : p 12) (h13 : p 13) (h14 : p 14) (h15 : p 15) (h16 : p 16) (h17 : p 17) (h18 : p 18) (h19 : p 19) (h20 : p 20) (h21 : p 21) (h22 : p 22) (h23 : p 23) (h24 : p 24) (h25 : p 25) (h26 : p 26) (h27 : p 27) (h28 : p 28) (h29 : p 29) (h30 : p 30) : ∀ k, k < 31 → p k
  | 0, _ => h0
  | 1, _ => h1
  | 2, _ => h2
  | 3, _ => h3
  | 4, _ => h4
  | 5, _ => h5
  | 6, _ => h6
  | 7, _ => h7
  | 8, _ => h8
  | 9, _ => h9
  | 10, _ => h10
  | 11, _ => h11
  | 12, _ => h12
  | 13, _ => h13
  | 14, _ => h14
  | 15, _ => h15
  | 16, _ => h16
  | 17, _ => h17
  | 18, _ => h18
  | 19, _ => h19
  | 20, _ => h20
  | 21, _ => h21
  | 22, _ => h22
  | 23, _ => h23
  | 24, _ => h24
  | 25, _ => h25
  | 26, _ => h26
  | 27, _ => h27
  | 28, _ => h28
  | 29, _ => h29
  | 30, _ => h30
  | n + 31, h => absurd h (by omega)

theorem Level_eq {R : Type} (N : Nat) (hN : 10 ≤ N) (k : Nat) (hk : k < 31) (r : Int → Option R) : Level.M N R (k : Int) r = r (levN k : Int) := by
  obtain ⟨M, rfl⟩ : ∃ M, N = M + 10 := ⟨N - 10, by omega⟩
  revert k
  refine all31 ?_ ?_ ?_ ?_ ?_ ?_ ?_ ?_ ?_ ?_ ?_ ?_ ?_ ?_ ?_ ?_ ?_ ?_ ?_ ?_ ?_ ?_ ?_ ?_ ?_ ?_ ?_ ?_ ?_ ?_ ?_
  all_goals (show _ = _; kernel_rfl)

theorem levN_le (k : Nat) : levN k ≤ 4 := by
  unfold levN
  repeat' split
  all_goals omega

theorem ishl_lev (k : Nat) : ishl .i64 1 (levN k : Int) = ((2 ^ levN k : Nat) : Int) := by
  have h := levN_le k
  generalize levN k = n at *
  have : n = 0 ∨ n = 1 ∨ n = 2 ∨ n = 3 ∨ n = 4 := by omega
  rcases this with rfl | rfl | rfl | rfl | rfl <;> rfl

theorem pow_lev (k : Nat) : 1 ≤ 2 ^ levN k ∧ 2 ^ levN k ≤ 16 := by
  have h := levN_le k
  generalize levN k = n at *
  have : n = 0 ∨ n = 1 ∨ n = 2 ∨ n = 3 ∨ n = 4 := by omega
  rcases this with rfl | rfl | rfl | rfl | rfl <;> decide

theorem w64 (z : Int) (h0 : -1000000 ≤ z) (h1 : z ≤ 1000000) : IntKind.i64.wrap z = z := by
  unfold IntKind.wrap
  simp only [IntKind.bits, IntKind.signed, Bool.true_and]
  split
  · rename_i h; simp at h; omega
  · rename_i h; simp at h; omega

theorem Under_eq {R : Type} (N : Nat) (hN : 10 ≤ N) (x y : Int) (r : Bool → Option R) : Under.M N R x y r = r (und x y) := by
  show Under.m _ _ N x y r = _
  unfold Under.m
  rw [isP_eq]
  cases hx : inP x with
  | false => simp only [und, hx, Bool.false_and, Bool.not_false, cond_true]
  | true =>
    obtain ⟨a, rfl, ha⟩ := inP_some hx
    simp only [Bool.not_true, cond_false]
    rw [isP_eq]
    cases hy : inP y with
    | false => simp only [und, hx, hy, Bool.and_false, Bool.false_and, Bool.not_false, cond_true]
    | true =>
      obtain ⟨b, rfl, hb⟩ := inP_some hy
      simp only [Bool.not_true, cond_false]
      rw [Level_eq N hN a ha, Level_eq N hN b hb, Level_eq N hN a ha]
      have hl := levN_le a
      have h0 : (true && decide ((levN a : Int) < 0)) = false := by simp
      rw [h0, cond_false, ishl_lev]
      obtain ⟨p1, p2⟩ := pow_lev a
      rw [w64 (((2 ^ levN a : Nat) : Int) - 1) (by omega) (by omega), w64 _ (by omega) (by omega), w64 _ (by omega) (by omega)]
      simp only [und, hx, hy, Bool.true_and, undN, Int.toNat_natCast]
      have e1 : decide ((levN b : Int) ≤ (levN a : Int)) = Nat.ble (levN b) (levN a) := by
        rw [Bool.eq_iff_iff, decide_eq_true_eq, Nat.ble_eq]; omega
      have e2 : decide ((b : Int) ≥ (a : Int) - (((2 ^ levN a : Nat) : Int) - 1)) = Nat.ble a (b + (2 ^ levN a - 1)) := by
        rw [Bool.eq_iff_iff, decide_eq_true_eq, Nat.ble_eq]; omega
      have e3 : decide ((b : Int) ≤ (a : Int) + (((2 ^ levN a : Nat) : Int) - 1)) = Nat.ble b (a + (2 ^ levN a - 1)) := by
        rw [Bool.eq_iff_iff, decide_eq_true_eq, Nat.ble_eq]; omega
      rw [e1, e2, e3]
      cases Nat.ble (levN b) (levN a) <;> cases Nat.ble a (b + (2 ^ levN a - 1)) <;> simp

/-! ### below what is below -/

def chk3 : Bool := (List.range 31).all fun x => (List.range 31).all fun y => !undN x y || ((List.range 31).all fun z => !undN y z || undN x z)
def chk2 : Bool := (List.range 31).all fun x => (List.range 31).all fun y => undN x y || undN y x || ((List.range 31).all fun z => !(undN x z && undN y z))
theorem chk3_ok : chk3 = true := by kernel_rfl
theorem chk2_ok : chk2 = true := by kernel_rfl

theorem und_trans {x y z : Int} (h1 : und x y = true) (h2 : und y z = true) : und x z = true := by
  simp only [und, Bool.and_eq_true] at h1 h2
  obtain ⟨⟨a1, a2⟩, a3⟩ := h1
  obtain ⟨⟨_, b2⟩, b3⟩ := h2
  obtain ⟨a, rfl, ha⟩ := inP_some a1
  obtain ⟨b, rfl, hb⟩ := inP_some a2
  obtain ⟨c, rfl, hc⟩ := inP_some b2
  simp only [Int.toNat_natCast] at a3 b3
  have h := chk3_ok
  unfold chk3 at h
  have h := List.all_eq_true.1 (List.all_eq_true.1 h a (List.mem_range.2 ha)) b (List.mem_range.2 hb)
  rw [a3] at h
  simp only [Bool.not_true, Bool.false_or] at h
  have h := List.all_eq_true.1 h c (List.mem_range.2 hc)
  rw [b3] at h
  simp only [Bool.not_true, Bool.false_or] at h
  simp only [und, a1, b2, Int.toNat_natCast, h, Bool.and_self]

theorem und_meet {x y z : Int} (h1 : und x z = true) (h2 : und y z = true) : und x y = true ∨ und y x = true := by
  simp only [und, Bool.and_eq_true] at h1 h2
  obtain ⟨⟨a1, a2⟩, a3⟩ := h1
  obtain ⟨⟨b1, _⟩, b3⟩ := h2
  obtain ⟨a, rfl, ha⟩ := inP_some a1
  obtain ⟨b, rfl, hb⟩ := inP_some b1
  obtain ⟨c, rfl, hc⟩ := inP_some a2
  simp only [Int.toNat_natCast] at a3 b3
  have h := chk2_ok
  unfold chk2 at h
  have h := List.all_eq_true.1 (List.all_eq_true.1 h a (List.mem_range.2 ha)) b (List.mem_range.2 hb)
  simp only [Bool.or_eq_true] at h
  rcases h with (h | h) | h
  · left; simp only [und, a1, b1, Int.toNat_natCast, h, Bool.and_self]
  · right; simp only [und, a1, b1, Int.toNat_natCast, h, Bool.and_self]
  · have h := List.all_eq_true.1 h c (List.mem_range.2 hc)
    rw [a3, b3] at h
    simp at h

theorem Leaves_out {R : Type} (N : Nat) (x : Int) (hx : inP x = false) (r : Option Bool → List Int → Option R) : Leaves.M N R x r = r (some true) [] := by
  show Leaves.m _ _ N x r = _
  unfold Leaves.m
  rw [isP_eq, hx]
  rfl

theorem alive17_eq {R : Type} (N : Nat) (hN : 20 ≤ N) (r : Bool → Option R) : alive17.M N R r = r true := by
  obtain ⟨M, rfl⟩ : ∃ M, N = M + 20 := ⟨N - 20, by omega⟩
  kernel_rfl

/-- What the law does with the leaves below a place. -/
theorem leaves_loop {R : Type} (N : Nat) (hN : 40 ≤ N) (x : Int) (r : Bool → Option R) :
    Leaves.M N R x (fun v l => PlacesUnder.L9 (alive17.M N) (Under.M N) (Leaves.M N) N (fun _ _ _ _ _ _ => r false) (fun _ _ _ _ _ _ _ => r false) (fun _ _ _ _ _ _ => r true) N x (-1) v l (l.length : Int) 0) = r true := by
  cases hx : inP x with
  | false =>
    rw [Leaves_out N x hx]
    obtain ⟨M, rfl⟩ : ∃ M, N = M + 1 := ⟨N - 1, by omega⟩
    rfl
  | true =>
    obtain ⟨k, rfl, hk⟩ := inP_some hx
    obtain ⟨M, rfl⟩ : ∃ M, N = M + 40 := ⟨N - 40, by omega⟩
    clear hx
    revert k
    refine all31 ?_ ?_ ?_ ?_ ?_ ?_ ?_ ?_ ?_ ?_ ?_ ?_ ?_ ?_ ?_ ?_ ?_ ?_ ?_ ?_ ?_ ?_ ?_ ?_ ?_ ?_ ?_ ?_ ?_ ?_ ?_
    all_goals (show _ = _; kernel_rfl)

theorem PlacesUnder_true {R : Type} (N : Nat) (hN : 40 ≤ N) (x y z : Int) (r : Bool → Option R) : PlacesUnder.M N R x y z r = r true := by
  show PlacesUnder.m _ _ _ N x y z r = _
  unfold PlacesUnder.m
  rw [alive17_eq N (by omega)]
  simp only [Bool.not_true, cond_false, Under_eq N (show 10 ≤ N by omega), leaves_loop N hN]
  cases h1 : und x y <;> cases h2 : und y z <;> cases h3 : und x z <;> cases h4 : und y x <;> simp only [cond_true, cond_false, Bool.not_true, Bool.not_false]
  · have := und_meet h3 h2; simp_all
  · have := und_trans h1 h2; simp_all
  · have := und_trans h1 h2; simp_all

end Go.Proofs.YtllnbcibleeogaaDoor.fn
