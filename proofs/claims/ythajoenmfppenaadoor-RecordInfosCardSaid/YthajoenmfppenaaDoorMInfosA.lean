/- What the bytes of lists of numbers and of a tree's places are. -/
import Derived.Test.YthajoenmfppenaaDoorMFormsR
import Derived.Test.YthajoenmfppenaaDoorFnNode
import Derived.Test.YthajoenmfppenaaDoorFnTreeR
namespace Go.Proofs.YthajoenmfppenaaDoor.fn
open Go Go.Proofs Go.Ev Go.Dg
theorem i64n {i n : Nat} (h : i < n) (hn : n ≤ 1000000) : IntKind.i64.wrap ((i : Int) + 1) = ((i + 1 : Nat) : Int) := by
  rw [wrap_i64z _ (by omega) (by omega)]; omega
theorem dropS {α : Type} (l : List α) (i : Nat) (d : α) (h : i < l.length) : l.drop i = l.getD i d :: l.drop (i + 1) := dropC l i d h
def rise : Int → List Int → Bool
  | _, [] => true
  | last, n :: l => decide (last < n) && (decide (n ≤ 15) && rise n l)
theorem rise_le : ∀ (l : List Int) (last : Int), last ≤ 15 → rise last l = true → (l.length : Int) ≤ 15 - last
  | [], last, h, _ => by simp; omega
  | n :: l, last, h, e => by
    unfold rise at e
    simp only [Bool.and_eq_true, decide_eq_true_eq] at e
    have := rise_le l n e.2.1 e.2.2
    simp only [List.length_cons]
    omega
theorem rise16 {l : List Int} (h : rise (-1) l = true) : l.length ≤ 16 := by have := rise_le l (-1) (by omega) h; omega
theorem frise_loop {R : Type} (N : Nat) (l : List Int) (hl : l.length ≤ 1000000) (r : Bool → Option R) (ke0 ke1 ke2 : Int → (Option Bool) → (List Int) → Int → Int → Option R) (z : Option Bool)
    (h0 : ∀ a b c d, ke0 a z b c d = r false) (h1 : ∀ a b c d, ke1 a z b c d = r false) (h2 : ∀ a b c d, ke2 a z b c d = r true) :
    ∀ (d i m : Nat) (last : Int), i + d = l.length → d < m → frise.L3 N ke0 ke1 ke2 m last z l (l.length : Int) (i : Int) = r (rise last (l.drop i))
  | 0, i, m + 1, last, hi, _ => by
    unfold frise.L3
    rw [decide_eq_false (by omega), cond_false, h2, List.drop_eq_nil_of_le (by omega)]
    rfl
  | d + 1, i, m + 1, last, hi, hm => by
    unfold frise.L3
    rw [decide_eq_true (show (i : Int) < (l.length : Int) by omega), cond_true, decide_eq_true (show (0 : Int) ≤ (i : Int) by omega), cond_true, cond_true, Int.toNat_natCast, dropS l i 0 (by omega)]
    unfold rise
    by_cases c1 : l.getD i 0 ≤ last
    · rw [decide_eq_true c1, cond_true, h0, decide_eq_false (by omega), Bool.false_and]
    · rw [decide_eq_false c1, cond_false, decide_eq_true (show last < l.getD i 0 by omega), Bool.true_and]
      by_cases c2 : l.getD i 0 ≥ 16
      · rw [decide_eq_true c2, cond_true, h1, decide_eq_false (by omega), Bool.false_and]
      · rw [decide_eq_false c2, cond_false, decide_eq_true (show l.getD i 0 ≤ 15 by omega), Bool.true_and, i64n (n := l.length) (by omega) hl]
        exact frise_loop N l hl r ke0 ke1 ke2 z h0 h1 h2 d (i + 1) m _ (by omega) (by omega)
theorem frise_eq {R : Type} (N : Nat) (hN : 1000000 < N) (z : Option Bool) (l : List Int) (hl : l.length ≤ 1000000) (r : Bool → Option R) : frise.M N R z l r = r (rise (-1) l) := by
  show frise.m N z l r = _
  unfold frise.m
  refine (frise_loop N l hl r _ _ _ z ?_ ?_ ?_ l.length 0 N (-1) (by omega) (by omega)).trans ?_
  · intros; rfl
  · intros; rfl
  · intros; rfl
  · rw [List.drop_zero]
theorem r18rise_loop {R : Type} (N : Nat) (l : List Int) (hl : l.length ≤ 1000000) (r : Bool → Option R) (ke0 ke1 ke2 ke3 : (Option Bool) → (List Int) → (Option Bool) → (List Int) → Int → Int → Option R) (z : Option Bool)
    (h0 : ∀ a b c d e f, ke0 a b c d e f = r false) (h1 : ∀ a b c d e f, ke1 a b c d e f = r false) (h2 : ∀ a b c d e f, ke2 a b c d e f = r false) (h3 : ∀ a b c d e f, ke3 a b c d e f = r true) :
    ∀ (d i m : Nat) (last : Int), i + d = l.length → d < m → (i = 0 → last = -1) → (0 < i → last = l.getD (i - 1) 0 ∧ 0 ≤ last) → r18rise.L2 N ke0 ke1 ke2 ke3 m z l z l (l.length : Int) (i : Int) = r (rise last (l.drop i))
  | 0, i, m + 1, last, hi, _, _, _ => by
    unfold r18rise.L2
    rw [decide_eq_false (by omega), cond_false, h3, List.drop_eq_nil_of_le (by omega)]
    rfl
  | d + 1, i, m + 1, last, hi, hm, p0, p1 => by
    unfold r18rise.L2
    rw [decide_eq_true (show (i : Int) < (l.length : Int) by omega), cond_true, decide_eq_true (show (0 : Int) ≤ (i : Int) by omega), cond_true, cond_true, Int.toNat_natCast, dropS l i 0 (by omega)]
    unfold rise
    have hlast : -1 ≤ last := by
      rcases Nat.eq_zero_or_pos i with h | h
      · have := p0 h; omega
      · have := (p1 h).2; omega
    by_cases c1 : l.getD i 0 < 0
    · rw [decide_eq_true c1, cond_true, h0, decide_eq_false (by omega), Bool.false_and]
    · rw [decide_eq_false c1, cond_false]
      by_cases c2 : l.getD i 0 > 15
      · rw [decide_eq_true c2, cond_true, h1, decide_eq_false (show ¬ l.getD i 0 ≤ 15 by omega), Bool.false_and, Bool.and_false]
      · rw [decide_eq_false c2, cond_false, decide_eq_true (show l.getD i 0 ≤ 15 by omega), Bool.true_and]
        have next := r18rise_loop N l hl r ke0 ke1 ke2 ke3 z h0 h1 h2 h3 d (i + 1) m (l.getD i 0) (by omega) (by omega) (by omega) (fun _ => ⟨by rw [Nat.add_sub_cancel], by omega⟩)
        rcases Nat.eq_zero_or_pos i with h | h
        · have := p0 h
          rw [decide_eq_false (by omega), cond_false, decide_eq_true (show last < l.getD i 0 by omega), Bool.true_and, i64n (n := l.length) (by omega) hl]
          exact next
        · obtain ⟨q1, q2⟩ := p1 h
          have ew : IntKind.i64.wrap ((i : Int) - 1) = ((i - 1 : Nat) : Int) := by rw [wrap_i64z _ (by omega) (by omega)]; omega
          rw [decide_eq_true (show (i : Int) > 0 by omega), cond_true, ew, decide_eq_true (show (0 : Int) ≤ ((i - 1 : Nat) : Int) by omega), cond_true, decide_eq_true (by omega), cond_true, Int.toNat_natCast, ← q1]
          by_cases c3 : l.getD i 0 ≤ last
          · rw [decide_eq_true c3, cond_true, h2, decide_eq_false (by omega), Bool.false_and]
          · rw [decide_eq_false c3, cond_false, decide_eq_true (show last < l.getD i 0 by omega), Bool.true_and, i64n (n := l.length) (by omega) hl]
            exact next
theorem r18rise_eq {R : Type} (N : Nat) (hN : 1000000 < N) (z : Option Bool) (l : List Int) (hl : l.length ≤ 1000000) (r : Bool → Option R) : r18rise.M N R z l r = r (rise (-1) l) := by
  show r18rise.m N z l r = _
  unfold r18rise.m
  refine (r18rise_loop N l hl r _ _ _ _ z ?_ ?_ ?_ ?_ l.length 0 N (-1) (by omega) (by omega) (fun _ => rfl) (fun h => absurd h (by omega))).trans ?_
  · intros; rfl
  · intros; rfl
  · intros; rfl
  · intros; rfl
  · rw [List.drop_zero]
theorem wfail2_eq {R : Type} (N : Nat) (e : Nat) (nl : Bool) (t : List (List Int)) (er : Nat) (r : Nat → Bool → List (List Int) → Option R) : wfail2.M N R e nl t er r = r (fe e er) nl t := by
  show wfail2.m N e nl t er r = _
  unfold wfail2.m fe
  rw [beq0]
  by_cases h : e = 0
  · rw [decide_eq_true h, cond_true, if_pos h]
  · rw [decide_eq_false h, cond_false, if_neg h]
theorem wput2_eq {R : Type} (N : Nat) (e : Nat) (nl : Bool) (t : List (List Int)) (ht : t.length ≤ 1000) (z : Option Bool) (l : List Int) (r : Nat → List (List Int) → Option R) : wput2.M N R e nl t z l r = r e (t ++ [l]) := by
  show wput2.m N e nl t z l r = _
  unfold wput2.m
  rw [decide_eq_true (by omega), cond_true, decide_eq_true (by omega), cond_true]
theorem wsub2_eq {R : Type} (N : Nat) (e : Nat) (nl : Bool) (t : List (List Int)) (ht : t.length ≤ 1000) (z : Option Bool) (l : List Int) (er : Nat) (r : Nat → List (List Int) → Option R) : wsub2.M N R e nl t z l er r = r (fe e er) (t ++ [l]) := by
  show wsub2.m (wfail2.M N) (wput2.M N) N e nl t z l er r = _
  unfold wsub2.m
  rw [beq0]
  by_cases h : er = 0
  · rw [decide_eq_true h, Bool.not_true, cond_false, wput2_eq N e nl t ht, h, fe_r]
  · rw [decide_eq_false h, Bool.not_false, cond_true, wfail2_eq, wput2_eq N _ _ t ht]
theorem wdone2_eq {R : Type} (N : Nat) (hN : 1000 < N) (e : Nat) (nl : Bool) (t : List (List Int)) (ht : ∀ x ∈ t, x.length ≤ 1000000) (k : Option Bool → List Int → Nat → Option R) :
    wdone2.M N R e nl t (fun v _ _ _ => k (some true) [] v) (fun a b c _ => k a b c) = doneK e t k := by
  show wdone2.m (wRow.M N) N e nl t _ _ = _
  unfold wdone2.m doneK
  rw [beq0]
  by_cases h : e = 0
  · rw [decide_eq_true h, Bool.not_true, cond_false, if_pos h, wRow_eq N hN t ht]
  · rw [decide_eq_false h, Bool.not_false, cond_true, if_neg h]
theorem listInt_loop {R : Type} (N : Nat) (hN : 1000 < N) (z : Option Bool) (l : List Int) (hl : l.length ≤ 100) (ke0 : (Option Bool) → (List Int) → Int → Int → Nat → Bool → (List (List Int)) → Option R) (e : Nat) (K : List (List Int) → Option R)
    (hk : ∀ nl t, ke0 z l (l.length : Int) (l.length : Int) e nl t = K t) :
    ∀ (d i m : Nat) (nl : Bool) (t : List (List Int)), i + d = l.length → d < m → t.length ≤ 200 - d → listInt.L4 (wneed0.M N) (wneed1.M N) (wsub2.M N) (wdone2.M N) (fnumber.M N) N ke0 m z l (l.length : Int) (i : Int) e nl t = K (t ++ (l.drop i).map num8)
  | 0, i, m + 1, nl, t, hi, _, _ => by
    unfold listInt.L4
    have : i = l.length := by omega
    subst this
    rw [decide_eq_false (by omega), cond_false, hk, List.drop_eq_nil_of_le (by omega), List.map_nil, List.append_nil]
  | d + 1, i, m + 1, nl, t, hi, hm, ht => by
    unfold listInt.L4
    rw [decide_eq_true (show (i : Int) < (l.length : Int) by omega), cond_true, decide_eq_true (show (0 : Int) ≤ (i : Int) by omega), cond_true, cond_true, Int.toNat_natCast, dropS l i 0 (by omega), List.map_cons]
    show wNum.M N R (l.getD i 0) _ = _
    rw [wNumB_eq N hN, wsub2_eq N _ _ t (by omega), fe_r, i64n (n := l.length) (by omega) (by omega)]
    have := listInt_loop N hN z l hl ke0 e K hk d (i + 1) m false (t ++ [num8 (l.getD i 0)]) (by omega) (by omega) (by rw [List.length_append, List.length_singleton]; omega)
    rw [List.append_assoc, List.singleton_append] at this
    exact this
end Go.Proofs.YthajoenmfppenaaDoor.fn
