/- What slices.Concat comes to. -/
import Derived.Test.YtjaekdcbjfgcpaaDoorFnCat
import Derived.Test.YtjaekdcbjfgcpaaDoorNum
namespace Go.Proofs.YtjaekdcbjfgcpaaDoor.fn
open Go Go.Proofs Go.Ev Go.Dg

theorem drop_cons {α : Type} (l : List α) (i : Nat) (d : α) (h : i < l.length) : l.drop i = l.getD i d :: l.drop (i + 1) := by
  rw [List.drop_eq_getElem_cons h]
  simp [List.getD, List.getElem?_eq_getElem h]
theorem take_more {α : Type} (l : List α) (i : Nat) (d : α) (h : i < l.length) : l.take (i + 1) = l.take i ++ [l.getD i d] := by
  rw [List.take_add_one]
  simp [List.getD, List.getElem?_eq_getElem h]

theorem cat_sum {R : Type} (N : Nat) (ke : List (List Int) → Int → List (List Int) → Int → Int → Option R) (s0 ll : List (List Int)) (ht : ll.flatten.length ≤ 1000000) (hl : ll.length ≤ 1000) :
    ∀ (d m i s : Nat), i + d = ll.length → d < m → s + (ll.drop i).flatten.length = ll.flatten.length →
      Concat.L3 (Grow.M N) N ke m s0 (s : Int) ll (ll.length : Int) (i : Int) = ke s0 (ll.flatten.length : Int) ll (ll.length : Int) (ll.length : Int) := by
  intro d
  induction d with
  | zero =>
    intro m i s hi hm hs
    obtain ⟨m, rfl⟩ : ∃ k, m = k + 1 := ⟨m - 1, by omega⟩
    obtain rfl : i = ll.length := by omega
    rw [List.drop_length] at hs
    have hs : s = ll.flatten.length := hs
    subst hs
    unfold Concat.L3
    rw [decide_eq_false (by omega), cond_false]
  | succ d ih =>
    intro m i s hi hm hs
    obtain ⟨m, rfl⟩ : ∃ k, m = k + 1 := ⟨m - 1, by omega⟩
    rw [drop_cons ll i [] (by omega), List.flatten_cons, List.length_append] at hs
    unfold Concat.L3
    rw [decide_eq_true (by omega), cond_true, decide_eq_true (by omega), cond_true, cond_true, Int.toNat_natCast, wrap_i64z ((s : Int) + _) (by omega) (by omega), decide_eq_false (by omega), cond_false, wrap_i64z _ (by omega) (by omega)]
    have := ih m (i + 1) (s + (ll.getD i []).length) (by omega) (by omega) (by omega)
    rw [Int.natCast_add, Int.natCast_add] at this
    exact this

theorem cat_app {R : Type} (N : Nat) (ke : Option Nat → List (List Int) → Int → Int → Bool → List Int → Option R) (ll : List (List Int)) (ht : ll.flatten.length ≤ 1000000) (hl : ll.length ≤ 1000) (X : Option R)
    (h : ∀ o a b c nl l, cut o 0 l = ll.flatten → ke o a b c nl l = X) :
    ∀ (d m i : Nat) (o : Option Nat) (nl : Bool) (l : List Int), i + d = ll.length → d < m → cut o 0 l = (ll.take i).flatten →
      Concat.L11 (Grow.M N) N ke m o ll (ll.length : Int) (i : Int) nl l = X := by
  intro d
  induction d with
  | zero =>
    intro m i o nl l hi hm hs
    obtain ⟨m, rfl⟩ : ∃ k, m = k + 1 := ⟨m - 1, by omega⟩
    obtain rfl : i = ll.length := by omega
    rw [List.take_length] at hs
    unfold Concat.L11
    rw [decide_eq_false (by omega), cond_false]
    exact h _ _ _ _ _ _ hs
  | succ d ih =>
    intro m i o nl l hi hm hs
    obtain ⟨m, rfl⟩ : ∃ k, m = k + 1 := ⟨m - 1, by omega⟩
    have e := take_more ll i [] (by omega)
    have hb : (ll.take (i + 1)).flatten.length ≤ ll.flatten.length := by
      have := congrArg (fun z => (List.flatten z).length) (List.take_append_drop (i + 1) ll)
      simp only [List.flatten_append, List.length_append] at this
      omega
    rw [e, List.flatten_append, List.length_append, List.flatten_singleton] at hb
    unfold Concat.L11
    rw [hs]
    rw [decide_eq_true (by omega), cond_true, decide_eq_true (by omega), cond_true, cond_true, Int.toNat_natCast, decide_eq_true (by omega), cond_true, decide_eq_true (by omega), cond_true, wrap_i64z _ (by omega) (by omega)]
    exact ih m (i + 1) none _ _ (by omega) (by omega) (by rw [e, List.flatten_append, List.flatten_singleton]; rfl)

theorem Concat_eq {R : Type} (N : Nat) (hN : 2000 < N) (ll : List (List Int)) (hl : ll.length ≤ 1000) (ht : ll.flatten.length ≤ 1000000) (kr0 : Option Nat → Bool → List Int → Option R) (X : Option R)
    (h : ∀ o nl l, cut o 0 l = ll.flatten → kr0 o nl l = X) : Concat.M N R ll kr0 = X := by
  show Concat.m (Grow.M N) N ll kr0 = X
  unfold Concat.m
  rw [show (0 : Int) = ((0 : Nat) : Int) from rfl]
  refine (cat_sum N _ ll ll ht hl ll.length N 0 0 (by omega) (by omega) (by rw [List.drop_zero]; omega)).trans ?_
  have h' : ∀ (o : Option Nat) (a : List (List Int)) (b c : Int) (nl : Bool) (l : List Int), cut o 0 l = ll.flatten → (fun o _ _ _ nl l => kr0 o nl l) o a b c nl l = X := fun o a b c nl l hh => h o nl l hh
  show Grow.M N R (ll.flatten.length : Int) _ _ = X
  unfold Grow.M
  by_cases h0 : ll.flatten.length = 0
  · rw [decide_eq_true (by omega), cond_true]
    exact cat_app N _ ll ht hl X h' ll.length N 0 none true [] (by omega) (by omega) (by rw [List.take_zero]; rfl)
  · rw [decide_eq_false (by omega), cond_false]
    unfold Grow.big
    rw [decide_eq_true (by omega), decide_eq_true (by omega), Bool.and_true, cond_true]
    exact cat_app N _ ll ht hl X h' ll.length N 0 (some 0) false _ (by omega) (by omega) (by rw [List.take_zero]; simp [cut])

end Go.Proofs.YtjaekdcbjfgcpaaDoor.fn
