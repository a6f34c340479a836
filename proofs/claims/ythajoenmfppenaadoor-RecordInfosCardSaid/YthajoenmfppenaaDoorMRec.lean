/- What senders of offers and owners of packages sign. -/
import Derived.Test.YthajoenmfppenaaDoorMFormsR
import Derived.Test.YthajoenmfppenaaDoorFnRec
namespace Go.Proofs.YthajoenmfppenaaDoor.fn
open Go Go.Proofs Go.Ev Go.Dg
theorem fe_ec (a b : Bool) : fe (ec a) (ec b) = ec (a && b) := by cases a <;> cases b <;> rfl
theorem radd_eq {R : Type} (N : Nat) (e : Nat) (t : List (List Int)) (ht : t.length ≤ 1000) (z : Option Bool) (l : List Int) (er : Nat) (r : Nat → List (List Int) → Option R) : radd.M N R e t z l er r = r (fe e er) (t ++ [l]) := by
  show radd.m N e t z l er r = _
  unfold radd.m fe
  have h1 : (t.length + 1) * 24 ≤ 140737488355328 := by omega
  have h2 : t.length + 1 ≤ 140737488355328 := by omega
  rw [beq0, decide_eq_true h1, decide_eq_true h2, cond_true, cond_true, cond_true, cond_true]
  by_cases h : e = 0
  · rw [decide_eq_true h, cond_true, if_pos h]
  · rw [decide_eq_false h, cond_false, if_neg h]
theorem rput1_eq {R : Type} (N : Nat) (e : Nat) (t : List (List Int)) (x : List Int) (l : List (List Int)) (ht : t.length + (x :: l).length ≤ 1000) (r : Nat → List (List Int) → Option R) : rput1.M N R e t x l r = r e (t ++ x :: l) := by
  show rput1.m N e t x l r = _
  unfold rput1.m
  rw [decide_eq_true (by omega), cond_true, decide_eq_true (by omega), cond_true]
theorem rdone_eq {R : Type} (N : Nat) (hN : 1000 < N) (e : Nat) (t : List (List Int)) (ht : ∀ x ∈ t, x.length ≤ 1000000) (k : Option Bool → List Int → Nat → Option R) :
    rdone.M N R e t (fun v _ _ => k (some true) [] v) (fun a b c _ => k a b c) = doneK e t k := by
  show rdone.m (wRow.M N) N e t _ _ = _
  unfold rdone.m doneK
  rw [beq0]
  by_cases h : e = 0
  · rw [decide_eq_true h, Bool.not_true, cond_false, if_pos h, wRow_eq N hN t ht]
  · rw [decide_eq_false h, Bool.not_false, cond_true, if_neg h]
theorem rbegin_eq {R : Type} (N : Nat) (word : List UInt8) (r : List (List Int) → Option R) : rbegin.M N R word r = r [cut none 0 (ofStr word)] := rfl
end Go.Proofs.YthajoenmfppenaaDoor.fn
