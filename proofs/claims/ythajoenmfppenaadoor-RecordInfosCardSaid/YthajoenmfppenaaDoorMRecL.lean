/- What the laws of records have in common. Printed by a program. -/
import Derived.Test.YthajoenmfppenaaDoorMRec
import Derived.Test.YthajoenmfppenaaDoorMHB
import Derived.Test.YthajoenmfppenaaDoorFnL23
namespace Go.Proofs.YthajoenmfppenaaDoor.fn
open Go Go.Proofs Go.Ev Go.Dg
def z32 : List Int := [0, 0, 0, 0, 0, 0, 0, 0, 0, 0, 0, 0, 0, 0, 0, 0, 0, 0, 0, 0, 0, 0, 0, 0, 0, 0, 0, 0, 0, 0, 0, 0]
theorem Num4 {R : Type} (M : Nat) (r : Int → Option R) : Num.M (M + 80) R 4 r = r 4 := by show _ = _; kernel_rfl
theorem told_eq {R : Type} (M : Nat) (z z' : Option Bool) (ok : Bool) (x w : List Int) (h : ok = true → x = w) (r : Bool → Option R) : told23.M (M + 80) R z (okB (ec ok) x) (ec ok) z' w ok r = r true := by
  show told23.m (Num.M (M + 80)) (M + 80) z _ _ z' w ok r = _
  unfold told23.m
  cases ok with
  | false =>
    show cond (((([] : List Int).length : Int)) == 0) (Num.M (M + 80) R 4 (fun v => r (v == 4))) (r false) = _
    rw [show (((([] : List Int).length : Int)) == 0) = true from rfl, cond_true, Num4]
    rfl
  | true =>
    rw [h rfl]
    show r (toStr w == toStr w) = _
    rw [beq_self_eq_true]
theorem bigLeaf23_eq {R : Type} (N : Nat) (a b : List Int) (z : Option Bool) (n p s : List Int) (r : Bool → Option R) : bigLeaf23.M N R a b z n p s r = r (decide ((n.length : Int) > 100)) := rfl
theorem alive23_eq {R : Type} (N : Nat) (hN : 2000 < N) (r : Bool → Option R) : alive23.M N R r = r true := by
  show alive23.m (Interim.M N) (sSum.M N) N r = _
  unfold alive23.m
  refine (sSum_eq N hN [cut (some 32) 0 z32, cut (some 32) 0 z32] (by intro x hx; simp only [List.mem_cons, List.not_mem_nil, or_false] at hx; rcases hx with rfl | rfl <;> decide) (by simp) _).trans ?_
  try dsimp only
  rw [sSum_eq N hN _ (by intro x hx; rw [List.mem_singleton.1 hx]; decide) (by simp)]
  have e : [cut (some 32) 0 z32, cut (some 32) 0 z32].flatten = ([[0, 0, 0, 0, 0, 0, 0, 0, 0, 0, 0, 0, 0, 0, 0, 0, 0, 0, 0, 0, 0, 0, 0, 0, 0, 0, 0, 0, 0, 0, 0, 0, 0, 0, 0, 0, 0, 0, 0, 0, 0, 0, 0, 0, 0, 0, 0, 0, 0, 0, 0, 0, 0, 0, 0, 0, 0, 0, 0, 0, 0, 0, 0, 0]] : List (List Int)).flatten := by decide
  rw [e, beq_self_eq_true]
end Go.Proofs.YthajoenmfppenaaDoor.fn
