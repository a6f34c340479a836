/- Sums of multiples, step by step. No program in sight. -/
import Derived.Test.YtjaappocnonkbaaDoorEd7
import Derived.Test.YtjaappocnonkbaaDoorBits
namespace Go.Proofs.YtjaappocnonkbaaDoor.fn
open Go Go.Proofs Go.Ev Go.Dg

theorem addP_four {a b c d : F × F} (ha : On a) (hb : On b) (hc : On c) (hd : On d) : addP (addP a b) (addP c d) = addP (addP a c) (addP b d) := by
  rw [addP_assoc ha hb (hc.add hd), ← addP_assoc hb hc hd, addP_comm b c, addP_assoc hc hb hd, ← addP_assoc ha hc (hb.add hd)]

theorem mulP_dbl {p : F × F} (h : On p) (a : Nat) : addP (mulP a p) (mulP a p) = mulP (2 * a) p := by rw [← mulP_add h, ← Nat.two_mul]
theorem mulP_step {p : F × F} (h : On p) (a b : Nat) (hb : b < 2) : (if b = 1 then addP (addP (mulP a p) (mulP a p)) p else addP (mulP a p) (mulP a p)) = mulP (2 * a + b) p := by
  rw [mulP_dbl h]
  by_cases h1 : b = 1
  · rw [if_pos h1, h1]; rfl
  · rw [if_neg h1, show b = 0 by omega]; rfl

/-- So many times p, and so many times q. -/
def two (p q : F × F) (a b : Nat) : F × F := addP (mulP a p) (mulP b q)
theorem two_on {p q : F × F} (hp : On p) (hq : On q) (a b : Nat) : On (two p q a b) := (hp.mul a).add (hq.mul b)
theorem two_step {p q : F × F} (hp : On p) (hq : On q) (a b i j : Nat) (hi : i < 2) (hj : j < 2) :
    (if i = 1 ∧ j = 1 then addP (addP (two p q a b) (two p q a b)) (addP p q) else if i = 1 then addP (addP (two p q a b) (two p q a b)) p else if j = 1 then addP (addP (two p q a b) (two p q a b)) q else addP (two p q a b) (two p q a b)) = two p q (2 * a + i) (2 * b + j) := by
  have e : addP (two p q a b) (two p q a b) = two p q (2 * a) (2 * b) := by
    unfold two
    rw [addP_four (hp.mul a) (hq.mul b) (hp.mul a) (hq.mul b), mulP_dbl hp, mulP_dbl hq]
  have ha := hp.mul (2 * a)
  have hb := hq.mul (2 * b)
  rw [e]
  by_cases h1 : i = 1 <;> by_cases h2 : j = 1
  · rw [if_pos ⟨h1, h2⟩, h1, h2]
    exact addP_four ha hb hp hq
  · rw [if_neg (fun h => h2 h.2), if_pos h1, h1, show j = 0 by omega]
    show addP (addP (mulP (2 * a) p) (mulP (2 * b) q)) p = addP (addP (mulP (2 * a) p) p) (mulP (2 * b) q)
    rw [addP_assoc ha hb hp, addP_comm (mulP (2 * b) q) p, ← addP_assoc ha hp hb]
  · rw [if_neg (fun h => h1 h.1), if_neg h1, if_pos h2, h2, show i = 0 by omega]
    exact addP_assoc ha hb hq
  · rw [if_neg (fun h => h1 h.1), if_neg h1, if_neg h2, show i = 0 by omega, show j = 0 by omega]
    rfl

/-- p and q and p go together in whatever order. -/
theorem again {p q : F × F} (hp : On p) (hq : On q) : addP (addP p q) p = addP (addP p p) q := by
  rw [addP_assoc hp hq hp, addP_comm q p, ← addP_assoc hp hp hq]

/-- The number of a row's first bits. -/
theorem vl_small (k : List Nat) : ∀ (n a : Nat), (∀ i, i < n → bit k i = 0) → vl k n a = a * 2 ^ n := by
  intro n
  induction n with
  | zero => intro a _; show a = _; rw [Nat.pow_zero, Nat.mul_one]
  | succ n ih =>
    intro a h
    rw [vl_succ, h n (by omega), ih _ (fun i hi => h i (by omega)), Nat.pow_succ, Nat.add_zero, Nat.mul_comm 2 a, Nat.mul_assoc, Nat.mul_comm 2]

end Go.Proofs.YtjaappocnonkbaaDoor.fn
