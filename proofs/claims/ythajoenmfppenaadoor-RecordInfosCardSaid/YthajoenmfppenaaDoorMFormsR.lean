/- What the forms' bytes are by definition. -/
import Derived.Test.YthajoenmfppenaaDoorMForms
import Derived.Test.YthajoenmfppenaaDoorFnFormsR
namespace Go.Proofs.YthajoenmfppenaaDoor.fn
open Go Go.Proofs Go.Ev Go.Dg
def leafOk (n : List Int) : Bool := decide (1 ≤ n.length) && decide (n.length ≤ 32)
def leafR (a b n p s : List Int) : List Int := rowB [a, b, n, p, s]
def ctxOk (n : Int) : Bool := decide (0 ≤ n) && decide (n ≤ 1099511627776)
def ctxR (g : List Int) (n : Int) (t s : List Int) : List Int := rowB [g, num8 n, t, s]
theorem leafE_ec (n : List Int) : leafE n = ec (leafOk n) := rfl
theorem ctxE_ec (n : Int) : ctxE n = ec (ctxOk n) := rfl
theorem leafB_ok {a b n p s : List Int} (h : leafOk n = true) : leafB a b n p s = leafR a b n p s := by unfold leafB; rw [leafE_ec, h]; rfl
theorem ctxB_ok {g : List Int} {n : Int} {t s : List Int} (h : ctxOk n = true) : ctxB g n t s = ctxR g n t s := by unfold ctxB; rw [ctxE_ec, h]; rfl
theorem rBytes_fit {R : Type} (N : Nat) (hN : 1000 < N) (l : List (List Int)) (ht : ∀ t ∈ l, t.length ≤ 1000000) (h : fitsR l = true) (r : Option Bool → List Int → Option R) : rBytes.M N R l r = r none (rowB l) := by
  show rBytes.m (rRow.M N) N l r = _
  unfold rBytes.m
  rw [rRow_eq N hN l ht, h, cond_true]
theorem r18row_fit {R : Type} (N : Nat) (hN : 1000 < N) (l : List (List Int)) (ht : ∀ t ∈ l, t.length ≤ 1000000) (h : fitsR l = true) (r : Option Bool → List Int → Option R) : r18row.M N R l r = r none (rowB l) := by
  show r18row.m (rBytes.M N) N l r = _
  unfold r18row.m
  rw [rBytes_fit N hN l ht h]
theorem r18num_eq {R : Type} (N : Nat) (hN : 1000 < N) (n : Int) (r : List Int → Option R) : r18num.M N R n r = r (num8 n) := by
  show r18num.m (rNum.M N) N n r = _
  unfold r18num.m
  rw [rNumB_eq N hN]
  rfl
theorem r18epoch_eq {R : Type} (N : Nat) (n : Int) (r : Bool → Option R) : r18epoch.M N R n r = r (ctxOk n) := by
  show r18epoch.m N n r = _
  unfold r18epoch.m ctxOk
  by_cases h : 0 ≤ n
  · rw [decide_eq_true (show n ≥ 0 from h), cond_true]; rfl
  · rw [decide_eq_false (show ¬ n ≥ 0 from h), cond_false]; rfl
theorem leafR_len (a b n p s : List Int) (ha : a.length = 32) (hb : b.length = 32) (hn : n.length ≤ 1000) (hp : p.length = 32) (hs : s.length = 64) : (leafR a b n p s).length ≤ 1200 := by unfold leafR; rw [rowB_len, body5]; omega
theorem ctxR_len (g : List Int) (n : Int) (t s : List Int) (hg : g.length = 32) (ht : t.length = 32) (hs : s.length = 32) : (ctxR g n t s).length ≤ 200 := by
  have h8 := num8_len n
  unfold ctxR
  rw [rowB_len, body4]; omega
theorem okCond {R : Type} (n : List Int) (k : Bool → Option R) : cond (decide ((n.length : Int) ≥ 1)) (k (decide ((n.length : Int) ≤ 32))) (k false) = k (leafOk n) := by
  unfold leafOk
  by_cases h : 1 ≤ n.length
  · rw [decide_eq_true (show ((n.length : Int) ≥ 1) by omega), cond_true, decide_eq_true h, Bool.true_and]
    congr 1
    exact decide_eq_decide.2 (by omega)
  · rw [decide_eq_false (show ¬ ((n.length : Int) ≥ 1) by omega), cond_false, decide_eq_false h, Bool.false_and]
theorem r18Leaf_eq {R : Type} (N : Nat) (hN : 1000 < N) (a b : List Int) (z : Option Bool) (n p s : List Int) (ha : a.length = 32) (hb : b.length = 32) (hn : n.length ≤ 1000) (hp : p.length = 32) (hs : s.length = 64) (r : Option Bool → List Int → Bool → Option R) :
    r18Leaf.M N R a b z n p s r = r none (leafR a b n p s) (leafOk n) := by
  show r18Leaf.m (r18row.M N) N a b z n p s r = _
  unfold r18Leaf.m
  try dsimp only
  rw [t32 ha, t32 hb, t32 hp, t64 hs, r18row_fit N hN _ (all5 (by omega) (by omega) (by omega) (by omega) (by omega)) (fits5 _ _ _ _ _ (by omega))]
  exact okCond n (r none (rowB [a, b, n, p, s]))
theorem r18Context_eq {R : Type} (N : Nat) (hN : 1000 < N) (g : List Int) (n : Int) (t s : List Int) (hg : g.length = 32) (ht : t.length = 32) (hs : s.length = 32) (r : Option Bool → List Int → Bool → Option R) :
    r18Context.M N R g n t s r = r none (ctxR g n t s) (ctxOk n) := by
  show r18Context.m (r18num.M N) (r18row.M N) (r18epoch.M N) N g n t s r = _
  unfold r18Context.m
  try dsimp only
  have h8 := num8_len n
  rw [r18num_eq N hN, t32 hg, t32 ht, t32 hs, r18row_fit N hN _ (all4 (by omega) (by omega) (by omega) (by omega)) (fits4 _ _ _ _ (by omega)), r18epoch_eq]
  rfl
end Go.Proofs.YthajoenmfppenaaDoor.fn
