/- What the forms' bytes are by definition. -/
import Derived.Test.YthajoenmfppenaaDoorMForms
import Derived.Test.YthajoenmfppenaaDoorFnFormsR
namespace Go.Proofs.YthajoenmfppenaaDoor.fn
open Go Go.Proofs Go.Ev Go.Dg

def leafOk (n : List Int) : Bool := decide (1 ≤ n.length) && decide (n.length ≤ 32)
def leafR (a b n p s : List Int) : List Int := rowB [a, b, n, p, s]
def pkgR (i a b n p s g : List Int) : List Int := rowB [i, leafR a b n p s, g]
def sendOk (w : Int) : Bool := decide (0 ≤ w) && decide (w ≤ 15)
def propOk (k w : Int) (n m : List Int) : Bool := if k = 1 then leafOk n else if k = 2 then sendOk w else if k = 3 then leafOk m else false
def propZ (k : Int) : Option Bool := if k = 1 then none else if k = 2 then none else if k = 3 then none else some true
def propW (k w : Int) (i a b n p s g a' b' m p' s' : List Int) : List Int := if k = 1 then rowB [num8 1, pkgR i a b n p s g] else if k = 2 then rowB [num8 2, num8 w] else if k = 3 then rowB [num8 3, leafR a' b' m p' s'] else []
def ctxOk (n : Int) : Bool := decide (0 ≤ n) && decide (n ≤ 1099511627776)
def ctxR (g : List Int) (n : Int) (t s : List Int) : List Int := rowB [g, num8 n, t, s]

theorem leafE_ec (n : List Int) : leafE n = ec (leafOk n) := rfl
theorem ctxE_ec (n : Int) : ctxE n = ec (ctxOk n) := rfl
theorem propE_ec (k w : Int) (n m : List Int) : propE k w n m = ec (propOk k w n m) := by
  unfold propE propOk
  split
  · rfl
  · split
    · rfl
    · split <;> rfl
theorem leafB_ok {a b n p s : List Int} (h : leafOk n = true) : leafB a b n p s = leafR a b n p s := by unfold leafB; rw [leafE_ec, h]; rfl
theorem pkgB_ok {i a b n p s g : List Int} (h : leafOk n = true) : pkgB i a b n p s g = pkgR i a b n p s g := by unfold pkgB pkgR; rw [leafB_ok h, leafE_ec, h]; rfl
theorem ctxB_ok {g : List Int} {n : Int} {t s : List Int} (h : ctxOk n = true) : ctxB g n t s = ctxR g n t s := by unfold ctxB; rw [ctxE_ec, h]; rfl
theorem propB_ok (k w : Int) (i a b n p s g a' b' m p' s' : List Int) (h : propOk k w n m = true) : propB k w i a b n p s g a' b' m p' s' = propW k w i a b n p s g a' b' m p' s' := by
  unfold propB
  rw [propE_ec, h]
  show rowB _ = _
  unfold propT propW
  unfold propOk at h
  by_cases h1 : k = 1
  · rw [if_pos h1] at h ⊢
    rw [if_pos h1, pkgB_ok h, h1]
  · rw [if_neg h1] at h ⊢
    rw [if_neg h1]
    by_cases h2 : k = 2
    · rw [if_pos h2, if_pos h2, h2]
    · rw [if_neg h2] at h ⊢
      rw [if_neg h2]
      by_cases h3 : k = 3
      · rw [if_pos h3] at h ⊢
        rw [leafB_ok h, h3]
      · rw [if_neg h3] at h; cases h

theorem rBytes_fit {R : Type} (N : Nat) (hN : 1000 < N) (l : List (List Int)) (ht : ∀ t ∈ l, t.length ≤ 1000000) (h : fitsR l = true) (r : Option Bool → List Int → Option R) : rBytes.M N R l r = r none (rowB l) := by
  show rBytes.m (rRow.M N) N l r = _
  unfold rBytes.m
  rw [rRow_eq N hN l ht, h, cond_true]
theorem r18row_fit {R : Type} (N : Nat) (hN : 1000 < N) (l : List (List Int)) (ht : ∀ t ∈ l, t.length ≤ 1000000) (h : fitsR l = true) (r : Option Bool → List Int → Option R) : r18row.M N R l r = r none (rowB l) := by
  show r18row.m (rBytes.M N) N l r = _
  unfold r18row.m
  rw [rBytes_fit N hN l ht h]
theorem r18num_eq {R : Type} (N : Nat) (hN : 1000 < N) (n : Int) (r : List Int → Option R) : r18num.M N R n r = r (num8 n) := by
  show r18num.m (rNum.M N) N n r = _
  unfold r18num.m
  rw [rNumB_eq N hN]
  rfl
theorem r18epoch_eq {R : Type} (N : Nat) (n : Int) (r : Bool → Option R) : r18epoch.M N R n r = r (ctxOk n) := by
  show r18epoch.m N n r = _
  unfold r18epoch.m ctxOk
  by_cases h : 0 ≤ n
  · rw [decide_eq_true (show n ≥ 0 from h), cond_true]; rfl
  · rw [decide_eq_false (show ¬ n ≥ 0 from h), cond_false]; rfl
theorem r18sender_eq {R : Type} (N : Nat) (n : Int) (r : Bool → Option R) : r18sender.M N R n r = r (sendOk n) := by
  show r18sender.m N n r = _
  unfold r18sender.m sendOk
  by_cases h : 0 ≤ n
  · rw [decide_eq_true (show n ≥ 0 from h), cond_true]; rfl
  · rw [decide_eq_false (show ¬ n ≥ 0 from h), cond_false]; rfl

theorem leafR_len (a b n p s : List Int) (ha : a.length = 32) (hb : b.length = 32) (hn : n.length ≤ 1000) (hp : p.length = 32) (hs : s.length = 64) : (leafR a b n p s).length ≤ 1200 := by unfold leafR; rw [rowB_len, body5]; omega
theorem pkgR_len (i a b n p s g : List Int) (hi : i.length = 32) (ha : a.length = 32) (hb : b.length = 32) (hn : n.length ≤ 1000) (hp : p.length = 32) (hs : s.length = 64) (hg : g.length = 64) : (pkgR i a b n p s g).length ≤ 1400 := by
  have := leafR_len a b n p s ha hb hn hp hs
  unfold pkgR
  rw [rowB_len, body3]; omega
theorem propW_len (k w : Int) (i a b n p s g a' b' m p' s' : List Int) (hi : i.length = 32) (ha : a.length = 32) (hb : b.length = 32) (hn : n.length ≤ 1000) (hp : p.length = 32) (hs : s.length = 64) (hg : g.length = 64) (ha' : a'.length = 32) (hb' : b'.length = 32) (hm : m.length ≤ 1000) (hp' : p'.length = 32) (hs' : s'.length = 64) : (propW k w i a b n p s g a' b' m p' s').length ≤ 2000 := by
  have h1 := pkgR_len i a b n p s g hi ha hb hn hp hs hg
  have h2 := leafR_len a' b' m p' s' ha' hb' hm hp' hs'
  have e1 := num8_len 1
  have e2 := num8_len 2
  have e3 := num8_len 3
  have e4 := num8_len w
  unfold propW
  split
  · rw [rowB_len, body2]; omega
  · split
    · rw [rowB_len, body2]; omega
    · split
      · rw [rowB_len, body2]; omega
      · simp
theorem ctxR_len (g : List Int) (n : Int) (t s : List Int) (hg : g.length = 32) (ht : t.length = 32) (hs : s.length = 32) : (ctxR g n t s).length ≤ 200 := by
  have h8 := num8_len n
  unfold ctxR
  rw [rowB_len, body4]; omega

theorem okCond {R : Type} (n : List Int) (k : Bool → Option R) : cond (decide ((n.length : Int) ≥ 1)) (k (decide ((n.length : Int) ≤ 32))) (k false) = k (leafOk n) := by
  unfold leafOk
  by_cases h : 1 ≤ n.length
  · rw [decide_eq_true (show ((n.length : Int) ≥ 1) by omega), cond_true, decide_eq_true h, Bool.true_and]
    congr 1
    exact decide_eq_decide.2 (by omega)
  · rw [decide_eq_false (show ¬ ((n.length : Int) ≥ 1) by omega), cond_false, decide_eq_false h, Bool.false_and]

theorem r18Leaf_eq {R : Type} (N : Nat) (hN : 1000 < N) (a b : List Int) (z : Option Bool) (n p s : List Int) (ha : a.length = 32) (hb : b.length = 32) (hn : n.length ≤ 1000) (hp : p.length = 32) (hs : s.length = 64) (r : Option Bool → List Int → Bool → Option R) :
    r18Leaf.M N R a b z n p s r = r none (leafR a b n p s) (leafOk n) := by
  show r18Leaf.m (r18row.M N) N a b z n p s r = _
  unfold r18Leaf.m
  try dsimp only
  rw [t32 ha, t32 hb, t32 hp, t64 hs, r18row_fit N hN _ (all5 (by omega) (by omega) (by omega) (by omega) (by omega)) (fits5 _ _ _ _ _ (by omega))]
  exact okCond n (r none (rowB [a, b, n, p, s]))
theorem r18Package_eq {R : Type} (N : Nat) (hN : 1000 < N) (i a b : List Int) (z : Option Bool) (n p s g : List Int) (hi : i.length = 32) (ha : a.length = 32) (hb : b.length = 32) (hn : n.length ≤ 1000) (hp : p.length = 32) (hs : s.length = 64) (hg : g.length = 64) (r : Option Bool → List Int → Bool → Option R) :
    r18Package.M N R i a b z n p s g r = r none (pkgR i a b n p s g) (leafOk n) := by
  show r18Package.m (r18Leaf.M N) (r18row.M N) N i a b z n p s g r = _
  unfold r18Package.m
  try dsimp only
  have h1 := leafR_len a b n p s ha hb hn hp hs
  rw [r18Leaf_eq N hN a b none n p s ha hb hn hp hs, t32 hi, t64 hg, r18row_fit N hN _ (all3 (by omega) (by omega) (by omega)) (fits3 _ _ _ (by omega))]
  rfl
theorem r18Proposal_eq {R : Type} (N : Nat) (hN : 1000 < N) (k w : Int) (i a b : List Int) (z : Option Bool) (n p s g a' b' : List Int) (z' : Option Bool) (m p' s' : List Int) (hi : i.length = 32) (ha : a.length = 32) (hb : b.length = 32) (hn : n.length ≤ 1000) (hp : p.length = 32) (hs : s.length = 64) (hg : g.length = 64) (ha' : a'.length = 32) (hb' : b'.length = 32) (hm : m.length ≤ 1000) (hp' : p'.length = 32) (hs' : s'.length = 64) (r : Option Bool → List Int → Bool → Option R) :
    r18Proposal.M N R k w i a b z n p s g a' b' z' m p' s' r = r (propZ k) (propW k w i a b n p s g a' b' m p' s') (propOk k w n m) := by
  show r18Proposal.m (r18Package.M N) (r18num.M N) (r18row.M N) (r18Leaf.M N) N k w i a b z n p s g a' b' z' m p' s' r = _
  unfold r18Proposal.m propZ propW propOk
  try dsimp only
  have e1 := num8_len 1
  have e2 := num8_len 2
  have e3 := num8_len 3
  have e4 := num8_len w
  by_cases h1 : k = 1
  · have hl := pkgR_len i a b n p s g hi ha hb hn hp hs hg
    rw [show (k == 1) = true from by rw [h1]; rfl, cond_true, if_pos h1, if_pos h1, if_pos h1, r18Package_eq N hN i a b none n p s g hi ha hb hn hp hs hg, r18num_eq N hN, r18row_fit N hN _ (all2 (by omega) (by omega)) (fits2 _ _ (by omega))]
  · rw [show (k == 1) = false from beq_eq_false_iff_ne.2 h1, cond_false, if_neg h1, if_neg h1, if_neg h1]
    by_cases h2 : k = 2
    · rw [show (k == 2) = true from by rw [h2]; rfl, cond_true, if_pos h2, if_pos h2, if_pos h2, r18num_eq N hN, r18num_eq N hN, r18row_fit N hN _ (all2 (by omega) (by omega)) (fits2 _ _ (by omega))]
      unfold sendOk
      by_cases h : 0 ≤ w
      · rw [decide_eq_true (show w ≥ 0 from h), cond_true]; rfl
      · rw [decide_eq_false (show ¬ w ≥ 0 from h), cond_false]; rfl
    · rw [show (k == 2) = false from beq_eq_false_iff_ne.2 h2, cond_false, if_neg h2, if_neg h2, if_neg h2]
      by_cases h3 : k = 3
      · have hl := leafR_len a' b' m p' s' ha' hb' hm hp' hs'
        rw [show (k == 3) = true from by rw [h3]; rfl, cond_true, if_pos h3, if_pos h3, if_pos h3, r18Leaf_eq N hN a' b' none m p' s' ha' hb' hm hp' hs', r18num_eq N hN, r18row_fit N hN _ (all2 (by omega) (by omega)) (fits2 _ _ (by omega))]
      · rw [show (k == 3) = false from beq_eq_false_iff_ne.2 h3, cond_false, if_neg h3, if_neg h3, if_neg h3]
theorem r18Context_eq {R : Type} (N : Nat) (hN : 1000 < N) (g : List Int) (n : Int) (t s : List Int) (hg : g.length = 32) (ht : t.length = 32) (hs : s.length = 32) (r : Option Bool → List Int → Bool → Option R) :
    r18Context.M N R g n t s r = r none (ctxR g n t s) (ctxOk n) := by
  show r18Context.m (r18num.M N) (r18row.M N) (r18epoch.M N) N g n t s r = _
  unfold r18Context.m
  try dsimp only
  have h8 := num8_len n
  rw [r18num_eq N hN, t32 hg, t32 ht, t32 hs, r18row_fit N hN _ (all4 (by omega) (by omega) (by omega) (by omega)) (fits4 _ _ _ _ (by omega)), r18epoch_eq]
  rfl

end Go.Proofs.YthajoenmfppenaaDoor.fn
