/- What the forms' bytes are: leaves, packages, proposals, contexts. -/
import Derived.Test.YthajoenmfppenaaDoorMNumC
import Derived.Test.YthajoenmfppenaaDoorFnFormsA
import Derived.Test.YthajoenmfppenaaDoorFnNum
namespace Go.Proofs.YthajoenmfppenaaDoor.fn
open Go Go.Proofs Go.Ev Go.Dg
def fe (a b : Nat) : Nat := if a = 0 then b else a
def ec (b : Bool) : Nat := if b then 0 else 4
def num8 (n : Int) : List Int := nn (dig 256 8 (clampN n)).reverse
theorem num8_len (n : Int) : (num8 n).length = 8 := rfl
theorem beq0 (e : Nat) : e.beq 0 = decide (e = 0) := by cases e <;> rfl
theorem fe_r (e : Nat) : fe e 0 = e := by unfold fe; split <;> omega
theorem fe_l (e : Nat) : fe 0 e = e := rfl
theorem wfail0_eq {R : Type} (N : Nat) (e er : Nat) (r : Nat → Option R) : wfail0.M N R e er r = r (fe e er) := by
  show wfail0.m N e er r = _
  unfold wfail0.m fe
  rw [beq0]
  by_cases h : e = 0
  · rw [decide_eq_true h, cond_true, if_pos h]
  · rw [decide_eq_false h, cond_false, if_neg h]
theorem wfail1_eq {R : Type} (N : Nat) (e : Nat) (t : List (List Int)) (er : Nat) (r : Nat → List (List Int) → Option R) : wfail1.M N R e t er r = r (fe e er) t := by
  show wfail1.m N e t er r = _
  unfold wfail1.m fe
  rw [beq0]
  by_cases h : e = 0
  · rw [decide_eq_true h, cond_true, if_pos h]
  · rw [decide_eq_false h, cond_false, if_neg h]
theorem wneed0_eq {R : Type} (N : Nat) (e : Nat) (ok : Bool) (r : Nat → Option R) : wneed0.M N R e ok r = r (fe e (ec ok)) := by
  show wneed0.m (wfail0.M N) (wfail1.M N) N e ok r = _
  unfold wneed0.m
  cases ok with
  | true => show r e = r (fe e 0); rw [fe_r]
  | false => show wfail0.M N R e 4 (fun b => r b) = _; rw [wfail0_eq]; rfl
theorem wneed1_eq {R : Type} (N : Nat) (e : Nat) (t : List (List Int)) (ok : Bool) (r : Nat → List (List Int) → Option R) : wneed1.M N R e t ok r r = r (fe e (ec ok)) t := by
  show wneed1.m (wfail0.M N) (wfail1.M N) N e t ok r r = _
  unfold wneed1.m
  cases ok with
  | true => show r e t = r (fe e 0) t; rw [fe_r]
  | false => show wfail1.M N R e t 4 (fun b c => r b c) = _; rw [wfail1_eq]; rfl
theorem wput0_eq {R : Type} (N : Nat) (e : Nat) (z : Option Bool) (l : List Int) (r : Nat → List (List Int) → Option R) : wput0.M N R e z l r = r e [l] := rfl
theorem wput1_eq {R : Type} (N : Nat) (e : Nat) (t : List (List Int)) (ht : t.length ≤ 1000) (z : Option Bool) (l : List Int) (r : Nat → List (List Int) → Option R) : wput1.M N R e t z l r = r e (t ++ [l]) := by
  show wput1.m N e t z l r = _
  unfold wput1.m
  rw [decide_eq_true (by omega), cond_true, decide_eq_true (by omega), cond_true]
theorem wsub1_eq {R : Type} (N : Nat) (e : Nat) (t : List (List Int)) (ht : t.length ≤ 1000) (z : Option Bool) (l : List Int) (er : Nat) (r : Nat → List (List Int) → Option R) : wsub1.M N R e t z l er r = r (fe e er) (t ++ [l]) := by
  show wsub1.m (wfail0.M N) (wfail1.M N) (wput0.M N) (wput1.M N) N e t z l er r = _
  unfold wsub1.m
  rw [beq0]
  by_cases h : er = 0
  · rw [decide_eq_true h, Bool.not_true, cond_false, wput1_eq N e t ht, h, fe_r]
  · rw [decide_eq_false h, Bool.not_false, cond_true, wfail1_eq, wput1_eq N _ t ht]
theorem wnum1_eq {R : Type} (N : Nat) (hN : 1000 < N) (e : Nat) (t : List (List Int)) (ht : t.length ≤ 1000) (n most : Int) (r : Nat → List (List Int) → Option R) :
    wnum1.M N R e t n most r = r (fe e (ec (decide (0 ≤ n) && decide (n ≤ most)))) (t ++ [num8 n]) := by
  show wnum1.m (wneed0.M N) (wneed1.M N) (wNum.M N) (wput0.M N) (wput1.M N) N e t n most r = _
  unfold wnum1.m
  by_cases h : 0 ≤ n
  · rw [decide_eq_true (show n ≥ 0 from h), cond_true, wneed1_eq, wNumB_eq N hN, wput1_eq N _ t ht]
    rfl
  · rw [decide_eq_false (show ¬ n ≥ 0 from h), cond_false, wneed1_eq, wNumB_eq N hN, wput1_eq N _ t ht]
    rfl
def doneK {R : Type} (e : Nat) (t : List (List Int)) (k : Option Bool → List Int → Nat → Option R) : Option R := if e = 0 then cond (fitsR t) (k none (rowB t) 0) (k (some true) [] 3) else k (some true) [] e
theorem wdone1_eq {R : Type} (N : Nat) (hN : 1000 < N) (e : Nat) (t : List (List Int)) (ht : ∀ x ∈ t, x.length ≤ 1000000) (k : Option Bool → List Int → Nat → Option R) :
    wdone1.M N R e t (fun v _ _ => k (some true) [] v) (fun a b c _ => k a b c) = doneK e t k := by
  show wdone1.m (wRow.M N) N e t _ _ = _
  unfold wdone1.m doneK
  rw [beq0]
  by_cases h : e = 0
  · rw [decide_eq_true h, Bool.not_true, cond_false, if_pos h, wRow_eq N hN t ht]
  · rw [decide_eq_false h, Bool.not_false, cond_true, if_neg h]
def oz (e : Nat) : Option Bool := if e = 0 then none else some true
def okB (e : Nat) (l : List Int) : List Int := if e = 0 then l else []
theorem doneK_fit {R : Type} (e : Nat) (t : List (List Int)) (h : fitsR t = true) (k : Option Bool → List Int → Nat → Option R) : doneK e t k = k (oz e) (okB e (rowB t)) e := by
  unfold doneK oz okB
  by_cases h0 : e = 0
  · rw [if_pos h0, if_pos h0, if_pos h0, h, cond_true, h0]
  · rw [if_neg h0, if_neg h0, if_neg h0]
theorem body_nil : (body []).length = 0 := rfl
theorem rowB_len (l : List (List Int)) : (rowB l).length = (body l).length + 1 := rfl
theorem fits_of (l : List (List Int)) (h : l.length ≤ 255) (h2 : (body l).length ≤ 65535) : fitsR l = true := by
  unfold fitsR
  rw [decide_eq_true h, decide_eq_true (by rw [rowB_len]; omega)]
  rfl
theorem body2 (a b : List Int) : (body [a, b]).length = 8 + a.length + b.length := by simp only [body_one, body_nil]; omega
theorem body3 (a b c : List Int) : (body [a, b, c]).length = 12 + a.length + b.length + c.length := by simp only [body_one, body_nil]; omega
theorem body4 (a b c d : List Int) : (body [a, b, c, d]).length = 16 + a.length + b.length + c.length + d.length := by simp only [body_one, body_nil]; omega
theorem body5 (a b c d e : List Int) : (body [a, b, c, d, e]).length = 20 + a.length + b.length + c.length + d.length + e.length := by simp only [body_one, body_nil]; omega
theorem fits2 (a b : List Int) (h : a.length + b.length ≤ 60000) : fitsR [a, b] = true := fits_of _ (by simp) (by rw [body2]; omega)
theorem fits3 (a b c : List Int) (h : a.length + b.length + c.length ≤ 60000) : fitsR [a, b, c] = true := fits_of _ (by simp) (by rw [body3]; omega)
theorem fits4 (a b c d : List Int) (h : a.length + b.length + c.length + d.length ≤ 60000) : fitsR [a, b, c, d] = true := fits_of _ (by simp) (by rw [body4]; omega)
theorem fits5 (a b c d e : List Int) (h : a.length + b.length + c.length + d.length + e.length ≤ 60000) : fitsR [a, b, c, d, e] = true := fits_of _ (by simp) (by rw [body5]; omega)
theorem t32 {l : List Int} (h : l.length = 32) : List.drop 0 (List.take 32 l) = l := by rw [List.drop_zero, List.take_of_length_le (by omega)]
theorem t64 {l : List Int} (h : l.length = 64) : List.drop 0 (List.take 64 l) = l := by rw [List.drop_zero, List.take_of_length_le (by omega)]
theorem okB_len (e : Nat) (l : List Int) : (okB e l).length ≤ l.length := by unfold okB; split <;> simp
def leafE (n : List Int) : Nat := ec (decide (1 ≤ n.length) && decide (n.length ≤ 32))
def leafB (a b n p s : List Int) : List Int := okB (leafE n) (rowB [a, b, n, p, s])
theorem isName_eq {R : Type} (N : Nat) (z : Option Bool) (n : List Int) (r : Bool → Option R) : isName.M N R z n r = r (decide (1 ≤ n.length) && decide (n.length ≤ 32)) := by
  show isName.m N z n r = _
  unfold isName.m
  by_cases h : 1 ≤ n.length
  · rw [decide_eq_true (show ((n.length : Int) ≥ 1) by omega), cond_true, decide_eq_true h, Bool.true_and]
    congr 1
    exact decide_eq_decide.2 (by omega)
  · rw [decide_eq_false (show ¬ ((n.length : Int) ≥ 1) by omega), cond_false, decide_eq_false h, Bool.false_and]
theorem all5 {a b c d e : List Int} (ha : a.length ≤ 50000) (hb : b.length ≤ 50000) (hc : c.length ≤ 50000) (hd : d.length ≤ 50000) (he : e.length ≤ 50000) : ∀ x ∈ [a, b, c, d, e], x.length ≤ 1000000 := by
  intro x hx
  simp only [List.mem_cons, List.not_mem_nil, or_false] at hx
  rcases hx with rfl | rfl | rfl | rfl | rfl <;> omega
theorem all4 {a b c d : List Int} (ha : a.length ≤ 50000) (hb : b.length ≤ 50000) (hc : c.length ≤ 50000) (hd : d.length ≤ 50000) : ∀ x ∈ [a, b, c, d], x.length ≤ 1000000 := by
  intro x hx
  simp only [List.mem_cons, List.not_mem_nil, or_false] at hx
  rcases hx with rfl | rfl | rfl | rfl <;> omega
theorem all3 {a b c : List Int} (ha : a.length ≤ 50000) (hb : b.length ≤ 50000) (hc : c.length ≤ 50000) : ∀ x ∈ [a, b, c], x.length ≤ 1000000 := by
  intro x hx
  simp only [List.mem_cons, List.not_mem_nil, or_false] at hx
  rcases hx with rfl | rfl | rfl <;> omega
theorem all2 {a b : List Int} (ha : a.length ≤ 50000) (hb : b.length ≤ 50000) : ∀ x ∈ [a, b], x.length ≤ 1000000 := by
  intro x hx
  simp only [List.mem_cons, List.not_mem_nil, or_false] at hx
  rcases hx with rfl | rfl <;> omega
theorem leafB_len (a b n p s : List Int) (ha : a.length = 32) (hb : b.length = 32) (hn : n.length ≤ 1000) (hp : p.length = 32) (hs : s.length = 64) : (leafB a b n p s).length ≤ 1200 := by
  have := okB_len (leafE n) (rowB [a, b, n, p, s])
  rw [rowB_len, body5] at this
  unfold leafB
  omega
theorem fLeaf_eq {R : Type} (N : Nat) (hN : 1000 < N) (a b : List Int) (z : Option Bool) (n p s : List Int) (ha : a.length = 32) (hb : b.length = 32) (hn : n.length ≤ 1000) (hp : p.length = 32) (hs : s.length = 64) (r : Option Bool → List Int → Nat → Option R) :
    fLeaf.M N R a b z n p s r = r (oz (leafE n)) (leafB a b n p s) (leafE n) := by
  show fLeaf.m (isName.M N) (wneed0.M N) (wneed1.M N) (wput0.M N) (wput1.M N) (wdone0.M N) (wdone1.M N) N a b z n p s r = _
  unfold fLeaf.m
  try dsimp only
  rw [t32 ha, t32 hb, t32 hp, t64 hs, isName_eq, wneed0_eq, wput0_eq, wput1_eq N _ _ (by simp), wput1_eq N _ _ (by simp), wput1_eq N _ _ (by simp), wput1_eq N _ _ (by simp)]
  refine (wdone1_eq N hN _ [a, b, n, p, s] (all5 (by omega) (by omega) (by omega) (by omega) (by omega)) r).trans ?_
  exact doneK_fit (leafE n) _ (fits5 _ _ _ _ _ (by omega)) r
def ctxE (n : Int) : Nat := ec (decide (0 ≤ n) && decide (n ≤ 1099511627776))
def ctxB (g : List Int) (n : Int) (t s : List Int) : List Int := okB (ctxE n) (rowB [g, num8 n, t, s])
theorem ctxB_len (g : List Int) (n : Int) (t s : List Int) (hg : g.length = 32) (ht : t.length = 32) (hs : s.length = 32) : (ctxB g n t s).length ≤ 200 := by
  have := okB_len (ctxE n) (rowB [g, num8 n, t, s])
  have h8 := num8_len n
  rw [rowB_len, body4] at this
  unfold ctxB
  omega
theorem fContext_eq {R : Type} (N : Nat) (hN : 1000 < N) (g : List Int) (n : Int) (t s : List Int) (hg : g.length = 32) (ht : t.length = 32) (hs : s.length = 32) (r : Option Bool → List Int → Nat → Option R) :
    fContext.M N R g n t s r = r (oz (ctxE n)) (ctxB g n t s) (ctxE n) := by
  show fContext.m (wput0.M N) (wput1.M N) (wnum0.M N) (wnum1.M N) (wdone0.M N) (wdone1.M N) N g n t s r = _
  unfold fContext.m
  try dsimp only
  have h8 := num8_len n
  rw [t32 hg, t32 ht, t32 hs, wput0_eq, wnum1_eq N hN _ _ (by simp), wput1_eq N _ _ (by simp), wput1_eq N _ _ (by simp)]
  refine (wdone1_eq N hN _ [g, num8 n, t, s] (all4 (by omega) (by omega) (by omega) (by omega)) r).trans ?_
  exact doneK_fit (ctxE n) _ (fits4 _ _ _ _ (by omega)) r
end Go.Proofs.YthajoenmfppenaaDoor.fn
