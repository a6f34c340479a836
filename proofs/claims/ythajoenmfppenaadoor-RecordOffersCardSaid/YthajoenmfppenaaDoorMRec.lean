/- What senders of offers and owners of packages sign. -/
import Derived.Test.YthajoenmfppenaaDoorMFormsR
import Derived.Test.YthajoenmfppenaaDoorFnRec
namespace Go.Proofs.YthajoenmfppenaaDoor.fn
open Go Go.Proofs Go.Ev Go.Dg

theorem fe_ec (a b : Bool) : fe (ec a) (ec b) = ec (a && b) := by cases a <;> cases b <;> rfl
theorem radd_eq {R : Type} (N : Nat) (e : Nat) (t : List (List Int)) (ht : t.length ≤ 1000) (z : Option Bool) (l : List Int) (er : Nat) (r : Nat → List (List Int) → Option R) : radd.M N R e t z l er r = r (fe e er) (t ++ [l]) := by
  show radd.m N e t z l er r = _
  unfold radd.m fe
  have h1 : (t.length + 1) * 24 ≤ 140737488355328 := by omega
  have h2 : t.length + 1 ≤ 140737488355328 := by omega
  rw [beq0, decide_eq_true h1, decide_eq_true h2, cond_true, cond_true, cond_true, cond_true]
  by_cases h : e = 0
  · rw [decide_eq_true h, cond_true, if_pos h]
  · rw [decide_eq_false h, cond_false, if_neg h]
theorem rput1_eq {R : Type} (N : Nat) (e : Nat) (t : List (List Int)) (x : List Int) (l : List (List Int)) (ht : t.length + (x :: l).length ≤ 1000) (r : Nat → List (List Int) → Option R) : rput1.M N R e t x l r = r e (t ++ x :: l) := by
  show rput1.m N e t x l r = _
  unfold rput1.m
  rw [decide_eq_true (by omega), cond_true, decide_eq_true (by omega), cond_true]
theorem rdone_eq {R : Type} (N : Nat) (hN : 1000 < N) (e : Nat) (t : List (List Int)) (ht : ∀ x ∈ t, x.length ≤ 1000000) (k : Option Bool → List Int → Nat → Option R) :
    rdone.M N R e t (fun v _ _ => k (some true) [] v) (fun a b c _ => k a b c) = doneK e t k := by
  show rdone.m (wRow.M N) N e t _ _ = _
  unfold rdone.m doneK
  rw [beq0]
  by_cases h : e = 0
  · rw [decide_eq_true h, Bool.not_true, cond_false, if_pos h, wRow_eq N hN t ht]
  · rw [decide_eq_false h, Bool.not_false, cond_true, if_neg h]

def off5 : List Int := [111, 102, 102, 101, 114]
def pack7 : List Int := [112, 97, 99, 107, 97, 103, 101]
theorem rbegin_eq {R : Type} (N : Nat) (word : List UInt8) (r : List (List Int) → Option R) : rbegin.M N R word r = r [cut none 0 (ofStr word)] := rfl
theorem off5_is : cut none 0 (ofStr [111, 102, 102, 101, 114]) = off5 := by decide
theorem pack7_is : cut none 0 (ofStr [112, 97, 99, 107, 97, 103, 101]) = pack7 := by decide
def recOk (c2 : Int) (k w : Int) (n m : List Int) : Bool := ctxOk c2 && propOk k w n m
theorem recOffer_eq {R : Type} (N : Nat) (hN : 1000 < N) (gr : List Int) (ep sd : Int) (k w : Int) (i a b : List Int) (z : Option Bool) (n p s g a' b' : List Int) (z' : Option Bool) (m p' s' : List Int) (sg : List Int) (c1 : List Int) (c2 : Int) (c3 c4 : List Int) (hgr : gr.length = 32) (hsg : sg.length = 64) (hi : i.length = 32) (ha : a.length = 32) (hb : b.length = 32) (hn : n.length ≤ 1000) (hp : p.length = 32) (hs : s.length = 64) (hg : g.length = 64) (ha' : a'.length = 32) (hb' : b'.length = 32) (hm : m.length ≤ 1000) (hp' : p'.length = 32) (hs' : s'.length = 64) (hc1 : c1.length = 32) (hc3 : c3.length = 32) (hc4 : c4.length = 32) (r : Option Bool → List Int → Nat → Option R) :
    recOffer.M N R gr ep sd k w i a b z n p s g a' b' z' m p' s' sg c1 c2 c3 c4 r = r (oz (ec (recOk c2 k w n m))) (okB (ec (recOk c2 k w n m)) (rowB [off5, ctxB c1 c2 c3 c4, num8 sd, propB k w i a b n p s g a' b' m p' s'])) (ec (recOk c2 k w n m)) := by
  show recOffer.m (rbegin.M N) (fContext.M N) (radd.M N) (wNum.M N) (rput0.M N) (rput1.M N) (fProposal.M N) (rdone.M N) N gr ep sd k w i a b z n p s g a' b' z' m p' s' sg c1 c2 c3 c4 r = _
  unfold recOffer.m
  try dsimp only
  have h1 := ctxB_len c1 c2 c3 c4 hc1 hc3 hc4
  have h2 := propB_len k w i a b n p s g a' b' m p' s' hi ha hb hn hp hs hg ha' hb' hm hp' hs'
  have h3 := num8_len sd
  rw [rbegin_eq, off5_is, fContext_eq N hN c1 c2 c3 c4 hc1 hc3 hc4, radd_eq N _ _ (by simp), wNumB_eq N hN, rput1_eq N _ _ _ _ (by simp), fProposal_eq N hN k w i a b none n p s g a' b' none m p' s' hi ha hb hn hp hs hg ha' hb' hm hp' hs', radd_eq N _ _ (by simp)]
  refine (rdone_eq N hN _ [off5, ctxB c1 c2 c3 c4, num8 sd, propB k w i a b n p s g a' b' m p' s'] (all4 (by decide) (by omega) (by omega) (by omega)) r).trans ?_
  refine (doneK_fit _ _ (fits4 _ _ _ _ (by show 5 + _ + _ + _ ≤ 60000; omega)) r).trans ?_
  have e : fe (fe 0 (ctxE c2)) (propE k w n m) = ec (recOk c2 k w n m) := by rw [fe_l, ctxE_ec, propE_ec, fe_ec]; rfl
  rw [e]
theorem recPackage_eq {R : Type} (N : Nat) (hN : 1000 < N) (i a b : List Int) (z : Option Bool) (n p s g : List Int) (hi : i.length = 32) (ha : a.length = 32) (hb : b.length = 32) (hn : n.length ≤ 1000) (hp : p.length = 32) (hs : s.length = 64) (r : Option Bool → List Int → Nat → Option R) :
    recPackage.M N R i a b z n p s g r = r (oz (leafE n)) (okB (leafE n) (rowB [pack7, i, leafB a b n p s])) (leafE n) := by
  show recPackage.m (rbegin.M N) (rput0.M N) (rput1.M N) (fLeaf.M N) (radd.M N) (rdone.M N) N i a b z n p s g r = _
  unfold recPackage.m
  try dsimp only
  have h1 := leafB_len a b n p s ha hb hn hp hs
  rw [rbegin_eq, pack7_is, t32 hi, rput1_eq N _ _ _ _ (by simp), fLeaf_eq N hN a b none n p s ha hb hn hp hs, radd_eq N _ _ (by simp)]
  refine (rdone_eq N hN _ [pack7, i, leafB a b n p s] (all3 (by decide) (by omega) (by omega)) r).trans ?_
  exact doneK_fit _ _ (fits3 _ _ _ (by show 7 + _ + _ ≤ 60000; omega)) r

end Go.Proofs.YthajoenmfppenaaDoor.fn
