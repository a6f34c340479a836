/- What senders of offers and owners of packages sign, and every reference, by definition. -/
import Derived.Test.YthajoenmfppenaaDoorMRecL
import Derived.Test.YthajoenmfppenaaDoorFnRecR
import Derived.Test.YthajoenmfppenaaDoorFnFormsO
import Derived.Test.YthajoenmfppenaaDoorMHR
import Derived.Test.YthajoenmfppenaaDoorFnRecordOffers
namespace Go.Proofs.YthajoenmfppenaaDoor.fn
open Go Go.Proofs Go.Ev Go.Dg

/-! ### bytes -/

theorem rowB_by (l : List (List Int)) (hl : l.length ≤ 255) (h : ∀ t ∈ l, isBy t) : isBy (rowB l) := by
  obtain ⟨L, rfl, hL⟩ := ex_rows l h
  rw [rowB_nn]
  exact nn_by (rowN_lt L (by simpa using hl) hL)
theorem num8_by (n : Int) : isBy (num8 n) := nn_by (fun x hx => dig_lt (by decide) _ _ x (List.mem_reverse.1 hx))
theorem by2 {a b : List Int} (ha : isBy a) (hb : isBy b) : ∀ t ∈ [a, b], isBy t := by
  intro x hx
  simp only [List.mem_cons, List.not_mem_nil, or_false] at hx
  rcases hx with rfl | rfl <;> assumption
theorem by3 {a b c : List Int} (ha : isBy a) (hb : isBy b) (hc : isBy c) : ∀ t ∈ [a, b, c], isBy t := by
  intro x hx
  simp only [List.mem_cons, List.not_mem_nil, or_false] at hx
  rcases hx with rfl | rfl | rfl <;> assumption
theorem by5 {a b c d e : List Int} (ha : isBy a) (hb : isBy b) (hc : isBy c) (hd : isBy d) (he : isBy e) : ∀ t ∈ [a, b, c, d, e], isBy t := by
  intro x hx
  simp only [List.mem_cons, List.not_mem_nil, or_false] at hx
  rcases hx with rfl | rfl | rfl | rfl | rfl <;> assumption
theorem nil_by : isBy [] := fun z hz => by simp at hz
theorem leafR_by {a b n p s : List Int} (ha : isBy a) (hb : isBy b) (hn : isBy n) (hp : isBy p) (hs : isBy s) : isBy (leafR a b n p s) := rowB_by _ (by simp) (by5 ha hb hn hp hs)
theorem propW_by (k w : Int) (i a b n p s g a' b' m p' s' : List Int) (bi : isBy i) (ba : isBy a) (bb : isBy b) (bn : isBy n) (bp : isBy p) (bs : isBy s) (bg : isBy g) (ba' : isBy a') (bb' : isBy b') (bm : isBy m) (bp' : isBy p') (bs' : isBy s') : isBy (propW k w i a b n p s g a' b' m p' s') := by
  unfold propW
  split
  · exact rowB_by _ (by simp) (by2 (num8_by _) (rowB_by _ (by simp) (by3 bi (leafR_by ba bb bn bp bs) bg)))
  · split
    · exact rowB_by _ (by simp) (by2 (num8_by _) (num8_by _))
    · split
      · exact rowB_by _ (by simp) (by2 (num8_by _) (leafR_by ba' bb' bm bp' bs'))
      · exact nil_by

/-! ### offers -/

def offOk (ep sd k w : Int) (n m : List Int) : Bool := propOk k w n m && (ctxOk ep && sendOk sd)
def offW (gr : List Int) (ep sd : Int) (k w : Int) (i a b n p s g a' b' m p' s' : List Int) (sg : List Int) : List Int := rowB [gr, num8 ep, num8 sd, propW k w i a b n p s g a' b' m p' s', sg]
theorem fe_fe (a b c : Bool) : fe (fe (fe 0 (ec a)) (ec b)) (ec c) = ec (c && (a && b)) := by cases a <;> cases b <;> cases c <;> rfl
theorem fOffer_eq {R : Type} (N : Nat) (hN : 1000 < N) (gr : List Int) (ep sd : Int) (k w : Int) (i a b : List Int) (z : Option Bool) (n p s g a' b' : List Int) (z' : Option Bool) (m p' s' : List Int) (sg : List Int) (hgr : gr.length = 32) (hsg : sg.length = 64) (hi : i.length = 32) (ha : a.length = 32) (hb : b.length = 32) (hn : n.length ≤ 1000) (hp : p.length = 32) (hs : s.length = 64) (hg : g.length = 64) (ha' : a'.length = 32) (hb' : b'.length = 32) (hm : m.length ≤ 1000) (hp' : p'.length = 32) (hs' : s'.length = 64) (r : Option Bool → List Int → Nat → Option R) :
    fOffer.M N R gr ep sd k w i a b z n p s g a' b' z' m p' s' sg r = r (oz (ec (offOk ep sd k w n m))) (okB (ec (offOk ep sd k w n m)) (offW gr ep sd k w i a b n p s g a' b' m p' s' sg)) (ec (offOk ep sd k w n m)) := by
  show fOffer.m (wput0.M N) (wput1.M N) (wnum0.M N) (wnum1.M N) (fProposal.M N) (wsub0.M N) (wsub1.M N) (wdone0.M N) (wdone1.M N) N gr ep sd k w i a b z n p s g a' b' z' m p' s' sg r = _
  unfold fOffer.m
  try dsimp only
  have h2 := propB_len k w i a b n p s g a' b' m p' s' hi ha hb hn hp hs hg ha' hb' hm hp' hs'
  have h3 := num8_len sd
  have h4 := num8_len ep
  rw [t32 hgr, t64 hsg, wput0_eq, wnum1_eq N hN _ _ (by simp), wnum1_eq N hN _ _ (by simp), fProposal_eq N hN k w i a b none n p s g a' b' none m p' s' hi ha hb hn hp hs hg ha' hb' hm hp' hs', wsub1_eq N _ _ (by simp), wput1_eq N _ _ (by simp)]
  refine (wdone1_eq N hN _ [gr, num8 ep, num8 sd, propB k w i a b n p s g a' b' m p' s', sg] (all5 (by omega) (by omega) (by omega) (by omega) (by omega)) r).trans ?_
  refine (doneK_fit _ _ (fits5 _ _ _ _ _ (by omega)) r).trans ?_
  have e : fe (fe (fe 0 (ec (decide (0 ≤ ep) && decide (ep ≤ 1099511627776)))) (ec (decide (0 ≤ sd) && decide (sd ≤ 15)))) (propE k w n m) = ec (offOk ep sd k w n m) := by rw [propE_ec, fe_fe]; rfl
  rw [e]
  have e2 : okB (ec (offOk ep sd k w n m)) (rowB [gr, num8 ep, num8 sd, propB k w i a b n p s g a' b' m p' s', sg]) = okB (ec (offOk ep sd k w n m)) (offW gr ep sd k w i a b n p s g a' b' m p' s' sg) := by
    cases h : offOk ep sd k w n m with
    | false => rfl
    | true =>
      have hp : propOk k w n m = true := by
        unfold offOk at h
        cases hq : propOk k w n m with
        | true => rfl
        | false => rw [hq] at h; cases h
      unfold offW
      rw [propB_ok k w i a b n p s g a' b' m p' s' hp]
  rw [e2]

theorem offCond {R : Type} (x : Bool) (ep sd : Int) (N : Nat) (k : Bool → Option R) : cond x (r18epoch.M N R ep (fun v => cond v (r18sender.M N R sd (fun u => k u)) (k false))) (k false) = k (x && (ctxOk ep && sendOk sd)) := by
  cases x with
  | false => rfl
  | true =>
    rw [cond_true, r18epoch_eq, Bool.true_and]
    cases ctxOk ep with
    | false => rfl
    | true => rw [cond_true, r18sender_eq]; rfl
theorem r18Offer_eq {R : Type} (N : Nat) (hN : 1000 < N) (gr : List Int) (ep sd : Int) (k w : Int) (i a b : List Int) (z : Option Bool) (n p s g a' b' : List Int) (z' : Option Bool) (m p' s' : List Int) (sg : List Int) (hgr : gr.length = 32) (hsg : sg.length = 64) (hi : i.length = 32) (ha : a.length = 32) (hb : b.length = 32) (hn : n.length ≤ 1000) (hp : p.length = 32) (hs : s.length = 64) (hg : g.length = 64) (ha' : a'.length = 32) (hb' : b'.length = 32) (hm : m.length ≤ 1000) (hp' : p'.length = 32) (hs' : s'.length = 64) (r : Option Bool → List Int → Bool → Option R) :
    r18Offer.M N R gr ep sd k w i a b z n p s g a' b' z' m p' s' sg r = r none (offW gr ep sd k w i a b n p s g a' b' m p' s' sg) (offOk ep sd k w n m) := by
  show r18Offer.m (r18Proposal.M N) (r18num.M N) (r18row.M N) (r18epoch.M N) (r18sender.M N) N gr ep sd k w i a b z n p s g a' b' z' m p' s' sg r = _
  unfold r18Offer.m
  try dsimp only
  have h2 := propW_len k w i a b n p s g a' b' m p' s' hi ha hb hn hp hs hg ha' hb' hm hp' hs'
  have h3 := num8_len sd
  have h4 := num8_len ep
  rw [r18Proposal_eq N hN k w i a b none n p s g a' b' none m p' s' hi ha hb hn hp hs hg ha' hb' hm hp' hs', r18num_eq N hN, r18num_eq N hN, t32 hgr, t64 hsg, r18row_fit N hN _ (all5 (by omega) (by omega) (by omega) (by omega) (by omega)) (fits5 _ _ _ _ _ (by omega))]
  exact offCond (propOk k w n m) ep sd N (r none (rowB [gr, num8 ep, num8 sd, propW k w i a b n p s g a' b' m p' s', sg]))
theorem r23row_fit {R : Type} (N : Nat) (hN : 1000 < N) (l : List (List Int)) (ht : ∀ t ∈ l, t.length ≤ 1000000) (h : fitsR l = true) (r : Option Bool → List Int → Option R) : r23row.M N R l r = r none (rowB l) := by
  show r23row.m (rBytes.M N) N l r = _
  unfold r23row.m
  rw [rBytes_fit N hN l ht h]
theorem r23num_eq {R : Type} (N : Nat) (hN : 1000 < N) (n : Int) (r : List Int → Option R) : r23num.M N R n r = r (num8 n) := by
  show r23num.m (rNum.M N) N n r = _
  unfold r23num.m
  rw [rNumB_eq N hN]
  rfl
theorem r23Offer_eq {R : Type} (N : Nat) (hN : 1000 < N) (gr : List Int) (ep sd : Int) (k w : Int) (i a b : List Int) (z : Option Bool) (n p s g a' b' : List Int) (z' : Option Bool) (m p' s' : List Int) (sg : List Int) (c1 : List Int) (c2 : Int) (c3 c4 : List Int) (hi : i.length = 32) (ha : a.length = 32) (hb : b.length = 32) (hn : n.length ≤ 1000) (hp : p.length = 32) (hs : s.length = 64) (hg : g.length = 64) (ha' : a'.length = 32) (hb' : b'.length = 32) (hm : m.length ≤ 1000) (hp' : p'.length = 32) (hs' : s'.length = 64) (hc1 : c1.length = 32) (hc3 : c3.length = 32) (hc4 : c4.length = 32) (r : Option Bool → List Int → Bool → Option R) :
    r23Offer.M N R gr ep sd k w i a b z n p s g a' b' z' m p' s' sg c1 c2 c3 c4 r = r none (rowB [off5, ctxR c1 c2 c3 c4, num8 sd, propW k w i a b n p s g a' b' m p' s']) (recOk c2 k w n m) := by
  show r23Offer.m (r18Context.M N) (r18Proposal.M N) (r23num.M N) (r23row.M N) N gr ep sd k w i a b z n p s g a' b' z' m p' s' sg c1 c2 c3 c4 r = _
  unfold r23Offer.m
  try dsimp only
  have h1 := ctxR_len c1 c2 c3 c4 hc1 hc3 hc4
  have h2 := propW_len k w i a b n p s g a' b' m p' s' hi ha hb hn hp hs hg ha' hb' hm hp' hs'
  have h3 := num8_len sd
  rw [r18Context_eq N hN c1 c2 c3 c4 hc1 hc3 hc4, r18Proposal_eq N hN k w i a b none n p s g a' b' none m p' s' hi ha hb hn hp hs hg ha' hb' hm hp' hs']
  rw [r23num_eq N hN, r23row_fit N hN _ (all4 (by decide) (by omega) (by omega) (by omega)) (fits4 _ _ _ _ (by show 5 + _ + _ + _ ≤ 60000; omega))]
  unfold recOk
  cases ctxOk c2 <;> rfl
theorem r23Package_eq {R : Type} (N : Nat) (hN : 1000 < N) (i a b : List Int) (z : Option Bool) (n p s g : List Int) (hi : i.length = 32) (ha : a.length = 32) (hb : b.length = 32) (hn : n.length ≤ 1000) (hp : p.length = 32) (hs : s.length = 64) (r : Option Bool → List Int → Bool → Option R) :
    r23Package.M N R i a b z n p s g r = r none (rowB [pack7, i, leafR a b n p s]) (leafOk n) := by
  show r23Package.m (r18Leaf.M N) (r23row.M N) N i a b z n p s g r = _
  unfold r23Package.m
  try dsimp only
  have h1 := leafR_len a b n p s ha hb hn hp hs
  rw [r18Leaf_eq N hN a b none n p s ha hb hn hp hs, t32 hi, r23row_fit N hN _ (all3 (by decide) (by omega) (by omega)) (fits3 _ _ _ (by show 7 + _ + _ ≤ 60000; omega))]
  rfl

/-! ### references -/

theorem offW_len (gr : List Int) (ep sd : Int) (k w : Int) (i a b n p s g a' b' m p' s' : List Int) (sg : List Int) (hgr : gr.length = 32) (hsg : sg.length = 64) (hi : i.length = 32) (ha : a.length = 32) (hb : b.length = 32) (hn : n.length ≤ 1000) (hp : p.length = 32) (hs : s.length = 64) (hg : g.length = 64) (ha' : a'.length = 32) (hb' : b'.length = 32) (hm : m.length ≤ 1000) (hp' : p'.length = 32) (hs' : s'.length = 64) : (offW gr ep sd k w i a b n p s g a' b' m p' s' sg).length ≤ 3000 := by
  have h2 := propW_len k w i a b n p s g a' b' m p' s' hi ha hb hn hp hs hg ha' hb' hm hp' hs'
  have h3 := num8_len sd
  have h4 := num8_len ep
  unfold offW
  rw [rowB_len, body5]; omega
theorem recRef_eq {R : Type} (N : Nat) (hN : 2000 < N) (gr : List Int) (ep sd : Int) (k w : Int) (i a b : List Int) (z : Option Bool) (n p s g a' b' : List Int) (z' : Option Bool) (m p' s' : List Int) (sg : List Int) (hgr : gr.length = 32) (hsg : sg.length = 64) (hi : i.length = 32) (ha : a.length = 32) (hb : b.length = 32) (hn : n.length ≤ 1000) (hp : p.length = 32) (hs : s.length = 64) (hg : g.length = 64) (ha' : a'.length = 32) (hb' : b'.length = 32) (hm : m.length ≤ 1000) (hp' : p'.length = 32) (hs' : s'.length = 64) (r : List Int → Nat → Option R) :
    recRef.M N R gr ep sd k w i a b z n p s g a' b' z' m p' s' sg r = cond (offOk ep sd k w n m) (r (dgst (offW gr ep sd k w i a b n p s g a' b' m p' s' sg)) 0) (r z32 4) := by
  show recRef.m (fOffer.M N) (sSum.M N) N gr ep sd k w i a b z n p s g a' b' z' m p' s' sg r = _
  unfold recRef.m
  rw [fOffer_eq N (by omega) gr ep sd k w i a b z n p s g a' b' z' m p' s' sg hgr hsg hi ha hb hn hp hs hg ha' hb' hm hp' hs']
  cases offOk ep sd k w n m with
  | false => rfl
  | true =>
    have h := offW_len gr ep sd k w i a b n p s g a' b' m p' s' sg hgr hsg hi ha hb hn hp hs hg ha' hb' hm hp' hs'
    show sSum.M N R [offW gr ep sd k w i a b n p s g a' b' m p' s' sg] _ = _
    rw [sSum_eq N hN _ (by intro x hx; rw [List.mem_singleton.1 hx]; omega) (by simp), List.flatten_singleton]
    rfl
theorem r23Ref_eq {R : Type} (N : Nat) (hN : 2000 < N) (gr : List Int) (ep sd : Int) (k w : Int) (i a b : List Int) (z : Option Bool) (n p s g a' b' : List Int) (z' : Option Bool) (m p' s' : List Int) (sg : List Int) (hgr : gr.length = 32) (hsg : sg.length = 64) (hi : i.length = 32) (ha : a.length = 32) (hb : b.length = 32) (hn : n.length ≤ 1000) (hp : p.length = 32) (hs : s.length = 64) (hg : g.length = 64) (ha' : a'.length = 32) (hb' : b'.length = 32) (hm : m.length ≤ 1000) (hp' : p'.length = 32) (hs' : s'.length = 64) (bi : isBy i) (ba : isBy a) (bb : isBy b) (bn : isBy n) (bp : isBy p) (bs : isBy s) (bg : isBy g) (ba' : isBy a') (bb' : isBy b') (bm : isBy m) (bp' : isBy p') (bs' : isBy s') (bgr : isBy gr) (bsg : isBy sg) (r : List Int → Bool → Option R) :
    r23Ref.M N R gr ep sd k w i a b z n p s g a' b' z' m p' s' sg r = cond (offOk ep sd k w n m) (r (dgst (offW gr ep sd k w i a b n p s g a' b' m p' s' sg)) true) (r z32 false) := by
  show r23Ref.m (r18Offer.M N) (rSum.M N) N gr ep sd k w i a b z n p s g a' b' z' m p' s' sg r = _
  unfold r23Ref.m
  rw [r18Offer_eq N (by omega) gr ep sd k w i a b z n p s g a' b' z' m p' s' sg hgr hsg hi ha hb hn hp hs hg ha' hb' hm hp' hs']
  cases offOk ep sd k w n m with
  | false => rfl
  | true =>
    have h := offW_len gr ep sd k w i a b n p s g a' b' m p' s' sg hgr hsg hi ha hb hn hp hs hg ha' hb' hm hp' hs'
    show rSum.M N R none (offW gr ep sd k w i a b n p s g a' b' m p' s' sg) _ = _
    have hb : isBy (offW gr ep sd k w i a b n p s g a' b' m p' s' sg) := rowB_by _ (by simp) (by5 bgr (num8_by _) (num8_by _) (propW_by k w i a b n p s g a' b' m p' s' bi ba bb bn bp bs bg ba' bb' bm bp' bs') bsg)
    rw [rSum_eq N hN none _ hb (by omega)]
    rfl

/-! ### the law -/

theorem recTold (sd : Int) (k w : Int) (i a b n p s g a' b' m p' s' : List Int) (c1 : List Int) (c2 : Int) (c3 c4 : List Int) (h : recOk c2 k w n m = true) : rowB [off5, ctxB c1 c2 c3 c4, num8 sd, propB k w i a b n p s g a' b' m p' s'] = rowB [off5, ctxR c1 c2 c3 c4, num8 sd, propW k w i a b n p s g a' b' m p' s'] := by
  unfold recOk at h
  rw [Bool.and_eq_true] at h
  rw [ctxB_ok h.1, propB_ok k w i a b n p s g a' b' m p' s' h.2]

theorem RecordOffers_true {R : Type} (M : Nat) (hM : 2000 < M) (gr : List Int) (ep sd : Int) (k w : Int) (i a b : List Int) (z : Option Bool) (n p s g a' b' : List Int) (z' : Option Bool) (m p' s' : List Int) (sg : List Int) (c1 : List Int) (c2 : Int) (c3 c4 : List Int) (hgr : gr.length = 32) (hsg : sg.length = 64) (hi : i.length = 32) (ha : a.length = 32) (hb : b.length = 32) (hp : p.length = 32) (hs : s.length = 64) (hg : g.length = 64) (ha' : a'.length = 32) (hb' : b'.length = 32) (hp' : p'.length = 32) (hs' : s'.length = 64) (hc1 : c1.length = 32) (hc3 : c3.length = 32) (hc4 : c4.length = 32)
    (bi : isBy i) (ba : isBy a) (bb : isBy b) (bn : isBy n) (bp : isBy p) (bs : isBy s) (bg : isBy g) (ba' : isBy a') (bb' : isBy b') (bm : isBy m) (bp' : isBy p') (bs' : isBy s') (bgr : isBy gr) (bsg : isBy sg) (r : Bool → Option R) : RecordOffers.M (M + 80) R gr ep sd k w i a b z n p s g a' b' z' m p' s' sg c1 c2 c3 c4 r = r true := by
  show RecordOffers.m (alive23.M (M + 80)) (bigLeaf23.M (M + 80)) (recOffer.M (M + 80)) (r23Offer.M (M + 80)) (recPackage.M (M + 80)) (r23Package.M (M + 80)) (recRef.M (M + 80)) (r23Ref.M (M + 80)) (told23.M (M + 80)) (Num.M (M + 80)) (M + 80) gr ep sd k w i a b z n p s g a' b' z' m p' s' sg c1 c2 c3 c4 r = _
  have hN : 2000 < M + 80 := by omega
  have hN1 : 1000 < M + 80 := by omega
  unfold RecordOffers.m
  try dsimp only
  rw [alive23_eq _ hN, Bool.not_true, cond_false, bigLeaf23_eq]
  by_cases q1 : m.length ≤ 100
  · rw [decide_eq_false (by omega), cond_false, bigLeaf23_eq]
    by_cases q2 : n.length ≤ 100
    · rw [decide_eq_false (by omega), cond_false]
      have hn : n.length ≤ 1000 := by omega
      have hm : m.length ≤ 1000 := by omega
      rw [recOffer_eq _ hN1 gr ep sd k w i a b none n p s g a' b' none m p' s' sg c1 c2 c3 c4 hgr hsg hi ha hb hn hp hs hg ha' hb' hm hp' hs' hc1 hc3 hc4, r23Offer_eq _ hN1 gr ep sd k w i a b none n p s g a' b' none m p' s' sg c1 c2 c3 c4 hi ha hb hn hp hs hg ha' hb' hm hp' hs' hc1 hc3 hc4,
        recPackage_eq _ hN1 i a b none n p s g hi ha hb hn hp hs, r23Package_eq _ hN1 i a b none n p s g hi ha hb hn hp hs, recRef_eq _ hN gr ep sd k w i a b none n p s g a' b' none m p' s' sg hgr hsg hi ha hb hn hp hs hg ha' hb' hm hp' hs']
      have ref := fun (f : List Int → Bool → Option R) => r23Ref_eq (M + 80) hN gr ep sd k w i a b none n p s g a' b' none m p' s' sg hgr hsg hi ha hb hn hp hs hg ha' hb' hm hp' hs' bi ba bb bn bp bs bg ba' bb' bm bp' bs' bgr bsg f
      have t1 := fun (f : Bool → Option R) => told_eq (R := R) M (oz (ec (recOk c2 k w n m))) none (recOk c2 k w n m) _ _ (recTold sd k w i a b n p s g a' b' m p' s' c1 c2 c3 c4) f
      have t2 := fun (f : Bool → Option R) => told_eq (R := R) M (oz (leafE n)) none (leafOk n) (rowB [pack7, i, leafB a b n p s]) (rowB [pack7, i, leafR a b n p s]) (fun h => by rw [leafB_ok h]) f
      cases ho : offOk ep sd k w n m with
      | false =>
        rw [cond_false, ref, ho, cond_false, t1, cond_true]
        refine (t2 _).trans ?_
        rw [cond_true, beq_self_eq_true, cond_true]
        rw [show (Nat.beq 4 0 == false) = true from rfl, cond_true, cond_false, Num4]
        rfl
      | true =>
        rw [cond_true, ref, ho, cond_true, t1, cond_true]
        refine (t2 _).trans ?_
        rw [cond_true, beq_self_eq_true, cond_true]
        rfl
    · rw [decide_eq_true (by omega), cond_true]
  · rw [decide_eq_true (by omega), cond_true]

end Go.Proofs.YthajoenmfppenaaDoor.fn
