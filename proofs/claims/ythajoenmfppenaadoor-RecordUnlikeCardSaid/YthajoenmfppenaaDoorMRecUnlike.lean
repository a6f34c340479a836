/- What is signed tells the context, the sender and the proposal. -/
import Derived.Test.YthajoenmfppenaaDoorMRecL
import Derived.Test.YthajoenmfppenaaDoorMBt
import Derived.Test.YthajoenmfppenaaDoorFnRecordUnlike
namespace Go.Proofs.YthajoenmfppenaaDoor.fn
open Go Go.Proofs Go.Ev Go.Dg

def zz32 : List Int := [0, 0, 0, 0, 0, 0, 0, 0, 0, 0, 0, 0, 0, 0, 0, 0, 0, 0, 0, 0, 0, 0, 0, 0, 0, 0, 0, 0, 0, 0, 0, 0]
def zz64 : List Int := zz32 ++ zz32
def rem3 : List Int := rowB [num8 2, num8 3]
def recP (c1 : List Int) (c2 : Int) (c3 c4 : List Int) (sd : Int) (P : List Int) : List Int := rowB [off5, ctxR c1 c2 c3 c4, num8 sd, P]
theorem off5_bt : isBt off5 := by unfold isBt off5; decide
theorem ctxR_bt (c1 : List Int) (c2 : Int) (c3 c4 : List Int) (h1 : isBt c1) (h3 : isBt c3) (h4 : isBt c4) : isBt (ctxR c1 c2 c3 c4) := rowB_bt _ (by simp) (bt4 h1 (num8_bt _) h3 h4)
theorem rem3_bt : isBt rem3 := rowB_bt _ (by simp) (bt2 (num8_bt _) (num8_bt _))
theorem rem3_len : rem3.length ≤ 2000 := by unfold rem3; rw [rowB_len, body2, num8_len, num8_len]; omega
theorem propW_bt (k w : Int) (i a b n p s g a' b' m p' s' : List Int) (bi : isBt i) (ba : isBt a) (bb : isBt b) (bn : isBt n) (bp : isBt p) (bs : isBt s) (bg : isBt g) (ba' : isBt a') (bb' : isBt b') (bm : isBt m) (bp' : isBt p') (bs' : isBt s') : isBt (propW k w i a b n p s g a' b' m p' s') := by
  unfold propW
  split
  · exact rowB_bt _ (by simp) (bt2 (num8_bt _) (rowB_bt _ (by simp) (bt3 bi (leafR_bt ba bb bn bp bs) bg)))
  · split
    · exact rowB_bt _ (by simp) (bt2 (num8_bt _) (num8_bt _))
    · split
      · exact rowB_bt _ (by simp) (bt2 (num8_bt _) (leafR_bt ba' bb' bm bp' bs'))
      · exact fun z hz => by simp at hz
theorem recP_all (c1 : List Int) (c2 : Int) (c3 c4 : List Int) (sd : Int) (P : List Int) (h1 : isBt c1) (h3 : isBt c3) (h4 : isBt c4) (hP : isBt P) : ∀ t ∈ [off5, ctxR c1 c2 c3 c4, num8 sd, P], isBt t := bt4 off5_bt (ctxR_bt c1 c2 c3 c4 h1 h3 h4) (num8_bt _) hP
theorem recP_len (c1 : List Int) (c2 : Int) (c3 c4 : List Int) (sd : Int) (P : List Int) (hc1 : c1.length = 32) (hc3 : c3.length = 32) (hc4 : c4.length = 32) (hP : P.length ≤ 2000) : (recP c1 c2 c3 c4 sd P).length ≤ 65536 ∧ 14 ≤ (recP c1 c2 c3 c4 sd P).length := by
  have h1 := ctxR_len c1 c2 c3 c4 hc1 hc3 hc4
  have h8 := num8_len sd
  have e : off5.length = 5 := rfl
  unfold recP
  rw [rowB_len, body4]
  omega
/-- Two such rows. -/
theorem recP_eq (c1 : List Int) (c2 : Int) (c3 c4 : List Int) (sd : Int) (P : List Int) (d1 : List Int) (d2 : Int) (d3 d4 : List Int) (sd' : Int) (P' : List Int) (hc1 : c1.length = 32) (hc3 : c3.length = 32) (hc4 : c4.length = 32) (hd1 : d1.length = 32) (hd3 : d3.length = 32) (hd4 : d4.length = 32) (h1 : isBt c1) (h3 : isBt c3) (h4 : isBt c4) (g1 : isBt d1) (g3 : isBt d3) (g4 : isBt d4)
    (hP : isBt P) (hP' : isBt P') (lP : P.length ≤ 2000) (lP' : P'.length ≤ 2000) : (toStr (recP c1 c2 c3 c4 sd P) == toStr (recP d1 d2 d3 d4 sd' P')) = decide (ctxR c1 c2 c3 c4 = ctxR d1 d2 d3 d4 ∧ num8 sd = num8 sd' ∧ P = P') := by
  have a1 := recP_all c1 c2 c3 c4 sd P h1 h3 h4 hP
  have a2 := recP_all d1 d2 d3 d4 sd' P' g1 g3 g4 hP'
  refine (str_eq (x := recP c1 c2 c3 c4 sd P) (y := recP d1 d2 d3 d4 sd' P') (rowB_bt _ (by simp) a1) (rowB_bt _ (by simp) a2)).trans ?_
  refine decide_eq_decide.2 ⟨fun e => ?_, fun ⟨e1, e2, e3⟩ => by unfold recP; rw [e1, e2, e3]⟩
  have q := rowB_inj (by simp) (by simp) a1 a2 (recP_len c1 c2 c3 c4 sd P hc1 hc3 hc4 lP).1 (recP_len d1 d2 d3 d4 sd' P' hd1 hd3 hd4 lP').1 e
  simp only [List.cons.injEq, and_true, true_and] at q
  exact q
theorem ctxR_inj (c1 : List Int) (c2 : Int) (c3 c4 : List Int) (d1 : List Int) (d2 : Int) (d3 d4 : List Int) (hc1 : c1.length = 32) (hc3 : c3.length = 32) (hc4 : c4.length = 32) (hd1 : d1.length = 32) (hd3 : d3.length = 32) (hd4 : d4.length = 32) (h1 : isBt c1) (h3 : isBt c3) (h4 : isBt c4) (g1 : isBt d1) (g3 : isBt d3) (g4 : isBt d4) (o1 : ctxOk c2 = true) (o2 : ctxOk d2 = true) :
    ctxR c1 c2 c3 c4 = ctxR d1 d2 d3 d4 ↔ c1 = d1 ∧ c2 = d2 ∧ c3 = d3 ∧ c4 = d4 := by
  unfold ctxOk at o1 o2
  simp only [Bool.and_eq_true, decide_eq_true_eq] at o1 o2
  refine ⟨fun e => ?_, fun ⟨e1, e2, e3, e4⟩ => by rw [e1, e2, e3, e4]⟩
  have l1 := ctxR_len c1 c2 c3 c4 hc1 hc3 hc4
  have l2 := ctxR_len d1 d2 d3 d4 hd1 hd3 hd4
  have q := rowB_inj (by simp) (by simp) (bt4 h1 (num8_bt _) h3 h4) (bt4 g1 (num8_bt _) g3 g4) (by unfold ctxR at l1; omega) (by unfold ctxR at l2; omega) e
  simp only [List.cons.injEq, and_true] at q
  exact ⟨q.1, num8_inj (by omega) (by omega) (by omega) (by omega) q.2.1, q.2.2.1, q.2.2.2⟩
theorem propW_rem (k w : Int) (i a b n p s g a' b' m p' s' : List Int) (hi : i.length = 32) (ha : a.length = 32) (hb : b.length = 32) (hn : n.length ≤ 1000) (hp : p.length = 32) (hs : s.length = 64) (hg : g.length = 64) (ha' : a'.length = 32) (hb' : b'.length = 32) (hm : m.length ≤ 1000) (hp' : p'.length = 32) (hs' : s'.length = 64) (bi : isBt i) (ba : isBt a) (bb : isBt b) (bn : isBt n) (bp : isBt p) (bs : isBt s) (bg : isBt g) (ba' : isBt a') (bb' : isBt b') (bm : isBt m) (bp' : isBt p') (bs' : isBt s') (ok : propOk k w n m = true) : propW k w i a b n p s g a' b' m p' s' = rem3 ↔ k = 2 ∧ w = 3 := by
  have hw := propW_len k w i a b n p s g a' b' m p' s' hi ha hb hn hp hs hg ha' hb' hm hp' hs'
  have hr := rem3_len
  have two : ∀ (x y x' y' : List Int), isBt x → isBt y → isBt x' → isBt y' → (rowB [x, y]).length ≤ 2000 → (rowB [x', y']).length ≤ 2000 → rowB [x, y] = rowB [x', y'] → x = x' ∧ y = y' := by
    intro x y x' y' b1 b2 b3 b4 l1 l2 e
    have q := rowB_inj (by simp) (by simp) (bt2 b1 b2) (bt2 b3 b4) (by omega) (by omega) e
    simp only [List.cons.injEq, and_true] at q
    exact q
  unfold propW at hw ⊢
  unfold propOk at ok
  by_cases h1 : k = 1
  · rw [if_pos h1] at hw ⊢
    refine ⟨fun e => ?_, fun ⟨e, _⟩ => by omega⟩
    have q := two _ _ _ _ (num8_bt 1) (rowB_bt _ (by simp) (bt3 bi (leafR_bt ba bb bn bp bs) bg)) (num8_bt 2) (num8_bt 3) hw hr e
    exact absurd (num8_inj (by decide) (by decide) (by decide) (by decide) q.1) (by decide)
  · rw [if_neg h1] at hw ok ⊢
    by_cases h2 : k = 2
    · rw [if_pos h2] at hw ok ⊢
      unfold sendOk at ok
      simp only [Bool.and_eq_true, decide_eq_true_eq] at ok
      refine ⟨fun e => ?_, fun ⟨_, e⟩ => by rw [e]; rfl⟩
      have q := two _ _ _ _ (num8_bt 2) (num8_bt w) (num8_bt 2) (num8_bt 3) hw hr e
      exact ⟨h2, num8_inj (by omega) (by omega) (by decide) (by decide) q.2⟩
    · rw [if_neg h2] at hw ok ⊢
      by_cases h3 : k = 3
      · rw [if_pos h3] at hw ⊢
        refine ⟨fun e => ?_, fun ⟨e, _⟩ => absurd e h2⟩
        have q := two _ _ _ _ (num8_bt 3) (leafR_bt ba' bb' bm bp' bs') (num8_bt 2) (num8_bt 3) hw hr e
        exact absurd (num8_inj (by decide) (by decide) (by decide) (by decide) q.1) (by decide)
      · rw [if_neg h3] at ok; cases ok

theorem eqVal4 (a : List Int) (b : Int) (c d a' : List Int) (b' : Int) (c' d' : List Int) : eqVal [AV.ints .u8 32 a, AV.int .i64 b, AV.ints .u8 32 c, AV.ints .u8 32 d] [AV.ints .u8 32 a', AV.int .i64 b', AV.ints .u8 32 c', AV.ints .u8 32 d'] = decide (a = a' ∧ b = b' ∧ c = c' ∧ d = d') := by
  simp only [eqVal, Bool.and_true]
  by_cases h1 : a = a' <;> by_cases h2 : b = b' <;> by_cases h3 : c = c' <;> by_cases h4 : d = d' <;> simp [h1, h2, h3, h4]
theorem head_ne (x : List Int) (l : List UInt8) (h : l.head? = some 5) : (!(toStr (List.drop 0 (List.take 14 ((4 : Int) :: x))) == l)) = true := by
  have : (toStr (List.drop 0 (List.take 14 ((4 : Int) :: x))) == l) = false := by
    refine beq_eq_false_iff_ne.2 fun e => ?_
    rw [← e] at h
    exact absurd (show (some (4 : UInt8)) = some 5 from h) (by decide)
  rw [this]
  rfl

theorem RecordUnlike_true {R : Type} (M : Nat) (hM : 2000 < M) (gr : List Int) (ep sd : Int) (k w : Int) (i a b : List Int) (z : Option Bool) (n p s g a' b' : List Int) (z' : Option Bool) (m p' s' : List Int) (sg : List Int) (c1 : List Int) (c2 : Int) (c3 c4 : List Int) (d1 : List Int) (d2 : Int) (d3 d4 : List Int) (hgr : gr.length = 32) (hsg : sg.length = 64) (hi : i.length = 32) (ha : a.length = 32) (hb : b.length = 32) (hp : p.length = 32) (hs : s.length = 64) (hg : g.length = 64) (ha' : a'.length = 32) (hb' : b'.length = 32) (hp' : p'.length = 32) (hs' : s'.length = 64) (hc1 : c1.length = 32) (hc3 : c3.length = 32) (hc4 : c4.length = 32)
    (hd1 : d1.length = 32) (hd3 : d3.length = 32) (hd4 : d4.length = 32) (bi : isBt i) (ba : isBt a) (bb : isBt b) (bn : isBt n) (bp : isBt p) (bs : isBt s) (bg : isBt g) (ba' : isBt a') (bb' : isBt b') (bm : isBt m) (bp' : isBt p') (bs' : isBt s') (bc1 : isBt c1) (bc3 : isBt c3) (bc4 : isBt c4) (bd1 : isBt d1) (bd3 : isBt d3) (bd4 : isBt d4) (r : Bool → Option R) :
    RecordUnlike.M (M + 80) R gr ep sd k w i a b z n p s g a' b' z' m p' s' sg c1 c2 c3 c4 d1 d2 d3 d4 r = r true := by
  show RecordUnlike.m (alive23.M (M + 80)) (bigLeaf23.M (M + 80)) (recOffer.M (M + 80)) (commits23.M (M + 80)) (M + 80) gr ep sd k w i a b z n p s g a' b' z' m p' s' sg c1 c2 c3 c4 d1 d2 d3 d4 r = _
  have hN : 2000 < M + 80 := by omega
  have hN1 : 1000 < M + 80 := by omega
  unfold RecordUnlike.m
  rw [alive23_eq _ hN, Bool.not_true, cond_false, bigLeaf23_eq]
  by_cases q1 : m.length ≤ 100
  · rw [decide_eq_false (by omega), cond_false, bigLeaf23_eq]
    by_cases q2 : n.length ≤ 100
    · rw [decide_eq_false (by omega), cond_false]
      have hn : n.length ≤ 1000 := by omega
      have hm : m.length ≤ 1000 := by omega
      by_cases s1 : sd < 0
      · rw [decide_eq_true s1, cond_true]
      · rw [decide_eq_false s1, cond_false]
        by_cases s2 : sd > 14
        · rw [decide_eq_true s2, cond_true]
        · rw [decide_eq_false s2, cond_false, wrap_i64z (sd + 1) (by omega) (by omega), recOffer_eq _ hN1 gr ep sd k w i a b z n p s g a' b' z' m p' s' sg c1 c2 c3 c4 hgr hsg hi ha hb hn hp hs hg ha' hb' hm hp' hs' hc1 hc3 hc4,
            recOffer_eq _ hN1 gr ep sd k w i a b z n p s g a' b' z' m p' s' sg d1 d2 d3 d4 hgr hsg hi ha hb hn hp hs hg ha' hb' hm hp' hs' hd1 hd3 hd4, recOffer_eq _ hN1 gr ep (sd + 1) k w i a b z n p s g a' b' z' m p' s' sg c1 c2 c3 c4 hgr hsg hi ha hb hn hp hs hg ha' hb' hm hp' hs' hc1 hc3 hc4]
          refine (recOffer_eq _ hN1 gr ep sd 2 3 zz32 zz32 zz32 (some true) [] zz32 zz64 zz64 zz32 zz32 (some true) [] zz32 zz64 sg c1 c2 c3 c4 hgr hsg rfl rfl rfl (Nat.zero_le _) rfl rfl rfl rfl rfl (Nat.zero_le _) rfl rfl hc1 hc3 hc4 _).trans ?_
          cases e1 : ctxOk c2 with
          | false => rw [show recOk c2 k w n m = false from by unfold recOk; rw [e1]; rfl]; rfl
          | true =>
            cases e2 : propOk k w n m with
            | false => rw [show recOk c2 k w n m = false from by unfold recOk; rw [e1, e2]; rfl]; rfl
            | true =>
              cases e3 : ctxOk d2 with
              | false => rw [show recOk c2 k w n m = true from by unfold recOk; rw [e1, e2]; rfl, show recOk d2 k w n m = false from by unfold recOk; rw [e3]; rfl]; rfl
              | true =>
                have f1 : recOk c2 k w n m = true := by unfold recOk; rw [e1, e2]; rfl
                have f2 : recOk d2 k w n m = true := by unfold recOk; rw [e3, e2]; rfl
                have f3 : recOk c2 2 3 [] [] = true := by unfold recOk; rw [e1]; rfl
                have oc : propOk 2 3 [] [] = true := rfl
                rw [f1, f2, f3, ctxB_ok e1, ctxB_ok e3, propB_ok k w i a b n p s g a' b' m p' s' e2, propB_ok 2 3 zz32 zz32 zz32 [] zz32 zz64 zz64 zz32 zz32 [] zz32 zz64 oc]
                have bP := propW_bt k w i a b n p s g a' b' m p' s' bi ba bb bn bp bs bg ba' bb' bm bp' bs'
                have lP := propW_len k w i a b n p s g a' b' m p' s' hi ha hb hn hp hs hg ha' hb' hm hp' hs'
                have ne0 : (!(ec true).beq 0) = false := rfl
                rw [ne0, cond_false, cond_false, cond_false, cond_false]
                show cond (k == 2) (cond ((toStr (recP c1 c2 c3 c4 sd (propW k w i a b n p s g a' b' m p' s')) == toStr (recP d1 d2 d3 d4 sd (propW k w i a b n p s g a' b' m p' s'))) == _) (cond (!(toStr (recP c1 c2 c3 c4 sd (propW k w i a b n p s g a' b' m p' s')) == toStr (recP c1 c2 c3 c4 (sd + 1) (propW k w i a b n p s g a' b' m p' s')))) (cond ((toStr (recP c1 c2 c3 c4 sd (propW k w i a b n p s g a' b' m p' s')) == toStr (recP c1 c2 c3 c4 sd rem3)) == _) (cond (decide (14 ≤ ((recP c1 c2 c3 c4 sd (propW k w i a b n p s g a' b' m p' s')).length : Int))) (r (!(toStr (List.drop 0 (List.take 14 (recP c1 c2 c3 c4 sd (propW k w i a b n p s g a' b' m p' s')))) == _))) none) (r false)) (r false)) (r false))
                  (cond ((toStr (recP c1 c2 c3 c4 sd (propW k w i a b n p s g a' b' m p' s')) == toStr (recP d1 d2 d3 d4 sd (propW k w i a b n p s g a' b' m p' s'))) == _) (cond (!(toStr (recP c1 c2 c3 c4 sd (propW k w i a b n p s g a' b' m p' s')) == toStr (recP c1 c2 c3 c4 (sd + 1) (propW k w i a b n p s g a' b' m p' s')))) (cond ((toStr (recP c1 c2 c3 c4 sd (propW k w i a b n p s g a' b' m p' s')) == toStr (recP c1 c2 c3 c4 sd rem3)) == _) (cond (decide (14 ≤ ((recP c1 c2 c3 c4 sd (propW k w i a b n p s g a' b' m p' s')).length : Int))) (r (!(toStr (List.drop 0 (List.take 14 (recP c1 c2 c3 c4 sd (propW k w i a b n p s g a' b' m p' s')))) == _))) none) (r false)) (r false)) (r false)) = _
                rw [recP_eq c1 c2 c3 c4 sd (propW k w i a b n p s g a' b' m p' s') d1 d2 d3 d4 sd (propW k w i a b n p s g a' b' m p' s') hc1 hc3 hc4 hd1 hd3 hd4 bc1 bc3 bc4 bd1 bd3 bd4 bP bP lP lP, recP_eq c1 c2 c3 c4 sd (propW k w i a b n p s g a' b' m p' s') c1 c2 c3 c4 (sd + 1) (propW k w i a b n p s g a' b' m p' s') hc1 hc3 hc4 hc1 hc3 hc4 bc1 bc3 bc4 bc1 bc3 bc4 bP bP lP lP,
                  recP_eq c1 c2 c3 c4 sd (propW k w i a b n p s g a' b' m p' s') c1 c2 c3 c4 sd rem3 hc1 hc3 hc4 hc1 hc3 hc4 bc1 bc3 bc4 bc1 bc3 bc4 bP rem3_bt lP rem3_len, eqVal4]
                have g1 : decide (ctxR c1 c2 c3 c4 = ctxR d1 d2 d3 d4 ∧ num8 sd = num8 sd ∧ propW k w i a b n p s g a' b' m p' s' = propW k w i a b n p s g a' b' m p' s') = decide (c1 = d1 ∧ c2 = d2 ∧ c3 = d3 ∧ c4 = d4) := by
                  refine decide_eq_decide.2 ?_
                  rw [ctxR_inj c1 c2 c3 c4 d1 d2 d3 d4 hc1 hc3 hc4 hd1 hd3 hd4 bc1 bc3 bc4 bd1 bd3 bd4 e1 e3]
                  exact ⟨fun h => h.1, fun h => ⟨h, rfl, rfl⟩⟩
                have g2 : decide (ctxR c1 c2 c3 c4 = ctxR c1 c2 c3 c4 ∧ num8 sd = num8 (sd + 1) ∧ propW k w i a b n p s g a' b' m p' s' = propW k w i a b n p s g a' b' m p' s') = false := by
                  refine decide_eq_false fun h => ?_
                  have := num8_inj (by omega) (by omega) (by omega) (by omega) h.2.1
                  omega
                have g3 : decide (ctxR c1 c2 c3 c4 = ctxR c1 c2 c3 c4 ∧ num8 sd = num8 sd ∧ propW k w i a b n p s g a' b' m p' s' = rem3) = decide (k = 2 ∧ w = 3) := by
                  refine decide_eq_decide.2 ?_
                  rw [propW_rem k w i a b n p s g a' b' m p' s' hi ha hb hn hp hs hg ha' hb' hm hp' hs' bi ba bb bn bp bs bg ba' bb' bm bp' bs' e2]
                  exact ⟨fun h => h.2.2, fun h => ⟨rfl, rfl, h⟩⟩
                have g4 : decide (14 ≤ ((recP c1 c2 c3 c4 sd (propW k w i a b n p s g a' b' m p' s')).length : Int)) = true := decide_eq_true (by have := (recP_len c1 c2 c3 c4 sd (propW k w i a b n p s g a' b' m p' s') hc1 hc3 hc4 lP).2; omega)
                rw [g1, g2, g3, g4, beq_self_eq_true, Bool.not_false, cond_true, cond_true, cond_true]
                by_cases k2 : k = 2
                · rw [show (k == 2) = true from by rw [k2]; rfl, cond_true]
                  have e : decide (k = 2 ∧ w = 3) = (w == 3) := by
                    by_cases w3 : w = 3 <;> simp [k2, w3]
                  rw [e, beq_self_eq_true, cond_true]
                  exact congrArg r (head_ne _ _ rfl)
                · rw [show (k == 2) = false from beq_eq_false_iff_ne.2 k2, cond_false, decide_eq_false (fun h => k2 h.1)]
                  rw [show (false == false) = true from rfl, cond_true]
                  exact congrArg r (head_ne _ _ rfl)
    · rw [decide_eq_true (by omega), cond_true]
  · rw [decide_eq_true (by omega), cond_true]

end Go.Proofs.YthajoenmfppenaaDoor.fn
