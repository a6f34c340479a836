/- The law of what senders of infos sign. -/
import Derived.Test.YthajoenmfppenaaDoorMInfosC
import Derived.Test.YthajoenmfppenaaDoorMRecL
import Derived.Test.YthajoenmfppenaaDoorFnRecordInfos
namespace Go.Proofs.YthajoenmfppenaaDoor.fn
open Go Go.Proofs Go.Ev Go.Dg
def info4 : List Int := [105, 110, 102, 111]
theorem info4_is : cut none 0 (ofStr [105, 110, 102, 111]) = info4 := by decide
theorem recInfo_eq {R : Type} (N : Nat) (hN : 1000000 < N) (c1 : List Int) (c2 : Int) (c3 c4 : List Int) (l : List SlotT) (tg : List Int) (sd : Int) (sg : List Int) (hc1 : c1.length = 32) (hc3 : c3.length = 32) (hc4 : c4.length = 32) (hl : l.length ≤ 1000000) (H : ∀ s ∈ l, SlotH s) (htg : tg.length = 32) (r : Option Bool → List Int → Nat → Option R) :
    recInfo.M N R c1 c2 c3 c4 l tg sd sg r = r (oz (ec (ctxOk c2 && treeOk l))) (okB (ec (ctxOk c2 && treeOk l)) (rowB [info4, ctxR c1 c2 c3 c4, treeW l, tg, num8 sd])) (ec (ctxOk c2 && treeOk l)) := by
  show recInfo.m (rbegin.M N) (fContext.M N) (radd.M N) (fTree.M N) (wNum.M N) (rput0.M N) (rput1.M N) (rdone.M N) N c1 c2 c3 c4 l tg sd sg r = _
  unfold recInfo.m
  try dsimp only
  have hN1 : 1000 < N := by omega
  have h1 := ctxB_len c1 c2 c3 c4 hc1 hc3 hc4
  have h2 := treeW_len l H
  have h3 := num8_len sd
  have h4 := okB_len (ec (treeOk l)) (treeW l)
  rw [rbegin_eq, info4_is, fContext_eq N hN1 c1 c2 c3 c4 hc1 hc3 hc4, radd_eq N _ _ (by simp), fTree_eq N hN l hl H, radd_eq N _ _ (by simp), wNumB_eq N hN1, t32 htg, rput1_eq N _ _ _ _ (by simp)]
  have ha : ∀ x ∈ [info4, ctxB c1 c2 c3 c4, okB (ec (treeOk l)) (treeW l), tg, num8 sd], x.length ≤ 1000000 := by
    intro x hx
    simp only [List.mem_cons, List.not_mem_nil, or_false] at hx
    rcases hx with rfl | rfl | rfl | rfl | rfl
    · decide
    · omega
    · omega
    · omega
    · omega
  refine (rdone_eq N hN1 _ [info4, ctxB c1 c2 c3 c4, okB (ec (treeOk l)) (treeW l), tg, num8 sd] ha r).trans ?_
  refine (doneK_fit _ _ (fits5 _ _ _ _ _ (by show 4 + _ + _ + _ + _ ≤ 60000; omega)) r).trans ?_
  rw [fe_l, ctxE_ec, fe_ec]
  have e : okB (ec (ctxOk c2 && treeOk l)) (rowB [info4, ctxB c1 c2 c3 c4, okB (ec (treeOk l)) (treeW l), tg, num8 sd]) = okB (ec (ctxOk c2 && treeOk l)) (rowB [info4, ctxR c1 c2 c3 c4, treeW l, tg, num8 sd]) := by
    cases hc : ctxOk c2 with
    | false => rfl
    | true =>
      cases ht : treeOk l with
      | false => rfl
      | true => rw [ctxB_ok hc]; rfl
  rw [e]
theorem r23row_fit2 {R : Type} (N : Nat) (hN : 1000 < N) (l : List (List Int)) (ht : ∀ t ∈ l, t.length ≤ 1000000) (h : fitsR l = true) (r : Option Bool → List Int → Option R) : r23row.M N R l r = r none (rowB l) := by
  show r23row.m (rBytes.M N) N l r = _
  unfold r23row.m
  rw [rBytes_fit N hN l ht h]
theorem r23Info_eq {R : Type} (N : Nat) (hN : 1000000 < N) (c1 : List Int) (c2 : Int) (c3 c4 : List Int) (l : List SlotT) (tg : List Int) (sd : Int) (sg : List Int) (hc1 : c1.length = 32) (hc3 : c3.length = 32) (hc4 : c4.length = 32) (hl : l.length ≤ 1000000) (H : ∀ s ∈ l, SlotH s) (htg : tg.length = 32) (r : Option Bool → List Int → Bool → Option R) :
    r23Info.M N R c1 c2 c3 c4 l tg sd sg r = r none (rowB [info4, ctxR c1 c2 c3 c4, treeW l, tg, num8 sd]) (ctxOk c2 && treeOk l) := by
  show r23Info.m (r18Context.M N) (r18Tree.M N) (r23num.M N) (r23row.M N) N c1 c2 c3 c4 l tg sd sg r = _
  unfold r23Info.m
  try dsimp only
  have hN1 : 1000 < N := by omega
  have h1 := ctxR_len c1 c2 c3 c4 hc1 hc3 hc4
  have h2 := treeW_len l H
  have h3 := num8_len sd
  rw [r18Context_eq N hN1 c1 c2 c3 c4 hc1 hc3 hc4, r18Tree_eq N hN l hl H]
  show rNum.M N R sd _ = _
  rw [rNumB_eq N hN1, t32 htg]
  have ha : ∀ x ∈ [info4, ctxR c1 c2 c3 c4, treeW l, tg, num8 sd], x.length ≤ 1000000 := by
    intro x hx
    simp only [List.mem_cons, List.not_mem_nil, or_false] at hx
    rcases hx with rfl | rfl | rfl | rfl | rfl
    · decide
    · omega
    · omega
    · omega
    · omega
  refine (r23row_fit2 N hN1 [info4, ctxR c1 c2 c3 c4, treeW l, tg, num8 sd] ha (fits5 _ _ _ _ _ (by show 4 + _ + _ + _ + _ ≤ 60000; omega)) _).trans ?_
  cases ctxOk c2 <;> rfl
def SlotS (s : SlotT) : Prop := s.2.1.1.length = 32 ∧ s.2.1.2.1.length = 32 ∧ s.2.1.2.2.2.1.length = 32 ∧ s.2.1.2.2.2.2.1.length = 64 ∧ s.2.2.1.1.length = 32 ∧ s.2.2.1.2.1.length = 32
theorem take_snoc (l : List SlotT) (i : Nat) (d : SlotT) (h : i < l.length) : l.take (i + 1) = l.take i ++ [l.getD i d] := by
  have hg : l[i]? = some (l.getD i d) := by
    rw [List.getD_eq_getElem?_getD, List.getElem?_eq_getElem h]
    rfl
  rw [List.take_add_one, hg]
  rfl
theorem slotS_of {s : SlotT} (h : goodT slotTy s) : SlotS s := by
  simp only [slotTy, goodT, goodTL] at h
  exact ⟨h.2.1.1.1, h.2.1.2.1.1, h.2.1.2.2.2.1.1, h.2.1.2.2.2.2.1.1, h.2.2.1.1.1, h.2.2.1.2.1.1⟩
theorem law_loop {R : Type} (N : Nat) (l : List SlotT) (hl : l.length ≤ 1000) (S : ∀ s ∈ l, SlotS s) (r : Bool → Option R)
    (x : (List Int × Int × List Int × List Int × Unit) × List SlotT × List Int × Int × List Int × Unit)
    (ke0 ke1 : ((List Int × Int × List Int × List Int × Unit) × List SlotT × List Int × Int × List Int × Unit) → List SlotT → Int → Int → Bool → Option R)
    (ke2 : ((List Int × Int × List Int × List Int × Unit) × List SlotT × List Int × Int × List Int × Unit) → List SlotT → Int → Int → Option R)
    (h0 : ∀ a b c d e, ke0 a b c d e = r true) (h1 : ∀ a b c d e, ke1 a b c d e = r true) (h2 : (∀ s ∈ l, SlotH s) → ∀ a b, ke2 x l a b = r true) :
    ∀ (d i m : Nat), i + d = l.length → d < m → (∀ s ∈ l.take i, SlotH s) → RecordInfos.L6 (alive23.M N) (bigLeaf23.M N) (recInfo.M N) (r23Info.M N) (told23.M N) N ke0 ke1 ke2 m x l (l.length : Int) (i : Int) = r true
  | 0, i, m + 1, hi, _, hs => by
    unfold RecordInfos.L6
    have : i = l.length := by omega
    subst this
    rw [decide_eq_false (by omega), cond_false]
    rw [List.take_of_length_le (Nat.le_refl _)] at hs
    exact h2 hs _ _
  | d + 1, i, m + 1, hi, hm, hs => by
    unfold RecordInfos.L6
    have hin := getD_in (l := l) (i := i) (dflt slotTy) (by omega)
    rw [decide_eq_true (show (i : Int) < (l.length : Int) by omega), cond_true, decide_eq_true (show (0 : Int) ≤ (i : Int) by omega), cond_true, cond_true, Int.toNat_natCast, i64n (n := l.length) (by omega) (by omega)]
    refine (bigLeaf23_eq N _ _ _ _ _ _ _).trans ?_
    have hst := take_snoc l i (dflt slotTy) (by omega)
    generalize hq : l.getD i (dflt slotTy) = s at hin hst
    show cond (decide ((s.2.1.2.2.1.length : Int) > 100)) _ (cond (decide ((s.2.2.1.2.2.1.length : Int) > 40)) _ _) = _
    by_cases q1 : s.2.1.2.2.1.length ≤ 100
    · rw [decide_eq_false (show ¬ ((s.2.1.2.2.1.length : Int) > 100) by omega), cond_false]
      by_cases q2 : s.2.2.1.2.2.1.length ≤ 40
      · rw [decide_eq_false (show ¬ ((s.2.2.1.2.2.1.length : Int) > 40) by omega), cond_false]
        refine law_loop N l hl S r x ke0 ke1 ke2 h0 h1 h2 d (i + 1) m (by omega) (by omega) fun t ht => ?_
        rw [hst] at ht
        rcases List.mem_append.1 ht with ht | ht
        · exact hs t ht
        · rw [List.mem_singleton.1 ht]
          obtain ⟨p1, p2, p3, p4, p5, p6⟩ := S s hin
          exact ⟨p1, p2, by omega, p3, p4, p5, p6, by omega⟩
      · rw [decide_eq_true (show ((s.2.2.1.2.2.1.length : Int) > 40) by omega), cond_true]; exact h1 _ _ _ _ _
    · rw [decide_eq_true (show ((s.2.1.2.2.1.length : Int) > 100) by omega), cond_true]; exact h0 _ _ _ _ _
theorem RecordInfos_true {R : Type} (M : Nat) (hM : 2000000 < M) (c1 : List Int) (c2 : Int) (c3 c4 : List Int) (l : List SlotT) (tg : List Int) (sd : Int) (sg : List Int) (hc1 : c1.length = 32) (hc3 : c3.length = 32) (hc4 : c4.length = 32) (htg : tg.length = 32) (S : ∀ s ∈ l, SlotS s) (r : Bool → Option R) : RecordInfos.M (M + 80) R c1 c2 c3 c4 l tg sd sg r = r true := by
  show RecordInfos.m (alive23.M (M + 80)) (bigLeaf23.M (M + 80)) (recInfo.M (M + 80)) (r23Info.M (M + 80)) (told23.M (M + 80)) (M + 80) c1 c2 c3 c4 l tg sd sg r = _
  have hN : 1000000 < M + 80 := by omega
  unfold RecordInfos.m
  try dsimp only
  rw [alive23_eq _ (by omega), Bool.not_true, cond_false]
  by_cases q : l.length ≤ 40
  · rw [decide_eq_false (by omega), cond_false]
    refine law_loop (M + 80) l (by omega) S r _ _ _ _ ?_ ?_ ?_ l.length 0 (M + 80) (by omega) (by omega) (by simp)
    · intros; rfl
    · intros; rfl
    · intro H a b
      refine (recInfo_eq (M + 80) hN c1 c2 c3 c4 l tg sd sg hc1 hc3 hc4 (by omega) H htg _).trans ?_
      refine (r23Info_eq (M + 80) hN c1 c2 c3 c4 l tg sd sg hc1 hc3 hc4 (by omega) H htg _).trans ?_
      exact told_eq M _ _ _ _ _ (fun _ => rfl) _
  · rw [decide_eq_true (by omega), cond_true]
end Go.Proofs.YthajoenmfppenaaDoor.fn
