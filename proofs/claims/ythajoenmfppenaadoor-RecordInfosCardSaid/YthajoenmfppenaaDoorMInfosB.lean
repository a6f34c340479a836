/- What the bytes of a tree's places are. -/
import Derived.Test.YthajoenmfppenaaDoorMInfosA
namespace Go.Proofs.YthajoenmfppenaaDoor.fn
open Go Go.Proofs Go.Ev Go.Dg
theorem body_map8 : ∀ (l : List Int), (body (l.map num8)).length = 12 * l.length
  | [] => rfl
  | n :: l => by rw [List.map_cons, body_one, body_map8 l, num8_len, List.length_cons]; omega
theorem all_map8 (l : List Int) : ∀ x ∈ l.map num8, x.length ≤ 1000000 := by
  intro x hx
  obtain ⟨n, _, rfl⟩ := List.mem_map.1 hx
  rw [num8_len]; omega
theorem fits_map8 (l : List Int) (h : l.length ≤ 200) : fitsR (l.map num8) = true := fits_of _ (by rw [List.length_map]; omega) (by rw [body_map8]; omega)
theorem listInt_eq {R : Type} (N : Nat) (hN : 1000 < N) (z : Option Bool) (l : List Int) (r : Option Bool → List Int → Nat → Option R) :
    listInt.M N R z l 16 r = r (oz (ec (decide (l.length ≤ 16)))) (okB (ec (decide (l.length ≤ 16))) (rowB ((l.take 16).map num8))) (ec (decide (l.length ≤ 16))) := by
  show listInt.m (wneed0.M N) (wneed1.M N) (wsub2.M N) (wdone2.M N) (fnumber.M N) N z l 16 r = _
  unfold listInt.m
  have e16 : List.drop 0 (List.take (min (l.length : Int) 16).toNat l) = l.take 16 := by
    rw [List.drop_zero]
    by_cases h : l.length ≤ 16
    · rw [show (min (l.length : Int) 16).toNat = l.length by omega, List.take_of_length_le (Nat.le_refl _), List.take_of_length_le h]
    · rw [show (min (l.length : Int) 16).toNat = 16 by omega]
  have hd : decide ((l.length : Int) ≤ 16) = decide (l.length ≤ 16) := decide_eq_decide.2 (by omega)
  rw [wneed0_eq, decide_eq_true (by omega), cond_true, decide_eq_true (by omega), cond_true, e16, hd]
  have hl : (l.take 16).length ≤ 16 := by rw [List.length_take]; omega
  generalize hq : l.take 16 = q at hl ⊢
  generalize decide (l.length ≤ 16) = ok
  show listInt.L4 _ _ _ _ _ N _ N z q (q.length : Int) 0 (ec ok) true [] = _
  refine (listInt_loop N hN z q (by omega) _ (ec ok) (fun t => cond (!(ec ok).beq 0) (r (some true) [] (ec ok)) (wRow.M N R t (fun a b c => r a b c))) (fun nl t => rfl) q.length 0 N true [] (by omega) (by omega) (by simp)).trans ?_
  rw [List.drop_zero, List.nil_append]
  have := wdone2_eq (R := R) N hN (ec ok) true (q.map num8) (all_map8 q) r
  exact (show _ = _ from this).trans (doneK_fit (ec ok) _ (fits_map8 q (by omega)) r)
def nodeR (a p u : List Int) : List Int := rowB [a, p, rowB (u.map num8)]
def nodeB (a p u : List Int) : List Int := okB (ec (rise (-1) u)) (nodeR a p u)
theorem nodeR_len (a p u : List Int) (ha : a.length = 32) (hp : p.length = 32) (hu : u.length ≤ 100) : (nodeR a p u).length ≤ 1500 := by
  unfold nodeR
  rw [rowB_len, body3, rowB_len, body_map8]; omega
theorem fnode_eq {R : Type} (N : Nat) (hN : 1000000 < N) (a p : List Int) (z : Option Bool) (u : List Int) (ha : a.length = 32) (hp : p.length = 32) (hu : u.length ≤ 100) (r : Option Bool → List Int → Nat → Option R) :
    fnode.M N R a p z u r = r (oz (ec (rise (-1) u))) (nodeB a p u) (ec (rise (-1) u)) := by
  show fnode.m (frise.M N) (wneed0.M N) (wneed1.M N) (wput0.M N) (wput1.M N) (listInt.M N) (wsub0.M N) (wsub1.M N) (wdone0.M N) (wdone1.M N) N a p z u r = _
  unfold fnode.m
  try dsimp only
  have hN1 : 1000 < N := by omega
  have h1 := okB_len (ec (decide (u.length ≤ 16))) (rowB ((u.take 16).map num8))
  rw [rowB_len, body_map8, List.length_take] at h1
  rw [frise_eq N hN _ _ (by omega), wneed0_eq, t32 ha, t32 hp, wput0_eq, wput1_eq N _ _ (by simp), listInt_eq N hN1, wsub1_eq N _ _ (by simp)]
  refine (wdone1_eq N hN1 _ [a, p, okB (ec (decide (u.length ≤ 16))) (rowB ((u.take 16).map num8))] (all3 (by omega) (by omega) (by omega)) r).trans ?_
  refine (doneK_fit _ _ (fits3 _ _ _ (by omega)) r).trans ?_
  cases hr : rise (-1) u with
  | false =>
    have e : fe (fe 0 (ec false)) (ec (decide (u.length ≤ 16))) = 4 := rfl
    rw [e]
    unfold nodeB
    rw [hr]
    rfl
  | true =>
    have h16 := rise16 hr
    have e : fe (fe 0 (ec true)) (ec (decide (u.length ≤ 16))) = 0 := by rw [decide_eq_true h16]; rfl
    rw [e, decide_eq_true h16, List.take_of_length_le h16]
    unfold nodeB nodeR
    rw [hr]
    rfl
theorem wnum0_eq {R : Type} (N : Nat) (hN : 1000 < N) (e : Nat) (n most : Int) (r : Nat → List (List Int) → Option R) : wnum0.M N R e n most r = r (fe e (ec (decide (0 ≤ n) && decide (n ≤ most)))) [num8 n] := by
  show wnum0.m (wneed0.M N) (wneed1.M N) (wNum.M N) (wput0.M N) (wput1.M N) N e n most r = _
  unfold wnum0.m
  by_cases h : 0 ≤ n
  · rw [decide_eq_true (show n ≥ 0 from h), cond_true, wneed0_eq, wNumB_eq N hN, wput0_eq]
    rfl
  · rw [decide_eq_false (show ¬ n ≥ 0 from h), cond_false, wneed0_eq, wNumB_eq N hN, wput0_eq]
    rfl
def slotOk (k : Int) (n u : List Int) : Bool := if k = 0 then true else if k = 1 then leafOk n else if k = 2 then rise (-1) u else false
def slotW (k : Int) (a b n p s a' p' u : List Int) : List Int := if k = 0 then rowB [num8 0, []] else if k = 1 then rowB [num8 1, leafR a b n p s] else if k = 2 then rowB [num8 2, nodeR a' p' u] else []
def slotZ (k : Int) : Option Bool := if k = 0 then none else if k = 1 then none else if k = 2 then none else some true
def slotB (k : Int) (a b n p s a' p' u : List Int) : List Int := okB (ec (slotOk k n u)) (slotW k a b n p s a' p' u)
theorem slotW_len (k : Int) (a b n p s a' p' u : List Int) (ha : a.length = 32) (hb : b.length = 32) (hn : n.length ≤ 1000) (hp : p.length = 32) (hs : s.length = 64) (ha' : a'.length = 32) (hp' : p'.length = 32) (hu : u.length ≤ 100) : (slotW k a b n p s a' p' u).length ≤ 1600 := by
  have h1 := leafR_len a b n p s ha hb hn hp hs
  have h2 := nodeR_len a' p' u ha' hp' hu
  have e0 := num8_len 0
  have e1 := num8_len 1
  have e2 := num8_len 2
  unfold slotW
  split
  · rw [rowB_len, body2, List.length_nil]; omega
  · split
    · rw [rowB_len, body2]; omega
    · split
      · rw [rowB_len, body2]; omega
      · simp
theorem fslot_eq {R : Type} (N : Nat) (hN : 1000000 < N) (k : Int) (a b : List Int) (z : Option Bool) (n p s a' p' : List Int) (z' : Option Bool) (u : List Int) (ha : a.length = 32) (hb : b.length = 32) (hn : n.length ≤ 1000) (hp : p.length = 32) (hs : s.length = 64) (ha' : a'.length = 32) (hp' : p'.length = 32) (hu : u.length ≤ 100) (r : Option Bool → List Int → Nat → Option R) : fslot.M N R k a b z n p s a' p' z' u r = r (oz (ec (slotOk k n u))) (slotB k a b n p s a' p' u) (ec (slotOk k n u)) := by
  show fslot.m (wnum0.M N) (wnum1.M N) (fLeaf.M N) (wsub0.M N) (wsub1.M N) (fnode.M N) (wput0.M N) (wput1.M N) (wdone0.M N) (wdone1.M N) N k a b z n p s a' p' z' u r = _
  unfold fslot.m slotB slotOk slotW
  try dsimp only
  have hN1 : 1000 < N := by omega
  have hk := num8_len k
  rw [wnum0_eq N hN1]
  by_cases h1 : k = 1
  · subst h1
    have hl := leafB_len a b n p s ha hb hn hp hs
    rw [show ((1 : Int) == 1) = true from rfl, cond_true, fLeaf_eq N hN1 a b none n p s ha hb hn hp hs, wsub1_eq N _ _ (by simp)]
    refine (wdone1_eq N hN1 _ [num8 1, leafB a b n p s] (all2 (by omega) (by omega)) r).trans ?_
    refine (doneK_fit _ _ (fits2 _ _ (by omega)) r).trans ?_
    show r (oz (fe 0 (leafE n))) (okB (fe 0 (leafE n)) (rowB [num8 1, leafB a b n p s])) (fe 0 (leafE n)) = r (oz (ec (leafOk n))) (okB (ec (leafOk n)) (rowB [num8 1, leafR a b n p s])) (ec (leafOk n))
    rw [fe_l, leafE_ec]
    cases h : leafOk n with
    | false => rfl
    | true => rw [leafB_ok h]
  · rw [show (k == 1) = false from beq_eq_false_iff_ne.2 h1, cond_false, if_neg h1, if_neg h1]
    by_cases h2 : k = 2
    · subst h2
      have hl := nodeR_len a' p' u ha' hp' hu
      have hl2 : (nodeB a' p' u).length ≤ 1500 := Nat.le_trans (okB_len _ _) hl
      rw [show ((2 : Int) == 2) = true from rfl, cond_true, fnode_eq N hN a' p' none u ha' hp' hu, wsub1_eq N _ _ (by simp)]
      refine (wdone1_eq N hN1 _ [num8 2, nodeB a' p' u] (all2 (by omega) (by omega)) r).trans ?_
      refine (doneK_fit _ _ (fits2 _ _ (by omega)) r).trans ?_
      show r (oz (fe 0 (ec (rise (-1) u)))) (okB (fe 0 (ec (rise (-1) u))) (rowB [num8 2, nodeB a' p' u])) (fe 0 (ec (rise (-1) u))) = r (oz (ec (rise (-1) u))) (okB (ec (rise (-1) u)) (rowB [num8 2, nodeR a' p' u])) (ec (rise (-1) u))
      rw [fe_l]
      unfold nodeB
      cases h : rise (-1) u <;> rfl
    · rw [show (k == 2) = false from beq_eq_false_iff_ne.2 h2, cond_false, if_neg h2, if_neg h2, wput1_eq N _ _ (by simp)]
      refine (wdone1_eq N hN1 _ [num8 k, []] (all2 (by omega) (by simp)) r).trans ?_
      refine (doneK_fit _ _ (fits2 _ _ (by rw [List.length_nil]; omega)) r).trans ?_
      by_cases h0 : k = 0
      · subst h0
        rfl
      · rw [if_neg h0, if_neg h0]
        have e : fe 0 (ec (decide (0 ≤ k) && decide (k ≤ 2))) = 4 := by
          have : (decide (0 ≤ k) && decide (k ≤ 2)) = false := by
            rw [Bool.and_eq_false_iff, decide_eq_false_iff_not, decide_eq_false_iff_not]; omega
          rw [this]; rfl
        rw [e]
        rfl
theorem r18Slot_loop {R : Type} (N : Nat) (hN : 1000 < N) (u : List Int) (hu : u.length ≤ 100) (x : Int × (List Int × List Int × List Int × List Int × List Int × Unit) × (List Int × List Int × List Int × Unit) × Unit)
    (ke0 : (Int × (List Int × List Int × List Int × List Int × List Int × Unit) × (List Int × List Int × List Int × Unit) × Unit) → (List Int) → Int → Int → Bool → (List (List Int)) → Option R) (K : List (List Int) → Option R) (hk : ∀ nl t, ke0 x u (u.length : Int) (u.length : Int) nl t = K t) :
    ∀ (d i m : Nat) (nl : Bool) (t : List (List Int)), i + d = u.length → d < m → t.length ≤ 200 - d → r18Slot.L10 (r18num.M N) (r18row.M N) (r18Leaf.M N) (r18rise.M N) N ke0 m x u (u.length : Int) (i : Int) nl t = K (t ++ (u.drop i).map num8)
  | 0, i, m + 1, nl, t, hi, _, _ => by
    unfold r18Slot.L10
    have : i = u.length := by omega
    subst this
    rw [decide_eq_false (by omega), cond_false, hk, List.drop_eq_nil_of_le (by omega), List.map_nil, List.append_nil]
  | d + 1, i, m + 1, nl, t, hi, hm, ht => by
    unfold r18Slot.L10
    rw [decide_eq_true (show (i : Int) < (u.length : Int) by omega), cond_true, decide_eq_true (show (0 : Int) ≤ (i : Int) by omega), cond_true, cond_true, Int.toNat_natCast, dropS u i 0 (by omega), List.map_cons, r18num_eq N hN,
      decide_eq_true (show (t.length + 1) * 24 ≤ 140737488355328 by omega), cond_true, decide_eq_true (show t.length + 1 ≤ 140737488355328 by omega), cond_true, i64n (n := u.length) (by omega) (by omega)]
    have := r18Slot_loop N hN u hu x ke0 K hk d (i + 1) m false (t ++ [num8 (u.getD i 0)]) (by omega) (by omega) (by rw [List.length_append, List.length_singleton]; omega)
    rw [List.append_assoc, List.singleton_append] at this
    exact this
theorem r18Slot_eq {R : Type} (N : Nat) (hN : 1000000 < N) (k : Int) (a b : List Int) (z : Option Bool) (n p s a' p' : List Int) (z' : Option Bool) (u : List Int) (ha : a.length = 32) (hb : b.length = 32) (hn : n.length ≤ 1000) (hp : p.length = 32) (hs : s.length = 64) (ha' : a'.length = 32) (hp' : p'.length = 32) (hu : u.length ≤ 100) (r : Option Bool → List Int → Bool → Option R) : r18Slot.M N R k a b z n p s a' p' z' u r = r (slotZ k) (slotW k a b n p s a' p' u) (slotOk k n u) := by
  show r18Slot.m (r18num.M N) (r18row.M N) (r18Leaf.M N) (r18rise.M N) N k a b z n p s a' p' z' u r = _
  unfold r18Slot.m slotZ slotW slotOk
  try dsimp only
  have hN1 : 1000 < N := by omega
  have e0 := num8_len 0
  have e1 := num8_len 1
  have e2 := num8_len 2
  by_cases h0 : k = 0
  · rw [show (k == 0) = true from by rw [h0]; rfl, cond_true, if_pos h0, if_pos h0, if_pos h0, r18num_eq N hN1, r18row_fit N hN1 _ (all2 (by omega) (by simp)) (fits2 _ _ (by rw [List.length_nil]; omega))]
  · rw [show (k == 0) = false from beq_eq_false_iff_ne.2 h0, cond_false, if_neg h0, if_neg h0, if_neg h0]
    by_cases h1 : k = 1
    · have hl := leafR_len a b n p s ha hb hn hp hs
      rw [show (k == 1) = true from by rw [h1]; rfl, cond_true, if_pos h1, if_pos h1, if_pos h1, r18Leaf_eq N hN1 a b none n p s ha hb hn hp hs, r18num_eq N hN1, r18row_fit N hN1 _ (all2 (by omega) (by omega)) (fits2 _ _ (by omega))]
    · rw [show (k == 1) = false from beq_eq_false_iff_ne.2 h1, cond_false, if_neg h1, if_neg h1, if_neg h1]
      by_cases h2 : k = 2
      · rw [show (k == 2) = true from by rw [h2]; rfl, cond_true, if_pos h2, if_pos h2, if_pos h2]
        have hl := nodeR_len a' p' u ha' hp' hu
        refine (r18Slot_loop N hN1 u hu _ _ (fun t => r18num.M N R 2 (fun v => r18row.M N R t (fun _ w => r18row.M N R [List.drop 0 (List.take 32 a'), List.drop 0 (List.take 32 p'), w] (fun _ y => r18row.M N R [v, y] (fun q o => r18rise.M N R none u (fun j => r q o j)))))) (fun _ _ => rfl) u.length 0 N true [] (by omega) (by omega) (by simp)).trans ?_
        rw [List.drop_zero, List.nil_append, r18num_eq N hN1, r18row_fit N hN1 _ (all_map8 u) (fits_map8 u (by omega)), t32 ha', t32 hp', r18row_fit N hN1 _ (all3 (by omega) (by omega) (by rw [rowB_len, body_map8]; omega)) (fits3 _ _ _ (by rw [rowB_len, body_map8]; omega))]
        show r18row.M N R [num8 2, nodeR a' p' u] _ = _
        rw [r18row_fit N hN1 _ (all2 (by omega) (by omega)) (fits2 _ _ (by omega)), r18rise_eq N hN _ _ (by omega)]
      · rw [show (k == 2) = false from beq_eq_false_iff_ne.2 h2, cond_false, if_neg h2, if_neg h2, if_neg h2]
end Go.Proofs.YthajoenmfppenaaDoor.fn
