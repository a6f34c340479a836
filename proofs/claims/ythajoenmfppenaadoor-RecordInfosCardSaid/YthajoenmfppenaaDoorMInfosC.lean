/- What a tree's bytes are. -/
import Derived.Test.YthajoenmfppenaaDoorMInfosB
import Derived.Test.YthajoenmfppenaaDoorMRec
import Derived.Test.YthajoenmfppenaaDoorFnTree
namespace Go.Proofs.YthajoenmfppenaaDoor.fn
open Go Go.Proofs Go.Ev Go.Dg
def SlotH (s : SlotT) : Prop := s.2.1.1.length = 32 ∧ s.2.1.2.1.length = 32 ∧ s.2.1.2.2.1.length ≤ 1000 ∧ s.2.1.2.2.2.1.length = 32 ∧ s.2.1.2.2.2.2.1.length = 64 ∧ s.2.2.1.1.length = 32 ∧ s.2.2.1.2.1.length = 32 ∧ s.2.2.1.2.2.1.length ≤ 100
def sOk (s : SlotT) : Bool := slotOk s.1 s.2.1.2.2.1 s.2.2.1.2.2.1
def sW (s : SlotT) : List Int := slotW s.1 s.2.1.1 s.2.1.2.1 s.2.1.2.2.1 s.2.1.2.2.2.1 s.2.1.2.2.2.2.1 s.2.2.1.1 s.2.2.1.2.1 s.2.2.1.2.2.1
def sB (s : SlotT) : List Int := slotB s.1 s.2.1.1 s.2.1.2.1 s.2.1.2.2.1 s.2.1.2.2.2.1 s.2.1.2.2.2.2.1 s.2.2.1.1 s.2.2.1.2.1 s.2.2.1.2.2.1
theorem sW_len (s : SlotT) (h : SlotH s) : (sW s).length ≤ 1600 := slotW_len _ _ _ _ _ _ _ _ _ h.1 h.2.1 h.2.2.1 h.2.2.2.1 h.2.2.2.2.1 h.2.2.2.2.2.1 h.2.2.2.2.2.2.1 h.2.2.2.2.2.2.2
theorem sB_len (s : SlotT) (h : SlotH s) : (sB s).length ≤ 1600 := Nat.le_trans (okB_len _ _) (sW_len s h)
theorem sB_ok (s : SlotT) (h : sOk s = true) : sB s = sW s := by
  unfold sB slotB
  unfold sOk at h
  rw [h]; rfl
theorem fslot_s {R : Type} (N : Nat) (hN : 1000000 < N) (s : SlotT) (h : SlotH s) (z z' : Option Bool) (r : Option Bool → List Int → Nat → Option R) :
    fslot.M N R s.1 s.2.1.1 s.2.1.2.1 z s.2.1.2.2.1 s.2.1.2.2.2.1 s.2.1.2.2.2.2.1 s.2.2.1.1 s.2.2.1.2.1 z' s.2.2.1.2.2.1 r = r (oz (ec (sOk s))) (sB s) (ec (sOk s)) :=
  fslot_eq N hN _ _ _ _ _ _ _ _ _ _ _ h.1 h.2.1 h.2.2.1 h.2.2.2.1 h.2.2.2.2.1 h.2.2.2.2.2.1 h.2.2.2.2.2.2.1 h.2.2.2.2.2.2.2 r
theorem r18Slot_s {R : Type} (N : Nat) (hN : 1000000 < N) (s : SlotT) (h : SlotH s) (z z' : Option Bool) (r : Option Bool → List Int → Bool → Option R) :
    r18Slot.M N R s.1 s.2.1.1 s.2.1.2.1 z s.2.1.2.2.1 s.2.1.2.2.2.1 s.2.1.2.2.2.2.1 s.2.2.1.1 s.2.2.1.2.1 z' s.2.2.1.2.2.1 r = r (slotZ s.1) (sW s) (sOk s) :=
  r18Slot_eq N hN _ _ _ _ _ _ _ _ _ _ _ h.1 h.2.1 h.2.2.1 h.2.2.2.1 h.2.2.2.2.1 h.2.2.2.2.2.1 h.2.2.2.2.2.2.1 h.2.2.2.2.2.2.2 r
theorem getD_in {l : List SlotT} {i : Nat} (d : SlotT) (h : i < l.length) : l.getD i d ∈ l := by
  rw [List.getD_eq_getElem?_getD, List.getElem?_eq_getElem h]
  exact List.getElem_mem h
theorem fe_as (a b c : Nat) : fe (fe a b) c = fe a (fe b c) := by unfold fe; by_cases h : a = 0 <;> simp [h]
theorem body_le : ∀ (l : List SlotT) (f : SlotT → List Int), (∀ s ∈ l, (f s).length ≤ 1600) → (body (l.map f)).length ≤ 1604 * l.length
  | [], _, _ => Nat.zero_le _
  | s :: l, f, h => by
    rw [List.map_cons, body_one, List.length_cons]
    have := body_le l f fun x hx => h x (by simp [hx])
    have := h s (by simp)
    omega
theorem fits_slots (l : List SlotT) (f : SlotT → List Int) (h : ∀ s ∈ l, (f s).length ≤ 1600) (hl : l.length ≤ 32) : fitsR (l.map f) = true := fits_of _ (by rw [List.length_map]; omega) (by have := body_le l f h; omega)
theorem all_slots (l : List SlotT) (f : SlotT → List Int) (h : ∀ s ∈ l, (f s).length ≤ 1600) : ∀ x ∈ l.map f, x.length ≤ 1000000 := by
  intro x hx
  obtain ⟨s, hs, rfl⟩ := List.mem_map.1 hx
  have := h s hs
  omega
theorem listSlot_loop {R : Type} (N : Nat) (hN : 1000000 < N) (l : List SlotT) (hl : l.length ≤ 100) (H : ∀ s ∈ l, SlotH s) (ke0 : List SlotT → Int → Int → Nat → Bool → List (List Int) → Option R) (K : Nat → List (List Int) → Option R)
    (hk : ∀ e nl t, ke0 l (l.length : Int) (l.length : Int) e nl t = K e t) :
    ∀ (d i m : Nat) (e : Nat) (nl : Bool) (t : List (List Int)), i + d = l.length → d < m → t.length ≤ 200 - d →
      listSlot.L4 (wneed0.M N) (wneed1.M N) (wsub2.M N) (wdone2.M N) (fslot.M N) N ke0 m l (l.length : Int) (i : Int) e nl t = K (fe e (ec ((l.drop i).all sOk))) (t ++ (l.drop i).map sB)
  | 0, i, m + 1, e, nl, t, hi, _, _ => by
    unfold listSlot.L4
    have : i = l.length := by omega
    subst this
    rw [decide_eq_false (by omega), cond_false, hk, List.drop_eq_nil_of_le (by omega), List.map_nil, List.append_nil]
    show K e t = K (fe e 0) t
    rw [fe_r]
  | d + 1, i, m + 1, e, nl, t, hi, hm, ht => by
    unfold listSlot.L4
    have hin := getD_in (l := l) (i := i) (dflt slotTy) (by omega)
    rw [decide_eq_true (show (i : Int) < (l.length : Int) by omega), cond_true, decide_eq_true (show (0 : Int) ≤ (i : Int) by omega), cond_true, cond_true, Int.toNat_natCast, dropS (α := SlotT) l i (dflt slotTy) (by omega), List.map_cons, List.all_cons]
    refine (fslot_s N hN (l.getD i (dflt slotTy)) (H _ hin) none none _).trans ?_
    rw [wsub2_eq N _ _ t (by omega), i64n (n := l.length) (by omega) (by omega)]
    refine (listSlot_loop N hN l hl H ke0 K hk d (i + 1) m _ false (t ++ [sB (l.getD i (dflt slotTy))]) (by omega) (by omega) (by rw [List.length_append, List.length_singleton]; omega)).trans ?_
    rw [fe_as, fe_ec, List.append_assoc, List.singleton_append]
theorem listSlot_eq {R : Type} (N : Nat) (hN : 1000000 < N) (l : List SlotT) (hl : l.length ≤ 32) (H : ∀ s ∈ l, SlotH s) (r : Option Bool → List Int → Nat → Option R) :
    listSlot.M N R l 32 r = r (oz (ec (l.all sOk))) (okB (ec (l.all sOk)) (rowB (l.map sW))) (ec (l.all sOk)) := by
  show listSlot.m (wneed0.M N) (wneed1.M N) (wsub2.M N) (wdone2.M N) (fslot.M N) N l 32 r = _
  unfold listSlot.m
  have hN1 : 1000 < N := by omega
  have e32 : List.drop 0 (List.take (min (l.length : Int) 32).toNat l) = l := by
    rw [List.drop_zero, show (min (l.length : Int) 32).toNat = l.length by omega, List.take_of_length_le (Nat.le_refl _)]
  rw [wneed0_eq, decide_eq_true (show (l.length : Int) ≤ 32 by omega), decide_eq_true (show (0 : Int) ≤ min (l.length : Int) 32 by omega), cond_true, decide_eq_true (show min (l.length : Int) 32 ≤ (l.length : Int) by omega), cond_true, e32]
  refine (listSlot_loop N hN l (by omega) H _ (fun e t => cond (!e.beq 0) (r (some true) [] e) (wRow.M N R t (fun a b c => r a b c))) (fun e nl t => rfl) l.length 0 N 0 true [] (by omega) (by omega) (by simp)).trans ?_
  rw [List.drop_zero, List.nil_append, fe_l]
  have hB : ∀ s ∈ l, (sB s).length ≤ 1600 := fun s hs => sB_len s (H s hs)
  have := wdone2_eq (R := R) N hN1 (ec (l.all sOk)) true (l.map sB) (all_slots l sB hB) r
  refine (show _ = _ from this).trans ((doneK_fit _ _ (fits_slots l sB hB hl) r).trans ?_)
  have e : okB (ec (l.all sOk)) (rowB (l.map sB)) = okB (ec (l.all sOk)) (rowB (l.map sW)) := by
    cases h : l.all sOk with
    | false => rfl
    | true =>
      have : l.map sB = l.map sW := List.map_congr_left fun s hs => sB_ok s (List.all_eq_true.1 h s hs)
      rw [this]
  rw [e]
def isR (n : Int) : Bool := n == 1 || n == 2 || n == 4 || n == 8 || n == 16
theorem plRight_eq {R : Type} (N : Nat) (n : Int) (r : Bool → Option R) : plRight.M N R n r = r (isR n) := by
  show plRight.m N n r = _
  by_cases h : 1 ≤ n ∧ n ≤ 16
  · have : n = 1 ∨ n = 2 ∨ n = 3 ∨ n = 4 ∨ n = 5 ∨ n = 6 ∨ n = 7 ∨ n = 8 ∨ n = 9 ∨ n = 10 ∨ n = 11 ∨ n = 12 ∨ n = 13 ∨ n = 14 ∨ n = 15 ∨ n = 16 := by omega
    rcases this with rfl | rfl | rfl | rfl | rfl | rfl | rfl | rfl | rfl | rfl | rfl | rfl | rfl | rfl | rfl | rfl <;> rfl
  · unfold plRight.m
    have e : isR n = false := by
      unfold isR
      simp
      omega
    rw [e]
    by_cases h1 : n ≥ 1
    · rw [decide_eq_true h1, cond_true, decide_eq_false (by omega), cond_false]
    · rw [decide_eq_false h1, cond_false]
theorem r17Right_eq {R : Type} (N : Nat) (n : Int) (r : Bool → Option R) : r17Right.M N R n r = r (isR n) := by
  show r17Right.m N n r = _
  unfold r17Right.m isR
  by_cases h1 : n = 1
  · subst h1; rfl
  · by_cases h2 : n = 2
    · subst h2; rfl
    · by_cases h4 : n = 4
      · subst h4; rfl
      · by_cases h8 : n = 8
        · subst h8; rfl
        · rw [show (n == 1) = false from beq_eq_false_iff_ne.2 h1, show (n == 2) = false from beq_eq_false_iff_ne.2 h2, show (n == 4) = false from beq_eq_false_iff_ne.2 h4, show (n == 8) = false from beq_eq_false_iff_ne.2 h8]
          rfl
def kP : Nat → List SlotT → Bool
  | _, [] => true
  | i, s :: l => !((s.1 == 1) && (i % 2 == 1)) && (!((s.1 == 2) && (i % 2 == 0)) && kP (i + 1) l)
def kR : Nat → List SlotT → Bool
  | _, [] => true
  | i, s :: l => !((s.1 != 0) && (s.1 != 1 + ((i % 2 : Nat) : Int))) && kR (i + 1) l
theorem kP_cons (i : Nat) (s : SlotT) (l : List SlotT) : kP i (s :: l) = (!((s.1 == 1) && (i % 2 == 1)) && (!((s.1 == 2) && (i % 2 == 0)) && kP (i + 1) l)) := rfl
theorem kR_cons (i : Nat) (s : SlotT) (l : List SlotT) : kR i (s :: l) = (!((s.1 != 0) && (s.1 != 1 + ((i % 2 : Nat) : Int))) && kR (i + 1) l) := rfl
def cntOk (n : Nat) : Bool := (n % 2 == 1) && isR (((n + 1) / 2 : Nat) : Int)
theorem kP_kR : ∀ (l : List SlotT) (i : Nat), l.all sOk = true → kP i l = kR i l
  | [], _, _ => rfl
  | s :: l, i, h => by
    rw [List.all_cons, Bool.and_eq_true] at h
    rw [kP_cons, kR_cons, kP_kR l (i + 1) h.2]
    have hk : s.1 = 0 ∨ s.1 = 1 ∨ s.1 = 2 := by
      have h1 := h.1
      unfold sOk slotOk at h1
      by_cases a : s.1 = 0
      · exact .inl a
      · by_cases b : s.1 = 1
        · exact .inr (.inl b)
        · by_cases c : s.1 = 2
          · exact .inr (.inr c)
          · rw [if_neg a, if_neg b, if_neg c] at h1; cases h1
    have hi : i % 2 = 0 ∨ i % 2 = 1 := by omega
    rcases hk with e | e | e <;> rcases hi with q | q <;> rw [e, q] <;> rfl
theorem tm2 (i : Nat) : (i : Int).tmod 2 = ((i % 2 : Nat) : Int) := rfl
theorem beq2 (i : Nat) (c : Nat) : (((i % 2 : Nat) : Int) == (c : Int)) = (i % 2 == c) := by
  by_cases h : i % 2 = c
  · rw [h, beq_self_eq_true, beq_self_eq_true]
  · rw [beq_eq_false_iff_ne.2 h, beq_eq_false_iff_ne.2 (by omega)]
theorem treeRight_loop {R : Type} (N : Nat) (l : List SlotT) (hl : l.length ≤ 1000000) (r : Bool → Option R) (ke0 ke1 ke2 ke3 : List SlotT → Int → Int → Option R)
    (h0 : ∀ a b c, ke0 a b c = r false) (h1 : ∀ a b c, ke1 a b c = r false) (h2 : ∀ a b c, ke2 a b c = r false) (h3 : ∀ a b c, ke3 a b c = r true) :
    ∀ (d i m : Nat), i + d = l.length → d < m → treeRight.L4 (plRight.M N) N ke0 ke1 ke2 ke3 m l (l.length : Int) (i : Int) = r (kP i (l.drop i))
  | 0, i, m + 1, hi, _ => by
    unfold treeRight.L4
    rw [decide_eq_false (by omega), cond_false, h3, List.drop_eq_nil_of_le (by omega)]
    rfl
  | d + 1, i, m + 1, hi, hm => by
    unfold treeRight.L4
    have next := treeRight_loop N l hl r ke0 ke1 ke2 ke3 h0 h1 h2 h3 d (i + 1) m (by omega) (by omega)
    rw [decide_eq_true (show (i : Int) < (l.length : Int) by omega), cond_true, decide_eq_true (show (0 : Int) ≤ (i : Int) by omega), cond_true, cond_true, Int.toNat_natCast, dropS (α := SlotT) l i (dflt slotTy) (by omega), i64n (n := l.length) (by omega) hl, next, tm2, kP_cons]
    have b1 : (((i % 2 : Nat) : Int) == 1) = (i % 2 == 1) := beq2 i 1
    have b0 : (((i % 2 : Nat) : Int) == 0) = (i % 2 == 0) := beq2 i 0
    rw [b1, b0, h0, h1, h2]
    generalize kP (i + 1) (l.drop (i + 1)) = q
    generalize hs : l.getD i (dflt slotTy) = s
    show cond (s.1 == 1) _ _ = _
    cases (s.1 == 1) <;> cases (s.1 == 2) <;> cases (i % 2 == 1) <;> cases (i % 2 == 0) <;> rfl
theorem shape_loop {R : Type} (N : Nat) (l : List SlotT) (hl : l.length ≤ 1000000) (r : Bool → Option R) (ke0 ke1 : List SlotT → Int → Int → Option R) (h0 : ∀ a b c, ke0 a b c = r false) (h1 : ∀ a b c, ke1 a b c = r true) :
    ∀ (d i m : Nat), i + d = l.length → d < m → r18shape.L4 (r17Right.M N) N ke0 ke1 m l (l.length : Int) (i : Int) = r (kR i (l.drop i))
  | 0, i, m + 1, hi, _ => by
    unfold r18shape.L4
    rw [decide_eq_false (by omega), cond_false, h1, List.drop_eq_nil_of_le (by omega)]
    rfl
  | d + 1, i, m + 1, hi, hm => by
    unfold r18shape.L4
    have next := shape_loop N l hl r ke0 ke1 h0 h1 d (i + 1) m (by omega) (by omega)
    rw [decide_eq_true (show (i : Int) < (l.length : Int) by omega), cond_true, decide_eq_true (show (0 : Int) ≤ (i : Int) by omega), cond_true, cond_true, Int.toNat_natCast, dropS (α := SlotT) l i (dflt slotTy) (by omega), i64n (n := l.length) (by omega) hl, next, tm2, wrap_i64z (1 + ((i % 2 : Nat) : Int)) (by omega) (by omega), h0, kR_cons]
    generalize kR (i + 1) (l.drop (i + 1)) = q
    generalize hs : l.getD i (dflt slotTy) = s
    show cond (s.1 != 0) _ _ = _
    cases (s.1 != 0) <;> cases (s.1 != 1 + ((i % 2 : Nat) : Int)) <;> rfl
theorem half (n : Nat) (hn : n ≤ 1000000) : IntKind.i64.wrap ((IntKind.i64.wrap ((n : Int) + 1)).tdiv 2) = (((n + 1) / 2 : Nat) : Int) := by
  rw [wrap_i64z ((n : Int) + 1) (by omega) (by omega)]
  have e : ((n : Int) + 1).tdiv 2 = (((n + 1) / 2 : Nat) : Int) := rfl
  rw [e, wrap_i64z _ (by omega) (by omega)]
theorem cnt_cond {R : Type} (n : Nat) (hn : n ≤ 1000000) (r : Bool → Option R) (X : Option R) (q : Bool) (hX : X = r q) : cond ((n : Int).tmod 2 == 0) (r false) (cond (!isR (((n + 1) / 2 : Nat) : Int)) (r false) X) = r (cntOk n && q) := by
  rw [tm2, show (((n % 2 : Nat) : Int) == 0) = (n % 2 == 0) from beq2 n 0, hX]
  unfold cntOk
  rcases (show n % 2 = 0 ∨ n % 2 = 1 by omega) with h | h
  · rw [h]; rfl
  · rw [h]
    cases isR (((n + 1) / 2 : Nat) : Int) <;> rfl
theorem treeRight_eq {R : Type} (N : Nat) (l : List SlotT) (hl : l.length ≤ 1000000) (hN : 1000000 < N) (r : Bool → Option R) : treeRight.M N R l r = r (cntOk l.length && kP 0 l) := by
  show treeRight.m (plRight.M N) N l r = _
  unfold treeRight.m
  rw [half _ hl, plRight_eq]
  refine cnt_cond l.length hl r _ (kP 0 l) ?_
  refine (treeRight_loop N l hl r _ _ _ _ ?_ ?_ ?_ ?_ l.length 0 N (by omega) (by omega)).trans ?_
  · intros; rfl
  · intros; rfl
  · intros; rfl
  · intros; rfl
  · rw [List.drop_zero]
theorem shape_eq {R : Type} (N : Nat) (l : List SlotT) (hl : l.length ≤ 1000000) (hN : 1000000 < N) (r : Bool → Option R) : r18shape.M N R l r = r (cntOk l.length && kR 0 l) := by
  show r18shape.m (r17Right.M N) N l r = _
  unfold r18shape.m
  rw [half _ hl, r17Right_eq]
  refine cnt_cond l.length hl r _ (kR 0 l) ?_
  refine (shape_loop N l hl r _ _ ?_ ?_ l.length 0 N (by omega) (by omega)).trans ?_
  · intros; rfl
  · intros; rfl
  · rw [List.drop_zero]
theorem cnt31 {n : Nat} (h : cntOk n = true) : n ≤ 32 := by
  unfold cntOk isR at h
  simp only [Bool.and_eq_true, Bool.or_eq_true, beq_iff_eq] at h
  omega
def treeOk (l : List SlotT) : Bool := cntOk l.length && (kR 0 l && l.all sOk)
def treeW (l : List SlotT) : List Int := cond (cntOk l.length && kR 0 l) (rowB (l.map sW)) []
def treeZ (l : List SlotT) : Option Bool := cond (cntOk l.length && kR 0 l) none (some true)
theorem treeOk_P (l : List SlotT) : (cntOk l.length && kP 0 l && l.all sOk) = treeOk l := by
  unfold treeOk
  cases h : l.all sOk with
  | false => simp
  | true => rw [kP_kR l 0 h, Bool.and_true, Bool.and_true]
theorem treeW_len (l : List SlotT) (H : ∀ s ∈ l, SlotH s) : (treeW l).length ≤ 51400 := by
  unfold treeW
  cases h : cntOk l.length && kR 0 l with
  | false => simp
  | true =>
    rw [cond_true, rowB_len]
    rw [Bool.and_eq_true] at h
    have := cnt31 h.1
    have := body_le l sW fun s hs => sW_len s (H s hs)
    omega
theorem fTree_eq {R : Type} (N : Nat) (hN : 1000000 < N) (l : List SlotT) (hl : l.length ≤ 1000000) (H : ∀ s ∈ l, SlotH s) (r : Option Bool → List Int → Nat → Option R) :
    fTree.M N R l r = r (oz (ec (treeOk l))) (okB (ec (treeOk l)) (treeW l)) (ec (treeOk l)) := by
  show fTree.m (treeRight.M N) (listSlot.M N) N l r = _
  unfold fTree.m
  rw [treeRight_eq N l hl hN, ← treeOk_P]
  cases h : cntOk l.length && kP 0 l with
  | false => rfl
  | true =>
    rw [Bool.and_eq_true] at h
    rw [Bool.not_true, cond_false, Bool.true_and, listSlot_eq N hN l (cnt31 h.1) H]
    cases ha : l.all sOk with
    | false => rfl
    | true =>
      unfold treeW
      rw [h.1, ← kP_kR l 0 ha, h.2]
      rfl
theorem r18Tree_loop {R : Type} (N : Nat) (hN : 1000000 < N) (l : List SlotT) (hl : l.length ≤ 100) (H : ∀ s ∈ l, SlotH s) (ke0 : Bool → List SlotT → Int → Int → Bool → List (List Int) → Option R) (K : Bool → List (List Int) → Option R)
    (hk : ∀ o nl t, ke0 o l (l.length : Int) (l.length : Int) nl t = K o t) :
    ∀ (d i m : Nat) (o nl : Bool) (t : List (List Int)), i + d = l.length → d < m → t.length ≤ 200 - d →
      r18Tree.L6 (r18shape.M N) (r18Slot.M N) (r18row.M N) N ke0 m o l (l.length : Int) (i : Int) nl t = K (o && (l.drop i).all sOk) (t ++ (l.drop i).map sW)
  | 0, i, m + 1, o, nl, t, hi, _, _ => by
    unfold r18Tree.L6
    have : i = l.length := by omega
    subst this
    rw [decide_eq_false (by omega), cond_false, hk, List.drop_eq_nil_of_le (by omega), List.map_nil, List.append_nil, List.all_nil, Bool.and_true]
  | d + 1, i, m + 1, o, nl, t, hi, hm, ht => by
    unfold r18Tree.L6
    have hin := getD_in (l := l) (i := i) (dflt slotTy) (by omega)
    rw [decide_eq_true (show (i : Int) < (l.length : Int) by omega), cond_true, decide_eq_true (show (0 : Int) ≤ (i : Int) by omega), cond_true, cond_true, Int.toNat_natCast, dropS (α := SlotT) l i (dflt slotTy) (by omega), List.map_cons, List.all_cons]
    refine (r18Slot_s N hN (l.getD i (dflt slotTy)) (H _ hin) none none _).trans ?_
    have a1 : (t.length + 1) * 24 ≤ 140737488355328 := by omega
    have a2 : t.length + 1 ≤ 140737488355328 := by omega
    rw [decide_eq_true a1, decide_eq_true a2, cond_true, cond_true, cond_true, cond_true, i64n (n := l.length) (by omega) (by omega)]
    have next := fun o' => r18Tree_loop N hN l hl H ke0 K hk d (i + 1) m o' false (t ++ [sW (l.getD i (dflt slotTy))]) (by omega) (by omega) (by rw [List.length_append, List.length_singleton]; omega)
    cases o with
    | true =>
      rw [cond_true]
      refine (next _).trans ?_
      rw [Bool.true_and, List.append_assoc, List.singleton_append]
    | false =>
      rw [cond_false]
      refine (next _).trans ?_
      rw [Bool.false_and, Bool.false_and, List.append_assoc, List.singleton_append]
theorem r18Tree_eq {R : Type} (N : Nat) (hN : 1000000 < N) (l : List SlotT) (hl : l.length ≤ 1000000) (H : ∀ s ∈ l, SlotH s) (r : Option Bool → List Int → Bool → Option R) : r18Tree.M N R l r = r (treeZ l) (treeW l) (treeOk l) := by
  show r18Tree.m (r18shape.M N) (r18Slot.M N) (r18row.M N) N l r = _
  unfold r18Tree.m treeZ treeW treeOk
  rw [shape_eq N l hl hN, ← Bool.and_assoc]
  cases h : cntOk l.length && kR 0 l with
  | false => rfl
  | true =>
    rw [Bool.and_eq_true] at h
    have h32 := cnt31 h.1
    rw [Bool.not_true, cond_false]
    refine (r18Tree_loop N hN l (by omega) H _ (fun o t => r18row.M N R t (fun a b => r a b o)) (fun _ _ _ => rfl) l.length 0 N true true [] (by omega) (by omega) (by simp)).trans ?_
    rw [List.drop_zero, List.nil_append, Bool.true_and]
    have hW : ∀ s ∈ l, (sW s).length ≤ 1600 := fun s hs => sW_len s (H s hs)
    rw [r18row_fit N (by omega) _ (all_slots l sW hW) (fits_slots l sW hW h32)]
    rfl
end Go.Proofs.YthajoenmfppenaaDoor.fn
