/- Rows of texts there and back. -/
import Derived.Test.YtbliikcgcgalmaaDoorMWireD
import Derived.Test.YtbliikcgcgalmaaDoorFnWireRows
namespace Go.Proofs.YtbliikcgcgalmaaDoor.fn
open Go Go.Proofs Go.Ev Go.Dg

theorem long_loop {R : Type} (N : Nat) (l : List (List Int)) (hl : l.length ≤ 300) (ke0 ke1 : List (List Int) → List (List Int) → Int → Int → Option R) (X : Option R)
    (h0 : ∀ a b c d, ke0 a b c d = X) (g1 g2 g3 g4 g5 g6 g7) :
    ∀ (d m i : Nat), i + d = l.length → d < m →
      WireRows.L6 g1 g2 g3 g4 g5 g6 g7 N ke0 ke1 m l l (l.length : Int) (i : Int) = cond ((l.drop i).all fun t => decide (t.length ≤ 300)) (ke1 l l l.length l.length) X := by
  intro d
  induction d with
  | zero =>
    intro m i hi hm
    obtain ⟨m, rfl⟩ : ∃ k, m = k + 1 := ⟨m - 1, by omega⟩
    unfold WireRows.L6
    obtain rfl : i = l.length := by omega
    rw [decide_eq_false (by omega), cond_false, List.drop_of_length_le (by omega)]
    rfl
  | succ d ih =>
    intro m i hi hm
    obtain ⟨m, rfl⟩ : ∃ k, m = k + 1 := ⟨m - 1, by omega⟩
    unfold WireRows.L6
    rw [decide_eq_true (by omega), cond_true, decide_eq_true (by omega), cond_true, cond_true, Int.toNat_natCast, dropC l i [] (by omega), List.all_cons]
    by_cases ht : (l.getD i []).length ≤ 300
    · rw [decide_eq_false (by omega), cond_false, decide_eq_true ht, Bool.true_and, wrap_i64z _ (by omega) (by omega)]
      exact ih m (i + 1) (by omega) (by omega)
    · rw [decide_eq_true (by omega), cond_true, decide_eq_false ht, Bool.false_and, cond_false, h0]

theorem fits_len {l : List (List Int)} (h : fitsR l = true) : l.length ≤ 255 ∧ (rowB l).length ≤ 65536 := by
  unfold fitsR at h
  rw [Bool.and_eq_true, decide_eq_true_eq, decide_eq_true_eq] at h
  exact h

theorem WireRows_true {R : Type} (N : Nat) (hN : 1000 < N) (l : List (List Int)) (hb : ∀ t ∈ l, ∀ x ∈ t, 0 ≤ x ∧ x < 256) (r : Bool → Option R) :
    WireRows.M N R l r = r true := by
  show WireRows.m (alive16.M N) (wRow.M N) (rRow.M N) (Num.M N) (wUnrow.M N) (wExactly.M N) (SameLists.M N) N l r = _
  unfold WireRows.m
  rw [alive16_eq N hN, Bool.not_true, cond_false]
  by_cases hl : l.length ≤ 300
  · rw [decide_eq_false (by omega), cond_false]
    refine (long_loop N l hl _ _ (r true) (fun _ _ _ _ => rfl) _ _ _ _ _ _ _ l.length N 0 (by omega) (by omega)).trans ?_
    rw [List.drop_zero]
    by_cases ha : (l.all fun t => decide (t.length ≤ 300)) = true
    · rw [ha, cond_true]
      have ht : ∀ t ∈ l, t.length ≤ 1000000 := by
        intro t h
        have := List.all_eq_true.1 ha t h
        rw [decide_eq_true_eq] at this
        omega
      rw [wRow_eq N hN l ht]
      by_cases hf : fitsR l = true
      · obtain ⟨h1, h2⟩ := fits_len hf
        rw [hf, cond_true, rRow_eq N hN l ht, hf, cond_true]
        have e1 : (!toStr (rowB l) == toStr (rowB l)) = false := by rw [beq_self_eq_true]; rfl
        have e2 : ((0 : Int) != 0) = false := rfl
        rw [e1, cond_false, wNum_0 N (by omega), e2, cond_false, cond_false]
        obtain ⟨L, rfl, hL⟩ := ex_rows l hb
        rw [List.length_map] at h1
        rw [rowB_nn, nn_len] at h2
        rw [rowB_nn]
        have hB := rowN_lt L h1 hL
        rw [wUnrow_eq N hN _ _ hB, unR_row L h1 h2, wExactly_eq N hN _ _ hB, unR_row L h1 h2]
        have e3 : (!Nat.beq ((0 : Nat), L.map nn).1 0) = false := rfl
        simp only [e3, cond_false, List.length_map]
        have e4 : (((L.length : Nat) : Int) != (L.length : Int)) = false := by simp
        have e5 : (((L.length : Nat) : Int) != IntKind.i64.wrap ((L.length : Int) + 1)) = true := by
          rw [wrap_i64z _ (by omega) (by omega), bne_iff_ne]; omega
        have e6 : Nat.beq 0 0 = true := rfl
        rw [e4, cond_false, wExactly_eq N hN _ _ hB, unR_row L h1 h2]
        simp only [e3, cond_false, List.length_map]
        rw [e5]
        simp only [cond_true, e6]
        have hr := rows_by hL
        rw [SameLists_eq N _ _ (by rw [List.length_map]; omega) (by rw [List.length_map]; omega) hr hr, decide_eq_true rfl, cond_true, SameLists_eq N _ _ (by rw [List.length_map]; omega) (by rw [List.length_map]; omega) hr hr, decide_eq_true rfl, cond_true, wNum_4 N (by omega)]
        rfl
      · rw [Bool.not_eq_true] at hf
        rw [hf, cond_false, rRow_eq N hN l ht, hf, cond_false]
        have e1 : (!toStr ([] : List Int) == toStr []) = false := by rw [beq_self_eq_true]; rfl
        have e2 : ((3 : Int) != 3) = false := rfl
        have e3 : ((3 : Int) != 0) = true := rfl
        rw [e1, cond_false, wNum_3 N (by omega), e2, cond_false, e3, cond_true]
    · rw [Bool.not_eq_true] at ha
      rw [ha, cond_false]
  · rw [decide_eq_true (by omega), cond_true]

end Go.Proofs.YtbliikcgcgalmaaDoor.fn
