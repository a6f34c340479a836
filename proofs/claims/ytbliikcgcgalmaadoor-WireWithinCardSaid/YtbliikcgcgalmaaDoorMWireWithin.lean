/- Rows within a row. -/
import Derived.Test.YtbliikcgcgalmaaDoorMWireD
import Derived.Test.YtbliikcgcgalmaaDoorFnWireWithin
namespace Go.Proofs.YtbliikcgcgalmaaDoor.fn
open Go Go.Proofs Go.Ev Go.Dg

theorem within_loop {R : Type} (N : Nat) (a b l : List (List Int)) (nl : Bool) (hl : l.length ≤ 300) (ke0 ke1 : List (List Int) → List (List Int) → Int → Int → Bool → List (List Int) → Option R) (X : Option R)
    (h0 : ∀ a b c d e f, ke0 a b c d e f = X) (g1 g2 g3 g4 g5) :
    ∀ (d m i : Nat), i + d = l.length → d < m →
      WireWithin.L6 g1 g2 g3 g4 g5 N ke0 ke1 m a b (l.length : Int) (i : Int) nl l = cond ((l.drop i).all fun t => decide (t.length ≤ 300)) (ke1 a b l.length l.length nl l) X := by
  intro d
  induction d with
  | zero =>
    intro m i hi hm
    obtain ⟨m, rfl⟩ : ∃ k, m = k + 1 := ⟨m - 1, by omega⟩
    unfold WireWithin.L6
    obtain rfl : i = l.length := by omega
    rw [decide_eq_false (by omega), cond_false, List.drop_of_length_le (by omega)]
    rfl
  | succ d ih =>
    intro m i hi hm
    obtain ⟨m, rfl⟩ : ∃ k, m = k + 1 := ⟨m - 1, by omega⟩
    unfold WireWithin.L6
    rw [olen0, Int.toNat_natCast, Nat.zero_add, decide_eq_true (by omega), cond_true, decide_eq_true (by omega), cond_true, cond_true, dropC l i [] (by omega), List.all_cons]
    by_cases ht : (l.getD i []).length ≤ 300
    · rw [decide_eq_false (by omega), cond_false, decide_eq_true ht, Bool.true_and, wrap_i64z _ (by omega) (by omega)]
      exact ih m (i + 1) (by omega) (by omega)
    · rw [decide_eq_true (by omega), cond_true, decide_eq_false ht, Bool.false_and, cond_false, h0]

theorem body_le : ∀ (l : List (List Int)), (∀ t ∈ l, t.length ≤ 300) → (body l).length ≤ 304 * l.length
  | [], _ => Nat.zero_le _
  | t :: l, h => by
    have := body_le l fun t ht => h t (by simp [ht])
    have := h t (by simp)
    rw [body_one, List.length_cons]
    omega

theorem row_le (l : List (List Int)) (hl : l.length ≤ 30) (h : ∀ t ∈ l, t.length ≤ 300) : (rowB l).length ≤ 9121 ∧ fitsR l = true := by
  have h1 := body_le l h
  have h2 : (rowB l).length = (body l).length + 1 := rfl
  refine ⟨by omega, ?_⟩
  unfold fitsR
  rw [decide_eq_true (by omega), decide_eq_true (by omega)]
  rfl

theorem nn_inj {A B : List Nat} (h : nn A = nn B) : A = B := by
  have e : ∀ l : List Nat, (nn l).map Int.toNat = l := by
    intro l
    induction l with
    | nil => rfl
    | cons a l ih => show (Int.toNat (Int.ofNat a)) :: (nn l).map Int.toNat = _; rw [ih]; rfl
  rw [← e A, ← e B, h]

theorem le2 : 2 ≤ 255 := by decide

theorem WireWithin_true {R : Type} (N : Nat) (hN : 1000 < N) (a b : List (List Int)) (ha : ∀ t ∈ a, ∀ x ∈ t, 0 ≤ x ∧ x < 256) (hb : ∀ t ∈ b, ∀ x ∈ t, 0 ≤ x ∧ x < 256) (r : Bool → Option R) :
    WireWithin.M N R a b r = r true := by
  show WireWithin.m (alive16.M N) (wRow.M N) (SameLists.M N) (wExactly.M N) (wUnrow.M N) N a b r = _
  unfold WireWithin.m
  rw [alive16_eq N hN, Bool.not_true, cond_false]
  by_cases hla : a.length ≤ 30
  · rw [decide_eq_false (by omega), cond_false]
    by_cases hlb : b.length ≤ 30
    · rw [decide_eq_false (by omega), cond_false, decide_eq_true (by omega), cond_true, decide_eq_true (by omega), cond_true, decide_eq_true (by omega), cond_true, decide_eq_true (by omega), cond_true, olen0]
      have hlab : (a ++ b).length = a.length + b.length := List.length_append
      refine (within_loop N a b (a ++ b) _ (by omega) _ _ (r true) (fun _ _ _ _ _ _ => rfl) _ _ _ _ _ (a ++ b).length N 0 (by omega) (by omega)).trans ?_
      rw [List.drop_zero]
      by_cases hall : ((a ++ b).all fun t => decide (t.length ≤ 300)) = true
      · rw [hall, cond_true]
        have ht : ∀ t ∈ a ++ b, t.length ≤ 300 := fun t h => by
          have := List.all_eq_true.1 hall t h
          rwa [decide_eq_true_eq] at this
        have hta : ∀ t ∈ a, t.length ≤ 300 := fun t h => ht t (by simp [h])
        have htb : ∀ t ∈ b, t.length ≤ 300 := fun t h => ht t (by simp [h])
        obtain ⟨la, fa⟩ := row_le a hla hta
        obtain ⟨lb, fb⟩ := row_le b hlb htb
        have hz : (rowB [rowB a, rowB b]).length = 9 + (rowB a).length + (rowB b).length := by
          show (body [rowB a, rowB b]).length + 1 = _
          rw [body_one, body_one]
          have : (body []).length = 0 := rfl
          omega
        have fz : fitsR [rowB a, rowB b] = true := by
          unfold fitsR
          rw [decide_eq_true (show [rowB a, rowB b].length ≤ 255 from le2), decide_eq_true (by omega)]
          rfl
        have e3 : (!Nat.beq 0 0) = false := rfl
        have e6 : Nat.beq 0 0 = true := rfl
        rw [wRow_eq N hN a (fun t h => by have := hta t h; omega), fa, cond_true, wRow_eq N hN b (fun t h => by have := htb t h; omega), fb, cond_true,
          wRow_eq N hN _ (by intro t h; simp at h; rcases h with rfl | rfl <;> omega), fz, cond_true, e3, cond_false, cond_false, cond_false,
          SameLists_eq N _ _ (by omega) (by omega) ha hb]
        obtain ⟨A, rfl, hA⟩ := ex_rows a ha
        obtain ⟨B, rfl, hB⟩ := ex_rows b hb
        rw [List.length_map] at hla hlb
        have xA := rowN_lt A (by omega) hA
        have xB := rowN_lt B (by omega) hB
        have xAB : ∀ t ∈ [rowN A, rowN B], ∀ x ∈ t, x < 256 := by
          intro t h; simp at h; rcases h with rfl | rfl
          · exact xA
          · exact xB
        have xZ := rowN_lt [rowN A, rowN B] le2 xAB
        rw [rowB_nn, nn_len] at la lb
        have ez : rowB [rowB (A.map nn), rowB (B.map nn)] = nn (rowN [rowN A, rowN B]) := by
          rw [rowB_nn A, rowB_nn B]; exact rowB_nn [rowN A, rowN B]
        have lz : (rowN [rowN A, rowN B]).length ≤ 65536 := by
          rw [ez, nn_len] at hz
          rw [hz, rowB_nn, rowB_nn, nn_len, nn_len]
          omega
        rw [ez, rowB_nn, rowB_nn, same_by (nn_by xA) (nn_by xB)]
        have uA := unR_row A (by omega) (by omega)
        have uB := unR_row B (by omega) (by omega)
        have eab : decide (nn (rowN A) = nn (rowN B)) = decide (A.map nn = B.map nn) := by
          refine decide_eq_decide.2 ⟨fun h => ?_, fun h => by rw [← rowB_nn, ← rowB_nn, h]⟩
          have := nn_inj h
          rw [this, uB] at uA
          exact (Prod.mk.inj uA).2.symm
        rw [eab]
        have e7 : ∀ q : Bool, (!(q == q)) = false := by intro q; cases q <;> rfl
        rw [e7, cond_false, wExactly_eq N hN _ _ xZ, unR_row [rowN A, rowN B] le2 lz]
        have e8 : (((([rowN A, rowN B].map nn).length : Nat) : Int) != 2) = false := rfl
        simp only [e3, cond_false, e8]
        have e9 : decide ((0 : Int) < (([rowN A, rowN B].map nn).length : Int)) = true := rfl
        have e10 : decide ((1 : Int) < (([rowN A, rowN B].map nn).length : Int)) = true := rfl
        have e11 : ([rowN A, rowN B].map nn).getD 0 [] = nn (rowN A) := rfl
        have e12 : ([rowN A, rowN B].map nn).getD 1 [] = nn (rowN B) := rfl
        rw [e9, e10, e11, e12, cond_true, beq_self_eq_true, Bool.not_true, cond_false, cond_true, wUnrow_eq N hN _ _ xB, uB]
        simp only [e6, cond_true]
        rw [SameLists_eq N _ _ (by rw [List.length_map]; omega) (by rw [List.length_map]; omega) (rows_by hB) (rows_by hB), decide_eq_true rfl]
      · rw [Bool.not_eq_true] at hall
        rw [hall, cond_false]
    · rw [decide_eq_true (by omega), cond_true]
  · rw [decide_eq_true (by omega), cond_true]

end Go.Proofs.YtbliikcgcgalmaaDoor.fn
