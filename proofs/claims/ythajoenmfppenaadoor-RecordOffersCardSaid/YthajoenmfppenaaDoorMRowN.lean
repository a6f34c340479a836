/- Rows' bytes as natural numbers. Printed by a program. -/
import Derived.Test.YthajoenmfppenaaDoorMWireA
namespace Go.Proofs.YthajoenmfppenaaDoor.fn
open Go Go.Proofs Go.Ev Go.Dg

theorem nn_len (B : List Nat) : (nn B).length = B.length := by simp [nn]

def bodyN : List (List Nat) → List Nat
  | [] => []
  | t :: l => ((dig 256 4 t.length).reverse ++ t) ++ bodyN l
def rowN (l : List (List Nat)) : List Nat := l.length :: bodyN l

theorem body_nn : ∀ (l : List (List Nat)), body (l.map nn) = nn (bodyN l)
  | [] => rfl
  | t :: l => by
    show (be4 (nn t).length ++ nn t) ++ body (l.map nn) = nn (((dig 256 4 t.length).reverse ++ t) ++ bodyN l)
    rw [body_nn l, nn_len]
    unfold be4
    simp [nn]
theorem rowB_nn (l : List (List Nat)) : rowB (l.map nn) = nn (rowN l) := by
  show (((l.map nn).length : Nat) : Int) :: body (l.map nn) = nn (l.length :: bodyN l)
  rw [body_nn, List.length_map]
  rfl

theorem rowN_lt (l : List (List Nat)) (hl : l.length ≤ 255) (h : ∀ t ∈ l, ∀ x ∈ t, x < 256) : ∀ x ∈ rowN l, x < 256 := by
  have hb : ∀ (l : List (List Nat)), (∀ t ∈ l, ∀ x ∈ t, x < 256) → ∀ x ∈ bodyN l, x < 256 := by
    intro l
    induction l with
    | nil => intro _ x hx; simp [bodyN] at hx
    | cons a l ih =>
      intro h x hx
      have hx : x ∈ ((dig 256 4 a.length).reverse ++ a) ++ bodyN l := hx
      rcases List.mem_append.1 hx with hx | hx
      · rcases List.mem_append.1 hx with hx | hx
        · exact dig_lt (by omega) 4 a.length x (List.mem_reverse.1 hx)
        · exact h a (by simp) x hx
      · exact ih (fun t ht => h t (by simp [ht])) x hx
  intro x hx
  have hx : x ∈ l.length :: bodyN l := hx
  rcases List.mem_cons.1 hx with rfl | hx
  · omega
  · exact hb l h x hx

theorem ex_rows : ∀ (l : List (List Int)), (∀ t ∈ l, ∀ x ∈ t, 0 ≤ x ∧ x < 256) → ∃ L : List (List Nat), l = L.map nn ∧ ∀ t ∈ L, ∀ x ∈ t, x < 256
  | [], _ => ⟨[], rfl, fun t ht => by simp at ht⟩
  | t :: l, h => by
    obtain ⟨L, rfl, h2⟩ := ex_rows l fun t ht => h t (by simp [ht])
    obtain ⟨T, rfl, h1⟩ := ex_nn t 256 (fun x hx => h t (by simp) x hx)
    refine ⟨T :: L, rfl, fun t ht => ?_⟩
    rcases List.mem_cons.1 ht with rfl | ht
    · exact h1
    · exact h2 t ht

theorem nn_by {l : List Nat} (h : ∀ x ∈ l, x < 256) : ∀ z ∈ nn l, 0 ≤ z ∧ z < 256 := by
  intro z hz
  obtain ⟨x, hx, rfl⟩ := List.mem_map.1 hz
  have := h x hx
  exact ⟨Int.natCast_nonneg _, by show ((x : Nat) : Int) < 256; omega⟩
theorem rows_by {L : List (List Nat)} (h : ∀ t ∈ L, ∀ x ∈ t, x < 256) : ∀ t ∈ L.map nn, ∀ x ∈ t, 0 ≤ x ∧ x < 256 := by
  intro t ht
  obtain ⟨T, hT, rfl⟩ := List.mem_map.1 ht
  exact nn_by (h T hT)

end Go.Proofs.YthajoenmfppenaaDoor.fn
