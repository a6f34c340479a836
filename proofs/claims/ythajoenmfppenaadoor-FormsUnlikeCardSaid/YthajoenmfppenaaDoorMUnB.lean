/- Rows' bytes are read as the rows. -/
import Derived.Test.YthajoenmfppenaaDoorMUnA
namespace Go.Proofs.YthajoenmfppenaaDoor.fn
open Go Go.Proofs Go.Ev Go.Dg

def bodyN : List (List Nat) → List Nat
  | [] => []
  | t :: l => ((dig 256 4 t.length).reverse ++ t) ++ bodyN l
def rowN (l : List (List Nat)) : List Nat := l.length :: bodyN l

theorem body_nn : ∀ (l : List (List Nat)), body (l.map nn) = nn (bodyN l)
  | [] => rfl
  | t :: l => by
    show (be4 (nn t).length ++ nn t) ++ body (l.map nn) = nn (((dig 256 4 t.length).reverse ++ t) ++ bodyN l)
    rw [body_nn l, nn_len]
    unfold be4
    simp [nn]
theorem rowB_nn (l : List (List Nat)) : rowB (l.map nn) = nn (rowN l) := by
  show (((l.map nn).length : Nat) : Int) :: body (l.map nn) = nn (l.length :: bodyN l)
  rw [body_nn, List.length_map]
  rfl

theorem hor_dig (X : Nat) (h : X < 4294967296) : hor 0 (dig 256 4 X).reverse = X := by
  show (((0 * 256 + X / 256 / 256 / 256 % 256) * 256 + X / 256 / 256 % 256) * 256 + X / 256 % 256) * 256 + X % 256 = X
  omega

theorem unB_body : ∀ (l : List (List Nat)), (∀ t ∈ l, t.length < 4294967296) → unB l.length (bodyN l) = (0, l.map nn)
  | [], _ => rfl
  | t :: l, h => by
    have ih := unB_body l fun t ht => h t (by simp [ht])
    have hb : bodyN (t :: l) = (dig 256 4 t.length).reverse ++ (t ++ bodyN l) := by
      show ((dig 256 4 t.length).reverse ++ t) ++ bodyN l = _
      rw [List.append_assoc]
    have h4 : (dig 256 4 t.length).reverse.length = 4 := rfl
    have e1 : (bodyN (t :: l)).take 4 = (dig 256 4 t.length).reverse := by rw [hb, List.take_left' h4]
    have e2 : (bodyN (t :: l)).drop 4 = t ++ bodyN l := by rw [hb, List.drop_left' h4]
    have e3 : hor 0 ((bodyN (t :: l)).take 4) = t.length := by rw [e1]; exact hor_dig _ (h t (by simp))
    show unB (l.length + 1) (bodyN (t :: l)) = _
    unfold unB
    rw [e3, e2, List.take_left' rfl, List.drop_left' rfl, ih, if_neg (by rw [hb, List.length_append]; omega), if_neg (by rw [List.length_append]; omega), if_pos rfl]
    rfl

theorem unR_row (l : List (List Nat)) (hl : l.length ≤ 255) (hs : (rowN l).length ≤ 65536) : unR (rowN l) = (0, l.map nn) := by
  unfold unR
  rw [if_neg (by omega)]
  show unB l.length (bodyN l) = _
  have hb : ∀ (l : List (List Nat)) t, t ∈ l → t.length ≤ (bodyN l).length := by
    intro l
    induction l with
    | nil => intro t ht; simp at ht
    | cons a l ih =>
      intro t ht
      have : (bodyN (a :: l)).length = ((dig 256 4 a.length).reverse.length + a.length) + (bodyN l).length := by
        show (((dig 256 4 a.length).reverse ++ a) ++ bodyN l).length = _
        rw [List.length_append, List.length_append]
      rcases List.mem_cons.1 ht with rfl | ht
      · omega
      · have := ih t ht; omega
  refine unB_body l fun t ht => ?_
  have := hb l t ht
  have : (rowN l).length = (bodyN l).length + 1 := rfl
  omega

theorem rowN_lt (l : List (List Nat)) (hl : l.length ≤ 255) (h : ∀ t ∈ l, ∀ x ∈ t, x < 256) : ∀ x ∈ rowN l, x < 256 := by
  have hb : ∀ (l : List (List Nat)), (∀ t ∈ l, ∀ x ∈ t, x < 256) → ∀ x ∈ bodyN l, x < 256 := by
    intro l
    induction l with
    | nil => intro _ x hx; simp [bodyN] at hx
    | cons a l ih =>
      intro h x hx
      have hx : x ∈ ((dig 256 4 a.length).reverse ++ a) ++ bodyN l := hx
      rcases List.mem_append.1 hx with hx | hx
      · rcases List.mem_append.1 hx with hx | hx
        · exact dig_lt (by omega) 4 a.length x (List.mem_reverse.1 hx)
        · exact h a (by simp) x hx
      · exact ih (fun t ht => h t (by simp [ht])) x hx
  intro x hx
  have hx : x ∈ l.length :: bodyN l := hx
  rcases List.mem_cons.1 hx with rfl | hx
  · omega
  · exact hb l h x hx

theorem ex_rows : ∀ (l : List (List Int)), (∀ t ∈ l, ∀ x ∈ t, 0 ≤ x ∧ x < 256) → ∃ L : List (List Nat), l = L.map nn ∧ ∀ t ∈ L, ∀ x ∈ t, x < 256
  | [], _ => ⟨[], rfl, fun t ht => by simp at ht⟩
  | t :: l, h => by
    obtain ⟨L, rfl, h2⟩ := ex_rows l fun t ht => h t (by simp [ht])
    obtain ⟨T, rfl, h1⟩ := ex_nn t 256 (fun x hx => h t (by simp) x hx)
    refine ⟨T :: L, rfl, fun t ht => ?_⟩
    rcases List.mem_cons.1 ht with rfl | ht
    · exact h1
    · exact h2 t ht

theorem nn_by {l : List Nat} (h : ∀ x ∈ l, x < 256) : ∀ z ∈ nn l, 0 ≤ z ∧ z < 256 := by
  intro z hz
  obtain ⟨x, hx, rfl⟩ := List.mem_map.1 hz
  have := h x hx
  exact ⟨Int.natCast_nonneg _, by show ((x : Nat) : Int) < 256; omega⟩
theorem rows_by {L : List (List Nat)} (h : ∀ t ∈ L, ∀ x ∈ t, x < 256) : ∀ t ∈ L.map nn, ∀ x ∈ t, 0 ≤ x ∧ x < 256 := by
  intro t ht
  obtain ⟨T, hT, rfl⟩ := List.mem_map.1 ht
  exact nn_by (h T hT)

end Go.Proofs.YthajoenmfppenaaDoor.fn
