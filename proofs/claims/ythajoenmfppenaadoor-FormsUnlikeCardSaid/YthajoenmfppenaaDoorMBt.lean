/- Rows' bytes tell the rows. -/
import Derived.Test.YthajoenmfppenaaDoorMFormsR
import Derived.Test.YthajoenmfppenaaDoorMSame
namespace Go.Proofs.YthajoenmfppenaaDoor.fn
open Go Go.Proofs Go.Ev Go.Dg

def isBt (l : List Int) : Prop := ∀ z ∈ l, 0 ≤ z ∧ z < 256
theorem rowB_bt (l : List (List Int)) (hl : l.length ≤ 255) (h : ∀ t ∈ l, isBt t) : isBt (rowB l) := by
  obtain ⟨L, rfl, hL⟩ := ex_rows l h
  rw [rowB_nn]
  exact nn_by (rowN_lt L (by simpa using hl) hL)
theorem num8_bt (n : Int) : isBt (num8 n) := nn_by (fun x hx => dig_lt (by decide) _ _ x (List.mem_reverse.1 hx))
theorem nnI {A B : List Nat} (h : nn A = nn B) : A = B := by
  have e : ∀ l : List Nat, (nn l).map Int.toNat = l := by
    intro l
    induction l with
    | nil => rfl
    | cons a l ih => show (Int.toNat (Int.ofNat a)) :: (nn l).map Int.toNat = _; rw [ih]; rfl
  rw [← e A, ← e B, h]
theorem unR_rowB (L : List (List Nat)) (hl : L.length ≤ 255) (hs : (rowB (L.map nn)).length ≤ 65536) : unR (rowN L) = (0, L.map nn) := by
  refine unR_row L hl ?_
  rw [rowB_nn, nn_len] at hs
  exact hs
theorem rowB_inj {l l' : List (List Int)} (hl : l.length ≤ 255) (hl' : l'.length ≤ 255) (h : ∀ t ∈ l, isBt t) (h' : ∀ t ∈ l', isBt t) (hs : (rowB l).length ≤ 65536) (hs' : (rowB l').length ≤ 65536) (e : rowB l = rowB l') : l = l' := by
  obtain ⟨L, rfl, hL⟩ := ex_rows l h
  obtain ⟨L', rfl, hL'⟩ := ex_rows l' h'
  have u1 := unR_rowB L (by simpa using hl) hs
  have u2 := unR_rowB L' (by simpa using hl') hs'
  rw [rowB_nn, rowB_nn] at e
  rw [nnI e, u2] at u1
  exact (Prod.mk.inj u1).2.symm
theorem num8_inj {a b : Int} (ha : 0 ≤ a) (ha' : a ≤ 4611686018427387903) (hb : 0 ≤ b) (hb' : b ≤ 4611686018427387903) (h : num8 a = num8 b) : a = b := by
  have e := nnI h
  have e1 : clampN a = a.toNat := by unfold clampN; rw [if_neg (by omega)]
  have e2 : clampN b = b.toNat := by unfold clampN; rw [if_neg (by omega)]
  have u1 := hor_digs 8 a.toNat (by omega)
  have u2 := hor_digs 8 b.toNat (by omega)
  rw [e1, e2] at e
  rw [e, u2] at u1
  omega
/-- Texts of two rows. -/
theorem bt5 {a b c d e : List Int} (ha : isBt a) (hb : isBt b) (hc : isBt c) (hd : isBt d) (he : isBt e) : ∀ t ∈ [a, b, c, d, e], isBt t := by
  intro x hx
  simp only [List.mem_cons, List.not_mem_nil, or_false] at hx
  rcases hx with rfl | rfl | rfl | rfl | rfl <;> assumption
theorem bt4 {a b c d : List Int} (ha : isBt a) (hb : isBt b) (hc : isBt c) (hd : isBt d) : ∀ t ∈ [a, b, c, d], isBt t := by
  intro x hx
  simp only [List.mem_cons, List.not_mem_nil, or_false] at hx
  rcases hx with rfl | rfl | rfl | rfl <;> assumption
theorem bt3 {a b c : List Int} (ha : isBt a) (hb : isBt b) (hc : isBt c) : ∀ t ∈ [a, b, c], isBt t := by
  intro x hx
  simp only [List.mem_cons, List.not_mem_nil, or_false] at hx
  rcases hx with rfl | rfl | rfl <;> assumption
theorem bt2 {a b : List Int} (ha : isBt a) (hb : isBt b) : ∀ t ∈ [a, b], isBt t := by
  intro x hx
  simp only [List.mem_cons, List.not_mem_nil, or_false] at hx
  rcases hx with rfl | rfl <;> assumption
theorem leafR_bt {a b n p s : List Int} (ha : isBt a) (hb : isBt b) (hn : isBt n) (hp : isBt p) (hs : isBt s) : isBt (leafR a b n p s) := rowB_bt _ (by simp) (bt5 ha hb hn hp hs)
theorem str_eq {x y : List Int} (hx : isBt x) (hy : isBt y) : (toStr x == toStr y) = decide (x = y) := same_by hx hy

end Go.Proofs.YthajoenmfppenaaDoor.fn
