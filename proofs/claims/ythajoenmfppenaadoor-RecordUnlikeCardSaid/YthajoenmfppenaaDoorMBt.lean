/- Rows' bytes tell the rows. -/
import Derived.Test.YthajoenmfppenaaDoorMFormsR
import Derived.Test.YthajoenmfppenaaDoorMSame
namespace Go.Proofs.YthajoenmfppenaaDoor.fn
open Go Go.Proofs Go.Ev Go.Dg

def isBt (l : List Int) : Prop := ∀ z ∈ l, 0 ≤ z ∧ z < 256
theorem rowB_bt (l : List (List Int)) (hl : l.length ≤ 255) (h : ∀ t ∈ l, isBt t) : isBt (rowB l) := by
  obtain ⟨L, rfl, hL⟩ := ex_rows l h
  rw [rowB_nn]
  exact nn_by (rowN_lt L (by simpa using hl) hL)
theorem num8_bt (n : Int) : isBt (num8 n) := nn_by (fun x hx => dig_lt (by decide) _ _ x (List.mem_reverse.1 hx))
theorem nnI {A B : List Nat} (h : nn A = nn B) : A = B := by
  have e : ∀ l : List Nat, (nn l).map Int.toNat = l := by
    intro l
    induction l with
    | nil => rfl
    | cons a l ih => show (Int.toNat (Int.ofNat a)) :: (nn l).map Int.toNat = _; rw [ih]; rfl
  rw [← e A, ← e B, h]
theorem be4_inj {x y : Nat} (hx : x < 4294967296) (hy : y < 4294967296) (h : be4 x = be4 y) : x = y :=
  dig_inj (B := 256) (n := 4) (by omega) (by omega) (List.reverse_inj.1 (nnI h))
theorem body_inj : ∀ (l l' : List (List Int)), l.length = l'.length → (∀ t ∈ l, t.length < 4294967296) → (∀ t ∈ l', t.length < 4294967296) → body l = body l' → l = l'
  | [], [], _, _, _, _ => rfl
  | [], _ :: _, h, _, _, _ => by simp at h
  | _ :: _, [], h, _, _, _ => by simp at h
  | t :: l, t' :: l', h, h1, h2, e => by
    have e : (be4 t.length ++ t) ++ body l = (be4 t'.length ++ t') ++ body l' := e
    rw [List.append_assoc, List.append_assoc] at e
    obtain ⟨e1, e2⟩ := List.append_inj e rfl
    have el := be4_inj (h1 t (by simp)) (h2 t' (by simp)) e1
    obtain ⟨e3, e4⟩ := List.append_inj e2 el
    rw [e3, body_inj l l' (by simpa using h) (fun x hx => h1 x (by simp [hx])) (fun x hx => h2 x (by simp [hx])) e4]
theorem body_mem : ∀ (l : List (List Int)), ∀ t ∈ l, t.length ≤ (body l).length
  | [], t, ht => by simp at ht
  | a :: l, t, ht => by
    rw [body_one]
    rcases List.mem_cons.1 ht with rfl | ht
    · omega
    · have := body_mem l t ht
      omega
theorem rowB_inj {l l' : List (List Int)} (_hl : l.length ≤ 255) (_hl' : l'.length ≤ 255) (_h : ∀ t ∈ l, isBt t) (_h' : ∀ t ∈ l', isBt t) (hs : (rowB l).length ≤ 65536) (hs' : (rowB l').length ≤ 65536) (e : rowB l = rowB l') : l = l' := by
  have e : ((l.length : Nat) : Int) :: body l = ((l'.length : Nat) : Int) :: body l' := e
  obtain ⟨e1, e2⟩ := List.cons.inj e
  rw [rowB_len] at hs hs'
  exact body_inj l l' (by omega) (fun t ht => by have := body_mem l t ht; omega) (fun t ht => by have := body_mem l' t ht; omega) e2
theorem num8_inj {a b : Int} (ha : 0 ≤ a) (ha' : a ≤ 4611686018427387903) (hb : 0 ≤ b) (hb' : b ≤ 4611686018427387903) (h : num8 a = num8 b) : a = b := by
  have e1 : clampN a = a.toNat := by unfold clampN; rw [if_neg (by omega)]
  have e2 : clampN b = b.toNat := by unfold clampN; rw [if_neg (by omega)]
  have e := dig_inj (B := 256) (n := 8) (Nat.lt_of_le_of_lt (clamp_lt a) (by decide)) (Nat.lt_of_le_of_lt (clamp_lt b) (by decide)) (List.reverse_inj.1 (nnI h))
  rw [e1, e2] at e
  omega
/-- Texts of two rows. -/
theorem bt5 {a b c d e : List Int} (ha : isBt a) (hb : isBt b) (hc : isBt c) (hd : isBt d) (he : isBt e) : ∀ t ∈ [a, b, c, d, e], isBt t := by
  intro x hx
  simp only [List.mem_cons, List.not_mem_nil, or_false] at hx
  rcases hx with rfl | rfl | rfl | rfl | rfl <;> assumption
theorem bt4 {a b c d : List Int} (ha : isBt a) (hb : isBt b) (hc : isBt c) (hd : isBt d) : ∀ t ∈ [a, b, c, d], isBt t := by
  intro x hx
  simp only [List.mem_cons, List.not_mem_nil, or_false] at hx
  rcases hx with rfl | rfl | rfl | rfl <;> assumption
theorem bt3 {a b c : List Int} (ha : isBt a) (hb : isBt b) (hc : isBt c) : ∀ t ∈ [a, b, c], isBt t := by
  intro x hx
  simp only [List.mem_cons, List.not_mem_nil, or_false] at hx
  rcases hx with rfl | rfl | rfl <;> assumption
theorem bt2 {a b : List Int} (ha : isBt a) (hb : isBt b) : ∀ t ∈ [a, b], isBt t := by
  intro x hx
  simp only [List.mem_cons, List.not_mem_nil, or_false] at hx
  rcases hx with rfl | rfl <;> assumption
theorem leafR_bt {a b n p s : List Int} (ha : isBt a) (hb : isBt b) (hn : isBt n) (hp : isBt p) (hs : isBt s) : isBt (leafR a b n p s) := rowB_bt _ (by simp) (bt5 ha hb hn hp hs)
theorem str_eq {x y : List Int} (hx : isBt x) (hy : isBt y) : (toStr x == toStr y) = decide (x = y) := same_by hx hy

end Go.Proofs.YthajoenmfppenaaDoor.fn
