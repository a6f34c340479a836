/- What rows of texts come to: their bytes. -/
import Derived.Test.YthajoenmfppenaaDoorFnWire
import Derived.Test.YthajoenmfppenaaDoorFnWireR
import Derived.Test.YthajoenmfppenaaDoorMPutBig
namespace Go.Proofs.YthajoenmfppenaaDoor.fn
open Go Go.Proofs Go.Ev Go.Dg
theorem dropC {α : Type} (l : List α) (i : Nat) (d : α) (h : i < l.length) : l.drop i = l.getD i d :: l.drop (i + 1) := by
  rw [List.drop_eq_getElem_cons h]
  simp [List.getD, List.getElem?_eq_getElem h]
def be4 (X : Nat) : List Int := nn (dig 256 4 X).reverse
theorem be4_len (X : Nat) : (be4 X).length = 4 := rfl
def body : List (List Int) → List Int
  | [] => []
  | t :: l => (be4 t.length ++ t) ++ body l
def rowB (l : List (List Int)) : List Int := ((l.length : Nat) : Int) :: body l
theorem body_one (t : List Int) (l : List (List Int)) : (body (t :: l)).length = 4 + t.length + (body l).length := by
  show ((be4 t.length ++ t) ++ body l).length = _
  rw [List.length_append, List.length_append, be4_len]
theorem olen0 (n : Nat) : olen none n 0 = n := Nat.sub_zero n
theorem wRow_loop {R : Type} (N : Nat) (hN : 1000 < N) (ke0 ke1 ke2 : List (List Int) → Int → Int → Bool → List Int → Option R) (l : List (List Int)) (X : Option R) (Y : List Int → Option R)
    (h0 : ∀ a b c nl o, ke0 a b c nl o = X) (h2 : ∀ a b c nl o, ke2 a b c nl o = Y o) (hl : l.length ≤ 255) (ht : ∀ t ∈ l, t.length ≤ 1000000) :
    ∀ (d m i : Nat) (nl : Bool) (out : List Int), i + d = l.length → d < m → out.length ≤ 65536 →
      wRow.L5 (PutBig.M N) N ke0 ke1 ke2 m l (l.length : Int) (i : Int) nl out = cond (decide (out.length + (body (l.drop i)).length ≤ 65536)) (Y (out ++ body (l.drop i))) X := by
  intro d
  induction d with
  | zero =>
    intro m i nl out hi hm ho
    obtain ⟨m, rfl⟩ : ∃ k, m = k + 1 := ⟨m - 1, by omega⟩
    obtain rfl : i = l.length := by omega
    unfold wRow.L5
    rw [decide_eq_false (by omega), cond_false, h2, List.drop_length]
    have e : body ([] : List (List Int)) = [] := rfl
    rw [e, List.append_nil, decide_eq_true (by simpa using ho), cond_true]
  | succ d ih =>
    intro m i nl out hi hm ho
    obtain ⟨m, rfl⟩ : ∃ k, m = k + 1 := ⟨m - 1, by omega⟩
    have hd := dropC l i [] (by omega)
    have hmem : l.getD i [] ∈ l := by simp [List.getD, List.getElem?_eq_getElem (show i < l.length by omega)]
    have hlt := ht _ hmem
    unfold wRow.L5
    rw [decide_eq_true (by omega), cond_true, decide_eq_true (by omega), cond_true, cond_true, Int.toNat_natCast, olen0, hd]
    generalize l.getD i [] = t at *
    have hb := body_one t (l.drop (i + 1))
    rw [wrap_i64z _ (by omega) (by omega)]
    by_cases hc : (t.length : Int) > 65532 - (out.length : Int)
    · rw [decide_eq_true hc, cond_true, h0, decide_eq_false (by omega), cond_false]
    · rw [decide_eq_false hc, cond_false, wrap_u64 _ (by omega)]
      refine (PutBig_eq N hN t.length 4 (by omega) (by omega) _ _).trans ?_
      have e4 : nn (dig 256 4 t.length).reverse = be4 t.length := rfl
      have hcut : ∀ l : List Int, cut none 0 l = l := fun _ => rfl
      simp only [e4, hcut, be4_len, List.length_append]
      rw [decide_eq_true (by omega), cond_true, decide_eq_true (by omega), cond_true, decide_eq_true (by omega), cond_true, decide_eq_true (by omega), cond_true, wrap_i64z _ (by omega) (by omega)]
      have := ih m (i + 1) (t.isEmpty && ((be4 t.length).isEmpty && nl)) ((out ++ be4 t.length) ++ t) (by omega) (by omega) (by rw [List.length_append, List.length_append, be4_len]; omega)
      refine Eq.trans this ?_
      have e5 : out ++ body (t :: l.drop (i + 1)) = out ++ be4 t.length ++ t ++ body (l.drop (i + 1)) := by
        show out ++ ((be4 t.length ++ t) ++ body (l.drop (i + 1))) = _
        simp [List.append_assoc]
      rw [e5]
      congr 1
      rw [List.length_append, List.length_append, be4_len, hb]
      exact decide_eq_decide.2 (by omega)
def fitsR (l : List (List Int)) : Bool := decide (l.length ≤ 255) && decide ((rowB l).length ≤ 65536)
theorem wRow_eq {R : Type} (N : Nat) (hN : 1000 < N) (l : List (List Int)) (ht : ∀ t ∈ l, t.length ≤ 1000000) (r : Option Bool → List Int → Nat → Option R) :
    wRow.M N R l r = cond (fitsR l) (r none (rowB l) 0) (r (some true) [] 3) := by
  show wRow.m (PutBig.M N) N l r = _
  unfold wRow.m fitsR
  by_cases hl : l.length ≤ 255
  · rw [decide_eq_false (by omega), cond_false, decide_eq_true hl, Bool.true_and, wrap_u8, Nat.mod_eq_of_lt (by omega)]
    refine (wRow_loop N hN _ _ _ l (r (some true) [] 3) (fun o => r none o 0) (fun _ _ _ _ _ => rfl) (fun _ _ _ _ _ => rfl) hl ht l.length N 0 false [((l.length : Nat) : Int)] (by omega) (by omega) (by simp)).trans ?_
    rw [List.drop_zero]
    have e : [((l.length : Nat) : Int)] ++ body l = rowB l := rfl
    rw [e]
    congr 1
    have : (rowB l).length = 1 + (body l).length := by show (body l).length + 1 = _; omega
    rw [this, List.length_singleton]
  · rw [decide_eq_true (by omega), cond_true, decide_eq_false hl, Bool.false_and, cond_false]
theorem be4_r (X : Nat) (h : X ≤ 1000000) : [IntKind.u8.wrap (IntKind.i64.wrap ((X : Int).tdiv 16777216)), IntKind.u8.wrap ((IntKind.i64.wrap ((X : Int).tdiv 65536)).tmod 256), IntKind.u8.wrap ((IntKind.i64.wrap ((X : Int).tdiv 256)).tmod 256), IntKind.u8.wrap ((X : Int).tmod 256)] = be4 X := by
  have a1 : (X : Int).tdiv 16777216 = ((X / 16777216 : Nat) : Int) := rfl
  have a2 : (X : Int).tdiv 65536 = ((X / 65536 : Nat) : Int) := rfl
  have a3 : (X : Int).tdiv 256 = ((X / 256 : Nat) : Int) := rfl
  have a4 : (X : Int).tmod 256 = ((X % 256 : Nat) : Int) := rfl
  have b2 : ((X / 65536 : Nat) : Int).tmod 256 = ((X / 65536 % 256 : Nat) : Int) := rfl
  have b3 : ((X / 256 : Nat) : Int).tmod 256 = ((X / 256 % 256 : Nat) : Int) := rfl
  rw [a1, a2, a3, a4, wrap_i64z _ (by omega) (by omega), wrap_i64z _ (by omega) (by omega), wrap_i64z _ (by omega) (by omega), b2, b3, wrap_u8, wrap_u8, wrap_u8, wrap_u8]
  show _ = nn [X / 256 / 256 / 256 % 256, X / 256 / 256 % 256, X / 256 % 256, X % 256]
  have d2 : X / 256 / 256 = X / 65536 := Nat.div_div_eq_div_mul X 256 256
  have d1 : X / 256 / 256 / 256 = X / 16777216 := by rw [d2]; exact Nat.div_div_eq_div_mul X 65536 256
  rw [d1, d2, Nat.mod_mod, Nat.mod_mod, Nat.mod_mod]
  rfl
theorem rRow_loop {R : Type} (N : Nat) (ke0 ke1 ke2 : List (List Int) → Int → Int → Bool → List Int → Option R) (l : List (List Int)) (X : Option R) (Y : List Int → Option R)
    (h0 : ∀ a b c nl o, ke0 a b c nl o = X) (h1 : ∀ a b c nl o, ke1 a b c nl o = X) (h2 : ∀ a b c nl o, ke2 a b c nl o = Y o) (hl : l.length ≤ 255) (ht : ∀ t ∈ l, t.length ≤ 1000000) :
    ∀ (d m i : Nat) (nl : Bool) (out : List Int), i + d = l.length → d < m → out.length ≤ 65536 →
      rRow.L5 N ke0 ke1 ke2 m l (l.length : Int) (i : Int) nl out = cond (decide (out.length + (body (l.drop i)).length ≤ 65536)) (Y (out ++ body (l.drop i))) X := by
  intro d
  induction d with
  | zero =>
    intro m i nl out hi hm ho
    obtain ⟨m, rfl⟩ : ∃ k, m = k + 1 := ⟨m - 1, by omega⟩
    obtain rfl : i = l.length := by omega
    unfold rRow.L5
    rw [decide_eq_false (by omega), cond_false, h2, List.drop_length]
    have e : body ([] : List (List Int)) = [] := rfl
    rw [e, List.append_nil, decide_eq_true (by simpa using ho), cond_true]
  | succ d ih =>
    intro m i nl out hi hm ho
    obtain ⟨m, rfl⟩ : ∃ k, m = k + 1 := ⟨m - 1, by omega⟩
    have hd := dropC l i [] (by omega)
    have hmem : l.getD i [] ∈ l := by simp [List.getD, List.getElem?_eq_getElem (show i < l.length by omega)]
    have hlt := ht _ hmem
    unfold rRow.L5
    rw [decide_eq_true (by omega), cond_true, decide_eq_true (by omega), cond_true, cond_true, Int.toNat_natCast, olen0, hd]
    generalize l.getD i [] = t at *
    have hb := body_one t (l.drop (i + 1))
    rw [wrap_i64z ((out.length : Int) + 4) (by omega) (by omega), wrap_i64z ((out.length : Int) + 4 + (t.length : Int)) (by omega) (by omega)]
    by_cases hc1 : (t.length : Int) > 65536
    · rw [decide_eq_true hc1, cond_true, h0, decide_eq_false (by omega), cond_false]
    rw [decide_eq_false hc1, cond_false]
    by_cases hc : (out.length : Int) + 4 + (t.length : Int) > 65536
    · rw [decide_eq_true hc, cond_true, h1, decide_eq_false (by omega), cond_false]
    · have hcut : ∀ l : List Int, cut none 0 l = l := fun _ => rfl
      rw [decide_eq_false hc, cond_false, be4_r _ hlt]
      simp only [hcut, be4_len, List.length_append]
      rw [decide_eq_true (by omega), cond_true, decide_eq_true (by omega), cond_true, decide_eq_true (by omega), cond_true, decide_eq_true (by omega), cond_true, wrap_i64z _ (by omega) (by omega)]
      have := ih m (i + 1) (t.isEmpty && false) ((out ++ be4 t.length) ++ t) (by omega) (by omega) (by rw [List.length_append, List.length_append, be4_len]; omega)
      refine Eq.trans this ?_
      have e5 : out ++ body (t :: l.drop (i + 1)) = out ++ be4 t.length ++ t ++ body (l.drop (i + 1)) := by
        show out ++ ((be4 t.length ++ t) ++ body (l.drop (i + 1))) = _
        simp [List.append_assoc]
      rw [e5]
      congr 1
      rw [List.length_append, List.length_append, be4_len, hb]
      exact decide_eq_decide.2 (by omega)
theorem rRow_eq {R : Type} (N : Nat) (hN : 1000 < N) (l : List (List Int)) (ht : ∀ t ∈ l, t.length ≤ 1000000) (r : Option Bool → List Int → Int → Option R) :
    rRow.M N R l r = cond (fitsR l) (r none (rowB l) 0) (r (some true) [] 3) := by
  show rRow.m N l r = _
  unfold rRow.m fitsR
  by_cases hl : l.length ≤ 255
  · rw [decide_eq_false (by omega), cond_false, decide_eq_true hl, Bool.true_and, wrap_u8, Nat.mod_eq_of_lt (by omega)]
    refine (rRow_loop N _ _ _ l (r (some true) [] 3) (fun o => r none o 0) (fun _ _ _ _ _ => rfl) (fun _ _ _ _ _ => rfl) (fun _ _ _ _ _ => rfl) hl ht l.length N 0 false [((l.length : Nat) : Int)] (by omega) (by omega) (by simp)).trans ?_
    rw [List.drop_zero]
    have e : [((l.length : Nat) : Int)] ++ body l = rowB l := rfl
    rw [e]
    congr 1
    have : (rowB l).length = 1 + (body l).length := by show (body l).length + 1 = _; omega
    rw [this, List.length_singleton]
  · rw [decide_eq_true (by omega), cond_true, decide_eq_false hl, Bool.false_and, cond_false]
end Go.Proofs.YthajoenmfppenaaDoor.fn
