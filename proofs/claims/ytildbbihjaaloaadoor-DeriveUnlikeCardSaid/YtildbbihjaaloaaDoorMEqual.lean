/- When two rows of bytes are the same. -/
import Derived.Test.YtildbbihjaaloaaDoorFnWords
import Derived.Test.YtildbbihjaaloaaDoorMKept
namespace Go.Proofs.YtildbbihjaaloaaDoor.fn
open Go Go.Proofs Go.Ev

theorem Equal_loop {R : Type} (N : Nat) (ke : Option Bool → List Int → Option Bool → List Int → Int → Int → Int → Option R) (x y : Option Bool) (a b : List Int) (hl : a.length = b.length) (hb : a.length ≤ 1000) :
    ∀ (d m : Nat) (p : Int) (i : Nat), i + d = a.length → d < m → wEqual.L5 N ke m x a y b p (a.length : Int) (i : Int) = ke x a y b ((List.zipWith (ixor .u8) (a.drop i) (b.drop i)).foldl (ior .u8) p) (a.length : Int) (a.length : Int) := by
  intro d
  induction d with
  | zero =>
    intro m p i h hm
    obtain ⟨m, rfl⟩ : ∃ k, m = k + 1 := ⟨m - 1, by omega⟩
    unfold wEqual.L5
    rw [decide_eq_false (by omega), cond_false]
    have : a.drop i = [] := List.drop_eq_nil_of_le (by omega)
    have e : (i : Int) = (a.length : Int) := by omega
    rw [this, e]; rfl
  | succ d ih =>
    intro m p i h hm
    obtain ⟨m, rfl⟩ : ∃ k, m = k + 1 := ⟨m - 1, by omega⟩
    unfold wEqual.L5
    have c1 : decide ((i : Int) < (a.length : Int)) = true := decide_eq_true (by omega)
    have c2 : decide (0 ≤ (i : Int)) = true := decide_eq_true (by omega)
    have c3 : decide ((i : Int) < (b.length : Int)) = true := decide_eq_true (by omega)
    simp only [c1, c2, c3, cond_true]
    rw [wrap64 _ (by omega) (by omega)]
    have e : (i : Int) + 1 = ((i + 1 : Nat) : Int) := by omega
    rw [e, ih m _ (i + 1) (by omega) (by omega)]
    congr 1
    have ha : a.drop i = a[i] :: a.drop (i + 1) := List.drop_eq_getElem_cons (by omega)
    have hb' : b.drop i = b[i] :: b.drop (i + 1) := List.drop_eq_getElem_cons (by omega)
    rw [ha, hb', List.zipWith_cons_cons, List.foldl_cons]
    have ga : a.getD (i : Int).toNat 0 = a[i] := by simp [List.getD, List.getElem?_eq_getElem (show i < a.length by omega)]
    have gb : b.getD (i : Int).toNat 0 = b[i] := by simp [List.getD, List.getElem?_eq_getElem (show i < b.length by omega)]
    rw [ga, gb]

theorem Equal_eq {R : Type} (N : Nat) (hN : 1000 < N) (x y : Option Bool) (a b : List Int) (hb : a.length ≤ 1000) (r : Bool → Option R) :
    wEqual.M N R x a y b r = r (decide (a.length = b.length) && ((List.zipWith (ixor .u8) a b).foldl (ior .u8) 0 == 0)) := by
  show wEqual.m N x a y b r = _
  unfold wEqual.m
  by_cases hl : a.length = b.length
  · have : ((a.length : Int) != (b.length : Int)) = false := by simp [hl]
    rw [this, cond_false]
    have := Equal_loop N (fun _ _ _ _ p _ _ => r (p == 0)) x y a b hl hb a.length N 0 0 (by omega) (by omega)
    simp only [List.drop_zero] at this
    rw [decide_eq_true hl, Bool.true_and]
    exact this
  · have : ((a.length : Int) != (b.length : Int)) = true := by simp; omega
    rw [this, cond_true, decide_eq_false hl, Bool.false_and]

theorem ex_bytes : ∀ (l : List Int), (∀ x ∈ l, 0 ≤ x ∧ x < 256) → ∃ L : List (BitVec 8), l = L.map un
  | [], _ => ⟨[], rfl⟩
  | x :: l, h => by
    obtain ⟨v, hv⟩ := ex_un (n := 8) (h x (by simp)).1 (by have := (h x (by simp)).2; omega)
    obtain ⟨L, hL⟩ := ex_bytes l (fun y hy => h y (by simp [hy]))
    exact ⟨v :: L, by rw [hv, hL]; rfl⟩

theorem or_un : ∀ (L : List (BitVec 8)) (p : BitVec 8), (L.map un).foldl (ior .u8) (un p) = un (L.foldl (· ||| ·) p)
  | [], _ => rfl
  | x :: L, p => by rw [List.map_cons, List.foldl_cons, ior8, or_un L]; rfl

theorem xor_un : ∀ (A B : List (BitVec 8)), List.zipWith (ixor .u8) (A.map un) (B.map un) = (List.zipWith (· ^^^ ·) A B).map un
  | [], _ => by simp
  | _ :: _, [] => by simp
  | x :: A, y :: B => by simp only [List.map_cons, List.zipWith_cons_cons, ixor8, xor_un A B]

theorem or_zero : ∀ (L : List (BitVec 8)) (p : BitVec 8), L.foldl (· ||| ·) p = 0#8 ↔ p = 0#8 ∧ ∀ x ∈ L, x = 0#8
  | [], p => by simp
  | x :: L, p => by
    rw [List.foldl_cons, or_zero L, BitVec.or_eq_zero_iff]
    simp [and_assoc]

theorem un_inj {n : Nat} {x y : BitVec n} : un x = un y ↔ x = y := by
  constructor
  · intro h
    apply BitVec.eq_of_toNat_eq
    have : ((x.toNat : Int)) = (y.toNat : Int) := h
    omega
  · rintro rfl; rfl

theorem xor_all : ∀ (A B : List (BitVec 8)), A.length = B.length → ((∀ x ∈ List.zipWith (· ^^^ ·) A B, x = 0#8) ↔ A = B)
  | [], [], _ => by simp
  | [], _ :: _, h => by simp at h
  | _ :: _, [], h => by simp at h
  | x :: A, y :: B, h => by
    have ih := xor_all A B (by simpa using h)
    rw [List.zipWith_cons_cons, List.forall_mem_cons, ih, BitVec.xor_eq_zero_iff]
    simp

theorem xor_twice : ∀ (A B : List (BitVec 8)), A.length = B.length → List.zipWith (· ^^^ ·) (List.zipWith (· ^^^ ·) A B) B = A
  | [], [], _ => rfl
  | [], _ :: _, h => by simp at h
  | _ :: _, [], h => by simp at h
  | x :: A, y :: B, h => by
    rw [List.zipWith_cons_cons, List.zipWith_cons_cons, xor_twice A B (by simpa using h), BitVec.xor_assoc, BitVec.xor_self, BitVec.xor_zero]

theorem toStr_un (L : List (BitVec 8)) : toStr (L.map un) = L.map fun b => UInt8.ofBitVec b := by
  simp only [toStr, List.map_map]
  apply List.map_congr_left
  intro b _
  show UInt8.ofNat ((b.toNat : Int)).toNat = _
  apply UInt8.toNat.inj
  simp

theorem toStr_eq (A B : List (BitVec 8)) : (toStr (A.map un) == toStr (B.map un)) = decide (A = B) := by
  rw [toStr_un, toStr_un]
  apply Bool.eq_iff_iff.2
  rw [beq_iff_eq, decide_eq_true_iff]
  constructor
  · intro h
    exact (List.map_inj_right (fun x y e => by simpa using e)).1 h
  · rintro rfl; rfl

theorem un_row {A B : List (BitVec 8)} : A.map un = B.map un ↔ A = B :=
  ⟨fun h => (List.map_inj_right (fun x y e => un_inj.1 e)).1 h, fun h => by rw [h]⟩

theorem same_by {a b : List Int} (ha : ∀ z ∈ a, 0 ≤ z ∧ z < 256) (hb : ∀ z ∈ b, 0 ≤ z ∧ z < 256) : (toStr a == toStr b) = decide (a = b) := by
  obtain ⟨A, rfl⟩ := ex_bytes a ha
  obtain ⟨B, rfl⟩ := ex_bytes b hb
  rw [toStr_eq]
  exact decide_eq_decide.2 un_row.symm

theorem equal_by {R : Type} (N : Nat) (hN : 1000 < N) (x y : Option Bool) {a b : List Int} (ha : ∀ z ∈ a, 0 ≤ z ∧ z < 256) (hb : ∀ z ∈ b, 0 ≤ z ∧ z < 256) (hl : a.length ≤ 1000) (r : Bool → Option R) :
    wEqual.M N R x a y b r = r (decide (a = b)) := by
  rw [Equal_eq N hN x y a b hl]
  congr 1
  obtain ⟨A, rfl⟩ := ex_bytes a ha
  obtain ⟨B, rfl⟩ := ex_bytes b hb
  by_cases h : (A.map (un (n := 8))).length = (B.map (un (n := 8))).length
  · have hl : A.length = B.length := by simpa using h
    rw [decide_eq_true h, Bool.true_and]
    have e : (0 : Int) = un (0#8) := rfl
    rw [xor_un, e, or_un]
    apply Bool.eq_iff_iff.2
    rw [beq_iff_eq, un_inj, or_zero, decide_eq_true_iff, xor_all A B hl, un_row]
    simp
  · rw [decide_eq_false h, Bool.false_and, eq_comm, decide_eq_false_iff_not]
    intro e
    exact h (by rw [e])

end Go.Proofs.YtildbbihjaaloaaDoor.fn
