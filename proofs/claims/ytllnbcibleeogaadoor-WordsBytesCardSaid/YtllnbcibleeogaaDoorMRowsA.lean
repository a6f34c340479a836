/- What the rows' functions come to. -/
import Derived.Test.YtllnbcibleeogaaDoorFnRows
import Derived.Test.YtllnbcibleeogaaDoorMWordsA
namespace Go.Proofs.YtllnbcibleeogaaDoor.fn
open Go Go.Proofs Go.Ev

theorem wrap64 (z : Int) (h0 : 0 ≤ z) (h1 : z < 1000000) : IntKind.wrap .i64 z = z := wrap_small .i64 z h0 (by simp only [IntKind.bits]; omega)

abbrev marks : List Int := [201, 202, 203, 204, 205, 206]

theorem Bytes_eq {R : Type} (N : Nat) (z : Option Bool) (l : List Int) (h : l.length ≤ 1000) (r : Nat → List Int → Option R) : Bytes.M N R z l r = r l.length (l ++ marks) := by
  show Bytes.m N z l r = _
  unfold Bytes.m
  have e : IntKind.wrap .i64 (IntKind.wrap .i64 ((l.length : Int) + 6)) = (l.length : Int) + 6 := by rw [wrap64 ((l.length : Int) + 6) (by omega) (by omega), wrap64 _ (by omega) (by omega)]
  simp only [e]
  rw [decide_eq_true (by omega), cond_true, decide_eq_true (by omega), cond_true, decide_eq_true (by omega), cond_true, decide_eq_true (by omega), cond_true, decide_eq_true (by omega), cond_true,
    decide_eq_true (by omega), cond_true, decide_eq_true (by simp; omega), cond_true]
  rfl

theorem cut_bytes (l m : List Int) : cut (some l.length) 0 (l ++ m) = l := by simp [cut]

theorem Equal_loop {R : Type} (N : Nat) (ke : Option Bool → List Int → Option Bool → List Int → Int → Int → Int → Option R) (x y : Option Bool) (a b : List Int) (hl : a.length = b.length) (hb : a.length ≤ 1000) :
    ∀ (d m : Nat) (p : Int) (i : Nat), i + d = a.length → d < m → wEqual.L5 N ke m x a y b p (a.length : Int) (i : Int) = ke x a y b ((List.zipWith (ixor .u8) (a.drop i) (b.drop i)).foldl (ior .u8) p) (a.length : Int) (a.length : Int) := by
  intro d
  induction d with
  | zero =>
    intro m p i h hm
    obtain ⟨m, rfl⟩ : ∃ k, m = k + 1 := ⟨m - 1, by omega⟩
    unfold wEqual.L5
    rw [decide_eq_false (by omega), cond_false]
    have : a.drop i = [] := List.drop_eq_nil_of_le (by omega)
    have e : (i : Int) = (a.length : Int) := by omega
    rw [this, e]; rfl
  | succ d ih =>
    intro m p i h hm
    obtain ⟨m, rfl⟩ : ∃ k, m = k + 1 := ⟨m - 1, by omega⟩
    unfold wEqual.L5
    have c1 : decide ((i : Int) < (a.length : Int)) = true := decide_eq_true (by omega)
    have c2 : decide (0 ≤ (i : Int)) = true := decide_eq_true (by omega)
    have c3 : decide ((i : Int) < (b.length : Int)) = true := decide_eq_true (by omega)
    simp only [c1, c2, c3, cond_true]
    rw [wrap64 _ (by omega) (by omega)]
    have e : (i : Int) + 1 = ((i + 1 : Nat) : Int) := by omega
    rw [e, ih m _ (i + 1) (by omega) (by omega)]
    congr 1
    have ha : a.drop i = a[i] :: a.drop (i + 1) := List.drop_eq_getElem_cons (by omega)
    have hb' : b.drop i = b[i] :: b.drop (i + 1) := List.drop_eq_getElem_cons (by omega)
    rw [ha, hb', List.zipWith_cons_cons, List.foldl_cons]
    have ga : a.getD (i : Int).toNat 0 = a[i] := by simp [List.getD, List.getElem?_eq_getElem (show i < a.length by omega)]
    have gb : b.getD (i : Int).toNat 0 = b[i] := by simp [List.getD, List.getElem?_eq_getElem (show i < b.length by omega)]
    rw [ga, gb]

theorem Zero_loop {R : Type} (N : Nat) (ke : Int → Option Bool → List Int → Int → Int → Option R) (x : Option Bool) (a : List Int) (hb : a.length ≤ 1000) :
    ∀ (d m : Nat) (p : Int) (i : Nat), i + d = a.length → d < m → wZero.L3 N ke m p x a (a.length : Int) (i : Int) = ke ((a.drop i).foldl (ior .u8) p) x a (a.length : Int) (a.length : Int) := by
  intro d
  induction d with
  | zero =>
    intro m p i h hm
    obtain ⟨m, rfl⟩ : ∃ k, m = k + 1 := ⟨m - 1, by omega⟩
    unfold wZero.L3
    rw [decide_eq_false (by omega), cond_false]
    have : a.drop i = [] := List.drop_eq_nil_of_le (by omega)
    have e : (i : Int) = (a.length : Int) := by omega
    rw [this, e]; rfl
  | succ d ih =>
    intro m p i h hm
    obtain ⟨m, rfl⟩ : ∃ k, m = k + 1 := ⟨m - 1, by omega⟩
    unfold wZero.L3
    have c1 : decide ((i : Int) < (a.length : Int)) = true := decide_eq_true (by omega)
    have c2 : decide (0 ≤ (i : Int)) = true := decide_eq_true (by omega)
    simp only [c1, c2, cond_true]
    rw [wrap64 _ (by omega) (by omega)]
    have e : (i : Int) + 1 = ((i + 1 : Nat) : Int) := by omega
    rw [e, ih m _ (i + 1) (by omega) (by omega)]
    congr 1
    have ha : a.drop i = a[i] :: a.drop (i + 1) := List.drop_eq_getElem_cons (by omega)
    rw [ha, List.foldl_cons]
    have ga : a.getD (i : Int).toNat 0 = a[i] := by simp [List.getD, List.getElem?_eq_getElem (show i < a.length by omega)]
    rw [ga]

theorem rMix_loop {R : Type} (N : Nat) (ke : Option Bool → List Int → Option Bool → List Int → Int → Int → List Int → Option R) (x y : Option Bool) (a b : List Int) (hl : a.length = b.length) (hb : a.length ≤ 1000) :
    ∀ (d m : Nat) (p : List Int) (i : Nat), i + d = a.length → p.length = i → d < m → rMix.L3 N ke m y b x a (a.length : Int) (i : Int) p =
      ke y b x a (a.length : Int) (a.length : Int) (p ++ List.zipWith (ixor .u8) (a.drop i) (b.drop i)) := by
  intro d
  induction d with
  | zero =>
    intro m p i h hp hm
    obtain ⟨m, rfl⟩ : ∃ k, m = k + 1 := ⟨m - 1, by omega⟩
    unfold rMix.L3
    rw [decide_eq_false (by omega), cond_false]
    have : a.drop i = [] := List.drop_eq_nil_of_le (by omega)
    have e : (i : Int) = (a.length : Int) := by omega
    rw [this, e]; simp
  | succ d ih =>
    intro m p i h hp hm
    obtain ⟨m, rfl⟩ : ∃ k, m = k + 1 := ⟨m - 1, by omega⟩
    unfold rMix.L3
    have c1 : decide ((i : Int) < (a.length : Int)) = true := decide_eq_true (by omega)
    have c2 : decide (0 ≤ (i : Int)) = true := decide_eq_true (by omega)
    have c3 : decide ((i : Int) < (b.length : Int)) = true := decide_eq_true (by omega)
    have c4 : decide ((p.length + 1) * 1 ≤ 140737488355328) = true := decide_eq_true (by omega)
    have c5 : decide (p.length + 1 ≤ 140737488355328) = true := decide_eq_true (by omega)
    simp only [c1, c2, c3, c4, c5, cond_true]
    rw [wrap64 _ (by omega) (by omega)]
    have e : (i : Int) + 1 = ((i + 1 : Nat) : Int) := by omega
    have ha : a.drop i = a[i] :: a.drop (i + 1) := List.drop_eq_getElem_cons (by omega)
    have hb' : b.drop i = b[i] :: b.drop (i + 1) := List.drop_eq_getElem_cons (by omega)
    have ga : a.getD (i : Int).toNat 0 = a[i] := by simp [List.getD, List.getElem?_eq_getElem (show i < a.length by omega)]
    have gb : b.getD (i : Int).toNat 0 = b[i] := by simp [List.getD, List.getElem?_eq_getElem (show i < b.length by omega)]
    rw [e, ih m _ (i + 1) (by omega) (by simp [hp]) (by omega), ga, gb, ha, hb', List.zipWith_cons_cons, List.append_assoc]
    rfl

theorem Mix_loop {R : Type} (N : Nat) (ke : Option Bool → List Int → Int → Int → Bool → List Int → Option R) (y : Option Bool) (nl : Bool) (b : List Int) :
    ∀ (c p : List Int) (m : Nat), p.length + c.length = b.length → b.length ≤ 1000 → c.length < m → wMix.L5 (Clone.M N) N ke m y b (b.length : Int) (p.length : Int) nl (p ++ c) =
      ke y b (b.length : Int) (b.length : Int) nl (p ++ List.zipWith (ixor .u8) c (b.drop p.length)) := by
  intro c
  induction c with
  | nil =>
    intro p m h hb hm
    obtain ⟨m, rfl⟩ : ∃ k, m = k + 1 := ⟨m - 1, by omega⟩
    unfold wMix.L5
    simp only [List.length_nil] at h
    rw [decide_eq_false (by omega), cond_false]
    have e : (p.length : Int) = (b.length : Int) := by omega
    rw [e]; simp
  | cons z c ih =>
    intro p m h hb hm
    obtain ⟨m, rfl⟩ : ∃ k, m = k + 1 := ⟨m - 1, by omega⟩
    simp only [List.length_cons] at h hm
    unfold wMix.L5
    have hlen : olen none (p ++ z :: c).length 0 = b.length := by simp [olen]; omega
    have c1 : decide ((p.length : Int) < (b.length : Int)) = true := decide_eq_true (by omega)
    have c2 : decide (0 ≤ (p.length : Int)) = true := decide_eq_true (by omega)
    simp only [hlen, c1, c2, cond_true]
    rw [wrap64 _ (by omega) (by omega)]
    have hb' : b.drop p.length = b[p.length] :: b.drop (p.length + 1) := List.drop_eq_getElem_cons (by omega)
    have gb : b.getD (p.length : Int).toNat 0 = b[p.length] := by simp [List.getD, List.getElem?_eq_getElem (show p.length < b.length by omega)]
    have ga : (p ++ z :: c).getD (0 + (p.length : Int).toNat) 0 = z := by simp [List.getD]
    have hs : (p ++ z :: c).set (0 + (p.length : Int).toNat) (ixor .u8 z b[p.length]) = (p ++ [ixor .u8 z b[p.length]]) ++ c := by
      have : 0 + (p.length : Int).toNat = p.length := by omega
      rw [this, List.set_append_right _ _ (Nat.le_refl _)]; simp
    have e : (p.length : Int) + 1 = ((p ++ [ixor .u8 z b[p.length]]).length : Int) := by simp
    rw [ga, gb, hs, e, ih _ m (by simp; omega) hb (by omega), hb', List.zipWith_cons_cons]
    simp

theorem Kept_eq {R : Type} (N : Nat) (z : Option Bool) (n : Option Nat) (l : List Int) (hb : l.length ≤ 1000) (r : Bool → Bool → List Int → Option R) :
    Kept.M N R 0 n false (l ++ marks) z l r = r true false (l ++ marks) := by
  show Kept.m N 0 n false (l ++ marks) z l r = _
  unfold Kept.m
  have w : ∀ k : Int, 0 ≤ k → k ≤ 6 → IntKind.wrap .i64 ((l.length : Int) + k) = (l.length : Int) + k := fun k h0 h1 => wrap64 _ (by omega) (by omega)
  have hlen : ((l ++ marks).length - 0) = l.length + 6 := by simp [marks]
  have hlen' : (l ++ marks).length = l.length + 6 := by simp [marks]
  have hcut : cut (some (l.length : Int).toNat) 0 (l ++ marks) = l := by simp [cut]
  have g : ∀ k : Nat, k < 6 → (l ++ marks).getD (0 + ((l.length : Int) + (k : Int)).toNat) 0 = marks.getD k 0 := by
    intro k hk
    have : 0 + ((l.length : Int) + (k : Int)).toNat = l.length + k := by omega
    rw [this, List.getD, List.getElem?_append_right (by omega), List.getD]
    congr 2; omega
  have g0 : (l ++ marks).getD (0 + ((l.length : Int) + 0).toNat) 0 = 201 := g 0 (by omega)
  have g1 : (l ++ marks).getD (0 + ((l.length : Int) + 1).toNat) 0 = 202 := g 1 (by omega)
  have g2 : (l ++ marks).getD (0 + ((l.length : Int) + 2).toNat) 0 = 203 := g 2 (by omega)
  have g3 : (l ++ marks).getD (0 + ((l.length : Int) + 3).toNat) 0 = 204 := g 3 (by omega)
  have g4 : (l ++ marks).getD (0 + ((l.length : Int) + 4).toNat) 0 = 205 := g 4 (by omega)
  have g5 : (l ++ marks).getD (0 + ((l.length : Int) + 5).toNat) 0 = 206 := g 5 (by omega)
  have d0 : decide ((l.length : Int) + 0 < ((l.length + 6 : Nat) : Int)) = true := decide_eq_true (by omega)
  have f0 : decide (0 ≤ (l.length : Int) + 0) = true := decide_eq_true (by omega)
  have d1 : decide ((l.length : Int) + 1 < ((l.length + 6 : Nat) : Int)) = true := decide_eq_true (by omega)
  have f1 : decide (0 ≤ (l.length : Int) + 1) = true := decide_eq_true (by omega)
  have d2 : decide ((l.length : Int) + 2 < ((l.length + 6 : Nat) : Int)) = true := decide_eq_true (by omega)
  have f2 : decide (0 ≤ (l.length : Int) + 2) = true := decide_eq_true (by omega)
  have d3 : decide ((l.length : Int) + 3 < ((l.length + 6 : Nat) : Int)) = true := decide_eq_true (by omega)
  have f3 : decide (0 ≤ (l.length : Int) + 3) = true := decide_eq_true (by omega)
  have d4 : decide ((l.length : Int) + 4 < ((l.length + 6 : Nat) : Int)) = true := decide_eq_true (by omega)
  have f4 : decide (0 ≤ (l.length : Int) + 4) = true := decide_eq_true (by omega)
  have d5 : decide ((l.length : Int) + 5 < ((l.length + 6 : Nat) : Int)) = true := decide_eq_true (by omega)
  have f5 : decide (0 ≤ (l.length : Int) + 5) = true := decide_eq_true (by omega)
  have n1 : (0 : Nat).beq 0 = true := rfl
  have n2 : Nat.ble 0 (l.length + 6) = true := rfl
  have n3 : decide ((l.length : Int) + 6 ≤ ((l.length + 6 : Nat) : Int)) = true := decide_eq_true (by omega)
  have n4 : decide ((l.length : Int) ≤ ((l.length + 6 : Nat) : Int)) = true := decide_eq_true (by omega)
  simp only [w 0 (by omega) (by omega), w 1 (by omega) (by omega), w 2 (by omega) (by omega), w 3 (by omega) (by omega), w 4 (by omega) (by omega), w 5 (by omega) (by omega), w 6 (by omega) (by omega), hlen', Nat.sub_zero, hcut, n1, n2, n3, n4, g0, g1, g2, g3, g4, g5, d0, d1, d2, d3, d4, d5, f0, f1, f2, f3, f4, f5, cond_true, cond_false, Bool.and_true, beq_self_eq_true, Bool.not_true, bne_self_eq_false]

theorem Equal_eq {R : Type} (N : Nat) (hN : 1000 < N) (x y : Option Bool) (a b : List Int) (hb : a.length ≤ 1000) (r : Bool → Option R) :
    wEqual.M N R x a y b r = r (decide (a.length = b.length) && ((List.zipWith (ixor .u8) a b).foldl (ior .u8) 0 == 0)) := by
  show wEqual.m N x a y b r = _
  unfold wEqual.m
  by_cases hl : a.length = b.length
  · have : ((a.length : Int) != (b.length : Int)) = false := by simp [hl]
    rw [this, cond_false]
    have := Equal_loop N (fun _ _ _ _ p _ _ => r (p == 0)) x y a b hl hb a.length N 0 0 (by omega) (by omega)
    simp only [List.drop_zero] at this
    rw [decide_eq_true hl, Bool.true_and]
    exact this
  · have : ((a.length : Int) != (b.length : Int)) = true := by simp; omega
    rw [this, cond_true, decide_eq_false hl, Bool.false_and]

theorem Zero_eq {R : Type} (N : Nat) (hN : 1000 < N) (x : Option Bool) (a : List Int) (hb : a.length ≤ 1000) (r : Bool → Option R) : wZero.M N R x a r = r (a.foldl (ior .u8) 0 == 0) := by
  show wZero.m N x a r = _
  unfold wZero.m
  have := Zero_loop N (fun p _ _ _ _ => r (p == 0)) x a hb a.length N 0 0 (by omega) (by omega)
  simp only [List.drop_zero] at this
  exact this

theorem rMix_eq {R : Type} (N : Nat) (hN : 1000 < N) (x y : Option Bool) (a b : List Int) (hl : a.length = b.length) (hb : a.length ≤ 1000) (r : List Int → Option R) :
    rMix.M N R x a y b r = r (List.zipWith (ixor .u8) a b) := by
  show rMix.m N x a y b r = _
  unfold rMix.m
  have := rMix_loop N (fun _ _ _ _ _ _ h => r h) x y a b hl hb a.length N [] 0 (by omega) rfl (by omega)
  simp only [List.drop_zero, List.nil_append] at this
  exact this

theorem Mix_eq {R : Type} (N : Nat) (hN : 1000 < N) (x y : Option Bool) (a b : List Int) (hl : a.length = b.length) (hb : a.length ≤ 1000) (r0 : Option R) (r : Bool → List Int → Option R) :
    wMix.M N R x a y b r0 r = r a.isEmpty (List.zipWith (ixor .u8) a b) := by
  show wMix.m (Clone.M N) N x a y b r0 r = _
  unfold wMix.m
  have h1 : ((a.length : Int) != (b.length : Int)) = false := by simp [hl]
  rw [h1, cond_false]
  have h2 : Clone.big a = true := decide_eq_true (by omega)
  show cond (Clone.big a) _ none = _
  rw [h2, cond_true]
  have h3 : olen none a.length 0 = b.length := by simp [olen, hl]
  rw [h3]
  have := Mix_loop N (fun _ _ _ _ nl h => r nl h) y a.isEmpty b a [] N (by simp [hl]) (by omega) (by omega)
  simp only [List.length_nil, List.drop_zero, List.nil_append] at this
  exact this

theorem Mix_ne {R : Type} (N : Nat) (x y : Option Bool) (a b : List Int) (hl : a.length ≠ b.length) (r0 : Option R) (r : Bool → List Int → Option R) : wMix.M N R x a y b r0 r = r0 := by
  show wMix.m (Clone.M N) N x a y b r0 r = _
  unfold wMix.m
  have h1 : ((a.length : Int) != (b.length : Int)) = true := by simp; omega
  rw [h1, cond_true]
end Go.Proofs.YtllnbcibleeogaaDoor.fn
