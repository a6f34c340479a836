/- Counts, keys and signatures there and back. The parts on keys and signatures are printed by a program. -/
import Derived.Test.YtbliikcgcgalmaaDoorMWireD
import Derived.Test.YtbliikcgcgalmaaDoorFnWireNums
namespace Go.Proofs.YtbliikcgcgalmaaDoor.fn
open Go Go.Proofs Go.Ev Go.Dg

/-- Which number eight bytes are, and the error's number. -/
def toN (B : List Nat) : Nat × Nat := if B.length = 8 then if hor 0 B > 4611686018427387903 then (0, 1) else (hor 0 B, 0) else (0, 4)

theorem wToNum_eq {R : Type} (N : Nat) (hN : 1000 < N) (z : Option Bool) (B : List Nat) (hx : ∀ x ∈ B, x < 256) (r : Int → Nat → Option R) : wToNum.M N R z (nn B) r = r ((toN B).1 : Nat) (toN B).2 := by
  show wToNum.m (Big.M N) N z (nn B) r = _
  unfold wToNum.m toN
  rw [nn_len]
  by_cases h : B.length = 8
  · have e : ((B.length : Int) != 8) = false := by rw [h]; rfl
    rw [e, cond_false, if_pos h]
    refine (Big_eq N hN z B (by omega) hx _).trans ?_
    have eb : (!Nat.beq 0 0) = false := rfl
    rw [eb, cond_false]
    by_cases h2 : hor 0 B > 4611686018427387903
    · rw [decide_eq_true (by omega), cond_true, if_pos h2]; rfl
    · rw [decide_eq_false (by omega), cond_false, if_neg h2, wrap_i64z _ (by omega) (by omega)]
  · have e : ((B.length : Int) != 8) = true := by rw [bne_iff_ne]; omega
    rw [e, cond_true, if_neg h]; rfl

theorem hor_ge : ∀ (l : List Nat) (p : Nat), p ≤ hor p l
  | [], _ => Nat.le_refl _
  | a :: l, p => by
    have := hor_ge l (p * 256 + a)
    show p ≤ hor (p * 256 + a) l
    omega

theorem rToNum_loop {R : Type} (N : Nat) (ke : Int → Option Bool → List Int → Int → Int → Option R) (z : Option Bool) (B : List Nat) (hB : B.length = 8) (hx : ∀ x ∈ B, x < 256) :
    ∀ (d m i p : Nat), i + d = 8 → d < m → hor p (B.drop i) ≤ 4611686018427387903 → rToNum.L7 N ke m (p : Int) z (nn B) 8 (i : Int) = ke ((hor p (B.drop i) : Nat) : Int) z (nn B) 8 8 := by
  intro d
  induction d with
  | zero =>
    intro m i p hi hm _
    obtain ⟨m, rfl⟩ : ∃ k, m = k + 1 := ⟨m - 1, by omega⟩
    obtain rfl : i = 8 := by omega
    rw [List.drop_of_length_le (by omega)]
    rfl
  | succ d ih =>
    intro m i p hi hm hp
    obtain ⟨m, rfl⟩ : ∃ k, m = k + 1 := ⟨m - 1, by omega⟩
    have hd := dropC B i 0 (by omega)
    have hmem : B.getD i 0 ∈ B := by simp [List.getD, List.getElem?_eq_getElem (show i < B.length by omega)]
    have hlt := hx _ hmem
    unfold rToNum.L7
    rw [nn_len, hB, decide_eq_true (by omega), cond_true, decide_eq_true (by omega), cond_true, decide_eq_true (by omega), cond_true, Int.toNat_natCast, nn_getD]
    rw [hd] at hp ⊢
    generalize B.getD i 0 = c at *
    have h2 : hor p (c :: B.drop (i + 1)) = hor (p * 256 + c) (B.drop (i + 1)) := rfl
    rw [h2] at hp ⊢
    have h3 := hor_ge (B.drop (i + 1)) (p * 256 + c)
    rw [wrap_i64z ((p : Int) * 256) (by omega) (by omega), wrap_i64z (c : Int) (by omega) (by omega), wrap_i64z _ (by omega) (by omega), wrap_i64z _ (by omega) (by omega)]
    have e1 : (p : Int) * 256 + (c : Int) = ((p * 256 + c : Nat) : Int) := by omega
    have e2 : ((i : Nat) : Int) + 1 = ((i + 1 : Nat) : Int) := by omega
    rw [e1, e2]
    exact ih m (i + 1) (p * 256 + c) (by omega) (by omega) hp

theorem eight (B : List Nat) (h : B.length = 8) : ∃ a T, B = a :: T ∧ T.length = 7 := by
  cases B with
  | nil => simp at h
  | cons a T => exact ⟨a, T, rfl, by simpa using h⟩

theorem hor_low : ∀ (l : List Nat) (p : Nat), p * 256 ^ l.length ≤ hor p l
  | [], p => by simp [hor]
  | a :: l, p => by
    have h := hor_low l (p * 256 + a)
    show p * 256 ^ (l.length + 1) ≤ hor (p * 256 + a) l
    have h2 : p * 256 * 256 ^ l.length ≤ (p * 256 + a) * 256 ^ l.length := Nat.mul_le_mul_right _ (by omega)
    rw [Nat.pow_succ, Nat.mul_comm (256 ^ l.length), ← Nat.mul_assoc]
    exact Nat.le_trans h2 h
theorem hor_up : ∀ (l : List Nat) (p : Nat), (∀ x ∈ l, x < 256) → hor p l < (p + 1) * 256 ^ l.length
  | [], p, _ => by simp [hor]
  | a :: l, p, h => by
    have h1 := hor_up l (p * 256 + a) fun x hx => h x (by simp [hx])
    have h0 := h a (by simp)
    show hor (p * 256 + a) l < (p + 1) * 256 ^ (l.length + 1)
    have h2 : (p * 256 + a + 1) * 256 ^ l.length ≤ ((p + 1) * 256) * 256 ^ l.length := Nat.mul_le_mul_right _ (by omega)
    rw [Nat.pow_succ, Nat.mul_comm (256 ^ l.length), ← Nat.mul_assoc]
    exact Nat.lt_of_lt_of_le h1 h2

theorem rToNum_eq {R : Type} (N : Nat) (hN : 1000 < N) (z : Option Bool) (B : List Nat) (hx : ∀ x ∈ B, x < 256) (r : Int → Int → Option R) : rToNum.M N R z (nn B) r = r ((toN B).1 : Nat) ((toN B).2 : Nat) := by
  show rToNum.m N z (nn B) r = _
  unfold rToNum.m toN
  rw [nn_len]
  by_cases h : B.length = 8
  · have e : ((B.length : Int) != 8) = false := by rw [h]; rfl
    rw [e, cond_false, if_pos h, decide_eq_true (by omega), cond_true]
    obtain ⟨a, T, hB, hT⟩ := eight B h
    have eh : hor 0 B = hor a T := by rw [hB]; show hor (0 * 256 + a) T = _; rw [Nat.zero_mul, Nat.zero_add]
    have ea : (nn B).getD 0 0 = (a : Int) := by rw [hB]; rfl
    have hlo := hor_low T a
    have hup := hor_up T a fun x hx' => hx x (by rw [hB]; simp [hx'])
    rw [hT] at hlo hup
    have e7 : 256 ^ 7 = 72057594037927936 := rfl
    rw [e7] at hlo hup
    rw [ea]
    by_cases h2 : hor 0 B > 4611686018427387903
    · rw [if_pos h2, decide_eq_true (by omega), cond_true]; rfl
    · rw [if_neg h2, decide_eq_false (by omega), cond_false]
      have e8 : ((B.length : Nat) : Int) = 8 := by rw [h]; rfl
      rw [e8]
      refine (rToNum_loop N _ z B h hx 8 N 0 0 (by omega) (by omega) (by rw [List.drop_zero]; omega)).trans ?_
      rw [List.drop_zero]; rfl
  · have e : ((B.length : Int) != 8) = true := by rw [bne_iff_ne]; omega
    rw [e, cond_true, if_neg h]; rfl

theorem wNum_1 {R : Type} (N : Nat) (hN : 30 ≤ N) (r : Int → Option R) : Num.M N R 1 r = r 1 := by
  obtain ⟨M, rfl⟩ : ∃ M, N = M + 30 := ⟨N - 30, by omega⟩
  kernel_rfl
theorem wNum_toN {R : Type} (N : Nat) (hN : 30 ≤ N) (B : List Nat) (r : Int → Option R) : Num.M N R (toN B).2 r = r ((toN B).2 : Nat) := by
  unfold toN
  by_cases h : B.length = 8
  · rw [if_pos h]
    by_cases h2 : hor 0 B > 4611686018427387903
    · rw [if_pos h2]; exact wNum_1 N hN r
    · rw [if_neg h2]; exact wNum_0 N hN r
  · rw [if_neg h]; exact wNum_4 N hN r

/-! ### numbers -/

theorem hor_snoc (l : List Nat) (p c : Nat) : hor p (l ++ [c]) = hor p l * 256 + c := by unfold hor; rw [List.foldl_append]; rfl
theorem hor_digs : ∀ (n X : Nat), X < 256 ^ n → hor 0 (dig 256 n X).reverse = X
  | 0, X, h => by
    have : X = 0 := by simpa using h
    subst this; rfl
  | n + 1, X, h => by
    have e : dig 256 (n + 1) X = (X % 256) :: dig 256 n (X / 256) := rfl
    rw [e, List.reverse_cons, hor_snoc, hor_digs n (X / 256) (by rw [Nat.pow_succ] at h; exact (Nat.div_lt_iff_lt_mul (by decide)).2 h)]
    omega

def clampN (n : Int) : Nat := if n < 0 ∨ n > 4611686018427387903 then 0 else n.toNat
theorem clamp_lt (n : Int) : clampN n ≤ 4611686018427387903 := by unfold clampN; split <;> omega

theorem wNumB_eq {R : Type} (N : Nat) (hN : 1000 < N) (n : Int) (r : List Int → Option R) : wNum.M N R n r = r (nn (dig 256 8 (clampN n)).reverse) := by
  show wNum.m (PutBig.M N) N n r = _
  unfold wNum.m clampN
  have p0 := fun a b => PutBig_eq (R := R) N hN 0 8 (by omega) (by omega) a b
  by_cases h1 : n < 0
  · rw [decide_eq_true h1, cond_true, if_pos (Or.inl h1)]
    exact p0 _ _
  · rw [decide_eq_false h1, cond_false]
    by_cases h2 : n > 4611686018427387903
    · rw [decide_eq_true h2, cond_true, if_pos (Or.inr h2)]
      exact p0 _ _
    · rw [decide_eq_false h2, cond_false, if_neg (by omega), wrap_u64z _ (by omega) (by omega)]
      have := PutBig_eq (R := R) N hN n.toNat 8 (by omega) (by omega)
      rw [show ((n.toNat : Nat) : Int) = n by omega] at this
      exact this _ _

theorem rNum_loop {R : Type} (N : Nat) (ke : Int → Int → List Int → Option R) : ∀ (d m X : Nat) (T : List Nat), d ≤ 8 → d < m → X ≤ 4611686018427387903 →
    ∃ X', rNum.L5 N ke m (X : Int) ((d : Int) - 1) (nn (List.replicate d 0 ++ T)) = ke X' (-1) (nn ((dig 256 d X).reverse ++ T)) := by
  intro d
  induction d with
  | zero =>
    intro m X T _ hm _
    obtain ⟨m, rfl⟩ : ∃ k, m = k + 1 := ⟨m - 1, by omega⟩
    exact ⟨X, rfl⟩
  | succ d ih =>
    intro m X T h8 hm hX
    obtain ⟨m, rfl⟩ : ∃ k, m = k + 1 := ⟨m - 1, by omega⟩
    obtain ⟨X', h⟩ := ih m (X / 256) (X % 256 :: T) (by omega) (by omega) (by omega)
    refine ⟨X', ?_⟩
    have e : dig 256 (d + 1) X = (X % 256) :: dig 256 d (X / 256) := rfl
    rw [e, List.reverse_cons, List.append_assoc]
    refine Eq.trans ?_ h
    conv => lhs; unfold rNum.L5
    have ed : ((d + 1 : Nat) : Int) - 1 = (d : Int) := by omega
    have hs : (nn (List.replicate (d + 1) 0 ++ T)).set d ((X % 256 : Nat) : Int) = nn (List.replicate d 0 ++ X % 256 :: T) := by
      rw [List.replicate_succ', List.append_assoc]
      exact app_set' (List.replicate d 0) 0 T (i := (d : Int)) (by rw [List.length_replicate]) (X % 256)
    have c256 : (256 : Int) = ((256 : Nat) : Int) := rfl
    rw [ed, decide_eq_true (show (d : Int) ≥ 0 by omega), cond_true, cond_true, olen0, nn_len, List.length_append, List.length_replicate, decide_eq_true (by omega), cond_true, Int.toNat_natCast, Nat.zero_add, c256, tdivN, tmodN, wrap_u8, Nat.mod_mod, hs, wrap_i64z _ (by omega) (by omega), wrap_i64z _ (by omega) (by omega)]

theorem rNumB_eq {R : Type} (N : Nat) (hN : 1000 < N) (n : Int) (r : List Int → Option R) : rNum.M N R n r = r (nn (dig 256 8 (clampN n)).reverse) := by
  show rNum.m N n r = _
  unfold rNum.m clampN
  have l := fun (X : Nat) hX => rNum_loop (R := R) N (fun _ _ h => r h) 8 N X [] (by omega) (by omega) hX
  have fin : ∀ (X : Nat), X ≤ 4611686018427387903 → rNum.L5 N (fun _ _ h => r h) N (X : Int) 7 [0, 0, 0, 0, 0, 0, 0, 0] = r (nn (dig 256 8 X).reverse) := by
    intro X hX
    obtain ⟨X', h⟩ := l X hX
    rw [List.append_nil, List.append_nil] at h
    exact h
  by_cases h1 : n < 0
  · rw [decide_eq_true h1, cond_true, if_pos (Or.inl h1)]
    exact fin 0 (by omega)
  · rw [decide_eq_false h1, cond_false]
    by_cases h2 : n > 4611686018427387903
    · rw [decide_eq_true h2, cond_true, if_pos (Or.inr h2)]
      exact fin 0 (by omega)
    · rw [decide_eq_false h2, cond_false, if_neg (by omega)]
      have := fin n.toNat (by omega)
      rw [show ((n.toNat : Nat) : Int) = n by omega] at this
      exact this

/-! ### keys and signatures -/

theorem wKey_eq {R : Type} (N : Nat) (z : Option Bool) (b : List Int) (r : List Int → Nat → Option R) : wKey.M N R z b r = cond ((b.length : Int) != 32) (r [0, 0, 0, 0, 0, 0, 0, 0, 0, 0, 0, 0, 0, 0, 0, 0, 0, 0, 0, 0, 0, 0, 0, 0, 0, 0, 0, 0, 0, 0, 0, 0] 4) (r b 0) := by
  show wKey.m N z b r = _
  unfold wKey.m
  by_cases h : b.length = 32
  · have e : ((b.length : Int) != 32) = false := by rw [h]; rfl
    rw [e, cond_false, cond_false, h, List.nil_append, Nat.min_self, List.take_of_length_le (by omega)]
    have : List.drop (0 + 32) ([0, 0, 0, 0, 0, 0, 0, 0, 0, 0, 0, 0, 0, 0, 0, 0, 0, 0, 0, 0, 0, 0, 0, 0, 0, 0, 0, 0, 0, 0, 0, 0] : List Int) = [] := rfl
    rw [this, List.append_nil]
  · have e : ((b.length : Int) != 32) = true := by rw [bne_iff_ne]; omega
    rw [e, cond_true, cond_true]

theorem rKey_loop {R : Type} (N : Nat) (ke : Option Bool → List Int → Int → Int → List Int → Option R) (z : Option Bool) (v : List Int) (hv : v.length = 32) : ∀ (d m i : Nat) (h : List Int), i + d = 32 → d < m → h.length = 32 → (∀ j, j < i → h[j]? = v[j]?) →
    rKey.L5 N ke m z v 32 (i : Int) h = ke z v 32 32 v := by
  intro d
  induction d with
  | zero =>
    intro m i h hi hm hl hj
    obtain ⟨m, rfl⟩ : ∃ k, m = k + 1 := ⟨m - 1, by omega⟩
    obtain rfl : i = 32 := by omega
    have : h = v := by
      apply List.ext_getElem?
      intro j
      by_cases hj' : j < 32
      · exact hj j hj'
      · rw [List.getElem?_eq_none (by omega), List.getElem?_eq_none (by omega)]
    subst this
    unfold rKey.L5
    rw [decide_eq_false (by omega), cond_false]
    rfl
  | succ d ih =>
    intro m i h hi hm hl hj
    obtain ⟨m, rfl⟩ : ∃ k, m = k + 1 := ⟨m - 1, by omega⟩
    unfold rKey.L5
    have hv' : ((v.length : Nat) : Int) = 32 := by rw [hv]; rfl
    rw [hv', decide_eq_true (by omega), cond_true, decide_eq_true (by omega), cond_true, cond_true, cond_true, cond_true, Int.toNat_natCast, wrap_i64z _ (by omega) (by omega)]
    refine ih m (i + 1) _ (by omega) (by omega) (by rw [List.length_set]; exact hl) fun j hji => ?_
    by_cases hij : j = i
    · subst hij
      rw [List.getElem?_set_self (by omega)]
      simp [List.getD, List.getElem?_eq_getElem (show j < v.length by omega)]
    · rw [List.getElem?_set_ne (by omega)]
      exact hj j (by omega)

theorem rKey_eq {R : Type} (N : Nat) (hN : 1000 < N) (z : Option Bool) (b : List Int) (r : List Int → Bool → Option R) : rKey.M N R z b r = cond ((b.length : Int) != 32) (r [0, 0, 0, 0, 0, 0, 0, 0, 0, 0, 0, 0, 0, 0, 0, 0, 0, 0, 0, 0, 0, 0, 0, 0, 0, 0, 0, 0, 0, 0, 0, 0] false) (r b true) := by
  show rKey.m N z b r = _
  unfold rKey.m
  by_cases h : b.length = 32
  · have e : ((b.length : Int) != 32) = false := by rw [h]; rfl
    have hv' : ((b.length : Nat) : Int) = 32 := by rw [h]; rfl
    rw [e, cond_false, cond_false, hv']
    exact rKey_loop N _ z b h 32 N 0 _ (by omega) (by omega) rfl (fun j hj => by omega)
  · have e : ((b.length : Int) != 32) = true := by rw [bne_iff_ne]; omega
    rw [e, cond_true, cond_true]

theorem wSig_eq {R : Type} (N : Nat) (z : Option Bool) (b : List Int) (r : List Int → Nat → Option R) : wSig.M N R z b r = cond ((b.length : Int) != 64) (r [0, 0, 0, 0, 0, 0, 0, 0, 0, 0, 0, 0, 0, 0, 0, 0, 0, 0, 0, 0, 0, 0, 0, 0, 0, 0, 0, 0, 0, 0, 0, 0, 0, 0, 0, 0, 0, 0, 0, 0, 0, 0, 0, 0, 0, 0, 0, 0, 0, 0, 0, 0, 0, 0, 0, 0, 0, 0, 0, 0, 0, 0, 0, 0] 4) (r b 0) := by
  show wSig.m N z b r = _
  unfold wSig.m
  by_cases h : b.length = 64
  · have e : ((b.length : Int) != 64) = false := by rw [h]; rfl
    rw [e, cond_false, cond_false, h, List.nil_append, Nat.min_self, List.take_of_length_le (by omega)]
    have : List.drop (0 + 64) ([0, 0, 0, 0, 0, 0, 0, 0, 0, 0, 0, 0, 0, 0, 0, 0, 0, 0, 0, 0, 0, 0, 0, 0, 0, 0, 0, 0, 0, 0, 0, 0, 0, 0, 0, 0, 0, 0, 0, 0, 0, 0, 0, 0, 0, 0, 0, 0, 0, 0, 0, 0, 0, 0, 0, 0, 0, 0, 0, 0, 0, 0, 0, 0] : List Int) = [] := rfl
    rw [this, List.append_nil]
  · have e : ((b.length : Int) != 64) = true := by rw [bne_iff_ne]; omega
    rw [e, cond_true, cond_true]

theorem rSig_loop {R : Type} (N : Nat) (ke : Option Bool → List Int → Int → Int → List Int → Option R) (z : Option Bool) (v : List Int) (hv : v.length = 64) : ∀ (d m i : Nat) (h : List Int), i + d = 64 → d < m → h.length = 64 → (∀ j, j < i → h[j]? = v[j]?) →
    rSig.L5 N ke m z v 64 (i : Int) h = ke z v 64 64 v := by
  intro d
  induction d with
  | zero =>
    intro m i h hi hm hl hj
    obtain ⟨m, rfl⟩ : ∃ k, m = k + 1 := ⟨m - 1, by omega⟩
    obtain rfl : i = 64 := by omega
    have : h = v := by
      apply List.ext_getElem?
      intro j
      by_cases hj' : j < 64
      · exact hj j hj'
      · rw [List.getElem?_eq_none (by omega), List.getElem?_eq_none (by omega)]
    subst this
    unfold rSig.L5
    rw [decide_eq_false (by omega), cond_false]
    rfl
  | succ d ih =>
    intro m i h hi hm hl hj
    obtain ⟨m, rfl⟩ : ∃ k, m = k + 1 := ⟨m - 1, by omega⟩
    unfold rSig.L5
    have hv' : ((v.length : Nat) : Int) = 64 := by rw [hv]; rfl
    rw [hv', decide_eq_true (by omega), cond_true, decide_eq_true (by omega), cond_true, cond_true, cond_true, cond_true, Int.toNat_natCast, wrap_i64z _ (by omega) (by omega)]
    refine ih m (i + 1) _ (by omega) (by omega) (by rw [List.length_set]; exact hl) fun j hji => ?_
    by_cases hij : j = i
    · subst hij
      rw [List.getElem?_set_self (by omega)]
      simp [List.getD, List.getElem?_eq_getElem (show j < v.length by omega)]
    · rw [List.getElem?_set_ne (by omega)]
      exact hj j (by omega)

theorem rSig_eq {R : Type} (N : Nat) (hN : 1000 < N) (z : Option Bool) (b : List Int) (r : List Int → Bool → Option R) : rSig.M N R z b r = cond ((b.length : Int) != 64) (r [0, 0, 0, 0, 0, 0, 0, 0, 0, 0, 0, 0, 0, 0, 0, 0, 0, 0, 0, 0, 0, 0, 0, 0, 0, 0, 0, 0, 0, 0, 0, 0, 0, 0, 0, 0, 0, 0, 0, 0, 0, 0, 0, 0, 0, 0, 0, 0, 0, 0, 0, 0, 0, 0, 0, 0, 0, 0, 0, 0, 0, 0, 0, 0] false) (r b true) := by
  show rSig.m N z b r = _
  unfold rSig.m
  by_cases h : b.length = 64
  · have e : ((b.length : Int) != 64) = false := by rw [h]; rfl
    have hv' : ((b.length : Nat) : Int) = 64 := by rw [h]; rfl
    rw [e, cond_false, cond_false, hv']
    exact rSig_loop N _ z b h 64 N 0 _ (by omega) (by omega) rfl (fun j hj => by omega)
  · have e : ((b.length : Int) != 64) = true := by rw [bne_iff_ne]; omega
    rw [e, cond_true, cond_true]

theorem nums_tail {R : Type} (N : Nat) (hN : 1000 < N) (z : Option Bool) (B : List Nat) (hx : ∀ x ∈ B, x < 256) (r : Bool → Option R) :
    (wToNum.M N R z (nn B)
             (fun v_c7 v_1_c8 => rToNum.M N R z (nn B)
              (fun v_c9 v_1_c10 => cond (v_c7 != v_c9)
               (r false)
               (Num.M N R v_1_c8
                (fun v_c11 => cond (v_c11 != v_1_c10)
                 (r false)
                 (wKey.M N R z (nn B)
                  (fun v_c12 v_1_c13 => rKey.M N R z (nn B)
                   (fun v_c14 v_1_c15 => wSig.M N R z (nn B)
                    (fun v_c16 v_1_c17 => rSig.M N R z (nn B)
                     (fun v_c18 v_1_c19 => cond (v_c12 == v_c14)
                      (cond (v_1_c13.beq 0 == v_1_c15)
                       (cond (v_c16 == v_c18)
                        (cond (v_1_c17.beq 0 == v_1_c19)
                         (cond v_1_c15
                          (cond v_1_c19
                           (r true)
                           (Num.M N R v_1_c17
                            (fun v_c20 => r (v_c20 == 4))))
                          (Num.M N R v_1_c13
                           (fun v_c21 => cond (v_c21 == 4)
                            (cond v_1_c19
                             (r true)
                             (Num.M N R v_1_c17
                              (fun v_c22 => r (v_c22 == 4))))
                            (r false))))
                         (r false))
                        (r false))
                       (r false))
                      (r false))))))))))) = r true := by
  have ne : ∀ x : Int, (x != x) = false := fun x => by simp
  rw [wToNum_eq N hN z B hx, rToNum_eq N hN z B hx, ne, cond_false, wNum_toN N (by omega), ne, cond_false, wKey_eq]
  have q40 : (Nat.beq 4 0 == false) = true := rfl
  have q00 : (Nat.beq 0 0 == true) = true := rfl
  have q44 : ((4 : Int) == 4) = true := rfl
  have n4 := fun f => wNum_4 (R := R) N (by omega) f
  by_cases h3 : ((nn B).length : Int) = 32
  · have e3 : (((nn B).length : Int) != 32) = false := by rw [h3]; rfl
    have e6 : (((nn B).length : Int) != 64) = true := by rw [h3]; rfl
    rw [e3, cond_false]
    simp only [rKey_eq N hN, e3, cond_false, wSig_eq, rSig_eq N hN, e6, cond_true, beq_self_eq_true, q40, q00, n4, q44]
  · have e3 : (((nn B).length : Int) != 32) = true := by rw [bne_iff_ne]; exact h3
    rw [e3, cond_true]
    by_cases h6 : ((nn B).length : Int) = 64
    · have e6 : (((nn B).length : Int) != 64) = false := by rw [h6]; rfl
      simp only [rKey_eq N hN, e3, wSig_eq, rSig_eq N hN, e6, cond_true, cond_false, beq_self_eq_true, q40, q00, n4, q44]
    · have e6 : (((nn B).length : Int) != 64) = true := by rw [bne_iff_ne]; exact h6
      simp only [rKey_eq N hN, e3, wSig_eq, rSig_eq N hN, e6, cond_true, cond_false, beq_self_eq_true, q40, q00, n4, q44]

theorem WireNums_true {R : Type} (N : Nat) (hN : 1000 < N) (n : Int) (z : Option Bool) (b : List Int) (hb : ∀ x ∈ b, 0 ≤ x ∧ x < 256) (r : Bool → Option R) :
    WireNums.M N R n z b r = r true := by
  show WireNums.m (alive16.M N) (wNum.M N) (wToNum.M N) (rNum.M N) (rToNum.M N) (Num.M N) (wKey.M N) (rKey.M N) (wSig.M N) (rSig.M N) N n z b r = _
  unfold WireNums.m
  rw [alive16_eq N hN, Bool.not_true, cond_false]
  by_cases hl : b.length ≤ 200
  · obtain ⟨B, rfl, hx⟩ := ex_nn b 256 hb
    have ht := nums_tail N hN z B hx r
    have hX := clamp_lt n
    have hdx : ∀ x ∈ (dig 256 8 (clampN n)).reverse, x < 256 := fun x h => dig_lt (by omega) 8 _ x (List.mem_reverse.1 h)
    have h8 : ((dig 256 8 (clampN n)).reverse).length = 8 := rfl
    have hh := hor_digs 8 (clampN n) (show clampN n < 18446744073709551616 by omega)
    have et : toN (dig 256 8 (clampN n)).reverse = (clampN n, 0) := by
      unfold toN
      rw [if_pos h8, hh, if_neg (by omega)]
    rw [decide_eq_false (by omega), cond_false, wNumB_eq N hN, wToNum_eq N hN none _ hdx, et, rNumB_eq N hN, beq_self_eq_true, Bool.not_true, cond_false]
    have e0 : (!Nat.beq (clampN n, 0).2 0) = false := rfl
    rw [e0, cond_false]
    by_cases h1 : n ≥ 0
    · rw [decide_eq_true h1, cond_true]
      by_cases h2 : n ≤ 4611686018427387903
      · have e1 : (((clampN n, 0).1 : Nat) : Int) = n := by
          show ((clampN n : Nat) : Int) = n
          unfold clampN
          rw [if_neg (by omega)]
          omega
        have ne : (n != n) = false := by simp
        rw [decide_eq_true h2, cond_true, e1, ne, cond_false]
        exact ht
      · rw [decide_eq_false h2, cond_false]
        exact ht
    · rw [decide_eq_false h1, cond_false]
      exact ht
  · rw [decide_eq_true (by omega), cond_true]

end Go.Proofs.YtbliikcgcgalmaaDoor.fn
