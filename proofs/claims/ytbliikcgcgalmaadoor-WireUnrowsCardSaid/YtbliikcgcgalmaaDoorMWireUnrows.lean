/- What reading rows of texts out of a row of one's own comes to, and the law. -/
import Derived.Test.YtbliikcgcgalmaaDoorMWireD
import Derived.Test.YtbliikcgcgalmaaDoorMKept
import Derived.Test.YtbliikcgcgalmaaDoorFnWireUnrows
namespace Go.Proofs.YtbliikcgcgalmaaDoor.fn
open Go Go.Proofs Go.Ev Go.Dg

theorem olen_some (n a b : Nat) : olen (some n) a b = n := rfl
theorem dsub (C : List Nat) (p q k : Nat) : ((C.drop p).take q).drop k = (C.drop (p + k)).take (q - k) := by
  rw [List.drop_take, List.drop_drop]
theorem tsub (C : List Nat) (p q k : Nat) (h : k ≤ q) : ((C.drop p).take q).take k = (C.drop p).take k := by
  rw [List.take_take, Nat.min_eq_left h]
theorem cut_nn (C : List Nat) (p k : Nat) : cut (some k) p (nn C) = nn ((C.drop p).take k) := by
  show ((nn C).drop p).take k = _
  rw [nn_drop, nn_take]
theorem mem_dt {C : List Nat} {p q : Nat} (hx : ∀ x ∈ C, x < 256) : ∀ x ∈ (C.drop p).take q, x < 256 := fun x h => hx x (List.mem_of_mem_drop (List.mem_of_mem_take h))
theorem len_dt (C : List Nat) (p q : Nat) (h : p + q ≤ C.length) : ((C.drop p).take q).length = q := by rw [List.length_take, List.length_drop]; omega

theorem wU2_loop {R : Type} (N : Nat) (hN : 1000 < N) (ke0 : Bool → List Int → Option R) (ke1 ke2 : Nat → Nat → Bool → List Int → Bool → List (List Int) → Option R) (r : List (List Int) → Nat → Bool → List Int → Option R)
    (h0 : ∀ z l, ke0 z l = r [] 2 z l) (h1 : ∀ a b z l c d, ke1 a b z l c d = r [] 4 z l) (h2 : ∀ a b z l c d, ke2 a b z l c d = r d 0 z l) (C : List Nat) (hC : C.length ≤ 70000) (hx : ∀ x ∈ C, x < 256) (z : Bool) :
    ∀ (n m p q : Nat) (acc : List (List Int)), n + 1 < m → n ≤ 255 → acc.length + n ≤ 300 → p + q ≤ C.length →
      wUnrow2.J1_2 (Big.M N) (Clone.M N) N ke0 ke1 ke2 m p q (n : Int) z (nn C) acc = r (andT acc (unB n ((C.drop p).take q))) (unB n ((C.drop p).take q)).1 z (nn C) := by
  intro n
  induction n with
  | zero =>
    intro m p q acc hm hn ha hpq
    obtain ⟨m, rfl⟩ : ∃ k, m = k + 2 := ⟨m - 2, by omega⟩
    unfold wUnrow2.J1_2
    have e0 : ((((0 : Nat) : Int)) == 0) = true := rfl
    rw [e0, cond_true]
    show cond (decide ((q : Int) > 0)) (ke1 p q z (nn C) false acc) (ke2 p q z (nn C) false acc) = _
    unfold unB andT
    rw [len_dt C p q hpq]
    by_cases hb : q = 0
    · rw [decide_eq_false (by omega), cond_false, h2, if_pos hb, if_pos rfl, List.append_nil]
    · rw [decide_eq_true (by omega), cond_true, h1, if_neg hb, if_neg (by decide)]
  | succ n ih =>
    intro m p q acc hm hn ha hpq
    obtain ⟨m, rfl⟩ : ∃ k, m = k + 2 := ⟨m - 2, by omega⟩
    have j0 : wUnrow2.J1_0 (Big.M N) (Clone.M N) N ke0 ke1 ke2 (m + 1) z (nn C) = r [] 2 z (nn C) := by
      unfold wUnrow2.J1_0; exact h0 _ _
    unfold wUnrow2.J1_2
    have e0 : ((((n + 1 : Nat) : Int)) == 0) = false := by
      rw [beq_eq_false_iff_ne]; omega
    have hl := len_dt C p q hpq
    rw [e0, cond_false, j0]
    simp only [olen_some, nn_len, Nat.add_zero, cut_nn]
    by_cases h4 : q < 4
    · have eu : unB (n + 1) ((C.drop p).take q) = (2, []) := by
        conv => lhs; unfold unB
        rw [if_pos (by omega)]
      rw [decide_eq_true (by omega), cond_true, eu]
      rfl
    · rw [decide_eq_false (by omega), cond_false, decide_eq_true (by omega), cond_true]
      have t4 := tsub C p q 4 (by omega)
      have d4 := dsub C p q 4
      have hdl : (((C.drop p).take q).drop 4).length = q - 4 := by rw [List.length_drop, hl]
      refine (Big_eq N hN none ((C.drop p).take 4) (by rw [List.length_take]; omega) (mem_dt hx) _).trans ?_
      have eb : (!Nat.beq 0 0) = false := rfl
      rw [decide_eq_true (by omega), cond_true, eb, cond_false, wrap_u64 _ (by omega)]
      by_cases h5 : q - 4 < hor 0 ((C.drop p).take 4)
      · have eu : unB (n + 1) ((C.drop p).take q) = (2, []) := by
          conv => lhs; unfold unB
          rw [if_neg (by omega), t4, hdl, if_pos h5]
        rw [decide_eq_true (by omega), cond_true, eu]
        rfl
      · have h4' : ¬ ((C.drop p).take q).length < 4 := by omega
        have h5' : ¬ (((C.drop p).take q).drop 4).length < hor 0 (((C.drop p).take q).take 4) := by rw [hdl, t4]; exact h5
        rw [decide_eq_false (by omega), cond_false, decide_eq_true (by omega), cond_true, decide_eq_true (by omega), cond_true, Int.toNat_natCast]
        rw [Clone_le N _ (by rw [nn_len, List.length_take, List.length_drop]; omega), decide_eq_true (by omega), cond_true, decide_eq_true (by omega), cond_true, cond_true, decide_eq_true (by omega), cond_true, wrap_i64z _ (by omega) (by omega)]
        have en : (((n + 1 : Nat) : Int)) - 1 = (n : Int) := by omega
        have hcut : ∀ l : List Int, cut none 0 l = l := fun _ => rfl
        rw [en, hcut]
        refine (ih (m + 1) _ _ _ (by omega) (by omega) (by rw [List.length_append, List.length_singleton]; omega) (by omega)).trans ?_
        obtain ⟨q1, q2⟩ := andT_step n ((C.drop p).take q) acc h4' h5'
        rw [t4] at q1 q2
        have e1 : (((C.drop p).take q).drop 4).take (hor 0 ((C.drop p).take 4)) = (C.drop (p + 4)).take (hor 0 ((C.drop p).take 4)) := by
          rw [d4, tsub C (p + 4) (q - 4) _ (by omega)]
        have e2 : (((C.drop p).take q).drop 4).drop (hor 0 ((C.drop p).take 4)) = (C.drop (p + 4 + hor 0 ((C.drop p).take 4))).take (q - 4 - hor 0 ((C.drop p).take 4)) := by
          rw [d4, dsub]
        rw [e1, e2] at q1
        rw [e2] at q2
        rw [q1, q2]

theorem wUnrow2_eq {R : Type} (N : Nat) (hN : 1000 < N) (B S : List Nat) (hB : B.length ≤ 5000) (hS : S.length = 6) (hx : ∀ x ∈ B ++ S, x < 256) (z : Bool) (r : List (List Int) → Nat → Bool → List Int → Option R) :
    wUnrow2.M N R 0 (some B.length) z (nn (B ++ S)) r = r (unR B).2 (unR B).1 z (nn (B ++ S)) := by
  show wUnrow2.m (Big.M N) (Clone.M N) N 0 (some B.length) z (nn (B ++ S)) r = _
  unfold wUnrow2.m unR
  rw [if_neg (show ¬ B.length > 65536 by omega)]
  repeat rw [olen_some]
  rw [decide_eq_false (by omega), cond_false]
  obtain ⟨M, rfl⟩ : ∃ M, N = M + 1 := ⟨N - 1, by omega⟩
  cases B with
  | nil => rfl
  | cons b B =>
    generalize hCd : (b :: B) ++ S = C at *
    have hCl : C.length = B.length + 7 := by rw [← hCd, List.length_append, hS]; show B.length + 1 + 6 = _; omega
    have hlen : (b :: B).length = B.length + 1 := rfl
    have hbb := hx b (by rw [← hCd]; simp)
    have hD : (C.drop 1).take B.length = B := by rw [← hCd]; exact List.take_left' rfl
    have e0 : ((((b :: B).length : Nat) : Int) == 0) = false := by
      rw [beq_eq_false_iff_ne, hlen]; omega
    have e1 : (nn C).getD (0 + 0) 0 = (b : Int) := by rw [← hCd]; rfl
    rw [hlen] at hB
    rw [e0, cond_false, e1, decide_eq_true (by rw [hlen]; omega), cond_true, decide_eq_true (by rw [hlen]; omega), cond_true, wrap_i64z _ (by omega) (by omega)]
    have hl1 : (b :: B).length - 1 = B.length := rfl
    rw [hl1]
    simp only [Nat.zero_add, nn_len, Nat.add_zero, cut_nn]
    have j0 : ∀ ke0 ke1 ke2, wUnrow2.J1_0 (R := R) (Big.M (M + 1)) (Clone.M (M + 1)) (M + 1) ke0 ke1 ke2 (M + 1) z (nn C) = ke0 z (nn C) := fun _ _ _ => rfl
    have j1 : ∀ ke0 ke1 ke2, wUnrow2.J1_1 (R := R) (Big.M (M + 1)) (Clone.M (M + 1)) (M + 1) ke0 ke1 ke2 (M + 1) 1 B.length z (nn C) true [] = cond (decide ((B.length : Int) > 0)) (ke1 1 B.length z (nn C) true []) (ke2 1 B.length z (nn C) true []) := fun _ _ _ => rfl
    simp only [j0, j1]
    cases b with
    | zero =>
      have e3 : ((((0 : Nat) : Int)) == 0) = true := rfl
      rw [e3, cond_true]
      unfold unB
      by_cases hb : B.length = 0
      · rw [decide_eq_false (by omega), cond_false, if_pos hb]
      · rw [decide_eq_true (by omega), cond_true, if_neg hb]
    | succ n =>
      have e3 : ((((n + 1 : Nat) : Int)) == 0) = false := by
        rw [beq_eq_false_iff_ne]; omega
      rw [e3, cond_false]
      by_cases h4 : B.length < 4
      · have eu : unB (n + 1) B = (2, []) := by
          conv => lhs; unfold unB
          rw [if_pos h4]
        rw [decide_eq_true (by omega), cond_true, eu]
      · have t4 : (C.drop 1).take 4 = B.take 4 := by rw [← tsub C 1 B.length 4 (by omega), hD]
        have hdl : (B.drop 4).length = B.length - 4 := List.length_drop
        rw [decide_eq_false (by omega), cond_false, decide_eq_true (by omega), cond_true, t4]
        refine (Big_eq (M + 1) hN none (B.take 4) (by rw [List.length_take]; omega) (by rw [← t4]; exact mem_dt hx) _).trans ?_
        have eb : (!Nat.beq 0 0) = false := rfl
        rw [decide_eq_true (by omega), cond_true, eb, cond_false, wrap_u64 _ (by omega)]
        by_cases h5 : (B.drop 4).length < hor 0 (B.take 4)
        · have eu : unB (n + 1) B = (2, []) := by
            conv => lhs; unfold unB
            rw [if_neg h4, if_pos h5]
          rw [decide_eq_true (by omega), cond_true, eu]
        · rw [decide_eq_false (by omega), cond_false, decide_eq_true (by omega), cond_true, decide_eq_true (by omega), cond_true, Int.toNat_natCast]
          rw [Clone_le (M + 1) _ (by rw [nn_len, List.length_take, List.length_drop]; omega), cond_true, decide_eq_true (by omega), cond_true, wrap_i64z _ (by omega) (by omega)]
          have en : (((n + 1 : Nat) : Int)) - 1 = (n : Int) := by omega
          have hcut : ∀ l : List Int, cut none 0 l = l := fun _ => rfl
          rw [en, hcut]
          refine (wU2_loop (M + 1) hN _ _ _ r (fun _ _ => rfl) (fun _ _ _ _ _ _ => rfl) (fun _ _ _ _ _ _ => rfl) C (by omega) hx z n (M + 1) _ _ _ (by omega) (by omega) (by rw [List.length_singleton]; omega) (by omega)).trans ?_
          obtain ⟨q1, q2⟩ := andT_step n B [] h4 h5
          rw [List.nil_append] at q1
          have e5 : (C.drop (1 + 4)).take (hor 0 (B.take 4)) = (B.drop 4).take (hor 0 (B.take 4)) := by
            rw [← tsub C (1 + 4) (B.length - 4) _ (by omega), ← dsub, hD]
          have e6 : (C.drop (1 + 4 + hor 0 (B.take 4))).take (B.length - 4 - hor 0 (B.take 4)) = (B.drop 4).drop (hor 0 (B.take 4)) := by
            rw [← dsub, ← dsub, hD]
          rw [e5, e6, q1, q2]
          show r (andT [] (unB (n + 1) B)) (unB (n + 1) B).1 z (nn C) = r (unB (n + 1) B).2 (unB (n + 1) B).1 z (nn C)
          congr 1
          unfold andT
          by_cases h6 : (unB (n + 1) B).1 = 0
          · rw [if_pos h6, List.nil_append]
          · rw [if_neg h6, unB_none _ _ h6]

/-! ### the law -/

theorem dig4 (l : List Nat) (hl : l.length = 4) (hx : ∀ x ∈ l, x < 256) : (dig 256 4 (hor 0 l)).reverse = l ∧ hor 0 l < 4294967296 := by
  match l, hl with
  | [a, b, c, d], _ =>
    have ha := hx a (by simp)
    have hb := hx b (by simp)
    have hc := hx c (by simp)
    have hd := hx d (by simp)
    have e : hor 0 [a, b, c, d] = ((0 * 256 + a) * 256 + b) * 256 * 256 + c * 256 + d := by
      show (((0 * 256 + a) * 256 + b) * 256 + c) * 256 + d = _
      omega
    rw [e]
    refine ⟨?_, by omega⟩
    show [(((0 * 256 + a) * 256 + b) * 256 * 256 + c * 256 + d) / 256 / 256 / 256 % 256, (((0 * 256 + a) * 256 + b) * 256 * 256 + c * 256 + d) / 256 / 256 % 256, (((0 * 256 + a) * 256 + b) * 256 * 256 + c * 256 + d) / 256 % 256, (((0 * 256 + a) * 256 + b) * 256 * 256 + c * 256 + d) % 256] = _
    congr 1
    · omega
    congr 1
    · omega
    congr 1
    · omega
    congr 1
    omega

/-- What is read is what was written. -/
theorem unB_back : ∀ (n : Nat) (B : List Nat), (∀ x ∈ B, x < 256) → (unB n B).1 = 0 → ∃ L : List (List Nat), (unB n B).2 = L.map nn ∧ L.length = n ∧ bodyN L = B ∧ ∀ t ∈ L, ∀ x ∈ t, x < 256
  | 0, B, hx, h => by
    unfold unB at h ⊢
    by_cases hb : B.length = 0
    · rw [if_pos hb]
      exact ⟨[], rfl, rfl, (List.eq_nil_of_length_eq_zero hb).symm, fun t ht => by simp at ht⟩
    · rw [if_neg hb] at h; exact absurd h (by decide)
  | n + 1, B, hx, h => by
    unfold unB at h ⊢
    by_cases h1 : B.length < 4
    · rw [if_pos h1] at h; exact absurd h (by decide)
    · rw [if_neg h1] at h ⊢
      by_cases h2 : (B.drop 4).length < hor 0 (B.take 4)
      · rw [if_pos h2] at h; exact absurd h (by decide)
      · rw [if_neg h2] at h ⊢
        by_cases h3 : (unB n ((B.drop 4).drop (hor 0 (B.take 4)))).1 = 0
        · rw [if_pos h3]
          obtain ⟨L, e1, e2, e3, e4⟩ := unB_back n _ (fun x h => hx x (List.mem_of_mem_drop (List.mem_of_mem_drop h))) h3
          refine ⟨(B.drop 4).take (hor 0 (B.take 4)) :: L, by rw [e1]; rfl, by rw [List.length_cons, e2], ?_, fun t ht => ?_⟩
          · have hlen : ((B.drop 4).take (hor 0 (B.take 4))).length = hor 0 (B.take 4) := by rw [List.length_take]; omega
            show ((dig 256 4 ((B.drop 4).take (hor 0 (B.take 4))).length).reverse ++ (B.drop 4).take (hor 0 (B.take 4))) ++ bodyN L = B
            rw [hlen, (dig4 (B.take 4) (by rw [List.length_take]; omega) (fun x h => hx x (List.mem_of_mem_take h))).1, e3, List.append_assoc, List.take_append_drop, List.take_append_drop]
          · rcases List.mem_cons.1 ht with rfl | ht
            · exact fun x h => hx x (List.mem_of_mem_drop (List.mem_of_mem_take h))
            · exact e4 t ht
        · rw [if_neg h3] at h; exact absurd h h3

theorem unR_back (B : List Nat) (hx : ∀ x ∈ B, x < 256) (h : (unR B).1 = 0) : ∃ L : List (List Nat), (unR B).2 = L.map nn ∧ rowN L = B ∧ L.length ≤ 255 ∧ (∀ t ∈ L, ∀ x ∈ t, x < 256) ∧ B.length ≤ 65536 := by
  unfold unR at h ⊢
  by_cases hl : B.length > 65536
  · rw [if_pos hl] at h; exact absurd h (by decide)
  · rw [if_neg hl] at h ⊢
    cases B with
    | nil => exact absurd h (by decide)
    | cons b B =>
      obtain ⟨L, e1, e2, e3, e4⟩ := unB_back b B (fun x h => hx x (by simp [h])) h
      have := hx b (by simp)
      exact ⟨L, e1, by show L.length :: bodyN L = _; rw [e2, e3], by omega, e4, by omega⟩

theorem unB_by : ∀ (n : Nat) (B : List Nat), (∀ x ∈ B, x < 256) → (∀ t ∈ (unB n B).2, ∀ x ∈ t, 0 ≤ x ∧ x < 256) ∧ (unB n B).2.length ≤ n := by
  intro n B hx
  by_cases h : (unB n B).1 = 0
  · obtain ⟨L, e1, e2, _, e4⟩ := unB_back n B hx h
    rw [e1, List.length_map, e2]
    exact ⟨rows_by e4, Nat.le_refl _⟩
  · rw [unB_none n B h]
    exact ⟨fun t ht => by simp at ht, Nat.zero_le _⟩

theorem unR_by (B : List Nat) (hx : ∀ x ∈ B, x < 256) : (∀ t ∈ (unR B).2, ∀ x ∈ t, 0 ≤ x ∧ x < 256) ∧ (unR B).2.length ≤ 255 := by
  unfold unR
  by_cases hl : B.length > 65536
  · rw [if_pos hl]; exact ⟨fun t ht => by simp at ht, Nat.zero_le _⟩
  · rw [if_neg hl]
    cases B with
    | nil => exact ⟨fun t ht => by simp at ht, Nat.zero_le _⟩
    | cons b B =>
      obtain ⟨h1, h2⟩ := unB_by b B (fun x h => hx x (by simp [h]))
      have := hx b (by simp)
      exact ⟨h1, by show (unB b B).2.length ≤ 255; omega⟩

theorem unB_num : ∀ (n : Nat) (B : List Nat), (unB n B).1 = 0 ∨ (unB n B).1 = 2 ∨ (unB n B).1 = 4
  | 0, B => by
    unfold unB
    split
    · exact .inl rfl
    · exact .inr (.inr rfl)
  | n + 1, B => by
    unfold unB
    split
    · exact .inr (.inl rfl)
    · split
      · exact .inr (.inl rfl)
      · split
        · exact .inl rfl
        · exact unB_num n _
theorem wNum_unR {R : Type} (N : Nat) (hN : 30 ≤ N) (B : List Nat) (r : Int → Option R) : Num.M N R (unR B).1 r = r ((unR B).1 : Nat) := by
  have h : (unR B).1 = 0 ∨ (unR B).1 = 2 ∨ (unR B).1 = 4 ∨ (unR B).1 = 3 := by
    unfold unR
    split
    · exact .inr (.inr (.inr rfl))
    · cases B with
      | nil => exact .inr (.inl rfl)
      | cons b B =>
        rcases unB_num b B with q | q | q
        · exact .inl q
        · exact .inr (.inl q)
        · exact .inr (.inr (.inl q))
  rcases h with q | q | q | q <;> rw [q]
  · exact wNum_0 N hN r
  · exact wNum_2 N hN r
  · exact wNum_4 N hN r
  · exact wNum_3 N hN r

theorem WireUnrows_true {R : Type} (N : Nat) (hN : 1000 < N) (z : Option Bool) (b : List Int) (hb : ∀ x ∈ b, 0 ≤ x ∧ x < 256) (r : Bool → Option R) :
    WireUnrows.M N R z b r = r true := by
  show WireUnrows.m (alive16.M N) (Bytes.M N) (wUnrow2.M N) (rUnrow.M N) (SameLists.M N) (Num.M N) (Kept.M N) (wRow.M N) N z b r = _
  unfold WireUnrows.m
  rw [alive16_eq N hN, Bool.not_true, cond_false]
  by_cases hl : b.length ≤ 3000
  · obtain ⟨B, rfl, hx⟩ := ex_nn b 256 hb
    have hlB := nn_len B
    rw [decide_eq_false (by omega), cond_false, Bytes_eq N z _ (by omega), hlB]
    have hm : nn B ++ marks = nn (B ++ [201, 202, 203, 204, 205, 206]) := by simp [nn, marks]
    rw [hm]
    have hxS : ∀ x ∈ B ++ [201, 202, 203, 204, 205, 206], x < 256 := by
      intro x h
      rcases List.mem_append.1 h with h | h
      · exact hx x h
      · simp at h; omega
    refine (wUnrow2_eq N hN B _ (by omega) rfl hxS false _).trans ?_
    have t1 : ∀ k : Nat, (true && false == false && k.beq k && true) = true := by
      intro k
      have : Nat.beq k k = true := Nat.beq_refl k
      rw [this]; rfl
    obtain ⟨u1, u2⟩ := unR_by B hx
    rw [t1, cond_true, rUnrow_eq N hN z B hx, SameLists_eq N _ _ (by omega) (by omega) u1 u1, decide_eq_true rfl, Bool.not_true, cond_false, wNum_unR N (by omega)]
    have ne : ∀ x : Int, (x != x) = false := fun x => by simp
    rw [ne, cond_false, ← hm, ← hlB, Kept_eq N z _ _ (by omega), t1, cond_true, Bool.not_true, cond_false]
    by_cases h : (unR B).1 = 0
    · obtain ⟨L, e1, e2, e3, e4, e5⟩ := unR_back B hx h
      have e0 : ((((0 : Nat)) : Int) != 0) = false := rfl
      rw [h, e0, cond_false, e1]
      have hfit : fitsR (L.map nn) = true := by
        unfold fitsR
        rw [rowB_nn, nn_len, e2, List.length_map, decide_eq_true e3, decide_eq_true e5]; rfl
      have hb' : ∀ (l : List (List Nat)) t, t ∈ l → t.length ≤ (bodyN l).length := by
        intro l
        induction l with
        | nil => intro t ht; simp at ht
        | cons a l ih =>
          intro t ht
          have : (bodyN (a :: l)).length = ((dig 256 4 a.length).reverse.length + a.length) + (bodyN l).length := by
            show (((dig 256 4 a.length).reverse ++ a) ++ bodyN l).length = _
            rw [List.length_append, List.length_append]
          rcases List.mem_cons.1 ht with rfl | ht
          · omega
          · have := ih t ht; omega
      have hlen : (bodyN L).length + 1 = B.length := by rw [← e2]; rfl
      rw [wRow_eq N hN _ (by
        intro t ht
        obtain ⟨T, hT, rfl⟩ := List.mem_map.1 ht
        have := hb' L T hT
        rw [nn_len]; omega), hfit, cond_true, rowB_nn, e2]
      have e6 : Nat.beq 0 0 = true := rfl
      rw [e6, cond_true, beq_self_eq_true]
    · have e0 : ((((unR B).1 : Nat) : Int) != 0) = true := by rw [bne_iff_ne]; omega
      rw [e0, cond_true]
  · rw [decide_eq_true (by omega), cond_true]

end Go.Proofs.YtbliikcgcgalmaaDoor.fn
