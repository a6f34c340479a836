/- What reading rows of texts comes to. -/
import Derived.Test.YthajoenmfppenaaDoorMWireA
import Derived.Test.YthajoenmfppenaaDoorMWireB
import Derived.Test.YthajoenmfppenaaDoorMSame
namespace Go.Proofs.YthajoenmfppenaaDoor.fn
open Go Go.Proofs Go.Ev Go.Dg

theorem wUnrow_eq {R : Type} (N : Nat) (hN : 1000 < N) (z : Option Bool) (B : List Nat) (hx : ∀ x ∈ B, x < 256) (r : List (List Int) → Nat → Option R) : wUnrow.M N R z (nn B) r = r (unR B).2 (unR B).1 := by
  show wUnrow.m (Big.M N) (Clone.M N) N z (nn B) r = _
  unfold wUnrow.m unR
  rw [nn_len]
  by_cases hl : B.length > 65536
  · rw [decide_eq_true (by omega), cond_true, if_pos hl]
  rw [decide_eq_false (by omega), cond_false, if_neg hl]
  obtain ⟨M, rfl⟩ : ∃ M, N = M + 1 := ⟨N - 1, by omega⟩
  cases B with
  | nil => rfl
  | cons b B =>
    have hbb := hx b (by simp)
    have hxB : ∀ x ∈ B, x < 256 := fun x h => hx x (by simp [h])
    have hlen : (b :: B).length = B.length + 1 := rfl
    have e0 : ((((b :: B).length : Nat) : Int) == 0) = false := by
      rw [beq_eq_false_iff_ne, hlen]; omega
    have e1 : (nn (b :: B)).getD 0 0 = (b : Int) := rfl
    have e2 : List.drop 1 (List.take (b :: B).length (nn (b :: B))) = nn B := by
      rw [List.take_of_length_le (by rw [nn_len]; exact Nat.le_refl _)]; rfl
    rw [e0, cond_false, e1, e2, decide_eq_true (by rw [hlen]; omega), cond_true, decide_eq_true (by rw [hlen]; omega), cond_true, wrap_i64z _ (by omega) (by omega), nn_len]
    have j0 : ∀ ke0 ke1 ke2, wUnrow.J1_0 (R := R) (Big.M (M + 1)) (Clone.M (M + 1)) (M + 1) ke0 ke1 ke2 (M + 1) = ke0 := fun _ _ _ => rfl
    have j1 : ∀ ke0 ke1 ke2, wUnrow.J1_1 (R := R) (Big.M (M + 1)) (Clone.M (M + 1)) (M + 1) ke0 ke1 ke2 (M + 1) z (nn B) true [] = cond (decide (((nn B).length : Int) > 0)) (ke1 z (nn B) true []) (ke2 z (nn B) true []) := fun _ _ _ => rfl
    simp only [j0, j1]
    cases b with
    | zero =>
      have e3 : ((((0 : Nat) : Int)) == 0) = true := rfl
      rw [e3, cond_true, nn_len]
      unfold unB
      by_cases hb : B.length = 0
      · rw [decide_eq_false (by omega), cond_false, if_pos hb]
      · rw [decide_eq_true (by omega), cond_true, if_neg hb]
    | succ n =>
      have e3 : ((((n + 1 : Nat) : Int)) == 0) = false := by
        rw [beq_eq_false_iff_ne]; omega
      rw [e3, cond_false]
      rw [hlen] at hl
      by_cases h4 : B.length < 4
      · have eu : unB (n + 1) B = (2, []) := by
          conv => lhs; unfold unB
          rw [if_pos h4]
        rw [decide_eq_true (by omega), cond_true, eu]
      · rw [decide_eq_false (by omega), cond_false, decide_eq_true (by omega), cond_true, List.drop_zero, nn_take, List.take_of_length_le (show (nn B).length ≤ B.length by rw [nn_len]; exact Nat.le_refl _), nn_drop]
        refine (Big_eq (M + 1) hN z (B.take 4) (by rw [List.length_take]; omega) (fun x hx' => hxB x (List.mem_of_mem_take hx')) _).trans ?_
        have eb : (!Nat.beq 0 0) = false := rfl
        rw [cond_true, eb, cond_false, nn_len]
        have hdl : (B.drop 4).length = B.length - 4 := List.length_drop
        rw [wrap_u64 _ (by omega)]
        by_cases h5 : (B.drop 4).length < hor 0 (B.take 4)
        · have eu : unB (n + 1) B = (2, []) := by
            conv => lhs; unfold unB
            rw [if_neg h4, if_pos h5]
          rw [decide_eq_true (by omega), cond_true, eu]
        · rw [decide_eq_false (by omega), cond_false, decide_eq_true (by omega), cond_true, decide_eq_true (by omega), cond_true, Int.toNat_natCast, List.drop_zero, nn_take]
          rw [Clone_le (M + 1) _ (by rw [nn_len, List.length_take]; omega), cond_true, cond_true, wrap_i64z _ (by omega) (by omega),
            List.take_of_length_le (show (nn (B.drop 4)).length ≤ (B.drop 4).length by rw [nn_len]; exact Nat.le_refl _), nn_drop]
          have en : (((n + 1 : Nat) : Int)) - 1 = (n : Int) := by omega
          have hcut : ∀ l : List Int, cut none 0 l = l := fun _ => rfl
          rw [en, hcut]
          refine (wU_loop (M + 1) hN _ _ _ r rfl (fun _ _ _ _ => rfl) (fun _ _ _ _ => rfl) n (M + 1) z ((B.drop 4).drop (hor 0 (B.take 4))) [nn ((B.drop 4).take (hor 0 (B.take 4)))] (by omega) (by omega) (by rw [List.length_singleton]; omega) (by rw [List.length_drop]; omega) (fun x hx' => hxB x (List.mem_of_mem_drop (List.mem_of_mem_drop hx')))).trans ?_
          obtain ⟨q1, q2⟩ := andT_step n B [] h4 h5
          rw [List.nil_append] at q1
          rw [q1, q2]
          show r (andT [] (unB (n + 1) B)) (unB (n + 1) B).1 = r (unB (n + 1) B).2 (unB (n + 1) B).1
          congr 1
          unfold andT
          by_cases h6 : (unB (n + 1) B).1 = 0
          · rw [if_pos h6, List.nil_append]
          · rw [if_neg h6, unB_none _ _ h6]

/-! ### the reference -/

theorem getN (B : List Nat) (i : Nat) : (nn B).getD i 0 = ((B.getD i 0 : Nat) : Int) := nn_getD B i
theorem dropN (B : List Nat) (i : Nat) (h : i < B.length) : B.drop i = B.getD i 0 :: B.drop (i + 1) := dropC B i 0 h

theorem rU_num {R : Type} (N : Nat) (ke : Option Bool → List Int → Int → Int → Int → Int → Bool → List (List Int) → Option R) (z : Option Bool) (B : List Nat) (at' : Nat) (i : Int) (nl : Bool) (acc : List (List Int)) (h4 : at' + 4 ≤ B.length) (hB : B.length ≤ 65536) (hx : ∀ x ∈ B, x < 256) :
    ∀ (d m k n : Nat), k + d = 4 → d < m → n < 256 ^ k → rUnrow.L14 N ke m z (nn B) (at' : Int) i (n : Int) (k : Int) nl acc = ke z (nn B) (at' : Int) i ((hor n ((B.drop (at' + k)).take d) : Nat) : Int) 4 nl acc := by
  intro d
  induction d with
  | zero =>
    intro m k n hk hm hn
    obtain ⟨m, rfl⟩ : ∃ k, m = k + 1 := ⟨m - 1, by omega⟩
    obtain rfl : k = 4 := by omega
    unfold rUnrow.L14
    rw [decide_eq_false (by omega), cond_false]
    rfl
  | succ d ih =>
    intro m k n hk hm hn
    obtain ⟨m, rfl⟩ : ∃ k, m = k + 1 := ⟨m - 1, by omega⟩
    have h3 : 256 ^ k ≤ 256 ^ 3 := Nat.pow_le_pow_right (by omega) (by omega)
    have h3 : 256 ^ k ≤ 16777216 := h3
    have hd := dropN B (at' + k) (by omega)
    have hmem : B.getD (at' + k) 0 ∈ B := by simp [List.getD, List.getElem?_eq_getElem (show at' + k < B.length by omega)]
    have hlt := hx _ hmem
    unfold rUnrow.L14
    have ea : ((at' : Nat) : Int) + ((k : Nat) : Int) = ((at' + k : Nat) : Int) := by omega
    rw [decide_eq_true (by omega), cond_true, ea, nn_len, wrap_i64z ((at' + k : Nat) : Int) (by omega) (by omega), decide_eq_true (by omega), cond_true, decide_eq_true (by omega), cond_true, Int.toNat_natCast, getN, hd]
    generalize B.getD (at' + k) 0 = c at *
    rw [wrap_i64z ((n : Int) * 256) (by omega) (by omega), wrap_i64z (c : Int) (by omega) (by omega), wrap_i64z _ (by omega) (by omega), wrap_i64z _ (by omega) (by omega)]
    have := ih m (k + 1) (n * 256 + c) (by omega) (by omega) (by rw [Nat.pow_succ]; omega)
    have e1 : (n : Int) * 256 + (c : Int) = ((n * 256 + c : Nat) : Int) := by omega
    have e2 : ((k : Nat) : Int) + 1 = ((k + 1 : Nat) : Int) := by omega
    rw [e1, e2, this]
    rfl

theorem rU_loop {R : Type} (N : Nat) (hN : 1000 < N) (ke0 : Option Bool → List Int → Int → Int → Bool → List (List Int) → Option R) (ke1 : Option Bool → List Int → Int → Int → Int → Int → Bool → List (List Int) → Option R)
    (ke2 : Option Bool → List Int → Int → Int → Bool → List (List Int) → Option R) (r : List (List Int) → Int → Option R) (z : Option Bool) (B : List Nat) (b0 : Nat) (hb0 : B.getD 0 0 = b0) (hbb : b0 < 256) (hpos : 0 < B.length) (hB : B.length ≤ 65536) (hx : ∀ x ∈ B, x < 256)
    (h0 : ∀ a b c d e f, ke0 a b c d e f = r [] 2) (h1 : ∀ a b c d e f g h, ke1 a b c d e f g h = r [] 2)
    (h2 : ∀ a c d e f, ke2 a (nn B) c d e f = cond (decide (c < (B.length : Int))) (r [] 4) (r f 0)) :
    ∀ (n m at' i : Nat) (nl : Bool) (acc : List (List Int)), i + n = b0 → n < m → acc.length + n ≤ 300 → at' ≤ B.length →
      rUnrow.L8 N ke0 ke1 ke2 m z (nn B) (at' : Int) (i : Int) nl acc = r (andT acc (unB n (B.drop at'))) (((unB n (B.drop at')).1 : Nat) : Int) := by
  intro n
  induction n with
  | zero =>
    intro m at' i nl acc hi hm ha hat
    obtain ⟨m, rfl⟩ : ∃ k, m = k + 1 := ⟨m - 1, by omega⟩
    unfold rUnrow.L8
    rw [nn_len, decide_eq_true (by omega), cond_true, getN, hb0, wrap_i64z (b0 : Int) (by omega) (by omega), decide_eq_false (by omega), cond_false, h2]
    unfold unB andT
    have hl : (B.drop at').length = B.length - at' := List.length_drop
    by_cases hb : (B.drop at').length = 0
    · rw [decide_eq_false (by omega), cond_false, if_pos hb, if_pos rfl, List.append_nil]; rfl
    · rw [decide_eq_true (by omega), cond_true, if_neg hb, if_neg (by decide)]; rfl
  | succ n ih =>
    intro m at' i nl acc hi hm ha hat
    obtain ⟨m, rfl⟩ : ∃ k, m = k + 1 := ⟨m - 1, by omega⟩
    have hl : (B.drop at').length = B.length - at' := List.length_drop
    unfold rUnrow.L8
    rw [nn_len, decide_eq_true (by omega), cond_true, getN, hb0, wrap_i64z (b0 : Int) (by omega) (by omega), decide_eq_true (by omega), cond_true, wrap_i64z _ (by omega) (by omega)]
    by_cases h4 : (B.drop at').length < 4
    · have eu : unB (n + 1) (B.drop at') = (2, []) := by
        conv => lhs; unfold unB
        rw [if_pos h4]
      rw [decide_eq_true (by omega), cond_true, h0, eu]
      rfl
    · rw [decide_eq_false (by omega), cond_false]
      refine (rU_num N _ z B at' (i : Int) nl acc (by omega) hB hx 4 N 0 0 (by omega) (by omega) (by decide)).trans ?_
      rw [Nat.add_zero]
      have ea : ((at' : Nat) : Int) + 4 = ((at' + 4 : Nat) : Int) := by omega
      have hdd : (B.drop at').drop 4 = B.drop (at' + 4) := by rw [List.drop_drop]
      have hdl : ((B.drop at').drop 4).length = B.length - (at' + 4) := by rw [hdd]; exact List.length_drop
      rw [nn_len, ea, wrap_i64z ((at' + 4 : Nat) : Int) (by omega) (by omega), wrap_i64z _ (by omega) (by omega)]
      by_cases h5 : ((B.drop at').drop 4).length < hor 0 ((B.drop at').take 4)
      · have eu : unB (n + 1) (B.drop at') = (2, []) := by
          conv => lhs; unfold unB
          rw [if_neg h4, if_pos h5]
        rw [decide_eq_true (by omega), cond_true, h1, eu]
        rfl
      · have eb : ((at' + 4 : Nat) : Int) + ((hor 0 ((B.drop at').take 4) : Nat) : Int) = ((at' + 4 + hor 0 ((B.drop at').take 4) : Nat) : Int) := by omega
        rw [decide_eq_false (by omega), cond_false, eb, wrap_i64z ((at' + 4 + hor 0 ((B.drop at').take 4) : Nat) : Int) (by omega) (by omega), decide_eq_true (by omega), cond_true, decide_eq_true (by omega), cond_true, decide_eq_true (by omega), cond_true, Int.toNat_natCast, Int.toNat_natCast,
          decide_eq_true (by omega), cond_true, nn_take, nn_drop, nn_len]
        have hll : (List.drop (at' + 4) (List.take (at' + 4 + hor 0 ((B.drop at').take 4)) B)).length ≤ B.length := by rw [List.length_drop, List.length_take]; omega
        rw [decide_eq_true (by omega), cond_true, decide_eq_true (by omega), cond_true, decide_eq_true (by omega), cond_true, decide_eq_true (by omega), cond_true, wrap_i64z _ (by omega) (by omega)]
        have et : List.drop (at' + 4) (List.take (at' + 4 + hor 0 ((B.drop at').take 4)) B) = ((B.drop at').drop 4).take (hor 0 ((B.drop at').take 4)) := by
          rw [hdd, List.drop_take]; congr 1; omega
        have hcut : ∀ l : List Int, cut none 0 ([] ++ l) = l := fun _ => rfl
        rw [et, hcut]
        have ei : ((i : Nat) : Int) + 1 = ((i + 1 : Nat) : Int) := by omega
        rw [ei]
        refine (ih m (at' + 4 + hor 0 ((B.drop at').take 4)) (i + 1) false _ (by omega) (by omega) (by rw [List.length_append, List.length_singleton]; omega) (by omega)).trans ?_
        obtain ⟨q1, q2⟩ := andT_step n (B.drop at') acc h4 h5
        have ed : B.drop (at' + 4 + hor 0 ((B.drop at').take 4)) = ((B.drop at').drop 4).drop (hor 0 ((B.drop at').take 4)) := by
          rw [hdd, List.drop_drop]
        rw [ed, q1, q2]

theorem rUnrow_eq {R : Type} (N : Nat) (hN : 1000 < N) (z : Option Bool) (B : List Nat) (hx : ∀ x ∈ B, x < 256) (r : List (List Int) → Int → Option R) : rUnrow.M N R z (nn B) r = r (unR B).2 (((unR B).1 : Nat) : Int) := by
  show rUnrow.m N z (nn B) r = _
  unfold rUnrow.m unR
  rw [nn_len]
  by_cases hl : B.length > 65536
  · rw [decide_eq_true (by omega), cond_true, if_pos hl]; rfl
  rw [decide_eq_false (by omega), cond_false, if_neg hl]
  cases B with
  | nil => rfl
  | cons b B =>
    have hbb := hx b (by simp)
    have hlen : (b :: B).length = B.length + 1 := rfl
    have e0 : ((((b :: B).length : Nat) : Int) == 0) = false := by
      rw [beq_eq_false_iff_ne, hlen]; omega
    rw [e0, cond_false]
    refine (rU_loop N hN _ _ _ r z (b :: B) b rfl hbb (by rw [hlen]; omega) (by omega) hx (fun _ _ _ _ _ _ => rfl) (fun _ _ _ _ _ _ _ _ => rfl) (fun a c d e f => by rw [nn_len]) b N 1 0 true [] (by omega) (by omega) (by simp; omega) (by rw [hlen]; omega)).trans ?_
    have ed : (b :: B).drop 1 = B := rfl
    rw [ed]
    congr 1
    unfold andT
    by_cases h6 : (unB b B).1 = 0
    · rw [if_pos h6, List.nil_append]
    · rw [if_neg h6, unB_none _ _ h6]

/-! ### lists that are the same -/

end Go.Proofs.YthajoenmfppenaaDoor.fn
