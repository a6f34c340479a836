/- Which rows of texts bytes are. -/
import Derived.Test.YthajoenmfppenaaDoorFnWire
import Derived.Test.YthajoenmfppenaaDoorFnWireR
import Derived.Test.YthajoenmfppenaaDoorMBig
namespace Go.Proofs.YthajoenmfppenaaDoor.fn
open Go Go.Proofs Go.Ev Go.Dg

/-- So many texts, out of bytes: the error's number, and the texts. -/
def unB : Nat → List Nat → Nat × List (List Int)
  | 0, B => if B.length = 0 then (0, []) else (4, [])
  | n + 1, B => if B.length < 4 then (2, []) else if (B.drop 4).length < hor 0 (B.take 4) then (2, []) else
      if (unB n ((B.drop 4).drop (hor 0 (B.take 4)))).1 = 0 then (0, nn ((B.drop 4).take (hor 0 (B.take 4))) :: (unB n ((B.drop 4).drop (hor 0 (B.take 4)))).2) else ((unB n ((B.drop 4).drop (hor 0 (B.take 4)))).1, [])

/-- A row of texts. -/
def unR (B : List Nat) : Nat × List (List Int) := if B.length > 65536 then (3, []) else match B with
  | [] => (2, [])
  | b :: B => unB b B

theorem unB_none : ∀ (n : Nat) (B : List Nat), (unB n B).1 ≠ 0 → (unB n B).2 = []
  | 0, B, h => by
    unfold unB at h ⊢
    split at h
    · exact absurd rfl h
    · rename_i hb; rw [if_neg hb]
  | n + 1, B, h => by
    unfold unB at h ⊢
    by_cases h1 : B.length < 4
    · rw [if_pos h1]
    · rw [if_neg h1] at h ⊢
      by_cases h2 : (B.drop 4).length < hor 0 (B.take 4)
      · rw [if_pos h2]
      · rw [if_neg h2] at h ⊢
        by_cases h3 : (unB n ((B.drop 4).drop (hor 0 (B.take 4)))).1 = 0
        · rw [if_pos h3] at h; exact absurd rfl h
        · rw [if_neg h3]

/-- What is handed back: the texts that are there, and those that follow. -/
def andT (acc : List (List Int)) (p : Nat × List (List Int)) : List (List Int) := if p.1 = 0 then acc ++ p.2 else []

theorem nn_take (B : List Nat) (k : Nat) : (nn B).take k = nn (B.take k) := by simp [nn, List.map_take]
theorem nn_drop (B : List Nat) (k : Nat) : (nn B).drop k = nn (B.drop k) := by simp [nn, List.map_drop]
theorem nn_len (B : List Nat) : (nn B).length = B.length := by simp [nn]

theorem andT_step (n : Nat) (B : List Nat) (acc : List (List Int)) (h1 : ¬ B.length < 4) (h2 : ¬ (B.drop 4).length < hor 0 (B.take 4)) :
    andT (acc ++ [nn ((B.drop 4).take (hor 0 (B.take 4)))]) (unB n ((B.drop 4).drop (hor 0 (B.take 4)))) = andT acc (unB (n + 1) B) ∧ (unB n ((B.drop 4).drop (hor 0 (B.take 4)))).1 = (unB (n + 1) B).1 := by
  have e : unB (n + 1) B = if (unB n ((B.drop 4).drop (hor 0 (B.take 4)))).1 = 0 then (0, nn ((B.drop 4).take (hor 0 (B.take 4))) :: (unB n ((B.drop 4).drop (hor 0 (B.take 4)))).2) else ((unB n ((B.drop 4).drop (hor 0 (B.take 4)))).1, []) := by
    conv => lhs; unfold unB
    rw [if_neg h1, if_neg h2]
  rw [e]
  unfold andT
  by_cases h3 : (unB n ((B.drop 4).drop (hor 0 (B.take 4)))).1 = 0
  · rw [if_pos h3, if_pos h3, if_pos rfl]
    exact ⟨by simp, h3⟩
  · rw [if_neg h3, if_neg h3, if_neg h3]
    exact ⟨rfl, rfl⟩

theorem Clone_le {R : Type} (N : Nat) (l : List Int) (h : l.length ≤ 1000000) (k : Option R) : Clone.M N R l k = k := by
  show cond (Clone.big l) k none = k
  unfold Clone.big
  rw [decide_eq_true h]; rfl

theorem wU_loop {R : Type} (N : Nat) (hN : 1000 < N) (ke0 : Option R) (ke1 ke2 : Option Bool → List Int → Bool → List (List Int) → Option R) (r : List (List Int) → Nat → Option R)
    (h0 : ke0 = r [] 2) (h1 : ∀ a b c d, ke1 a b c d = r [] 4) (h2 : ∀ a b c d, ke2 a b c d = r d 0) :
    ∀ (n m : Nat) (z : Option Bool) (B : List Nat) (acc : List (List Int)), n + 1 < m → n ≤ 255 → acc.length + n ≤ 300 → B.length ≤ 65536 → (∀ x ∈ B, x < 256) →
      wUnrow.J1_2 (Big.M N) (Clone.M N) N ke0 ke1 ke2 m z (nn B) (n : Int) acc = r (andT acc (unB n B)) (unB n B).1 := by
  intro n
  induction n with
  | zero =>
    intro m z B acc hm hn ha hB hx
    obtain ⟨m, rfl⟩ : ∃ k, m = k + 2 := ⟨m - 2, by omega⟩
    unfold wUnrow.J1_2
    have e0 : ((((0 : Nat) : Int)) == 0) = true := rfl
    rw [e0, cond_true]
    show cond (decide (((nn B).length : Int) > 0)) (ke1 z (nn B) false acc) (ke2 z (nn B) false acc) = _
    rw [nn_len]
    unfold unB andT
    by_cases hb : B.length = 0
    · rw [decide_eq_false (by omega), cond_false, h2, if_pos hb, if_pos rfl, List.append_nil]
    · rw [decide_eq_true (by omega), cond_true, h1, if_neg hb, if_neg (by decide)]
  | succ n ih =>
    intro m z B acc hm hn ha hB hx
    obtain ⟨m, rfl⟩ : ∃ k, m = k + 2 := ⟨m - 2, by omega⟩
    have j0 : wUnrow.J1_0 (Big.M N) (Clone.M N) N ke0 ke1 ke2 (m + 1) = r [] 2 := by
      unfold wUnrow.J1_0; exact h0
    unfold wUnrow.J1_2
    have e0 : ((((n + 1 : Nat) : Int)) == 0) = false := by
      rw [beq_eq_false_iff_ne]; omega
    rw [e0, cond_false, nn_len, j0]
    by_cases h4 : B.length < 4
    · have eu : unB (n + 1) B = (2, []) := by
        conv => lhs; unfold unB
        rw [if_pos h4]
      rw [decide_eq_true (by omega), cond_true, eu]
      rfl
    · rw [decide_eq_false (by omega), cond_false, decide_eq_true (by omega), cond_true, List.drop_zero, nn_take, List.take_of_length_le (show (nn B).length ≤ B.length by rw [nn_len]; exact Nat.le_refl _), nn_drop]
      refine (Big_eq N hN z (B.take 4) (by rw [List.length_take]; omega) (fun x hx' => hx x (List.mem_of_mem_take hx')) _).trans ?_
      have eb : (!Nat.beq 0 0) = false := rfl
      rw [cond_true, eb, cond_false, nn_len]
      have hdl : (B.drop 4).length = B.length - 4 := List.length_drop
      rw [wrap_u64 _ (by omega)]
      by_cases h5 : (B.drop 4).length < hor 0 (B.take 4)
      · have eu : unB (n + 1) B = (2, []) := by
          conv => lhs; unfold unB
          rw [if_neg h4, if_pos h5]
        rw [decide_eq_true (by omega), cond_true, eu]
        rfl
      · rw [decide_eq_false (by omega), cond_false, decide_eq_true (by omega), cond_true, decide_eq_true (by omega), cond_true, Int.toNat_natCast, List.drop_zero, nn_take]
        rw [Clone_le N _ (by rw [nn_len, List.length_take]; omega), decide_eq_true (by omega), cond_true, decide_eq_true (by omega), cond_true, cond_true, cond_true, wrap_i64z _ (by omega) (by omega),
          List.take_of_length_le (show (nn (B.drop 4)).length ≤ (B.drop 4).length by rw [nn_len]; exact Nat.le_refl _), nn_drop]
        have en : (((n + 1 : Nat) : Int)) - 1 = (n : Int) := by omega
        have hcut : ∀ l : List Int, cut none 0 l = l := fun _ => rfl
        rw [en, hcut]
        refine (ih (m + 1) z _ _ (by omega) (by omega) (by rw [List.length_append, List.length_singleton]; omega) (by rw [List.length_drop]; omega) (fun x hx' => hx x (List.mem_of_mem_drop (List.mem_of_mem_drop hx')))).trans ?_
        obtain ⟨q1, q2⟩ := andT_step n B acc h4 h5
        rw [q1, q2]

end Go.Proofs.YthajoenmfppenaaDoor.fn
