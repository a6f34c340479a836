/- What a number's text is. Printed by a program. -/
import Derived.Test.YthajoenmfppenaaDoorMRowN
namespace Go.Proofs.YthajoenmfppenaaDoor.fn
open Go Go.Proofs Go.Ev Go.Dg
def clampN (n : Int) : Nat := if n < 0 ∨ n > 4611686018427387903 then 0 else n.toNat
theorem wNumB_eq {R : Type} (N : Nat) (hN : 1000 < N) (n : Int) (r : List Int → Option R) : wNum.M N R n r = r (nn (dig 256 8 (clampN n)).reverse) := by
  show wNum.m (PutBig.M N) N n r = _
  unfold wNum.m clampN
  have p0 := fun a b => PutBig_eq (R := R) N hN 0 8 (by omega) (by omega) a b
  by_cases h1 : n < 0
  · rw [decide_eq_true h1, cond_true, if_pos (Or.inl h1)]
    exact p0 _ _
  · rw [decide_eq_false h1, cond_false]
    by_cases h2 : n > 4611686018427387903
    · rw [decide_eq_true h2, cond_true, if_pos (Or.inr h2)]
      exact p0 _ _
    · rw [decide_eq_false h2, cond_false, if_neg (by omega), wrap_u64z _ (by omega) (by omega)]
      have := PutBig_eq (R := R) N hN n.toNat 8 (by omega) (by omega)
      rw [show ((n.toNat : Nat) : Int) = n by omega] at this
      exact this _ _
theorem rNum_loop {R : Type} (N : Nat) (ke : Int → Int → List Int → Option R) : ∀ (d m X : Nat) (T : List Nat), d ≤ 8 → d < m → X ≤ 4611686018427387903 →
    ∃ X', rNum.L5 N ke m (X : Int) ((d : Int) - 1) (nn (List.replicate d 0 ++ T)) = ke X' (-1) (nn ((dig 256 d X).reverse ++ T)) := by
  intro d
  induction d with
  | zero =>
    intro m X T _ hm _
    obtain ⟨m, rfl⟩ : ∃ k, m = k + 1 := ⟨m - 1, by omega⟩
    exact ⟨X, rfl⟩
  | succ d ih =>
    intro m X T h8 hm hX
    obtain ⟨m, rfl⟩ : ∃ k, m = k + 1 := ⟨m - 1, by omega⟩
    obtain ⟨X', h⟩ := ih m (X / 256) (X % 256 :: T) (by omega) (by omega) (by omega)
    refine ⟨X', ?_⟩
    have e : dig 256 (d + 1) X = (X % 256) :: dig 256 d (X / 256) := rfl
    rw [e, List.reverse_cons, List.append_assoc]
    refine Eq.trans ?_ h
    conv => lhs; unfold rNum.L5
    have ed : ((d + 1 : Nat) : Int) - 1 = (d : Int) := by omega
    have hs : (nn (List.replicate (d + 1) 0 ++ T)).set d ((X % 256 : Nat) : Int) = nn (List.replicate d 0 ++ X % 256 :: T) := by
      rw [List.replicate_succ', List.append_assoc]
      exact app_set' (List.replicate d 0) 0 T (i := (d : Int)) (by rw [List.length_replicate]) (X % 256)
    have c256 : (256 : Int) = ((256 : Nat) : Int) := rfl
    rw [ed, decide_eq_true (show (d : Int) ≥ 0 by omega), cond_true, cond_true, olen0, nn_len, List.length_append, List.length_replicate, decide_eq_true (by omega), cond_true, Int.toNat_natCast, Nat.zero_add, c256, tdivN, tmodN, wrap_u8, Nat.mod_mod, hs, wrap_i64z _ (by omega) (by omega), wrap_i64z _ (by omega) (by omega)]
theorem rNumB_eq {R : Type} (N : Nat) (hN : 1000 < N) (n : Int) (r : List Int → Option R) : rNum.M N R n r = r (nn (dig 256 8 (clampN n)).reverse) := by
  show rNum.m N n r = _
  unfold rNum.m clampN
  have l := fun (X : Nat) hX => rNum_loop (R := R) N (fun _ _ h => r h) 8 N X [] (by omega) (by omega) hX
  have fin : ∀ (X : Nat), X ≤ 4611686018427387903 → rNum.L5 N (fun _ _ h => r h) N (X : Int) 7 [0, 0, 0, 0, 0, 0, 0, 0] = r (nn (dig 256 8 X).reverse) := by
    intro X hX
    obtain ⟨X', h⟩ := l X hX
    rw [List.append_nil, List.append_nil] at h
    exact h
  by_cases h1 : n < 0
  · rw [decide_eq_true h1, cond_true, if_pos (Or.inl h1)]
    exact fin 0 (by omega)
  · rw [decide_eq_false h1, cond_false]
    by_cases h2 : n > 4611686018427387903
    · rw [decide_eq_true h2, cond_true, if_pos (Or.inr h2)]
      exact fin 0 (by omega)
    · rw [decide_eq_false h2, cond_false, if_neg (by omega)]
      have := fin n.toNat (by omega)
      rw [show ((n.toNat : Nat) : Int) = n by omega] at this
      exact this
end Go.Proofs.YthajoenmfppenaaDoor.fn
