/- What the rows' law says is so. -/
import Derived.Test.YtllnbcibleeogaaDoorMRowsB
namespace Go.Proofs.YtllnbcibleeogaaDoor.fn
open Go Go.Proofs Go.Ev

theorem Num_4 {R : Type} (N : Nat) (hN : 30 ≤ N) (r : Int → Option R) : Num.M N R 4 r = r 4 := by
  obtain ⟨M, rfl⟩ : ∃ M, N = M + 30 := ⟨N - 30, by omega⟩
  kernel_rfl

theorem WordsRows_true {R : Type} (N : Nat) (hN : 1000 < N) (x y : Option Bool) (A B : List (BitVec 8)) (r : Bool → Option R) : WordsRows.M N R x (A.map un) y (B.map un) r = r true := by
  show WordsRows.m _ _ _ _ _ _ _ _ N x (A.map un) y (B.map un) r = _
  unfold WordsRows.m
  rw [alive01_eq N (by omega)]
  simp only [Bool.not_true, cond_false, List.length_map]
  by_cases hA : A.length ≤ 300
  · by_cases hB : B.length ≤ 300
    · rw [decide_eq_false (by omega), cond_false, decide_eq_false (by omega), cond_false, Bytes_eq N x _ (by simp; omega), Bytes_eq N y _ (by simp; omega)]
      simp only [cut_bytes]
      have hw : IntKind.wrap .i64 (A.length : Int) = (A.length : Int) := wrap64 _ (by omega) (by omega)
      have hz : cut none 0 (List.replicate ((A.length : Int)).toNat (0 : Int)) = (List.replicate A.length 0#8).map un := by simp [cut, un]
      have k1 : decide (0 ≤ (A.length : Int)) = true := decide_eq_true (by omega)
      have k2 : decide ((A.length : Int) ≤ (A.length : Int)) = true := decide_eq_true (by omega)
      have k3 : decide (1 * (A.length : Int) ≤ 140737488355328) = true := decide_eq_true (by omega)
      have hzero : ((A.map un).foldl (ior .u8) 0 == 0) = decide (A = List.replicate A.length 0#8) := by
        have e : (0 : Int) = un (0#8) := rfl
        rw [e, or_un]
        apply Bool.eq_iff_iff.2
        rw [beq_iff_eq, un_inj, or_zero, decide_eq_true_iff, List.eq_replicate_iff]
        simp
      by_cases hl : A.length = B.length
      · have heq : ((List.zipWith (ixor .u8) (A.map un) (B.map un)).foldl (ior .u8) 0 == 0) = decide (A = B) := by
          have e : (0 : Int) = un (0#8) := rfl
          rw [xor_un, e, or_un]
          apply Bool.eq_iff_iff.2
          rw [beq_iff_eq, un_inj, or_zero, decide_eq_true_iff, xor_all A B hl]
          simp
        have k4 : ((A.length : Int) != (B.length : Int)) = false := by simp [hl]
        rw [Mix_eq N hN _ _ _ _ (by simp [hl]) (by simp; omega), Equal_eq N hN _ _ _ _ (by simp; omega), heq]
        simp only [List.length_map, decide_eq_true hl, Bool.true_and, toStr_eq, beq_self_eq_true, Bool.not_true, cond_false]
        rw [Zero_eq N hN _ _ (by simp; omega), hzero]
        simp only [hw, hz, k1, k2, k3, k4, toStr_eq, cond_true, cond_false, beq_self_eq_true, Bool.not_true]
        have hx : (List.zipWith (ixor .u8) (List.zipWith (ixor .u8) (A.map un) (B.map un)) (B.map un)) = A.map un := by rw [xor_un, xor_un, xor_twice A B hl]
        have nb : ∀ n : Nat, n.beq n = true := fun n => Nat.beq_refl n
        rw [Mix_eq N hN _ _ _ _ (by simp [hl]) (by simp; omega), rMix_eq N hN _ _ _ _ (by simp [hl]) (by simp; omega), hx]
        simp only [beq_self_eq_true, cond_true]
        have kl : A.length = (A.map (un (n := 8))).length := by simp
        rw [Kept_eq N x _ (A.map un) (by simp; omega)]
        simp only [beq_self_eq_true, Bool.and_true, nb, cond_true]
        rw [Kept_eq N y _ (B.map un) (by simp; omega)]
        simp only [beq_self_eq_true, Bool.and_true, nb, cond_true]
      · have k4 : ((A.length : Int) != (B.length : Int)) = true := by simp; omega
        have hne : decide (A = B) = false := decide_eq_false (by rintro rfl; exact hl rfl)
        rw [Mix_ne N _ _ _ _ (by simpa using hl), Equal_eq N hN _ _ _ _ (by simp; omega)]
        simp only [List.length_map, decide_eq_false hl, Bool.false_and, toStr_eq, hne, beq_self_eq_true, Bool.not_true, cond_false]
        rw [Zero_eq N hN _ _ (by simp; omega), hzero]
        simp only [hw, hz, k1, k2, k3, k4, toStr_eq, cond_true, cond_false, beq_self_eq_true, Bool.not_true]
        rw [Num_4 N (by omega)]
        rfl
    · rw [decide_eq_false (by omega), cond_false, decide_eq_true (by omega), cond_true]
  · rw [decide_eq_true (by omega), cond_true]
end Go.Proofs.YtllnbcibleeogaaDoor.fn
