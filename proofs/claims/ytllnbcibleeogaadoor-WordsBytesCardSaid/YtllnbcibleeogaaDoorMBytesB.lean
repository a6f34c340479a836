/- What the bytes' law says is so. -/
import Derived.Test.YtllnbcibleeogaaDoorMBytesA
namespace Go.Proofs.YtllnbcibleeogaaDoor.fn
open Go Go.Proofs Go.Ev Go.Dg

theorem Num_1' {R : Type} (N : Nat) (hN : 30 ≤ N) (r : Int → Option R) : Num.M N R 1 r = r 1 := by
  obtain ⟨M, rfl⟩ : ∃ M, N = M + 30 := ⟨N - 30, by omega⟩
  kernel_rfl
theorem Num_3' {R : Type} (N : Nat) (hN : 30 ≤ N) (r : Int → Option R) : Num.M N R 3 r = r 3 := by
  obtain ⟨M, rfl⟩ : ∃ M, N = M + 30 := ⟨N - 30, by omega⟩
  kernel_rfl

theorem bytes_tail {R : Type} (N : Nat) (hN : 1000 < N) (z : Option Bool) (L : List Nat) (hL : ∀ x ∈ L, x < 256) (hl : L.length ≤ 100) (kr0 : Bool → Option R) :
    Bytes.M N R z (nn L)
      (fun v_c136 b_c137 => Big.M N R none (cut (some v_c136) 0 b_c137)
       (fun v_c138 v_1_c139 => wLittle.M N R none (cut (some v_c136) 0 b_c137)
        (fun v_c140 v_1_c141 => Kept.M N R 0 (some v_c136) false b_c137 z (nn L)
         (fun v_c142 b_c143 b_2_c144 => cond (true && false == b_c143 && b_2_c144.length.beq b_c137.length && true && true)
          (cond (!v_c142)
           (kr0 false)
           (cond (decide (((nn L).length : Int) > 8))
            (cond (v_c138 == 0)
             (cond (v_c140 == 0)
              (Num.M N R v_1_c139
               (fun v_c145 => cond (v_c145 == 3)
                (Num.M N R v_1_c141
                 (fun v_c146 => kr0 (v_c146 == 3)))
                (kr0 false)))
              (kr0 false))
             (kr0 false))
            (cond (v_1_c139.beq 0)
             (cond (v_1_c141.beq 0)
              (rBig.M N R z (nn L)
               (fun v_c147 => cond (v_c138 == v_c147)
                (rReverse.M N R z (nn L)
                 (fun b_c148 => rBig.M N R none b_c148
                  (fun v_c149 => kr0 (v_c140 == v_c149))))
                (kr0 false)))
              (kr0 false))
             (kr0 false))))
          (none))))) = kr0 true := by
  have hlen : (nn L).length = L.length := by simp
  rw [Bytes_eq N z (nn L) (by omega), cut_bytes]
  have hb : Nat.beq (nn L ++ marks).length (nn L ++ marks).length = true := Nat.beq_refl _
  by_cases h8 : L.length ≤ 8
  · have hrev : (nn L).reverse = nn L.reverse := by simp [nn]
    have hR : ∀ x ∈ L.reverse, x < 256 := fun x hx => hL x (by simpa using hx)
    rw [Big_eq N hN none L h8 hL, wLittle_eq N hN none (nn L) (by omega), hrev, Big_eq N hN none L.reverse (by simpa using h8) hR, Kept_eq N z _ (nn L) (by omega)]
    simp only [hb, Bool.and_true, beq_self_eq_true, cond_true, Bool.not_true, cond_false]
    rw [decide_eq_false (by omega), cond_false]
    show rBig.M N R z (nn L) _ = _
    rw [rBig_eq N hN z L h8 hL, beq_self_eq_true, cond_true, rReverse_eq N hN z (nn L) (by omega), hrev, rBig_eq N hN none L.reverse (by simpa using h8) hR, beq_self_eq_true]
  · rw [Big_err N none (nn L) (by omega), wLittle_eq N hN none (nn L) (by omega), Big_err N none (nn L).reverse (by rw [List.length_reverse]; omega), Kept_eq N z _ (nn L) (by omega)]
    simp only [hb, Bool.and_true, beq_self_eq_true, cond_true, Bool.not_true, cond_false]
    rw [decide_eq_true (by omega), cond_true, Num_3' N (by omega)]
    simp only [beq_self_eq_true, cond_true]
    rw [Num_3' N (by omega)]
    rfl

theorem WordsBytes_true {R : Type} (N : Nat) (hN : 1000 < N) (X : Nat) (n : Int) (z : Option Bool) (L : List Nat) (hX : X < 18446744073709551616) (hL : ∀ x ∈ L, x < 256) (kr0 : Bool → Option R) :
    WordsBytes.M N R (X : Int) n z (nn L) kr0 = kr0 true := by
  show WordsBytes.m (alive01.M N) (PutLittle.M N) (PutBig.M N) (Num.M N) (rLittle.M N) (rReverse.M N) (Bytes.M N) (Big.M N) (wLittle.M N) (Kept.M N) (rBig.M N) N (X : Int) n z (nn L) kr0 = _
  unfold WordsBytes.m
  rw [alive01_eq N (by omega)]
  simp only [Bool.not_true, cond_false]
  by_cases hl : L.length ≤ 100
  · have hlen : ((nn L).length : Int) = (L.length : Int) := by simp
    rw [decide_eq_false (show ¬ ((nn L).length : Int) > 100 by omega), cond_false]
    have T := bytes_tail N hN z L hL hl kr0
    by_cases h : n < 0 ∨ n > 8
    · rw [PutLittle_err N _ n h, PutBig_err N _ n h]
      by_cases h0 : n < 0
      · rw [decide_eq_true h0, cond_true, Num_1' N (by omega), show ((1 : Int) != 1) = false from rfl, cond_false, Num_1' N (by omega), show ((1 : Int) != 1) = false from rfl, cond_false]
        exact T
      · rw [decide_eq_false h0, cond_false, decide_eq_true (by omega), cond_true, Num_1' N (by omega), show ((1 : Int) != 1) = false from rfl, cond_false, Num_1' N (by omega), show ((1 : Int) != 1) = false from rfl, cond_false]
        exact T
    · obtain ⟨k, rfl⟩ := Int.eq_ofNat_of_zero_le (show 0 ≤ n by omega)
      rw [PutLittle_eq N hN X k hX (by omega), PutBig_eq N hN X k hX (by omega)]
      rw [decide_eq_false (show ¬ ((k : Int) < 0) by omega), cond_false, decide_eq_false (show ¬ ((k : Int) > 8) by omega), cond_false, rLittle_eq N hN X k hX (by omega)]
      simp only [beq_self_eq_true, Bool.not_true, cond_false]
      rw [rReverse_eq N hN none _ (by simp [dig_length]; omega)]
      have e : nn (dig 256 k X).reverse = (nn (dig 256 k X)).reverse := by simp [nn]
      rw [e]
      simp only [beq_self_eq_true, Bool.not_true, cond_false]
      exact T
  · rw [decide_eq_true (show ((nn L).length : Int) > 100 by simp; omega), cond_true]
end Go.Proofs.YtllnbcibleeogaaDoor.fn
