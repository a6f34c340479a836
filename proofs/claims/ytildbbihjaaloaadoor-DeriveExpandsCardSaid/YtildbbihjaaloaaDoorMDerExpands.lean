/- The law of every expansion and extraction. -/
import Derived.Test.YtildbbihjaaloaaDoorFnDerExpands
import Derived.Test.YtildbbihjaaloaaDoorMDerA
namespace Go.Proofs.YtildbbihjaaloaaDoor.fn
open Go Go.Proofs Go.Ev Go.Dg

theorem alive05_eq {R : Type} (N : Nat) (r : Bool → Option R) : alive05.M N R r = r true := by
  show alive05.m (dInfo.M N) N r = _
  kernel_rfl
theorem dNum_1 {R : Type} (N : Nat) (hN : 30 ≤ N) (r : Int → Option R) : Num.M N R 1 r = r 1 := by
  obtain ⟨M, rfl⟩ : ∃ M, N = M + 30 := ⟨N - 30, by omega⟩
  kernel_rfl

/-- What follows, for a number of bytes. -/
noncomputable def expTail {R : Type} (N : Nat) (x : Option Bool) (key : List Int) (y : Option Bool) (info : List Int) (n : Int) (r : Bool → Option R) : Option R :=
  Bytes.M N R y info
         (fun v_c3 b_c4 => dExpand.M N R x key none (cut (some v_c3) 0 b_c4) n
          (fun v_c5 => dExtract.M N R x key y info
           (fun v_c6 => m4Sum.M N R x key y info
            (fun v_c7 => cond (!v_c6 == v_c7)
             (r false)
             (Kept.M N R 0 (some v_c3) false b_c4 y info
              (fun v_c8 b_c9 b_2_c10 => cond (true && false == b_c9 && b_2_c10.length.beq b_c4.length && true && true)
               (cond (!v_c8)
                (r false)
                (cond (decide (n < 0))
                 (Num.M N R v_c5
                  (fun v_c11 => r (v_c11 == 1)))
                 (cond (decide (n > 8160))
                  (Num.M N R v_c5
                   (fun v_c12 => r (v_c12 == 1)))
                  (cond (v_c5.beq 0)
                   (rdExpand.M N R x key y info n
                    (fun v_c13 => r ([] == toStr v_c13)))
                   (r false)))))
               (none))))))
          (fun vg1_c14 _b_c15 b_2_c16 => dExtract.M N R x key y info
           (fun v_c17 => m4Sum.M N R x key y info
            (fun v_c18 => cond (!v_c17 == v_c18)
             (r false)
             (Kept.M N R 0 (some v_c3) false b_c4 y info
              (fun v_c19 b_c20 b_2_c21 => cond (true && false == b_c20 && b_2_c21.length.beq b_c4.length && true && true)
               (cond (!v_c19)
                (r false)
                (cond (decide (n < 0))
                 (cond ((↑(olen (some vg1_c14) b_2_c16.length 0) : Int) == 0)
                  (Num.M N R 0
                   (fun v_c22 => r (v_c22 == 1)))
                  (r false))
                 (cond (decide (n > 8160))
                  (cond ((↑(olen (some vg1_c14) b_2_c16.length 0) : Int) == 0)
                   (Num.M N R 0
                    (fun v_c23 => r (v_c23 == 1)))
                   (r false))
                  (rdExpand.M N R x key y info n
                   (fun v_c24 => r (toStr (cut (some vg1_c14) 0 b_2_c16) == toStr v_c24))))))
               (none)))))))

theorem expTail_true {R : Type} (N : Nat) (hN : 2000 < N) (x y : Option Bool) (key info : List Int) (hk : isBy key) (hi : isBy info) (hkl : key.length ≤ 200) (hil : info.length ≤ 300) (n : Int) (r : Bool → Option R) : expTail N x key y info n r = r true := by
  unfold expTail
  have hbq : Nat.beq (info ++ marks).length (info ++ marks).length = true := Nat.beq_refl _
  rw [Bytes_eq N y info (by omega), cut_bytes]
  by_cases h : n < 0 ∨ n > 8160
  · rw [dExpand_off N x none key info n h, dExtract_eq N hN x y key info (by omega) (by omega), m4Sum_eq N hN x y key info hk hi (by omega) (by omega), beq_self_eq_true, Bool.not_true, cond_false, Kept_eq N y _ info (by omega)]
    simp only [hbq, Bool.and_true, beq_self_eq_true, cond_true, Bool.not_true, cond_false]
    rw [dNum_1 N (by omega)]
    by_cases h0 : n < 0
    · rw [decide_eq_true h0, cond_true]; rfl
    · rw [decide_eq_false h0, cond_false, decide_eq_true (by omega), cond_true]; rfl
  · obtain ⟨k, rfl⟩ : ∃ k : Nat, n = (k : Int) := ⟨n.toNat, by omega⟩
    have hk8 : k ≤ 8160 := by omega
    by_cases h0 : k = 0
    · subst h0
      refine Eq.trans (dExpand_zero N x none key info (by omega) _ _) ?_
      rw [dExtract_eq N hN x y key info (by omega) (by omega), m4Sum_eq N hN x y key info hk hi (by omega) (by omega), beq_self_eq_true, Bool.not_true, cond_false, Kept_eq N y _ info (by omega)]
      simp only [hbq, Bool.and_true, beq_self_eq_true, cond_true, Bool.not_true, cond_false]
      rw [decide_eq_false (by omega), cond_false, decide_eq_false (by omega), cond_false]
      show rdExpand.M N R x key y info ((0 : Nat) : Int) _ = _
      rw [rdExpand_eq N hN x y key info (by omega) (by omega) hk hi 0 (by omega), List.take_zero]
      rfl
    · refine dExpand_eq N hN x none key info (by omega) (by omega) k hk8 (by omega) _ _ _ fun nl => ?_
      rw [dExtract_eq N hN x y key info (by omega) (by omega), m4Sum_eq N hN x y key info hk hi (by omega) (by omega), beq_self_eq_true, Bool.not_true, cond_false, Kept_eq N y _ info (by omega)]
      simp only [hbq, Bool.and_true, beq_self_eq_true, cond_true, Bool.not_true, cond_false]
      rw [decide_eq_false (by omega), cond_false, decide_eq_false (by omega), cond_false, rdExpand_eq N hN x y key info (by omega) (by omega) hk hi k hk8]
      have : cut (some k) 0 (outb key info (nb k)) = (outb key info (nb k)).take k := rfl
      rw [this, beq_self_eq_true]

theorem DeriveExpands_true {R : Type} (N : Nat) (hN : 2000 < N) (x y : Option Bool) (key info : List Int) (hk : isBy key) (hi : isBy info) (n : Int) (r : Bool → Option R) : DeriveExpands.M N R x key y info n r = r true := by
  show DeriveExpands.m (alive05.M N) (Bytes.M N) (dExpand.M N) (dExtract.M N) (m4Sum.M N) (Kept.M N) (Num.M N) (rdExpand.M N) N x key y info n r = _
  unfold DeriveExpands.m
  rw [alive05_eq, Bool.not_true, cond_false]
  by_cases h1 : (key.length : Int) > 200
  · rw [decide_eq_true h1, cond_true]
  rw [decide_eq_false h1, cond_false]
  by_cases h2 : (info.length : Int) > 300
  · rw [decide_eq_true h2, cond_true]
  rw [decide_eq_false h2, cond_false]
  by_cases h3 : n > 500
  · rw [decide_eq_true h3, cond_true]
    by_cases h4 : n < 8160
    · rw [decide_eq_true h4, cond_true]
      exact expTail_true N hN x y key info hk hi (by omega) (by omega) (n.tmod 500) r
    · rw [decide_eq_false h4, cond_false]
      exact expTail_true N hN x y key info hk hi (by omega) (by omega) n r
  · rw [decide_eq_false h3, cond_false]
    exact expTail_true N hN x y key info hk hi (by omega) (by omega) n r

end Go.Proofs.YtildbbihjaaloaaDoor.fn
