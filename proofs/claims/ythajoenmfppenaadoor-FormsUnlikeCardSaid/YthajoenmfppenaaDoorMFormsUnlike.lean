/- The law of unlike forms. Partly printed by a program. -/
import Derived.Test.YthajoenmfppenaaDoorMBt
import Derived.Test.YthajoenmfppenaaDoorFnFormsUnlike
namespace Go.Proofs.YthajoenmfppenaaDoor.fn
open Go Go.Proofs Go.Ev Go.Dg

theorem wUnrow_row {R : Type} (N : Nat) (hN : 1000 < N) (z : Option Bool) (l : List (List Int)) (hl : l.length ≤ 255) (h : ∀ t ∈ l, isBt t) (hs : (rowB l).length ≤ 65536) (r : List (List Int) → Nat → Option R) : wUnrow.M N R z (rowB l) r = r l 0 := by
  obtain ⟨L, rfl, hL⟩ := ex_rows l h
  rw [rowB_nn, wUnrow_eq N hN z (rowN L) (rowN_lt L (by simpa using hl) hL), unR_rowB L (by simpa using hl) hs]
theorem rUnrow_row {R : Type} (N : Nat) (hN : 1000 < N) (z : Option Bool) (l : List (List Int)) (hl : l.length ≤ 255) (h : ∀ t ∈ l, isBt t) (hs : (rowB l).length ≤ 65536) (r : List (List Int) → Int → Option R) : rUnrow.M N R z (rowB l) r = r l 0 := by
  obtain ⟨L, rfl, hL⟩ := ex_rows l h
  rw [rowB_nn, rUnrow_eq N hN z (rowN L) (rowN_lt L (by simpa using hl) hL), unR_rowB L (by simpa using hl) hs]
  rfl
def z32u : List Int := [0, 0, 0, 0, 0, 0, 0, 0, 0, 0, 0, 0, 0, 0, 0, 0, 0, 0, 0, 0, 0, 0, 0, 0, 0, 0, 0, 0, 0, 0, 0, 0]
def z64u : List Int := [0, 0, 0, 0, 0, 0, 0, 0, 0, 0, 0, 0, 0, 0, 0, 0, 0, 0, 0, 0, 0, 0, 0, 0, 0, 0, 0, 0, 0, 0, 0, 0, 0, 0, 0, 0, 0, 0, 0, 0, 0, 0, 0, 0, 0, 0, 0, 0, 0, 0, 0, 0, 0, 0, 0, 0, 0, 0, 0, 0, 0, 0, 0, 0]
theorem ReadLeaf_bad {R : Type} (N : Nat) (hN : 1000 < N) (z : Option Bool) (x y : List Int) (h : ∀ t ∈ [x, y], isBt t) (hs : (rowB [x, y]).length ≤ 65536) (r : (List Int) → (List Int) → (Option Bool) → (List Int) → (List Int) → (List Int) → Nat → Option R) :
    ∃ a b c d e f, ReadLeaf.M N R z (rowB [x, y]) r = r a b c d e f 4 := by
  refine ⟨z32u, z32u, some true, [], z32u, z64u, ?_⟩
  show ReadLeaf.m (rdopen.M N) (rdkey.M N) (rdtext.M N) (rdhash.M N) (rdsig.M N) (isName.M N) (rdneed.M N) (rdendLeaf.M N) N z (rowB [x, y]) r = _
  unfold ReadLeaf.m
  have ho : ∀ k : List (List Int) → Nat → Option R, rdopen.M N R z (rowB [x, y]) 5 k = k [x, y] 4 := by
    intro k
    show rdopen.m (wUnrow.M N) N z (rowB [x, y]) 5 k = _
    unfold rdopen.m
    rw [wUnrow_row N hN z [x, y] (by simp) h hs]
    rfl
  rw [ho]
  rfl
theorem Num4 {R : Type} (M : Nat) (r : Int → Option R) : Num.M (M + 80) R 4 r = r 4 := by show _ = _; kernel_rfl
theorem bigLeaf18_eq {R : Type} (N : Nat) (a b : List Int) (z : Option Bool) (n p s : List Int) (r : Bool → Option R) : bigLeaf18.M N R a b z n p s r = r (decide ((n.length : Int) > 100)) := rfl
def rem3 : List Int := rowB [num8 2, num8 3]
theorem alive18_eq {R : Type} (N : Nat) (hN : 1000 < N) (r : Bool → Option R) : alive18.M N R r = r true := by
  show alive18.m (fProposal.M N) N r = _
  unfold alive18.m
  refine (fProposal_eq N hN 2 3 _ _ _ _ _ _ _ _ _ _ _ _ _ _ rfl rfl rfl (Nat.zero_le _) rfl rfl rfl rfl rfl (Nat.zero_le _) rfl rfl _).trans ?_
  kernel_rfl

noncomputable def tailU {R : Type} (N : Nat) (a1 a2 a4 a5 a6 : List Int) (who13 : Int) (xx : List Int) (r : Bool → Option R) : Option R := (fProposal.M N R 3 0 ([0, 0, 0, 0, 0, 0, 0, 0, 0, 0, 0, 0, 0, 0, 0, 0, 0, 0, 0, 0, 0, 0, 0, 0, 0, 0, 0, 0, 0, 0, 0, 0]) ([0, 0, 0, 0, 0, 0, 0, 0, 0, 0, 0, 0, 0, 0, 0, 0, 0, 0, 0, 0, 0, 0, 0, 0, 0, 0, 0, 0, 0, 0, 0, 0]) ([0, 0, 0, 0, 0, 0, 0, 0, 0, 0, 0, 0, 0, 0, 0, 0, 0, 0, 0, 0, 0, 0, 0, 0, 0, 0, 0, 0, 0, 0, 0, 0]) (some true) [] ([0, 0, 0, 0, 0, 0, 0, 0, 0, 0, 0, 0, 0, 0, 0, 0, 0, 0, 0, 0, 0, 0, 0, 0, 0, 0, 0, 0, 0, 0, 0, 0]) ([0, 0, 0, 0, 0, 0, 0, 0, 0, 0, 0, 0, 0, 0, 0, 0, 0, 0, 0, 0, 0, 0, 0, 0, 0, 0, 0, 0, 0, 0, 0, 0, 0, 0, 0, 0, 0, 0, 0, 0, 0, 0, 0, 0, 0, 0, 0, 0, 0, 0, 0, 0, 0, 0, 0, 0, 0, 0, 0, 0, 0, 0, 0, 0]) ([0, 0, 0, 0, 0, 0, 0, 0, 0, 0, 0, 0, 0, 0, 0, 0, 0, 0, 0, 0, 0, 0, 0, 0, 0, 0, 0, 0, 0, 0, 0, 0, 0, 0, 0, 0, 0, 0, 0, 0, 0, 0, 0, 0, 0, 0, 0, 0, 0, 0, 0, 0, 0, 0, 0, 0, 0, 0, 0, 0, 0, 0, 0, 0]) ((a1, a2, a4, a5, a6, ()).fst) ((a1, a2, a4, a5, a6, ()).snd.fst) none ((a1, a2, a4, a5, a6, ()).snd.snd.fst) ((a1, a2, a4, a5, a6, ()).snd.snd.snd.fst) ((a1, a2, a4, a5, a6, ()).snd.snd.snd.snd.fst)
                  (fun v_c12 v_1_c13 v_2_c14 => fProposal.M N R 2 (IntKind.i64.wrap ((IntKind.u64.wrap who13).tmod 16)) ([0, 0, 0, 0, 0, 0, 0, 0, 0, 0, 0, 0, 0, 0, 0, 0, 0, 0, 0, 0, 0, 0, 0, 0, 0, 0, 0, 0, 0, 0, 0, 0]) ([0, 0, 0, 0, 0, 0, 0, 0, 0, 0, 0, 0, 0, 0, 0, 0, 0, 0, 0, 0, 0, 0, 0, 0, 0, 0, 0, 0, 0, 0, 0, 0]) ([0, 0, 0, 0, 0, 0, 0, 0, 0, 0, 0, 0, 0, 0, 0, 0, 0, 0, 0, 0, 0, 0, 0, 0, 0, 0, 0, 0, 0, 0, 0, 0]) (some true) [] ([0, 0, 0, 0, 0, 0, 0, 0, 0, 0, 0, 0, 0, 0, 0, 0, 0, 0, 0, 0, 0, 0, 0, 0, 0, 0, 0, 0, 0, 0, 0, 0]) ([0, 0, 0, 0, 0, 0, 0, 0, 0, 0, 0, 0, 0, 0, 0, 0, 0, 0, 0, 0, 0, 0, 0, 0, 0, 0, 0, 0, 0, 0, 0, 0, 0, 0, 0, 0, 0, 0, 0, 0, 0, 0, 0, 0, 0, 0, 0, 0, 0, 0, 0, 0, 0, 0, 0, 0, 0, 0, 0, 0, 0, 0, 0, 0]) ([0, 0, 0, 0, 0, 0, 0, 0, 0, 0, 0, 0, 0, 0, 0, 0, 0, 0, 0, 0, 0, 0, 0, 0, 0, 0, 0, 0, 0, 0, 0, 0, 0, 0, 0, 0, 0, 0, 0, 0, 0, 0, 0, 0, 0, 0, 0, 0, 0, 0, 0, 0, 0, 0, 0, 0, 0, 0, 0, 0, 0, 0, 0, 0]) ([0, 0, 0, 0, 0, 0, 0, 0, 0, 0, 0, 0, 0, 0, 0, 0, 0, 0, 0, 0, 0, 0, 0, 0, 0, 0, 0, 0, 0, 0, 0, 0]) ([0, 0, 0, 0, 0, 0, 0, 0, 0, 0, 0, 0, 0, 0, 0, 0, 0, 0, 0, 0, 0, 0, 0, 0, 0, 0, 0, 0, 0, 0, 0, 0]) (some true) [] ([0, 0, 0, 0, 0, 0, 0, 0, 0, 0, 0, 0, 0, 0, 0, 0, 0, 0, 0, 0, 0, 0, 0, 0, 0, 0, 0, 0, 0, 0, 0, 0]) ([0, 0, 0, 0, 0, 0, 0, 0, 0, 0, 0, 0, 0, 0, 0, 0, 0, 0, 0, 0, 0, 0, 0, 0, 0, 0, 0, 0, 0, 0, 0, 0, 0, 0, 0, 0, 0, 0, 0, 0, 0, 0, 0, 0, 0, 0, 0, 0, 0, 0, 0, 0, 0, 0, 0, 0, 0, 0, 0, 0, 0, 0, 0, 0])
                   (fun _v_c15 v_1_c16 v_2_c17 => ReadLeaf.M N R v_c12 v_1_c13
                    (fun _v_c18 _v_1_c19 _v_2_c20 _v_3_c21 _v_4_c22 _v_5_c23 v_6_c24 => rUnrow.M N R v_c12 v_1_c13
                     (fun v_c25 v_1_c26 => cond (v_2_c14.beq 0)
                      (cond (v_2_c17.beq 0)
                       (cond (!toStr v_1_c13 == toStr v_1_c16)
                        (Num.M N R v_6_c24
                         (fun v_c27 => cond (v_c27 == 4)
                          (cond (v_1_c26 == 0)
                           (cond ((↑v_c25.length : Int) == 2)
                            (cond (decide (1 < (↑v_c25.length : Int)))
                             (r (toStr (v_c25.getD 1 []) == toStr xx))
                             (none))
                            (r false))
                           (r false))
                          (r false)))
                        (r false))
                       (r false))
                      (r false))))))
theorem who_in (x : Int) : 0 ≤ IntKind.i64.wrap ((IntKind.u64.wrap x).tmod 16) ∧ IntKind.i64.wrap ((IntKind.u64.wrap x).tmod 16) ≤ 15 := by
  have h0 : 0 ≤ IntKind.u64.wrap x := by
    unfold IntKind.wrap
    simp only [IntKind.signed, IntKind.bits, Bool.false_and, Bool.false_eq_true, if_false]
    omega
  have e : (IntKind.u64.wrap x).tmod 16 = IntKind.u64.wrap x % 16 := Int.tmod_eq_emod_of_nonneg h0
  rw [e, wrap_i64z _ (by omega) (by omega)]
  omega
theorem tailU_eq {R : Type} (M : Nat) (hM : 2000 < M) (a1 a2 a4 a5 a6 : List Int) (h1 : a1.length = 32) (h2 : a2.length = 32) (h4 : a4.length ≤ 100) (h5 : a5.length = 32) (h6 : a6.length = 64) (b1 : isBt a1) (b2 : isBt a2) (b4 : isBt a4) (b5 : isBt a5) (b6 : isBt a6)
    (hok : leafOk a4 = true) (who : Int) (r : Bool → Option R) : tailU (M + 80) a1 a2 a4 a5 a6 who (leafR a1 a2 a4 a5 a6) r = r true := by
  have hN : 1000 < M + 80 := by omega
  unfold tailU
  dsimp only
  have hw := who_in who
  generalize IntKind.i64.wrap ((IntKind.u64.wrap who).tmod 16) = w at hw
  refine (fProposal_eq (M + 80) hN 3 0 _ _ _ _ _ _ _ _ a1 a2 _ a4 a5 a6 rfl rfl rfl (Nat.zero_le _) rfl rfl rfl h1 h2 (by omega) h5 h6 _).trans ?_
  rw [propE_ec, propB_ok _ _ _ _ _ _ _ _ _ _ _ _ _ _ (show propOk 3 0 [] a4 = true from hok), show propOk 3 0 [] a4 = true from hok]
  refine (fProposal_eq (M + 80) hN 2 w _ _ _ _ _ _ _ _ _ _ _ _ _ _ rfl rfl rfl (Nat.zero_le _) rfl rfl rfl rfl rfl (Nat.zero_le _) rfl rfl _).trans ?_
  have hp2 : propOk 2 w [] [] = true := by
    show sendOk w = true
    unfold sendOk
    rw [decide_eq_true hw.1, decide_eq_true hw.2]; rfl
  rw [propE_ec, propB_ok _ _ _ _ _ _ _ _ _ _ _ _ _ _ hp2, hp2]
  have hl := leafR_len a1 a2 a4 a5 a6 h1 h2 (by omega) h5 h6
  have e3 := num8_len 3
  have hb : ∀ t ∈ [num8 3, leafR a1 a2 a4 a5 a6], isBt t := bt2 (num8_bt 3) (leafR_bt b1 b2 b4 b5 b6)
  have hs : (rowB [num8 3, leafR a1 a2 a4 a5 a6]).length ≤ 65536 := by rw [rowB_len, body2]; omega
  have hb2 : ∀ t ∈ [num8 2, num8 w], isBt t := bt2 (num8_bt 2) (num8_bt w)
  have hs2 : (rowB [num8 2, num8 w]).length ≤ 65536 := by rw [rowB_len, body2, num8_len, num8_len]; omega
  show ReadLeaf.M (M + 80) R none (rowB [num8 3, leafR a1 a2 a4 a5 a6]) _ = _
  obtain ⟨q1, q2, q3, q4, q5, q6, hq⟩ := ReadLeaf_bad (R := R) (M + 80) hN none (num8 3) (leafR a1 a2 a4 a5 a6) hb hs (fun _ _ _ _ _ _ v_6_c24 => rUnrow.M (M + 80) R none (rowB [num8 3, leafR a1 a2 a4 a5 a6])
    (fun v_c25 v_1_c26 => cond (!toStr (rowB [num8 3, leafR a1 a2 a4 a5 a6]) == toStr (rowB [num8 2, num8 w])) (Num.M (M + 80) R v_6_c24 (fun v_c27 => cond (v_c27 == 4) (cond (v_1_c26 == 0) (cond ((v_c25.length : Int) == 2) (cond (decide (1 < (v_c25.length : Int))) (r (toStr (v_c25.getD 1 []) == toStr (leafR a1 a2 a4 a5 a6))) none) (r false)) (r false)) (r false))) (r false)))
  refine Eq.trans ?_ (hq.trans ?_)
  · rfl
  · have ne : (toStr (rowB [num8 3, leafR a1 a2 a4 a5 a6]) == toStr (rowB [num8 2, num8 w])) = false := by
      rw [str_eq (rowB_bt _ (by simp) hb) (rowB_bt _ (by simp) hb2)]
      refine decide_eq_false fun e => ?_
      have e2 := rowB_inj (by simp) (by simp) hb hb2 hs hs2 e
      have e4 : num8 3 = num8 2 := (List.cons.inj e2).1
      exact absurd (num8_inj (by decide) (by decide) (by decide) (by decide) e4) (by decide)
    rw [rUnrow_row (M + 80) hN none _ (by simp) hb hs, ne, Bool.not_false, cond_true, Num4]
    show r (toStr (leafR a1 a2 a4 a5 a6) == toStr (leafR a1 a2 a4 a5 a6)) = _
    rw [beq_self_eq_true]

theorem FormsUnlike_true {R : Type} (M : Nat) (hM : 2000 < M) (a1 a2 : List Int) (az : Option Bool) (a4 a5 a6 b7 b8 : List Int) (bz : Option Bool) (b10 b11 b12 : List Int) (who : Int) (h1 : a1.length = 32) (h2 : a2.length = 32) (h5 : a5.length = 32) (h6 : a6.length = 64)
    (h7 : b7.length = 32) (h8 : b8.length = 32) (h11 : b11.length = 32) (h12 : b12.length = 64) (i1 : isBt a1) (i2 : isBt a2) (i4 : isBt a4) (i5 : isBt a5) (i6 : isBt a6) (i7 : isBt b7) (i8 : isBt b8) (i10 : isBt b10) (i11 : isBt b11) (i12 : isBt b12) (r : Bool → Option R) :
    FormsUnlike.M (M + 80) R a1 a2 az a4 a5 a6 b7 b8 bz b10 b11 b12 who r = r true := by
  show FormsUnlike.m (alive18.M (M + 80)) (bigLeaf18.M (M + 80)) (fLeaf.M (M + 80)) (fProposal.M (M + 80)) (ReadLeaf.M (M + 80)) (rUnrow.M (M + 80)) (Num.M (M + 80)) (M + 80) a1 a2 az a4 a5 a6 b7 b8 bz b10 b11 b12 who r = _
  have hN : 1000 < M + 80 := by omega
  unfold FormsUnlike.m
  dsimp only
  rw [alive18_eq _ hN, Bool.not_true, cond_false, bigLeaf18_eq]
  by_cases q1 : a4.length ≤ 100
  · rw [decide_eq_false (by omega), cond_false, bigLeaf18_eq]
    by_cases q2 : b10.length ≤ 100
    · rw [decide_eq_false (by omega), cond_false, fLeaf_eq _ hN a1 a2 none a4 a5 a6 h1 h2 (by omega) h5 h6, fLeaf_eq _ hN b7 b8 none b10 b11 b12 h7 h8 (by omega) h11 h12, leafE_ec, leafE_ec]
      cases ha : leafOk a4 with
      | false => rfl
      | true =>
        cases hb : leafOk b10 with
        | false => rfl
        | true =>
          rw [leafB_ok ha, leafB_ok hb]
          have hT := tailU_eq M hM a1 a2 a4 a5 a6 h1 h2 q1 h5 h6 i1 i2 i4 i5 i6 ha who r
          unfold tailU at hT
          dsimp only at hT
          have la := leafR_len a1 a2 a4 a5 a6 h1 h2 (by omega) h5 h6
          have lb := leafR_len b7 b8 b10 b11 b12 h7 h8 (by omega) h11 h12
          have hx : (toStr (leafR a1 a2 a4 a5 a6) == toStr (leafR b7 b8 b10 b11 b12)) = decide (a1 = b7 ∧ a2 = b8 ∧ a4 = b10 ∧ a5 = b11 ∧ a6 = b12) := by
            rw [str_eq (leafR_bt i1 i2 i4 i5 i6) (leafR_bt i7 i8 i10 i11 i12)]
            refine decide_eq_decide.2 ⟨fun e => ?_, fun ⟨e1, e2, e3, e4, e5⟩ => by rw [e1, e2, e3, e4, e5]⟩
            have e := rowB_inj (by simp) (by simp) (bt5 i1 i2 i4 i5 i6) (bt5 i7 i8 i10 i11 i12) (by unfold leafR at la; omega) (by unfold leafR at lb; omega) e
            simp only [List.cons.injEq, and_true] at e
            exact e
          have ff : (!(false == false)) = false := rfl
          have tt : (!(true == true)) = false := rfl
          rw [show (!(ec true).beq 0) = false from rfl, cond_false, cond_false, hx]
          by_cases e1 : a1 = b7
          · rw [show (a1 == b7) = true from by rw [e1]; exact beq_self_eq_true _, cond_true]
            by_cases e2 : a2 = b8
            · rw [show (a2 == b8) = true from by rw [e2]; exact beq_self_eq_true _, cond_true, str_eq i4 i10]
              by_cases e4 : a4 = b10
              · rw [decide_eq_true e4, cond_true]
                by_cases e5 : a5 = b11
                · rw [show (a5 == b11) = true from by rw [e5]; exact beq_self_eq_true _, cond_true]
                  by_cases e6 : a6 = b12
                  · rw [show (a6 == b12) = true from by rw [e6]; exact beq_self_eq_true _, decide_eq_true ⟨e1, e2, e4, e5, e6⟩, tt, cond_false]
                    exact hT
                  · rw [show (a6 == b12) = false from beq_eq_false_iff_ne.2 e6, decide_eq_false (fun h => e6 h.2.2.2.2), ff, cond_false]
                    exact hT
                · rw [show (a5 == b11) = false from beq_eq_false_iff_ne.2 e5, cond_false, decide_eq_false (fun h => e5 h.2.2.2.1), ff, cond_false]
                  exact hT
              · rw [decide_eq_false e4, cond_false, decide_eq_false (fun h => e4 h.2.2.1), ff, cond_false]
                exact hT
            · rw [show (a2 == b8) = false from beq_eq_false_iff_ne.2 e2, cond_false, decide_eq_false (fun h => e2 h.2.1), ff, cond_false]
              exact hT
          · rw [show (a1 == b7) = false from beq_eq_false_iff_ne.2 e1, cond_false, decide_eq_false (fun h => e1 h.1), ff, cond_false]
            exact hT
    · rw [decide_eq_true (by omega), cond_true]
  · rw [decide_eq_true (by omega), cond_true]

end Go.Proofs.YthajoenmfppenaaDoor.fn
