/- The law of a digest of bytes that come in pieces. -/
import Derived.Test.YtildbbihjaaloaaDoorFnShaPieces
import Derived.Test.YtildbbihjaaloaaDoorMShaL
namespace Go.Proofs.YtildbbihjaaloaaDoor.fn
open Go Go.Proofs Go.Ev Go.Dg

theorem cut_whole (l : List Int) : cut none 0 l = l := rfl

theorem pieces_loop {R : Type} (N : Nat) (hN : 2000 < N) (parts : List (List Int)) (hy : ∀ p ∈ parts, isBy p) (hl : parts.length ≤ 20) (x : Option Bool) (more : List Int)
    (ke0 : (List (List Int)) → (Option Bool) → (List Int) → (List (List Int)) → Int → Int → (List Int) → Nat → (Option Nat) → Int → Bool → (List Int) → Bool → (List Int) → Option R)
    (ke1 : (List (List Int)) → (Option Bool) → (List Int) → (List (List Int)) → Int → Int → Bool → (List Int) → (List Int) → (List Int) → Nat → (Option Nat) → Int → Bool → (List Int) → (List Int) → Option R)
    (ke2 : (List (List Int)) → (Option Bool) → (List Int) → (List (List Int)) → Int → Int → (List Int) → Nat → (Option Nat) → Int → Bool → (List Int) → Bool → (List Int) → Option R) (X : Option R)
    (h0 : ∀ a1 a2 a3 a4 a5 a6 a7 a8 a9 b1 b2 b3 b4 b5, ke0 a1 a2 a3 a4 a5 a6 a7 a8 a9 b1 b2 b3 b4 b5 = X)
    (h2 : ∀ st off len c nla nl buf, HS parts.flatten st off len buf c → (∀ p ∈ parts, p.length ≤ 200) → ke2 parts x more parts (parts.length : Int) (parts.length : Int) st off len c nla parts.flatten nl buf = X) :
    ∀ (d i m : Nat) (st : List Int) (off : Nat) (len : Option Nat) (nl nla : Bool) (buf : List Int) (c : Int), i + d = parts.length → d < m → HS (parts.take i).flatten st off len buf c → (parts.take i).flatten.length ≤ i * 200 → (∀ p ∈ parts.take i, p.length ≤ 200) →
      ShaPieces.L8 (alive02.M N) (New.M N) (Write.M N) (hSum.M N) (rSum.M N) (Copy.M N) (sSum.M N) N ke0 ke1 ke2 m parts x more parts (parts.length : Int) (i : Int) st off len c nla (parts.take i).flatten nl buf = X := by
  intro d
  induction d with
  | zero =>
    intro i m st off len nl nla buf c hi hm h hle hs
    obtain ⟨m, rfl⟩ : ∃ k, m = k + 1 := ⟨m - 1, by omega⟩
    obtain rfl : i = parts.length := by omega
    unfold ShaPieces.L8
    rw [decide_eq_false (by omega), cond_false]
    rw [List.take_length] at h hs ⊢
    exact h2 _ _ _ _ _ _ _ h hs
  | succ d ih =>
    intro i m st off len nl nla buf c hi hm h hle hs
    obtain ⟨m, rfl⟩ : ∃ k, m = k + 1 := ⟨m - 1, by omega⟩
    have hil : i < parts.length := by omega
    have hmul : i * 200 ≤ 20 * 200 := Nat.mul_le_mul_right _ (by omega)
    have hg : parts.getD ((i : Int)).toNat [] = parts[i] := by rw [Int.toNat_natCast, List.getD_eq_getElem?_getD, List.getElem?_eq_getElem hil]; rfl
    have e4 : IntKind.i64.wrap ((i : Int) + 1) = ((i + 1 : Nat) : Int) := by rw [wrap_i64z _ (by omega) (by omega)]; omega
    unfold ShaPieces.L8
    rw [natlt i _ (by omega), cond_true, nat0, cond_true, cond_true, hg, e4]
    by_cases hp : ((parts[i].length : Nat) : Int) > 200
    · rw [decide_eq_true hp, cond_true]
      exact h0 _ _ _ _ _ _ _ _ _ _ _ _ _ _
    · rw [decide_eq_false hp, cond_false]
      obtain ⟨st1, off1, len1, c1, buf1, g1, e1⟩ := Write_eq (R := R) N (by omega) h nl none parts[i] (by omega) (by omega)
      have htake : (parts.take i).flatten ++ parts[i] = (parts.take (i + 1)).flatten := by
        rw [List.take_succ_eq_append_getElem hil, List.flatten_append, List.flatten_singleton]
      have hall : isBy (parts.take (i + 1)).flatten := fun z hz => by
        obtain ⟨p, hp1, hp2⟩ := List.mem_flatten.1 hz
        exact hy p (List.mem_of_mem_take hp1) z hp2
      have hlen : (parts.take (i + 1)).flatten.length ≤ (i + 1) * 200 := by
        rw [← htake, List.length_append, Nat.add_mul]; omega
      rw [e1, decide_eq_true (by omega), cond_true, decide_eq_true (by omega), cond_true]
      rw [htake] at g1
      rw [hSum_eq N (by omega) g1 (by omega), cut_whole, htake, rSum_eq N hN none _ hall (by omega), beq_self_eq_true]
      simp only [Bool.not_true, cond_false]
      exact ih (i + 1) m st1 off1 len1 _ _ buf1 c1 (by omega) (by omega) g1 hlen (fun p hp' => by
        rw [List.take_succ_eq_append_getElem hil] at hp'
        rcases List.mem_append.1 hp' with q | q
        · exact hs p q
        · rw [List.mem_singleton.1 q]; omega)

theorem ShaPieces_true {R : Type} (N : Nat) (hN : 2000 < N) (parts : List (List Int)) (hy : ∀ p ∈ parts, isBy p) (x : Option Bool) (more : List Int) (hm : isBy more) (r : Bool → Option R) : ShaPieces.M N R parts x more r = r true := by
  show ShaPieces.m (alive02.M N) (New.M N) (Write.M N) (hSum.M N) (rSum.M N) (Copy.M N) (sSum.M N) N parts x more r = _
  unfold ShaPieces.m
  rw [alive02_eq N hN, Bool.not_true, cond_false]
  by_cases h1 : (parts.length : Int) > 20
  · rw [decide_eq_true h1, cond_true]
  rw [decide_eq_false h1, cond_false]
  by_cases h2 : (more.length : Int) > 200
  · rw [decide_eq_true h2, cond_true]
  rw [decide_eq_false h2, cond_false]
  show ShaPieces.L8 (alive02.M N) (New.M N) (Write.M N) (hSum.M N) (rSum.M N) (Copy.M N) (sSum.M N) N _ _ _ N parts x more parts (parts.length : Int) ((0 : Nat) : Int) s256.l 0 none 0 false (parts.take 0).flatten true [] = _
  refine pieces_loop N hN parts hy (by omega) x more _ _ _ (r true) (fun _ _ _ _ _ _ _ _ _ _ _ _ _ _ => rfl) ?_ parts.length 0 N s256.l 0 none true false [] 0 (by omega) (by omega) HS.none (by simp) (by simp)
  intro st off len c nla nl buf h hs
  have hf : parts.flatten.length ≤ parts.length * 200 := by
    clear h hy h1
    induction parts with
    | nil => simp
    | cons a l ih =>
      have h1 := hs a (List.mem_cons_self ..)
      have h2 := ih (fun p hp' => hs p (List.mem_cons_of_mem _ hp'))
      rw [List.flatten_cons, List.length_append, List.length_cons, Nat.add_mul]
      omega
  have hmul : parts.length * 200 ≤ 20 * 200 := Nat.mul_le_mul_right _ (by omega)
  have hall : isBy parts.flatten := fun z hz => by
    obtain ⟨p, hp1, hp2⟩ := List.mem_flatten.1 hz
    exact hy p hp1 z hp2
  have hboth : isBy (parts.flatten ++ more) := hall.append hm
  have hlb : (parts.flatten ++ more).length = parts.flatten.length + more.length := List.length_append
  obtain ⟨hc, ec⟩ := Copy_eq (R := R) N h nl (fun b_c76 b_1_c77 b_2_c78 b_3_c79 b_4_c80 b_5_c81 b_6_c82 b_7_c83 b_8_c84 b_9_c85 => Write.M N R b_6_c82 0 none b_8_c84 b_9_c85 b_7_c83 x more
          (fun b_c86 b_1_c87 b_2_c88 b_3_c89 b_4_c90 b_5_c91 => cond (decide ((0 + parts.flatten.length) * 1 ≤ 140737488355328))
           (cond (decide (0 + parts.flatten.length ≤ 140737488355328))
            (cond (decide ((parts.flatten.length + more.length) * 1 ≤ 140737488355328))
             (cond (decide (parts.flatten.length + more.length ≤ 140737488355328))
              (hSum.M N R b_c76 b_1_c77 b_2_c78 b_4_c80 b_5_c81 b_3_c79
               (fun v_c92 b_c93 b_2_c94 b_3_c95 b_4_c96 b_5_c97 b_6_c98 => rSum.M N R none parts.flatten
                (fun v_c99 => cond (!v_c92 == v_c99)
                 (r false)
                 (hSum.M N R b_c86 b_1_c87 b_2_c88 b_4_c90 b_5_c91 b_3_c89
                  (fun v_c100 b_c101 b_2_c102 b_3_c103 b_4_c104 b_5_c105 b_6_c106 => rSum.M N R none (cut none 0 (parts.flatten ++ more))
                   (fun v_c107 => cond (!v_c100 == v_c107)
                    (r false)
                    (Write.M N R b_c93 b_2_c94 b_3_c95 b_5_c97 b_6_c98 b_4_c96 x more
                     (fun b_c108 b_1_c109 b_2_c110 b_3_c111 b_4_c112 b_5_c113 => hSum.M N R b_c108 b_1_c109 b_2_c110 b_4_c112 b_5_c113 b_3_c111
                      (fun v_c114 _b_c115 _b_2_c116 _b_3_c117 _b_4_c118 _b_5_c119 _b_6_c120 => hSum.M N R b_c101 b_2_c102 b_3_c103 b_5_c105 b_6_c106 b_4_c104
                       (fun v_c121 _b_c122 _b_2_c123 _b_3_c124 _b_4_c125 _b_5_c126 _b_6_c127 => cond (v_c114 == v_c121)
                        (sSum.M N R parts
                         (fun v_c128 => rSum.M N R none parts.flatten
                          (fun v_c129 => r (v_c128 == v_c129))))
                        (r false)))))))))))
              (none))
             (none))
            (none))
           (none)))
  refine Eq.trans ec ?_
  obtain ⟨st1, off1, len1, c1, buf1, g1, e1⟩ := Write_eq (R := R) N (by omega) hc (buf.drop off).isEmpty x more (by omega) (by omega)
  obtain ⟨st2, off2, len2, c2, buf2, g2, e2⟩ := Write_eq (R := R) N (by omega) h nl x more (by omega) (by omega)
  show Write.M N R _ _ _ _ _ _ _ _ _ = _
  rw [e1, decide_eq_true (by omega), cond_true, decide_eq_true (by omega), cond_true, decide_eq_true (by omega), cond_true, decide_eq_true (by omega), cond_true]
  rw [hSum_eq N (by omega) h (by omega), rSum_eq N hN none _ hall (by omega), beq_self_eq_true, Bool.not_true, cond_false, hSum_eq N (by omega) g1 (by omega), cut_whole, rSum_eq N hN none _ hboth (by omega), beq_self_eq_true, Bool.not_true, cond_false]
  rw [e2, hSum_eq N (by omega) g2 (by omega), hSum_eq N (by omega) g1 (by omega), beq_self_eq_true, cond_true, sSum_eq N hN parts (fun p hp => by have := hs p hp; omega) (by omega), rSum_eq N hN none _ hall (by omega), beq_self_eq_true]

end Go.Proofs.YtildbbihjaaloaaDoor.fn
