/- The law that unlike labels, contexts and lengths have unlike infos. -/
import Derived.Test.YtildbbihjaaloaaDoorFnDerUnlike
import Derived.Test.YtildbbihjaaloaaDoorMDerB
import Derived.Test.YtildbbihjaaloaaDoorMEqual
namespace Go.Proofs.YtildbbihjaaloaaDoor.fn
open Go Go.Proofs Go.Ev Go.Dg

theorem alive05u_eq {R : Type} (N : Nat) (r : Bool → Option R) : alive05.M N R r = r true := by
  show alive05.m (dInfo.M N) N r = _
  kernel_rfl

noncomputable def unTail {R : Type} (N : Nat) (x y : Option Bool) (key info : List Int) (r : Bool → Option R) : Option R :=
  dExpand.M N R x key y info 20
                  (fun v_c12 => dExpand.M N R x key y info 70
                   (fun v_c13 => cond (v_c12.beq 0)
                    (cond (v_c13.beq 0)
                     (none)
                     (r false))
                    (r false))
                   (fun _vg1_c14 _b_c15 b_2_c16 => cond (v_c12.beq 0)
                    (cond (decide (20 ≤ (↑b_2_c16.length : Int)))
                     (r (toStr (cut (some 20) 0 b_2_c16) == []))
                     (none))
                    (r false)))
                  (fun vg1_c17 _b_c18 b_2_c19 => dExpand.M N R x key y info 70
                   (fun v_c20 => cond (v_c20.beq 0)
                    (none)
                    (r false))
                   (fun _vg1_c21 _b_c22 b_2_c23 => cond (decide (20 ≤ (↑b_2_c23.length : Int)))
                    (r (toStr (cut (some 20) 0 b_2_c23) == toStr (cut (some vg1_c17) 0 b_2_c19)))
                    (none)))

theorem unTail_true {R : Type} (N : Nat) (hN : 2000 < N) (x y : Option Bool) (key info : List Int) (hk : key.length ≤ 300) (hi : info.length ≤ 300) (r : Bool → Option R) : unTail N x y key info r = r true := by
  unfold unTail
  refine dExpand_eq N hN x y key info (by omega) (by omega) 20 (by omega) (by omega) _ _ _ fun nl => ?_
  refine dExpand_eq N hN x y key info (by omega) (by omega) 70 (by omega) (by omega) _ _ _ fun nl => ?_
  have hl := outb_len key info (nb 70)
  have hn : nb 70 = 3 := rfl
  rw [decide_eq_true (by rw [hl, hn]; omega), cond_true]
  have e1 : cut (some 20) 0 (outb key info (nb 70)) = (outb key info (nb 70)).take 20 := rfl
  have e2 : cut (some 20) 0 (outb key info (nb 20)) = (outb key info (nb 20)).take 20 := rfl
  rw [e1, e2, outb_begin, beq_self_eq_true]

theorem info_ne {a : List UInt8} {x : List Int} : infoOf a x 32 ≠ infoOf a x 33 := by
  intro h
  unfold infoOf at h
  rw [List.append_assoc, List.append_assoc, List.append_assoc, List.append_assoc] at h
  obtain ⟨h1, _⟩ := List.append_inj h rfl
  simp only [List.cons.injEq, and_true] at h1
  exact absurd h1.2 (by decide)

theorem DeriveUnlike_true {R : Type} (N : Nat) (hN : 2000 < N) (a b : List UInt8) (xN yN : Option Bool) (x y : List Int) (hx : isBy x) (hy : isBy y) (r : Bool → Option R) : DeriveUnlike.M N R a b xN x yN y r = r true := by
  show DeriveUnlike.m (alive05.M N) (dInfo.M N) (dExpand.M N) N a b xN x yN y r = _
  unfold DeriveUnlike.m
  rw [alive05u_eq, Bool.not_true, cond_false]
  by_cases h1 : (a.length : Int) > 200
  · rw [decide_eq_true h1, cond_true]
  rw [decide_eq_false h1, cond_false]
  by_cases h2 : (b.length : Int) > 200
  · rw [decide_eq_true h2, cond_true]
  rw [decide_eq_false h2, cond_false]
  by_cases h3 : (x.length : Int) > 300
  · rw [decide_eq_true h3, cond_true]
  rw [decide_eq_false h3, cond_false]
  by_cases h4 : (y.length : Int) > 300
  · rw [decide_eq_true h4, cond_true]
  rw [decide_eq_false h4, cond_false]
  rw [dInfo_eq N a xN x 32 (by omega) (by omega) (by omega) (by omega), dInfo_eq N b yN y 32 (by omega) (by omega) (by omega) (by omega), dInfo_eq N a xN x 33 (by omega) (by omega) (by omega) (by omega)]
  have e0 : (!Nat.beq 0 0) = false := rfl
  simp only [e0, cond_false]
  have p1 : (toStr (infoOf a x 32) == toStr (infoOf b y 32)) = decide (infoOf a x 32 = infoOf b y 32) := same_by (infoOf_by hx) (infoOf_by hy)
  have p2 : (toStr x == toStr y) = decide (x = y) := same_by hx hy
  have p3 : (toStr (infoOf a x 32) == toStr (infoOf a x 33)) = false := by
    rw [same_by (infoOf_by hx) (infoOf_by hx)]; exact decide_eq_false info_ne
  rw [p1, p2, p3]
  simp only [cond_false]
  by_cases hab : a = b
  · subst hab
    have p4 : decide (infoOf a x 32 = infoOf a y 32) = decide (x = y) := by
      by_cases hxy : x = y
      · subst hxy; simp
      · rw [decide_eq_false hxy, decide_eq_false fun h => hxy (infoOf_inj (by omega) (by omega) h).2]
    rw [p4, beq_self_eq_true, cond_true, beq_self_eq_true, Bool.not_true, cond_false]
    exact unTail_true N hN xN yN x y (by omega) (by omega) r
  · have p4 : decide (infoOf a x 32 = infoOf b y 32) = false := decide_eq_false fun h => hab (infoOf_inj (by omega) (by omega) h).1
    have p5 : (a == b) = false := beq_eq_false_iff_ne.2 hab
    rw [p4, p5, cond_false, beq_self_eq_true, Bool.not_true, cond_false]
    exact unTail_true N hN xN yN x y (by omega) (by omega) r

end Go.Proofs.YtildbbihjaaloaaDoor.fn
