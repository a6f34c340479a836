/- What a law of points says is so. -/
import Derived.Test.YtjaappocnonkbaaDoorMPointsE
import Derived.Test.YtjaappocnonkbaaDoorFnPSums
namespace Go.Proofs.YtjaappocnonkbaaDoor.fn
open Go Go.Proofs Go.Ev Go.Dg

theorem PointsSums_true {R : Type} (N : Nat) (hN : 1000 < N) (A B : Nat) (hA : A < 256 ^ 32) (hB : B < 256 ^ 32) (r : Bool → Option R) : PointsSums.M N R (nn (dig 256 32 A)) (nn (dig 256 32 B)) r = r true := by
  show PointsSums.m (alive12.M N) (some12.M N) (pAdd.M N) (pBytes.M N) (qAdd.M N) (qBytes.M N) (pNegate.M N) (qNegate.M N) (pSame.M N) (pZero.M N) N _ _ r = _
  unfold PointsSums.m
  have hN' : 100 < N := by omega
  obtain ⟨p, x1, y1, z1, t1, u1, v1, w1, op, g1, k1, e1⟩ := some12_eq (R := R) N hN A hA
  obtain ⟨q, x2, y2, z2, t2, u2, v2, w2, oq, g2, k2, e2⟩ := some12_eq (R := R) N hN B hB
  obtain ⟨x3, y3, z3, t3, g3, e3⟩ := pAdd_eq (R := R) N hN' op oq _ _ _ _ _ _ _ _ g1 g2
  obtain ⟨u3, v3, w3, k3, f3⟩ := qAdd_eq (R := R) N hN' op oq _ _ _ _ _ _ k1 k2
  obtain ⟨x4, y4, z4, t4, g4, e4⟩ := pNegate_eq (R := R) N hN' _ _ _ _ g1
  obtain ⟨u4, v4, w4, k4, f4⟩ := qNegate_eq (R := R) N hN' _ _ _ k1
  obtain ⟨x5, y5, z5, t5, g5, e5⟩ := pAdd_eq (R := R) N hN' op op.neg _ _ _ _ _ _ _ _ g1 g4
  obtain ⟨x6, y6, z6, t6, g6, e6⟩ := pZero_eq (R := R) N hN'
  rw [alive12_eq N hN, Bool.not_true, cond_false, e1, e2, e3, pBytes_eq N hN _ _ _ _ g3, f3, qBytes_eq N hN _ _ _ k3, beq_self_eq_true, cond_true, e4, pBytes_eq N hN _ _ _ _ g4, f4, qBytes_eq N hN _ _ _ k4, beq_self_eq_true, cond_true,
    pSame_eq N hN _ _ _ _ _ _ _ _ g1 g2, pBytes_eq N hN _ _ _ _ g1, pBytes_eq N hN _ _ _ _ g2, beq_row (pb_lt p) (pb_lt q)]
  have hd : (decide (p = q) == decide (pb p = pb q)) = true := by
    rw [beq_iff_eq, Bool.eq_iff_iff, decide_eq_true_iff, decide_eq_true_iff]
    exact ⟨fun h => by rw [h], pb_inj op oq⟩
  rw [hd, cond_true, e4, e5, e6, pSame_eq N hN _ _ _ _ _ _ _ _ g5 g6, decide_eq_true (addP_neg op)]

end Go.Proofs.YtjaappocnonkbaaDoor.fn
