/- What a law of points says is so. -/
import Derived.Test.YtjaappocnonkbaaDoorMPointsE
import Derived.Test.YtjaappocnonkbaaDoorFnPWith
namespace Go.Proofs.YtjaappocnonkbaaDoor.fn
open Go Go.Proofs Go.Ev Go.Dg

theorem PointsWith_true {R : Type} (N : Nat) (hN : 1000 < N) (A H S : Nat) (hA : A < 256 ^ 32) (r : Bool → Option R) : PointsWith.M N R (nn (dig 256 32 A)) (nn (dig 256 32 H)) (nn (dig 256 32 S)) r = r true := by
  show PointsWith.m (alive12.M N) (some12.M N) (pWith.M N) (pBytes.M N) (qWith.M N) (qBytes.M N) (pTimes.M N) (pBase.M N) (pAdd.M N) (pSame.M N) N _ _ _ r = _
  unfold PointsWith.m
  have hN' : 100 < N := by omega
  obtain ⟨p, x1, y1, z1, t1, u1, v1, w1, op, g1, k1, e1⟩ := some12_eq (R := R) N hN A hA
  obtain ⟨x3, y3, z3, t3, g3, e3⟩ := pWith_eq (R := R) N (by omega) _ _ (key_lt H) (key_lt S) op _ _ _ _ g1
  obtain ⟨u3, v3, w3, k3, f3⟩ := qWith_eq (R := R) N (by omega) _ _ (key_lt H) (key_lt S) op _ _ _ k1
  obtain ⟨x4, y4, z4, t4, g4, e4⟩ := pTimes_eq (R := R) N (by omega) _ (key_lt H) op _ _ _ _ g1
  obtain ⟨xb, yb, zb, tb, gb, eb⟩ := pBase_eq (R := R) N hN'
  obtain ⟨x5, y5, z5, t5, g5, e5⟩ := pTimes_eq (R := R) N (by omega) _ (key_lt S) base_on _ _ _ _ gb
  obtain ⟨x6, y6, z6, t6, g6, e6⟩ := pAdd_eq (R := R) N hN' (op.mul _) (base_on.mul _) _ _ _ _ _ _ _ _ g4 g5
  rw [alive12_eq N hN, Bool.not_true, cond_false, e1, e3, pBytes_eq N hN _ _ _ _ g3, f3, qBytes_eq N hN _ _ _ k3, beq_self_eq_true, cond_true, e4, eb, e5, e6, pSame_eq N hN _ _ _ _ _ _ _ _ g3 g6, decide_eq_true (by rfl)]

end Go.Proofs.YtjaappocnonkbaaDoor.fn
