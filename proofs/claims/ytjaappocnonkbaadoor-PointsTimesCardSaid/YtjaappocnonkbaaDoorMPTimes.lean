/- What a law of points says is so. -/
import Derived.Test.YtjaappocnonkbaaDoorMPointsE
import Derived.Test.YtjaappocnonkbaaDoorFnPTimes
namespace Go.Proofs.YtjaappocnonkbaaDoor.fn
open Go Go.Proofs Go.Ev Go.Dg

theorem PointsTimes_true {R : Type} (N : Nat) (hN : 1000 < N) (A S : Nat) (hA : A < 256 ^ 32) (r : Bool → Option R) : PointsTimes.M N R (nn (dig 256 32 A)) (nn (dig 256 32 S)) r = r true := by
  show PointsTimes.m (alive12.M N) (some12.M N) (pTimes.M N) (pBytes.M N) (qTimes.M N) (qBytes.M N) N _ _ r = _
  unfold PointsTimes.m
  obtain ⟨p, x1, y1, z1, t1, u1, v1, w1, op, g1, k1, e1⟩ := some12_eq (R := R) N hN A hA
  obtain ⟨x3, y3, z3, t3, g3, e3⟩ := pTimes_eq (R := R) N (by omega) _ (key_lt S) op _ _ _ _ g1
  obtain ⟨u3, v3, w3, k3, f3⟩ := qTimes_eq (R := R) N (by omega) _ (key_lt S) op _ _ _ k1
  rw [alive12_eq N hN, Bool.not_true, cond_false, e1, e3, pBytes_eq N hN _ _ _ _ g3, f3, qBytes_eq N hN _ _ _ k3, beq_self_eq_true]

end Go.Proofs.YtjaappocnonkbaaDoor.fn
