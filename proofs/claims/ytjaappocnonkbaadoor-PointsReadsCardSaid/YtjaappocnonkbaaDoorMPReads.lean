/- What a law of points says is so. -/
import Derived.Test.YtjaappocnonkbaaDoorMPointsE
import Derived.Test.YtjaappocnonkbaaDoorFnPReads
namespace Go.Proofs.YtjaappocnonkbaaDoor.fn
open Go Go.Proofs Go.Ev Go.Dg

theorem PointsReads_true {R : Type} (N : Nat) (hN : 1000 < N) (B : Nat) (hB : B < 256 ^ 32) (r : Bool → Option R) : PointsReads.M N R (nn (dig 256 32 B)) r = r true := by
  show PointsReads.m (alive12.M N) (pRead.M N) (qRead.M N) (Num.M N) (pBytes.M N) (qBytes.M N) (pNegate.M N) (pSame.M N) N _ r = _
  unfold PointsReads.m
  rw [alive12_eq N hN, Bool.not_true, cond_false]
  cases h : dec B with
  | none =>
    rw [pRead_none N hN B hB h, qRead_none N hN B hB h, Num_4 N (by omega)]
    rfl
  | some p =>
    obtain ⟨x, y, z, t, g, e⟩ := pRead_some (R := R) N hN B hB h
    obtain ⟨u, v, w, g', e'⟩ := qRead_some (R := R) N hN B hB h
    obtain ⟨a, b, c, d, n1, e1⟩ := pNegate_eq (R := R) N (by omega) _ _ _ _ g
    obtain ⟨a2, b2, c2, d2, n2, e2⟩ := pNegate_eq (R := R) N (by omega) _ _ _ _ n1
    rw [e, e', Num_0 N (by omega), show ((0 : Int) != 0) = false from rfl, cond_false, cond_false, pBytes_eq N hN _ _ _ _ g, dec_pb hB h, beq_self_eq_true, cond_true, qBytes_eq N hN _ _ _ g', dec_pb hB h, beq_self_eq_true, cond_true, e1, e2,
      pSame_eq N hN _ _ _ _ _ _ _ _ n2 g, decide_eq_true (negP_negP p)]

end Go.Proofs.YtjaappocnonkbaaDoor.fn
