/- What a law of points says is so. -/
import Derived.Test.YtjaappocnonkbaaDoorMPointsE
import Derived.Test.YtjaappocnonkbaaDoorFnPChains
namespace Go.Proofs.YtjaappocnonkbaaDoor.fn
open Go Go.Proofs Go.Ev Go.Dg

theorem PointsChains_true {R : Type} (N : Nat) (hN : 1000 < N) (A B n : Nat) (hA : A < 256 ^ 32) (hB : B < 256 ^ 32) (hn : n < 65536) (r : Bool → Option R) : PointsChains.M N R (nn (dig 256 32 A)) (nn (dig 256 32 B)) (n : Int) r = r true := by
  show PointsChains.m (alive12.M N) (some12.M N) (pAdd.M N) (pSame.M N) (pZero.M N) (pTimes.M N) (plusK.M N) (pBase.M N) (lKey.M N) N _ _ _ r = _
  unfold PointsChains.m
  have hN' : 100 < N := by omega
  obtain ⟨p, x1, y1, z1, t1, u1, v1, w1, op, g1, k1, e1⟩ := some12_eq (R := R) N hN A hA
  obtain ⟨q, x2, y2, z2, t2, u2, v2, w2, oq, g2, k2, e2⟩ := some12_eq (R := R) N hN B hB
  obtain ⟨x3, y3, z3, t3, g3, e3⟩ := pAdd_eq (R := R) N hN' op oq _ _ _ _ _ _ _ _ g1 g2
  obtain ⟨x4, y4, z4, t4, g4, e4⟩ := pAdd_eq (R := R) N hN' oq op _ _ _ _ _ _ _ _ g2 g1
  obtain ⟨x5, y5, z5, t5, g5, e5⟩ := pAdd_eq (R := R) N hN' (op.add oq) op _ _ _ _ _ _ _ _ g3 g1
  obtain ⟨x6, y6, z6, t6, g6, e6⟩ := pAdd_eq (R := R) N hN' op op _ _ _ _ _ _ _ _ g1 g1
  obtain ⟨x7, y7, z7, t7, g7, e7⟩ := pAdd_eq (R := R) N hN' (op.add op) oq _ _ _ _ _ _ _ _ g6 g2
  obtain ⟨x8, y8, z8, t8, g8, e8⟩ := pZero_eq (R := R) N hN'
  obtain ⟨x9, y9, z9, t9, g9, e9⟩ := pAdd_eq (R := R) N hN' op .zero _ _ _ _ _ _ _ _ g1 g8
  obtain ⟨xa, ya, za, ta, ga, ea⟩ := pTimes_eq (R := R) N (by omega) _ (key_lt n) op _ _ _ _ g1
  obtain ⟨xb, yb, zb, tb, gb, eb⟩ := pAdd_eq (R := R) N hN' (op.mul _) op _ _ _ _ _ _ _ _ ga g1
  obtain ⟨xc, yc, zc, tc, gc, ec⟩ := pTimes_eq (R := R) N (by omega) _ (key_lt (n + 1)) op _ _ _ _ g1
  obtain ⟨xd, yd, zd, td, gd, ed⟩ := pTimes_eq (R := R) N (by omega) _ (key_lt 1) op _ _ _ _ g1
  obtain ⟨xe, ye, ze, te, ge, e10⟩ := pBase_eq (R := R) N hN'
  obtain ⟨xf, yf, zf, tf, gf, ef⟩ := pTimes_eq (R := R) N (by omega) _ (key_lt LL) base_on _ _ _ _ ge
  have big : 65536 < 256 ^ 32 := by decide +kernel
  rw [vl_key n (Nat.lt_trans hn big)] at gb
  rw [vl_key (n + 1) (by omega)] at gc
  rw [vl_key 1 one_key] at gd
  rw [vl_key LL LL_key] at gf
  rw [alive12_eq N hN, Bool.not_true, cond_false, e1, e2, e3, e4, pSame_eq N hN _ _ _ _ _ _ _ _ g3 g4, decide_eq_true (addP_comm p q), Bool.not_true, cond_false, e3, e5, e6, e7, pSame_eq N hN _ _ _ _ _ _ _ _ g5 g7, decide_eq_true (again op oq), Bool.not_true, cond_false,
    e8, e9, pSame_eq N hN _ _ _ _ _ _ _ _ g9 g1, decide_eq_true (addP_zero p), Bool.not_true, cond_false, key2 n hn, ea, eb, plusK_eq N n hn, ec, pSame_eq N hN _ _ _ _ _ _ _ _ gb gc, decide_eq_true (by rfl), cond_true,
    key_one, ed, pSame_eq N hN _ _ _ _ _ _ _ _ gd g1, decide_eq_true (mulP_one p), cond_true, e10]
  show pTimes.M N R _ _ _ _ _ _ = _
  rw [key_l, ef, e8, pSame_eq N hN _ _ _ _ _ _ _ _ gf g8, decide_eq_true base_order]

end Go.Proofs.YtjaappocnonkbaaDoor.fn
