/- The law of a digest of all bytes. -/
import Derived.Test.YtildbbihjaaloaaDoorFnShaSums
import Derived.Test.YtildbbihjaaloaaDoorMShaL
namespace Go.Proofs.YtildbbihjaaloaaDoor.fn
open Go Go.Proofs Go.Ev Go.Dg

theorem ShaSums_true {R : Type} (N : Nat) (hN : 2000 < N) (z : Option Bool) (b : List Int) (hy : isBy b) (r : Bool → Option R) : ShaSums.M N R z b r = r true := by
  show ShaSums.m (alive02.M N) (Bytes.M N) (sSum.M N) (rSum.M N) (Kept.M N) N z b r = _
  unfold ShaSums.m
  rw [alive02_eq N hN, Bool.not_true, cond_false]
  by_cases hb : (b.length : Int) > 1000
  · rw [decide_eq_true hb, cond_true]
  · rw [decide_eq_false hb, cond_false, Bytes_eq N z b (by omega), cut_bytes, sSum_eq N hN [b] (by intro p hp; rw [List.mem_singleton.1 hp]; omega) (by simp), rSum_eq N hN z b hy (by omega), List.flatten_singleton, beq_self_eq_true, cond_true, Kept_eq N z _ b (by omega)]
    have hbq : Nat.beq (b ++ marks).length (b ++ marks).length = true := Nat.beq_refl _
    simp only [hbq, Bool.and_true, beq_self_eq_true, cond_true]

end Go.Proofs.YtildbbihjaaloaaDoor.fn
