/- The law of every epoch's secrets. -/
import Derived.Test.YtjaekdcbjfgcpaaDoorMSchedR
import Derived.Test.YtjaekdcbjfgcpaaDoorFnScheduleEpochs
namespace Go.Proofs.YtjaekdcbjfgcpaaDoor.fn
open Go Go.Proofs Go.Ev Go.Dg

theorem ScheduleEpochs_true {R : Type} (N : Nat) (hN : 2000 < N) (a b : List Int) (ha : isBy a) (hb : isBy b) (z : Option Bool) (ctx : List Int) (hx : isBy ctx) (r : Bool → Option R) : ScheduleEpochs.M N R a b z ctx r = r true := by
  show ScheduleEpochs.m (alive22.M N) (sJoiner.M N) (sBegin.M N) (sOf.M N) (r22Joiner.M N) (r22Begin.M N) (r22Of.M N) N a b z ctx r = _
  unfold ScheduleEpochs.m
  rw [alive22_eq N hN, Bool.not_true, cond_false]
  by_cases h : ctx.length ≤ 17000
  · rw [decide_eq_false (by omega), cond_false, sJoiner_eq N hN a b z ctx (by omega), sBegin_eq N hN a z ctx (by omega)]
    dsimp only [ofK]
    rw [sOf_eq N hN b z ctx (by omega)]
    dsimp only [ofK]
    rw [r22Joiner_eq N hN a b ha hb z ctx hx, beq_self_eq_true, cond_true, r22Begin_eq N hN a ha z ctx hx]
    dsimp only [ofK]
    rw [eqVal8, cond_true, r22Of_eq N hN b hb z ctx hx]
    dsimp only [ofK]
    rw [eqVal8]
  · rw [decide_eq_true (by omega), cond_true]

end Go.Proofs.YtjaekdcbjfgcpaaDoor.fn
