/- The law of who has the joiner's secret. -/
import Derived.Test.YtjaekdcbjfgcpaaDoorMSchedX
import Derived.Test.YtjaekdcbjfgcpaaDoorFnScheduleSame
namespace Go.Proofs.YtjaekdcbjfgcpaaDoor.fn
open Go Go.Proofs Go.Ev Go.Dg

theorem zeros_len : (cut none 0 (List.replicate 16385 (0 : Int))).length = 16385 := by rw [cut_none, List.length_replicate]

theorem ScheduleSame_true {R : Type} (M : Nat) (hM : 2000 < M) (init way : List Int) (z : Option Bool) (ctx : List Int) (r : Bool → Option R) : ScheduleSame.M (M + 80) R init way z ctx r = r true := by
  show ScheduleSame.m (alive22.M (M + 80)) (sJoiner.M (M + 80)) (sOf.M (M + 80)) (sExport.M (M + 80)) (Num.M (M + 80)) (M + 80) init way z ctx r = _
  have hN : 2000 < M + 80 := by omega
  unfold ScheduleSame.m
  rw [alive22_eq _ hN, Bool.not_true, cond_false]
  by_cases h : ctx.length ≤ 16384
  · rw [decide_eq_false (by omega), cond_false, sJoiner_eq _ hN _ _ z ctx (by omega), sOf_eq _ hN _ z ctx (by omega)]
    dsimp only [ofK]
    rw [sOf_eq _ hN _ z ctx (by omega)]
    dsimp only [ofK]
    refine (sExport_ok _ hN _ _ _ _ _ _ _ _ [108] z ctx 40 (by omega) (by decide) h _ _).trans ?_
    refine (sExport_ok _ hN _ _ _ _ _ _ _ _ [108] z ctx 40 (by omega) (by decide) h _ _).trans ?_
    rw [sExport_range _ _ _ _ _ _ _ _ _ _ _ _ 1001 (by omega), sExport_long _ _ _ _ _ _ _ _ _ _ _ _ 4 (by omega) (.inr (by rw [zeros_len]; omega))]
    have hl : (((expo (secF (ofE (joinF init way ctx) ctx) [101, 120, 112, 111, 114, 116, 101, 114] []) [108] ctx 40).length : Int) == 40) = true := by unfold expo; rw [labelOf_len]; rfl
    have e0 : Nat.beq 0 0 = true := rfl
    have e1 : ((1 : Int) == 1) = true := rfl
    rw [eqVal8, cond_true, beq_self_eq_true, cond_true, e0, cond_true, cond_true, beq_self_eq_true, cond_true, hl, cond_true, Num1, e1, cond_true, Num3]
    rfl
  · rw [decide_eq_true (by omega), cond_true]

end Go.Proofs.YtjaekdcbjfgcpaaDoor.fn
