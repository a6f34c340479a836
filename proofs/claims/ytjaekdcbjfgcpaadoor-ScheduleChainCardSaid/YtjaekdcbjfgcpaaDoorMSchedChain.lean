/- The law of epochs that follow one another. -/
import Derived.Test.YtjaekdcbjfgcpaaDoorMSched
import Derived.Test.YtjaekdcbjfgcpaaDoorFnScheduleChain
namespace Go.Proofs.YtjaekdcbjfgcpaaDoor.fn
open Go Go.Proofs Go.Ev Go.Dg

theorem w64c (z : Int) (h0 : -1000000 ≤ z) (h1 : z ≤ 1000000) : IntKind.i64.wrap z = z := by
  unfold IntKind.wrap
  simp only [IntKind.bits, IntKind.signed, Bool.true_and]
  split
  · rename_i h; simp at h; omega
  · rename_i h; simp at h; omega

theorem chain_loop {R : Type} (N : Nat) (hN : 2000 < N) (z : Option Bool) (ctx : List Int) (hc : ctx.length ≤ 1000000) (ways : List (List Int)) (hw : ways.length ≤ 20) (h0 : List Int) (T : Option R)
    (ke0 : (Option Bool) → (List Int) → (List (List Int)) → Int → Int → (List Int) → (List Int) → (List Int) → (List Int) → (List Int) → (List Int) → (List Int) → (List Int) → (List Int) → (List Int) → (List Int) → (List Int) → (List Int) → (List Int) → (List Int) → (List Int) → (List Int) → (List Int) → (List Int) → (List Int) → (List Int) → Option R)
    (ke1 : (Option Bool) → (List Int) → (List (List Int)) → Int → Int → (List Int) → (List Int) → (List Int) → (List Int) → (List Int) → (List Int) → (List Int) → (List Int) → (List Int) → (List Int) → (List Int) → (List Int) → (List Int) → (List Int) → (List Int) → (List Int) → (List Int) → Option R)
    (hk : ∀ t29 t30 a b c d e f g h, ke1 z ctx ways t29 t30 h0 a b c d e f g h a b c d e f g h = T) :
    ∀ (n i m : Nat), i + n = ways.length → n < m → ∀ a b c d e f g h, ScheduleChain.L7 (alive22.M N) (sBegin.M N) (sJoiner.M N) (sOf.M N) (sTag.M N) N ke0 ke1 m z ctx ways (ways.length : Int) (i : Int) h0 a b c d e f g h a b c d e f g h = T
  | 0, i, m + 1, hi, _, a, b, c, d, e, f, g, h => by
    unfold ScheduleChain.L7
    rw [decide_eq_false (by omega), cond_false]
    exact hk _ _ _ _ _ _ _ _ _ _
  | n + 1, i, m + 1, hi, hm, a, b, c, d, e, f, g, h => by
    unfold ScheduleChain.L7
    rw [decide_eq_true (show (i : Int) < (ways.length : Int) by omega), cond_true, decide_eq_true (show (0 : Int) ≤ (i : Int) by omega), cond_true, cond_true, sJoiner_eq N hN _ _ z ctx hc, sOf_eq N hN _ z ctx hc]
    dsimp only [ofK]
    rw [sJoiner_eq N hN _ _ z ctx hc, sOf_eq N hN _ z ctx hc]
    dsimp only [ofK]
    rw [beq_self_eq_true, Bool.not_true, cond_false, w64c _ (by omega) (by omega)]
    exact chain_loop N hN z ctx hc ways hw h0 T ke0 ke1 hk n (i + 1) m (by omega) (by omega) _ _ _ _ _ _ _ _

theorem ScheduleChain_true {R : Type} (N : Nat) (hN : 2000 < N) (draw : List Int) (ways : List (List Int)) (z : Option Bool) (ctx : List Int) (r : Bool → Option R) : ScheduleChain.M N R draw ways z ctx r = r true := by
  show ScheduleChain.m (alive22.M N) (sBegin.M N) (sJoiner.M N) (sOf.M N) (sTag.M N) N draw ways z ctx r = _
  unfold ScheduleChain.m
  rw [alive22_eq N hN, Bool.not_true, cond_false]
  by_cases h1 : ways.length ≤ 20
  · rw [decide_eq_false (by omega), cond_false]
    by_cases h2 : ctx.length ≤ 1000
    · rw [decide_eq_false (by omega), cond_false, sBegin_eq N hN draw z ctx (by omega)]
      dsimp only [ofK]
      rw [sBegin_eq N hN draw z ctx (by omega)]
      dsimp only [ofK]
      refine chain_loop N hN z ctx (by omega) ways h1 draw (r true) _ _ ?_ ways.length 0 N (by omega) (by omega) _ _ _ _ _ _ _ _
      intro t29 t30 a b c d e f g h
      rw [eqVal8, cond_true, sTag_eq N hN, sTag_eq N hN, beq_self_eq_true]
    · rw [decide_eq_true (by omega), cond_true]
  · rw [decide_eq_true (by omega), cond_true]

end Go.Proofs.YtjaekdcbjfgcpaaDoor.fn
