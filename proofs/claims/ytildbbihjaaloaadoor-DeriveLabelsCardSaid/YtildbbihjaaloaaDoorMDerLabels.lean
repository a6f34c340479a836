/- The law of every derivation by a label. -/
import Derived.Test.YtildbbihjaaloaaDoorFnDerLabels
import Derived.Test.YtildbbihjaaloaaDoorMDerC
namespace Go.Proofs.YtildbbihjaaloaaDoor.fn
open Go Go.Proofs Go.Ev Go.Dg

theorem alive05l_eq {R : Type} (N : Nat) (r : Bool → Option R) : alive05.M N R r = r true := by
  show alive05.m (dInfo.M N) N r = _
  kernel_rfl
theorem dNum_3 {R : Type} (N : Nat) (hN : 30 ≤ N) (r : Int → Option R) : Num.M N R 3 r = r 3 := by
  obtain ⟨M, rfl⟩ : ∃ M, N = M + 30 := ⟨N - 30, by omega⟩
  kernel_rfl

theorem DeriveLabels_true {R : Type} (N : Nat) (hN : 2000 < N) (secret : List Int) (hs : isBy secret) (label : List UInt8) (x : Option Bool) (ctx : List Int) (hx : isBy ctx) (r : Bool → Option R) : DeriveLabels.M N R secret label x ctx r = r true := by
  show DeriveLabels.m (alive05.M N) (dInfo.M N) (dLabel.M N) (dSecret.M N) (Num.M N) (rdInfo.M N) (rdLabel.M N) (rdSecret.M N) N secret label x ctx r = _
  unfold DeriveLabels.m
  rw [alive05l_eq, Bool.not_true, cond_false]
  by_cases h1 : (label.length : Int) > 400
  · rw [decide_eq_true h1, cond_true]
  rw [decide_eq_false h1, cond_false]
  by_cases h2 : (ctx.length : Int) > 17000
  · rw [decide_eq_true h2, cond_true]
  rw [decide_eq_false h2, cond_false]
  have hfl : [ctx].flatten = ctx := List.flatten_singleton
  have e0 : Nat.beq 0 0 = true := rfl
  by_cases hl : label.length > 200 ∨ ctx.length > 16384
  · rw [dInfo_long N label x ctx 40 (by omega) (by omega) hl]
    refine (dLabel_long N secret label x ctx 40 (by omega) hl _).trans ?_
    rw [dSecret_long N hN secret label [ctx] (by simp) (by rw [hfl]; omega) (by rw [hfl]; exact hl)]
    have e1 : (IntKind.i64.wrap (((([] : List Int).length : Nat) : Int) + ((([] : List Int).length : Nat) : Int)) == 0) = true := by decide
    have e3 : (((3 : Int)) == 3) = true := rfl
    rw [e1]
    simp only [cond_true]
    rw [dNum_3 N (by omega), e3, cond_true, dNum_3 N (by omega), e3, cond_true]
    have ez : (z32 == [0, 0, 0, 0, 0, 0, 0, 0, 0, 0, 0, 0, 0, 0, 0, 0, 0, 0, 0, 0, 0, 0, 0, 0, 0, 0, 0, 0, 0, 0, 0, 0]) = true := by decide
    rw [ez]
    by_cases h3 : (label.length : Int) > 200
    · rw [decide_eq_true h3, cond_true]
    · rw [decide_eq_false h3, cond_false, decide_eq_true (by omega), cond_true]
  · rw [dInfo_eq N label x ctx 40 (by omega) (by omega) (by omega) (by omega)]
    refine (dLabel_eq N hN secret label x ctx 40 (by omega) (by omega) (by omega) (by omega) _).trans ?_
    rw [dSecret_eq N hN secret label [ctx] (by simp) (by omega) (by rw [hfl]; omega), hfl]
    rw [decide_eq_false (by omega), cond_false, decide_eq_false (by omega), cond_false, e0, cond_true, cond_true]
    refine (rdInfo_eq N label x ctx 40 (by omega) (by omega) (by omega) _).trans ?_
    have e4 : (toStr (infoOf label ctx 40) == toStr (infoOf label ctx ((40 : Nat) : Int))) = true := beq_self_eq_true _
    rw [e4, cond_true]
    refine (rdLabel_eq N hN secret hs label x ctx hx 40 (by omega) (by omega) (by omega) _).trans ?_
    rw [beq_self_eq_true, cond_true, rdSecret_eq N hN secret hs label x ctx hx (by omega) (by omega), beq_self_eq_true]

end Go.Proofs.YtildbbihjaaloaaDoor.fn
