/- What an epoch's export is. -/
import Derived.Test.YtjaekdcbjfgcpaaDoorMSched
import Derived.Test.YtjaekdcbjfgcpaaDoorFnNum
namespace Go.Proofs.YtjaekdcbjfgcpaaDoor.fn
open Go Go.Proofs Go.Ev Go.Dg

def expo (e5 : List Int) (label : List UInt8) (ctx : List Int) (n : Nat) : List Int := labelOf (secF e5 [101, 120, 112, 111, 114, 116] (cut none 0 (ofStr label))) [101, 120, 112, 111, 114, 116, 101, 100] (cut (some 32) 0 (dgst ctx)) n

theorem cut_none (l : List Int) : cut none 0 l = l := by
  show l.drop 0 = l
  simp

theorem sExport_range {R : Type} (N : Nat) (e1 e2 e3 e4 e5 e6 e7 e8 : List Int) (label : List UInt8) (x : Option Bool) (ctx : List Int) (n : Int) (h : n < 0 ∨ n > 1000) (r0 : Nat → Option R) (r1 : Option Bool → List Int → Nat → Option R) :
    sExport.M N R e1 e2 e3 e4 e5 e6 e7 e8 label x ctx n r0 r1 = r0 1 := by
  show sExport.m (dSecret.M N) (sSum.M N) (dLabel.M N) N e1 e2 e3 e4 e5 e6 e7 e8 label x ctx n r0 r1 = _
  unfold sExport.m
  by_cases h0 : n < 0
  · rw [decide_eq_true h0, cond_true]
  · rw [decide_eq_false h0, cond_false, decide_eq_true (by omega), cond_true]

theorem sExport_long {R : Type} (N : Nat) (e1 e2 e3 e4 e5 e6 e7 e8 : List Int) (label : List UInt8) (x : Option Bool) (ctx : List Int) (n : Int) (h0 : ¬ (n < 0 ∨ n > 1000)) (h : label.length > 16384 ∨ ctx.length > 16384) (r0 : Nat → Option R) (r1 : Option Bool → List Int → Nat → Option R) :
    sExport.M N R e1 e2 e3 e4 e5 e6 e7 e8 label x ctx n r0 r1 = r0 3 := by
  show sExport.m (dSecret.M N) (sSum.M N) (dLabel.M N) N e1 e2 e3 e4 e5 e6 e7 e8 label x ctx n r0 r1 = _
  unfold sExport.m
  rw [decide_eq_false (by omega), cond_false, decide_eq_false (by omega), cond_false]
  by_cases h1 : label.length > 16384
  · rw [decide_eq_true (by omega), cond_true]
  · rw [decide_eq_false (by omega), cond_false, decide_eq_true (by omega), cond_true]

theorem sExport_ok {R : Type} (N : Nat) (hN : 2000 < N) (e1 e2 e3 e4 e5 e6 e7 e8 : List Int) (label : List UInt8) (x : Option Bool) (ctx : List Int) (n : Nat) (h : n ≤ 1000) (hl : label.length ≤ 16384) (hc : ctx.length ≤ 16384) (r0 : Nat → Option R) (r1 : Option Bool → List Int → Nat → Option R) :
    sExport.M N R e1 e2 e3 e4 e5 e6 e7 e8 label x ctx (n : Int) r0 r1 = r1 (if n = 0 then some true else none) (expo e5 label ctx n) 0 := by
  show sExport.m (dSecret.M N) (sSum.M N) (dLabel.M N) N e1 e2 e3 e4 e5 e6 e7 e8 label x ctx (n : Int) r0 r1 = _
  unfold sExport.m expo
  have hc0 : (cut none 0 (ofStr label)).length ≤ 1000000 := by rw [cut_none]; unfold ofStr; rw [List.length_map]; omega
  rw [decide_eq_false (by omega), cond_false, decide_eq_false (by omega), cond_false, decide_eq_false (by omega), cond_false, decide_eq_false (by omega), cond_false,
    dSec_one N hN _ _ (le200 (by decide)) _ hc0, sSum_eq N hN [ctx] (by intro p hp; rw [List.mem_singleton.1 hp]; omega) (by simp)]
  rw [List.flatten_singleton]
  have hcl := cut_le (dgst ctx)
  by_cases h0 : n = 0
  · subst h0
    rw [if_pos rfl]
    refine (dLabel_zero N hN _ _ _ _ (le200 (by decide)) (by omega) _).trans ?_
    have e : ∀ s l c, labelOf s l c 0 = [] := fun s l c => List.eq_nil_of_length_eq_zero (labelOf_len s l c 0)
    rw [e]
  · rw [if_neg h0]
    exact dLabel_eq N hN _ _ none _ n (by omega) (by omega) (le200 (by decide)) (by omega) _

theorem Num1 {R : Type} (M : Nat) (r : Int → Option R) : Num.M (M + 80) R 1 r = r 1 := by show _ = _; kernel_rfl
theorem Num3 {R : Type} (M : Nat) (r : Int → Option R) : Num.M (M + 80) R 3 r = r 3 := by show _ = _; kernel_rfl
theorem Num0 {R : Type} (M : Nat) (r : Int → Option R) : Num.M (M + 80) R 0 r = r 0 := by show _ = _; kernel_rfl

end Go.Proofs.YtjaekdcbjfgcpaaDoor.fn
