/-
  Sums of points go together in whatever order, and the base point so often as its order is the point of no sum: for every input the law returns true and leaves its input as it was; what its road names of the package's variables starts as the program's text lays it.
-/
import Derived.Test.YtjaappocnonkbaaDoorCards
import Derived.Test.YtjaappocnonkbaaDoorTie
import Derived.Test.YtjaappocnonkbaaDoorMPChains
import Derived.Test.YtjaappocnonkbaaDoorSeat
import Derived.Test.YtjaappocnonkbaaDoorEv5
import Derived.WalkKit
import Derived.ProofKit
import Derived.OpenShut
import Derived.LaidLaws
import Derived.Deep.DeepHandedRow
namespace Go.Proofs.YtjaappocnonkbaaDoor.pointsChains
open Go.ChangeShapes Go.WideShapes Go.ChangeAt Go.RowKit Go.Ev

def ss : List OS := [.ints .u8 32, .ints .u8 32, .int .u16]
def N : Nat := 1000000000000
def e4 : EV := ⟨"fellowship/api.ErrForm", 4, [102, 101, 108, 108, 111, 119, 115, 104, 105, 112, 58, 32, 102, 111, 114, 109], 0⟩
def errs : List EV := [e4]
theorem errs_ok : ∀ e ∈ errs, e.okB Tryd.prog := by
  intro e he
  simp only [errs, List.mem_cons, List.not_mem_nil, or_false] at he
  rcases he with rfl
  · exact seat.errOk _ (by kernel_rfl) (by kernel_rfl)
theorem laidH (W : World) : laidMetH Tryd.prog Rows.pointsChainsRow.laid W = laidMet Tryd.prog [e4.entry, ("fellowship/field.many", Rows.laid_fellowship_field_many), ("fellowship/field.minus", Rows.laid_fellowship_field_minus)] W := by kernel_rfl
theorem is_laid_fellowship_field_many : (Rows.laid_fellowship_field_many : DataW Unit) = .agg (([134216512, 134217726, 134217726, 134217726, 134217726, 134217726, 134217726, 134217726, 134217726, 134217726] : List Int).map fun x => .lit (.int .u64 x)) := by kernel_rfl
theorem is_laid_fellowship_field_minus : (Rows.laid_fellowship_field_minus : DataW Unit) = .agg (([34513072, 59165138, 38243406, 1750207, 53429016, 58652137, 13633939, 58469549, 8409025, 712905] : List Int).map fun x => .lit (.int .u64 x)) := by kernel_rfl

theorem true_all (avs : List AV) (h : OS.goodL ss avs) : (fn.PointsChains.con (fn.PointsChains.M N)) Unit avs [] yes = some () := by
  obtain ⟨u0, t0, rfl, q0, h'⟩ := OS.goodL_cons h
  obtain ⟨l0, rfl, k0, w0⟩ := OS.good_ints q0
  obtain ⟨u1, t1, rfl, q1, h''⟩ := OS.goodL_cons h'
  obtain ⟨l1, rfl, k1, w1⟩ := OS.good_ints q1
  obtain ⟨u2, t2, rfl, q2, h'''⟩ := OS.goodL_cons h''
  obtain ⟨n2, rfl, w2⟩ := OS.good_int q2
  obtain rfl := OS.goodL_nil h'''
  rw [fn.PointsChains.con_eq]
  obtain ⟨L0, rfl, hL0⟩ := Go.Dg.ex_nn l0 256 (fun x hx => by have := w0 x hx; simp only [Lit.wf, IntKind.min, IntKind.max, IntKind.signed, IntKind.bits, Bool.and_eq_true, decide_eq_true_eq, Bool.false_eq_true, if_false] at this; omega)
  obtain ⟨e0, v0⟩ := Go.Dg.ex_dig (n := 32) (by simpa using k0) hL0
  rw [e0]
  obtain ⟨L1, rfl, hL1⟩ := Go.Dg.ex_nn l1 256 (fun x hx => by have := w1 x hx; simp only [Lit.wf, IntKind.min, IntKind.max, IntKind.signed, IntKind.bits, Bool.and_eq_true, decide_eq_true_eq, Bool.false_eq_true, if_false] at this; omega)
  obtain ⟨e1, v1⟩ := Go.Dg.ex_dig (n := 32) (by simpa using k1) hL1
  rw [e1]
  simp only [Lit.wf, IntKind.min, IntKind.max, IntKind.signed, IntKind.bits, Bool.and_eq_true, decide_eq_true_eq, Bool.false_eq_true, if_false] at w2
  obtain ⟨n, rfl⟩ : ∃ n : Nat, n2 = (n : Int) := ⟨n2.toNat, by omega⟩
  rw [fn.PointsChains_true N (by decide) _ _ n v0 v1 (by omega)]; rfl

set_option maxRecDepth 100000 in
theorem contract (H : Type) (enc : TypeId × Value → H) (W : World) (base : Nat) (args : Array Value) (ds gs : List (DataW H)) (before : List MemPlace)
    (hval : ∀ (j : Nat) t v, Tryd.f5.params[j]? = some t → args[j]? = some v → Value.okWide Tryd.prog W .any base t v)
    (hW : DataW.Whole enc Tryd.prog Tryd.f5.params.toList Rows.pointsChainsSpec.vars false W args.toList ds gs before) (hL : laidMetH Tryd.prog Rows.pointsChainsRow.laid W) :
    Calls Tryd.prog 5 args W fun e W' => ∃ v, e = .returned v ∧ Rows.pointsChainsSpec.post enc Tryd.prog Tryd.f5 false true false false W args v W' := by
  rw [laidH] at hL
  replace hL := laidMet_front (a := [e4.entry]) (b := [("fellowship/field.minus", Rows.laid_fellowship_field_minus)]) ("fellowship/field.many", Rows.laid_fellowship_field_many) hL
  rw [is_laid_fellowship_field_many] at hL
  obtain ⟨hg_laid_fellowship_field_many, hL⟩ := laid_ints (g := 19) (t := 26) (e := 25) (l := [134216512, 134217726, 134217726, 134217726, 134217726, 134217726, 134217726, 134217726, 134217726, 134217726]) (by kernel_rfl) (by kernel_rfl) (by kernel_rfl) (by kernel_rfl) (by kernel_rfl) (by kernel_rfl) hL
  replace hL := laidMet_front (a := [e4.entry]) (b := []) ("fellowship/field.minus", Rows.laid_fellowship_field_minus) hL
  rw [is_laid_fellowship_field_minus] at hL
  obtain ⟨hg_laid_fellowship_field_minus, hL⟩ := laid_ints (g := 20) (t := 26) (e := 25) (l := [34513072, 59165138, 38243406, 1750207, 53429016, 58652137, 13633939, 58469549, 8409025, 712905]) (by kernel_rfl) (by kernel_rfl) (by kernel_rfl) (by kernel_rfl) (by kernel_rfl) (by kernel_rfl) hL
  replace hL : laidMet Tryd.prog (errs.map EV.entry ++ []) W := hL
  obtain ⟨eps, he0, hg, _⟩ := laid_eps (r := []) seat.errTy errs_ok (by decide) (by decide) hL
  have he := he0 (gtL fn.PointsChains.gts) (fun g n hgn => by
    have h := gtL_errs (codes := errs.map EV.code) (by decide) g n hgn
    obtain ⟨e, h1, h2⟩ := List.mem_map.1 h
    exact .inr ⟨e, h1, h2⟩)
  have hG : ∀ p ∈ fn.PointsChains.gts, glbAt Tryd.prog (gtL fn.PointsChains.gts) eps W p.1 p.2 := by
    intro p hp
    simp only [fn.PointsChains.gts, List.mem_cons, List.not_mem_nil, or_false] at hp
    rcases hp with rfl | rfl | rfl
    · exact hg _ e4 (by unfold errs; repeat (first | exact List.mem_cons_self | apply List.mem_cons_of_mem))
    · exact hg_laid_fellowship_field_many _ _
    · exact hg_laid_fellowship_field_minus _ _
  refine law_row (P := Tryd.prog) (gt := gtL fn.PointsChains.gts) (eps := eps) (f := 5) (fn := Tryd.f5) (spec := Rows.pointsChainsSpec) (C := fn.PointsChains.con (fn.PointsChains.M N)) (ss := ss) (tb := 4) seat.laidOut seat.rowed seat.full rfl (by kernel_rfl) (by kernel_rfl) (by kernel_rfl) ?_ (by kernel_rfl) hval hW (fn.PointsChains.ok N) he (glbL hG) true_all
  · intro ds hd
    have hd' : ds.length = 3 := hd
    match ds, hd' with
    | [d0, d1, d2], _ => rfl

/-! ### a start that fits -/
noncomputable def low : Nat := (World.holding Tryd.prog default ⟨#[], #[], []⟩).heap.size
noncomputable def laidWorld (os : Os) : World :=
  let w0 := World.holding Tryd.prog os ⟨#[.cells #[.string ⟨#[102, 101, 108, 108, 111, 119, 115, 104, 105, 112, 58, 32, 102, 111, 114, 109]⟩] 137], #[], []⟩
  { w0 with heap := w0.heap
      |>.modify 19 (fun
      | .cells _ t frozen => .cells #[.int .u64 134216512, .int .u64 134217726, .int .u64 134217726, .int .u64 134217726, .int .u64 134217726, .int .u64 134217726, .int .u64 134217726, .int .u64 134217726, .int .u64 134217726, .int .u64 134217726] t frozen
      | o => o)
      |>.modify 20 (fun
      | .cells _ t frozen => .cells #[.int .u64 34513072, .int .u64 59165138, .int .u64 38243406, .int .u64 1750207, .int .u64 53429016, .int .u64 58652137, .int .u64 13633939, .int .u64 58469549, .int .u64 8409025, .int .u64 712905] t frozen
      | o => o)
      |>.modify 0 (fun
      | .cells _ t frozen => .cells #[.iface 112 (.pointer (some ⟨low + 0, 0, none⟩))] t frozen
      | o => o) }
abbrev wargs : Array Value := #[.agg #[.int .u8 0, .int .u8 0, .int .u8 0, .int .u8 0, .int .u8 0, .int .u8 0, .int .u8 0, .int .u8 0, .int .u8 0, .int .u8 0, .int .u8 0, .int .u8 0, .int .u8 0, .int .u8 0, .int .u8 0, .int .u8 0, .int .u8 0, .int .u8 0, .int .u8 0, .int .u8 0, .int .u8 0, .int .u8 0, .int .u8 0, .int .u8 0, .int .u8 0, .int .u8 0, .int .u8 0, .int .u8 0, .int .u8 0, .int .u8 0, .int .u8 0, .int .u8 0], .agg #[.int .u8 0, .int .u8 0, .int .u8 0, .int .u8 0, .int .u8 0, .int .u8 0, .int .u8 0, .int .u8 0, .int .u8 0, .int .u8 0, .int .u8 0, .int .u8 0, .int .u8 0, .int .u8 0, .int .u8 0, .int .u8 0, .int .u8 0, .int .u8 0, .int .u8 0, .int .u8 0, .int .u8 0, .int .u8 0, .int .u8 0, .int .u8 0, .int .u8 0, .int .u8 0, .int .u8 0, .int .u8 0, .int .u8 0, .int .u8 0, .int .u8 0, .int .u8 0], .int .u16 0]
theorem laid_met (os : Os) : laidMet Tryd.prog Rows.pointsChainsRow.laid ((laidWorld os).forCall (fun _ _ => 0) ⟨#[], wargs, []⟩).memory :=
  laidMet_of_run' 8 (by kernel_rfl) (by kernel_rfl)
theorem reads (os : Os) {H : Type} (enc : TypeId × Value → H) : ∃ places, DataW.whole enc Tryd.prog ((laidWorld os).forCall (fun _ _ => 0) ⟨#[], wargs, []⟩).memory Tryd.f5.params.toList Rows.pointsChainsSpec.vars false wargs.toList 8 =
    some ([.agg [.lit (.int .u8 0), .lit (.int .u8 0), .lit (.int .u8 0), .lit (.int .u8 0), .lit (.int .u8 0), .lit (.int .u8 0), .lit (.int .u8 0), .lit (.int .u8 0), .lit (.int .u8 0), .lit (.int .u8 0), .lit (.int .u8 0), .lit (.int .u8 0), .lit (.int .u8 0), .lit (.int .u8 0), .lit (.int .u8 0), .lit (.int .u8 0), .lit (.int .u8 0), .lit (.int .u8 0), .lit (.int .u8 0), .lit (.int .u8 0), .lit (.int .u8 0), .lit (.int .u8 0), .lit (.int .u8 0), .lit (.int .u8 0), .lit (.int .u8 0), .lit (.int .u8 0), .lit (.int .u8 0), .lit (.int .u8 0), .lit (.int .u8 0), .lit (.int .u8 0), .lit (.int .u8 0), .lit (.int .u8 0)], .agg [.lit (.int .u8 0), .lit (.int .u8 0), .lit (.int .u8 0), .lit (.int .u8 0), .lit (.int .u8 0), .lit (.int .u8 0), .lit (.int .u8 0), .lit (.int .u8 0), .lit (.int .u8 0), .lit (.int .u8 0), .lit (.int .u8 0), .lit (.int .u8 0), .lit (.int .u8 0), .lit (.int .u8 0), .lit (.int .u8 0), .lit (.int .u8 0), .lit (.int .u8 0), .lit (.int .u8 0), .lit (.int .u8 0), .lit (.int .u8 0), .lit (.int .u8 0), .lit (.int .u8 0), .lit (.int .u8 0), .lit (.int .u8 0), .lit (.int .u8 0), .lit (.int .u8 0), .lit (.int .u8 0), .lit (.int .u8 0), .lit (.int .u8 0), .lit (.int .u8 0), .lit (.int .u8 0), .lit (.int .u8 0)], .lit (.int .u16 0)], [], places) :=
  ⟨[], by kernel_rfl⟩

set_option maxRecDepth 100000 in
theorem lifted (os : Os) (started : os.Started) (H : Type) (enc : TypeId × Value → H) (F : Stop.Interp) :
    ReturnsInHanded {} Tryd.checked os 5 .any ((OpenSpec.ofChange Rows.pointsChainsSpec).preRow enc Tryd.prog Tryd.f5 Rows.pointsChainsRow.domain false Rows.pointsChainsRow.laid) (((OpenSpec.ofChange Rows.pointsChainsSpec).at F).post enc Tryd.prog Tryd.f5 false true false false) := by
  obtain ⟨places, hx⟩ := reads os enc
  refine returnsInHanded_of_row (C := Tryd.checked) (s := OpenSpec.ofChange Rows.pointsChainsSpec) seat.own started (by kernel_rfl) Tryd.func5
    (witness_row_at (enc := enc) (C := Tryd.checked) false (laidWorld os) wargs rfl (by kernel_rfl) (by kernel_rfl) (by kernel_rfl)
      (OpenSpec.preRow_of_cond 8 hx (by kernel_rfl) (fun k hk => by cases hk) (by kernel_rfl) (laid_met os))) ?_
  intro W base args ds gs before hval hW _ _ _ hL _ _
  exact contract H enc W base args ds gs before hval hW hL

theorem said : Rows.PointsChainsSaid :=
  OpenClaim.holds_of_cond 5 Tryd.f5 rfl rfl rfl rfl rfl rfl rfl ⟨rfl, rfl, rfl, rfl, rfl⟩ rfl rfl rfl rfl rfl (by kernel_rfl) Tryd.func5 (by kernel_rfl)
    (of_decide_eq_true (by kernel_rfl)) (by unfold Func.isWrapper; rw [if_neg (of_decide_eq_false (by kernel_rfl))]; exact ⟨rfl, rfl⟩)
    (fun os started H enc _ F => by rw [OpenClaim.pre_eq_preRow]; exact lifted os started H enc F)

theorem plain (f : FuncId) (fn : Func) (hf : Tryd.pinned.checked.prog.funcNamed "fellowship/fellowshiplaw12.PointsChains" = some f) (hfn : Tryd.pinned.checked.prog.funcs[f]? = some fn) :
    true = Tryd.pinned.checked.prog.looks [] ∧ ∀ (j : Nat) t, fn.params[j]? = some t → Tryd.pinned.checked.prog.wantsStandIn t = false := by
  obtain rfl : f = 5 := Option.some.inj ((show Tryd.prog.funcNamed "fellowship/fellowshiplaw12.PointsChains" = some 5 by kernel_rfl).symm.trans hf) |>.symm
  obtain rfl : fn = Tryd.f5 := (Option.some.inj (Tryd.func5.symm.trans hfn)).symm
  refine ⟨by kernel_rfl, fun j t ht => ?_⟩
  rw [Tryd.params5] at ht
  have h : t = 23 ∨ t = 23 ∨ t = 53 := by simpa using Array.mem_of_getElem? ht
  rcases h with rfl | rfl | rfl
  · exact (show Tryd.prog.wantsStandIn 23 = false by kernel_rfl)
  · exact (show Tryd.prog.wantsStandIn 23 = false by kernel_rfl)
  · exact (show Tryd.prog.wantsStandIn 53 = false by kernel_rfl)

/-- ████ THE CARD ████ -/
theorem card : Rows.PointsChainsCardSaid :=
  Claim7.holds_tied_plain_at .later [] _ _ _ _ said (fun _ h => by cases h) (by kernel_rfl) (fun _ h => by cases h) pointsChains_row_tie rfl ⟨rfl, rfl⟩ (by kernel_rfl) rfl plain (by kernel_rfl)

end Go.Proofs.YtjaappocnonkbaaDoor.pointsChains
