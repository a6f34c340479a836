/-
  Rows within a row, and unlike rows' unlike bytes: for every input the law returns true and leaves its input as it was; what its road names of the package's variables starts as the program's text lays it.
-/
import Derived.Test.YtbliikcgcgalmaaDoorCards
import Derived.Test.YtbliikcgcgalmaaDoorTie
import Derived.Test.YtbliikcgcgalmaaDoorMWireWithin
import Derived.Test.YtbliikcgcgalmaaDoorSeat
import Derived.WalkKit
import Derived.ProofKit
import Derived.OpenShut
import Derived.LaidLaws
import Derived.Deep.DeepHandedRow
namespace Go.Proofs.YtbliikcgcgalmaaDoor.wireWithin
open Go.ChangeShapes Go.WideShapes Go.ChangeAt Go.RowKit Go.Ev

def ss : List OS := [.rsl .u8, .rsl .u8]
def N : Nat := 1000000000000
def e1 : EV := ⟨"fellowship/api.ErrRange", 1, [102, 101, 108, 108, 111, 119, 115, 104, 105, 112, 58, 32, 114, 97, 110, 103, 101], 3⟩
def e2 : EV := ⟨"fellowship/api.ErrShort", 2, [102, 101, 108, 108, 111, 119, 115, 104, 105, 112, 58, 32, 115, 104, 111, 114, 116], 2⟩
def e3 : EV := ⟨"fellowship/api.ErrLong", 3, [102, 101, 108, 108, 111, 119, 115, 104, 105, 112, 58, 32, 108, 111, 110, 103], 0⟩
def e4 : EV := ⟨"fellowship/api.ErrForm", 4, [102, 101, 108, 108, 111, 119, 115, 104, 105, 112, 58, 32, 102, 111, 114, 109], 1⟩
def errs : List EV := [e1, e2, e3, e4]
theorem errs_ok : ∀ e ∈ errs, e.okB Tryd.prog := by
  intro e he
  simp only [errs, List.mem_cons, List.not_mem_nil, or_false] at he
  rcases he with rfl | rfl | rfl | rfl
  · exact seat.errOk _ (by kernel_rfl) (by kernel_rfl)
  · exact seat.errOk _ (by kernel_rfl) (by kernel_rfl)
  · exact seat.errOk _ (by kernel_rfl) (by kernel_rfl)
  · exact seat.errOk _ (by kernel_rfl) (by kernel_rfl)
theorem laidH (W : World) : laidMetH Tryd.prog Rows.wireWithinRow.laid W = laidMet Tryd.prog (errs.map EV.entry ++ []) W := by kernel_rfl

theorem true_all (avs : List AV) (h : OS.goodL ss avs) : (fn.WireWithin.con (fn.WireWithin.M N)) Unit avs [] yes = some () := by
  obtain ⟨u0, t0, rfl, q0, h'⟩ := OS.goodL_cons h
  obtain ⟨ll0, rfl, k0, w0⟩ := OS.good_rsl q0
  obtain ⟨u1, t1, rfl, q1, h''⟩ := OS.goodL_cons h'
  obtain ⟨ll1, rfl, k1, w1⟩ := OS.good_rsl q1
  obtain rfl := OS.goodL_nil h''
  rw [fn.WireWithin.con_eq]
  rw [fn.WireWithin_true N (by decide) ll0 ll1 (fun p hp x hx => by have := (w0 p hp).1 x hx; simp only [Lit.wf, IntKind.min, IntKind.max, IntKind.signed, IntKind.bits, Bool.and_eq_true, decide_eq_true_eq, Bool.false_eq_true, if_false] at this; omega) (fun p hp x hx => by have := (w1 p hp).1 x hx; simp only [Lit.wf, IntKind.min, IntKind.max, IntKind.signed, IntKind.bits, Bool.and_eq_true, decide_eq_true_eq, Bool.false_eq_true, if_false] at this; omega)]; rfl

set_option maxRecDepth 100000 in
theorem contract (H : Type) (enc : TypeId × Value → H) (W : World) (base : Nat) (args : Array Value) (ds gs : List (DataW H)) (before : List MemPlace)
    (hval : ∀ (j : Nat) t v, Tryd.f3.params[j]? = some t → args[j]? = some v → Value.okWide Tryd.prog W .any base t v)
    (hW : DataW.Whole enc Tryd.prog Tryd.f3.params.toList Rows.wireWithinSpec.vars false W args.toList ds gs before) (hL : laidMetH Tryd.prog Rows.wireWithinRow.laid W) :
    Calls Tryd.prog 3 args W fun e W' => ∃ v, e = .returned v ∧ Rows.wireWithinSpec.post enc Tryd.prog Tryd.f3 false true false false W args v W' := by
  rw [laidH] at hL
  obtain ⟨eps, he0, hg, _⟩ := laid_eps (r := []) seat.errTy errs_ok (by decide) (by decide) hL
  have he := he0 (gtL fn.WireWithin.gts) (fun g n hgn => by
    have h := gtL_errs (codes := errs.map EV.code) (by decide) g n hgn
    obtain ⟨e, h1, h2⟩ := List.mem_map.1 h
    exact .inr ⟨e, h1, h2⟩)
  have hG : ∀ p ∈ fn.WireWithin.gts, glbAt Tryd.prog (gtL fn.WireWithin.gts) eps W p.1 p.2 := by
    intro p hp
    simp only [fn.WireWithin.gts, List.mem_cons, List.not_mem_nil, or_false] at hp
    rcases hp with rfl | rfl | rfl | rfl
    · exact hg _ e3 (by unfold errs; repeat (first | exact List.mem_cons_self | apply List.mem_cons_of_mem))
    · exact hg _ e4 (by unfold errs; repeat (first | exact List.mem_cons_self | apply List.mem_cons_of_mem))
    · exact hg _ e2 (by unfold errs; repeat (first | exact List.mem_cons_self | apply List.mem_cons_of_mem))
    · exact hg _ e1 (by unfold errs; repeat (first | exact List.mem_cons_self | apply List.mem_cons_of_mem))
  refine law_row (P := Tryd.prog) (gt := gtL fn.WireWithin.gts) (eps := eps) (f := 3) (fn := Tryd.f3) (spec := Rows.wireWithinSpec) (C := fn.WireWithin.con (fn.WireWithin.M N)) (ss := ss) (tb := 4) seat.laidOut seat.rowed seat.full rfl (by kernel_rfl) (by kernel_rfl) (by kernel_rfl) ?_ (by kernel_rfl) hval hW (fn.WireWithin.ok N) he (glbL hG) true_all
  · intro ds hd
    have hd' : ds.length = 2 := hd
    match ds, hd' with
    | [d0, d1], _ => rfl

/-! ### a start that fits -/
noncomputable def low : Nat := (World.holding Tryd.prog default ⟨#[], #[], []⟩).heap.size
noncomputable def laidWorld (os : Os) : World :=
  let w0 := World.holding Tryd.prog os ⟨#[.cells #[.string ⟨#[102, 101, 108, 108, 111, 119, 115, 104, 105, 112, 58, 32, 114, 97, 110, 103, 101]⟩] 124, .cells #[.string ⟨#[102, 101, 108, 108, 111, 119, 115, 104, 105, 112, 58, 32, 115, 104, 111, 114, 116]⟩] 124, .cells #[.string ⟨#[102, 101, 108, 108, 111, 119, 115, 104, 105, 112, 58, 32, 108, 111, 110, 103]⟩] 124, .cells #[.string ⟨#[102, 101, 108, 108, 111, 119, 115, 104, 105, 112, 58, 32, 102, 111, 114, 109]⟩] 124], #[], []⟩
  { w0 with heap := w0.heap
      |>.modify 3 (fun
      | .cells _ t frozen => .cells #[.iface 98 (.pointer (some ⟨low + 0, 0, none⟩))] t frozen
      | o => o)
      |>.modify 2 (fun
      | .cells _ t frozen => .cells #[.iface 98 (.pointer (some ⟨low + 1, 0, none⟩))] t frozen
      | o => o)
      |>.modify 0 (fun
      | .cells _ t frozen => .cells #[.iface 98 (.pointer (some ⟨low + 2, 0, none⟩))] t frozen
      | o => o)
      |>.modify 1 (fun
      | .cells _ t frozen => .cells #[.iface 98 (.pointer (some ⟨low + 3, 0, none⟩))] t frozen
      | o => o) }
abbrev wargs : Array Value := #[.slice none 0 0, .slice none 0 0]
theorem laid_met (os : Os) : laidMet Tryd.prog Rows.wireWithinRow.laid ((laidWorld os).forCall (fun _ _ => 0) ⟨#[], wargs, []⟩).memory :=
  laidMet_of_run' 8 (by kernel_rfl) (by kernel_rfl)
theorem reads (os : Os) {H : Type} (enc : TypeId × Value → H) : ∃ places, DataW.whole enc Tryd.prog ((laidWorld os).forCall (fun _ _ => 0) ⟨#[], wargs, []⟩).memory Tryd.f3.params.toList Rows.wireWithinSpec.vars false wargs.toList 8 =
    some ([.nil, .nil], [], places) :=
  ⟨[], by kernel_rfl⟩

set_option maxRecDepth 100000 in
theorem lifted (os : Os) (started : os.Started) (H : Type) (enc : TypeId × Value → H) (F : Stop.Interp) :
    ReturnsInHanded {} Tryd.checked os 3 .any ((OpenSpec.ofChange Rows.wireWithinSpec).preRow enc Tryd.prog Tryd.f3 Rows.wireWithinRow.domain false Rows.wireWithinRow.laid) (((OpenSpec.ofChange Rows.wireWithinSpec).at F).post enc Tryd.prog Tryd.f3 false true false false) := by
  obtain ⟨places, hx⟩ := reads os enc
  refine returnsInHanded_of_row (C := Tryd.checked) (s := OpenSpec.ofChange Rows.wireWithinSpec) seat.own started (by kernel_rfl) Tryd.func3
    (witness_row_at (enc := enc) (C := Tryd.checked) false (laidWorld os) wargs rfl (by kernel_rfl) (by kernel_rfl) (by kernel_rfl)
      (OpenSpec.preRow_of_cond 8 hx (by kernel_rfl) (fun k hk => by cases hk) (by kernel_rfl) (laid_met os))) ?_
  intro W base args ds gs before hval hW _ _ _ hL _ _
  exact contract H enc W base args ds gs before hval hW hL

theorem said : Rows.WireWithinSaid :=
  OpenClaim.holds_of_cond 3 Tryd.f3 rfl rfl rfl rfl rfl rfl rfl ⟨rfl, rfl, rfl, rfl, rfl⟩ rfl rfl rfl rfl rfl (by kernel_rfl) Tryd.func3 (by kernel_rfl)
    (of_decide_eq_true (by kernel_rfl)) (by unfold Func.isWrapper; rw [if_neg (of_decide_eq_false (by kernel_rfl))]; exact ⟨rfl, rfl⟩)
    (fun os started H enc _ F => by rw [OpenClaim.pre_eq_preRow]; exact lifted os started H enc F)

theorem plain (f : FuncId) (fn : Func) (hf : Tryd.pinned.checked.prog.funcNamed "fellowship/fellowshiplaw16.WireWithin" = some f) (hfn : Tryd.pinned.checked.prog.funcs[f]? = some fn) :
    true = Tryd.pinned.checked.prog.looks [] ∧ ∀ (j : Nat) t, fn.params[j]? = some t → Tryd.pinned.checked.prog.wantsStandIn t = false := by
  obtain rfl : f = 3 := Option.some.inj ((show Tryd.prog.funcNamed "fellowship/fellowshiplaw16.WireWithin" = some 3 by kernel_rfl).symm.trans hf) |>.symm
  obtain rfl : fn = Tryd.f3 := (Option.some.inj (Tryd.func3.symm.trans hfn)).symm
  refine ⟨by kernel_rfl, fun j t ht => ?_⟩
  rw [Tryd.params3] at ht
  have h : t = 22 ∨ t = 22 := by simpa using Array.mem_of_getElem? ht
  rcases h with rfl | rfl
  · exact (show Tryd.prog.wantsStandIn 22 = false by kernel_rfl)
  · exact (show Tryd.prog.wantsStandIn 22 = false by kernel_rfl)

/-- ████ THE CARD ████ -/
theorem card : Rows.WireWithinCardSaid :=
  Claim7.holds_tied_plain_at .later [] _ _ _ _ said (fun _ h => by cases h) (by kernel_rfl) (fun _ h => by cases h) wireWithin_row_tie rfl ⟨rfl, rfl⟩ (by kernel_rfl) rfl plain (by kernel_rfl)

end Go.Proofs.YtbliikcgcgalmaaDoor.wireWithin
