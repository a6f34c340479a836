/-
  The places beside a way cover all others: for every input the law returns true and leaves its input as it was; what its road names of the package's variables starts as the program's text lays it.
-/
import Derived.Test.YtbliikcgcgalmaaDoorCards
import Derived.Test.YtbliikcgcgalmaaDoorTie
import Derived.Test.YtbliikcgcgalmaaDoorMPCover
import Derived.Test.YtbliikcgcgalmaaDoorSeat
import Derived.WalkKit
import Derived.ProofKit
import Derived.OpenShut
import Derived.LaidLaws
import Derived.Deep.DeepHandedRow
namespace Go.Proofs.YtbliikcgcgalmaaDoor.placesCover
open Go.ChangeShapes Go.WideShapes Go.ChangeAt Go.RowKit Go.Ev

def ss : List OS := [.int .i64, .int .i64]
def N : Nat := 1000000000000
def e1 : EV := ⟨"fellowship/api.ErrRange", 1, [102, 101, 108, 108, 111, 119, 115, 104, 105, 112, 58, 32, 114, 97, 110, 103, 101], 3⟩
def e11 : EV := ⟨"fellowship/api.ErrLeaf", 11, [102, 101, 108, 108, 111, 119, 115, 104, 105, 112, 58, 32, 108, 101, 97, 102], 10⟩
def e15 : EV := ⟨"fellowship/api.ErrNone", 15, [102, 101, 108, 108, 111, 119, 115, 104, 105, 112, 58, 32, 110, 111, 110, 101], 14⟩
def errs : List EV := [e1, e11, e15]
theorem errs_ok : ∀ e ∈ errs, e.okB Tryd.prog := by
  intro e he
  simp only [errs, List.mem_cons, List.not_mem_nil, or_false] at he
  rcases he with rfl | rfl | rfl
  · exact seat.errOk _ (by kernel_rfl) (by kernel_rfl)
  · exact seat.errOk _ (by kernel_rfl) (by kernel_rfl)
  · exact seat.errOk _ (by kernel_rfl) (by kernel_rfl)
theorem laidH (W : World) : laidMetH Tryd.prog Rows.placesCoverRow.laid W = laidMet Tryd.prog (errs.map EV.entry ++ []) W := by kernel_rfl

theorem true_all (avs : List AV) (h : OS.goodL ss avs) : (fn.PlacesCover.con (fn.PlacesCover.M N)) Unit avs [] yes = some () := by
  obtain ⟨u0, t0, rfl, q0, h'⟩ := OS.goodL_cons h
  obtain ⟨n0, rfl, w0⟩ := OS.good_int q0
  obtain ⟨u1, t1, rfl, q1, h''⟩ := OS.goodL_cons h'
  obtain ⟨n1, rfl, w1⟩ := OS.good_int q1
  obtain rfl := OS.goodL_nil h''
  rw [fn.PlacesCover.con_eq]
  rw [fn.PlacesCover_true N (by decide) n0 n1]; rfl

set_option maxRecDepth 100000 in
theorem contract (H : Type) (enc : TypeId × Value → H) (W : World) (base : Nat) (args : Array Value) (ds gs : List (DataW H)) (before : List MemPlace)
    (hval : ∀ (j : Nat) t v, Tryd.f8.params[j]? = some t → args[j]? = some v → Value.okWide Tryd.prog W .any base t v)
    (hW : DataW.Whole enc Tryd.prog Tryd.f8.params.toList Rows.placesCoverSpec.vars false W args.toList ds gs before) (hL : laidMetH Tryd.prog Rows.placesCoverRow.laid W) :
    Calls Tryd.prog 8 args W fun e W' => ∃ v, e = .returned v ∧ Rows.placesCoverSpec.post enc Tryd.prog Tryd.f8 false true false false W args v W' := by
  rw [laidH] at hL
  obtain ⟨eps, he0, hg, _⟩ := laid_eps (r := []) seat.errTy errs_ok (by decide) (by decide) hL
  have he := he0 (gtL fn.PlacesCover.gts) (fun g n hgn => by
    have h := gtL_errs (codes := errs.map EV.code) (by decide) g n hgn
    obtain ⟨e, h1, h2⟩ := List.mem_map.1 h
    exact .inr ⟨e, h1, h2⟩)
  have hG : ∀ p ∈ fn.PlacesCover.gts, glbAt Tryd.prog (gtL fn.PlacesCover.gts) eps W p.1 p.2 := by
    intro p hp
    simp only [fn.PlacesCover.gts, List.mem_cons, List.not_mem_nil, or_false] at hp
    rcases hp with rfl | rfl | rfl
    · exact hg _ e1 (by unfold errs; repeat (first | exact List.mem_cons_self | apply List.mem_cons_of_mem))
    · exact hg _ e11 (by unfold errs; repeat (first | exact List.mem_cons_self | apply List.mem_cons_of_mem))
    · exact hg _ e15 (by unfold errs; repeat (first | exact List.mem_cons_self | apply List.mem_cons_of_mem))
  refine law_row (P := Tryd.prog) (gt := gtL fn.PlacesCover.gts) (eps := eps) (f := 8) (fn := Tryd.f8) (spec := Rows.placesCoverSpec) (C := fn.PlacesCover.con (fn.PlacesCover.M N)) (ss := ss) (tb := 4) seat.laidOut seat.rowed seat.full rfl (by kernel_rfl) (by kernel_rfl) (by kernel_rfl) ?_ (by kernel_rfl) hval hW (fn.PlacesCover.ok N) he (glbL hG) true_all
  · intro ds hd
    have hd' : ds.length = 2 := hd
    match ds, hd' with
    | [d0, d1], _ => rfl

/-! ### a start that fits -/
noncomputable def low : Nat := (World.holding Tryd.prog default ⟨#[], #[], []⟩).heap.size
noncomputable def laidWorld (os : Os) : World :=
  let w0 := World.holding Tryd.prog os ⟨#[.cells #[.string ⟨#[102, 101, 108, 108, 111, 119, 115, 104, 105, 112, 58, 32, 114, 97, 110, 103, 101]⟩] 124, .cells #[.string ⟨#[102, 101, 108, 108, 111, 119, 115, 104, 105, 112, 58, 32, 108, 101, 97, 102]⟩] 124, .cells #[.string ⟨#[102, 101, 108, 108, 111, 119, 115, 104, 105, 112, 58, 32, 110, 111, 110, 101]⟩] 124], #[], []⟩
  { w0 with heap := w0.heap
      |>.modify 3 (fun
      | .cells _ t frozen => .cells #[.iface 98 (.pointer (some ⟨low + 0, 0, none⟩))] t frozen
      | o => o)
      |>.modify 10 (fun
      | .cells _ t frozen => .cells #[.iface 98 (.pointer (some ⟨low + 1, 0, none⟩))] t frozen
      | o => o)
      |>.modify 14 (fun
      | .cells _ t frozen => .cells #[.iface 98 (.pointer (some ⟨low + 2, 0, none⟩))] t frozen
      | o => o) }
abbrev wargs : Array Value := #[.int .i64 0, .int .i64 0]
theorem laid_met (os : Os) : laidMet Tryd.prog Rows.placesCoverRow.laid ((laidWorld os).forCall (fun _ _ => 0) ⟨#[], wargs, []⟩).memory :=
  laidMet_of_run' 8 (by kernel_rfl) (by kernel_rfl)
theorem reads (os : Os) {H : Type} (enc : TypeId × Value → H) : ∃ places, DataW.whole enc Tryd.prog ((laidWorld os).forCall (fun _ _ => 0) ⟨#[], wargs, []⟩).memory Tryd.f8.params.toList Rows.placesCoverSpec.vars false wargs.toList 8 =
    some ([.lit (.int .i64 0), .lit (.int .i64 0)], [], places) :=
  ⟨[], by kernel_rfl⟩

set_option maxRecDepth 100000 in
theorem lifted (os : Os) (started : os.Started) (H : Type) (enc : TypeId × Value → H) (F : Stop.Interp) :
    ReturnsInHanded {} Tryd.checked os 8 .any ((OpenSpec.ofChange Rows.placesCoverSpec).preRow enc Tryd.prog Tryd.f8 Rows.placesCoverRow.domain false Rows.placesCoverRow.laid) (((OpenSpec.ofChange Rows.placesCoverSpec).at F).post enc Tryd.prog Tryd.f8 false true false false) := by
  obtain ⟨places, hx⟩ := reads os enc
  refine returnsInHanded_of_row (C := Tryd.checked) (s := OpenSpec.ofChange Rows.placesCoverSpec) seat.own started (by kernel_rfl) Tryd.func8
    (witness_row_at (enc := enc) (C := Tryd.checked) false (laidWorld os) wargs rfl (by kernel_rfl) (by kernel_rfl) (by kernel_rfl)
      (OpenSpec.preRow_of_cond 8 hx (by kernel_rfl) (fun k hk => by cases hk) (by kernel_rfl) (laid_met os))) ?_
  intro W base args ds gs before hval hW _ _ _ hL _ _
  exact contract H enc W base args ds gs before hval hW hL

theorem said : Rows.PlacesCoverSaid :=
  OpenClaim.holds_of_cond 8 Tryd.f8 rfl rfl rfl rfl rfl rfl rfl ⟨rfl, rfl, rfl, rfl, rfl⟩ rfl rfl rfl rfl rfl (by kernel_rfl) Tryd.func8 (by kernel_rfl)
    (of_decide_eq_true (by kernel_rfl)) (by unfold Func.isWrapper; rw [if_neg (of_decide_eq_false (by kernel_rfl))]; exact ⟨rfl, rfl⟩)
    (fun os started H enc _ F => by rw [OpenClaim.pre_eq_preRow]; exact lifted os started H enc F)

theorem plain (f : FuncId) (fn : Func) (hf : Tryd.pinned.checked.prog.funcNamed "fellowship/fellowshiplaw17.PlacesCover" = some f) (hfn : Tryd.pinned.checked.prog.funcs[f]? = some fn) :
    true = Tryd.pinned.checked.prog.looks [] ∧ ∀ (j : Nat) t, fn.params[j]? = some t → Tryd.pinned.checked.prog.wantsStandIn t = false := by
  obtain rfl : f = 8 := Option.some.inj ((show Tryd.prog.funcNamed "fellowship/fellowshiplaw17.PlacesCover" = some 8 by kernel_rfl).symm.trans hf) |>.symm
  obtain rfl : fn = Tryd.f8 := (Option.some.inj (Tryd.func8.symm.trans hfn)).symm
  refine ⟨by kernel_rfl, fun j t ht => ?_⟩
  rw [Tryd.params8] at ht
  have h : t = 3 ∨ t = 3 := by simpa using Array.mem_of_getElem? ht
  rcases h with rfl | rfl
  · exact (show Tryd.prog.wantsStandIn 3 = false by kernel_rfl)
  · exact (show Tryd.prog.wantsStandIn 3 = false by kernel_rfl)

/-- ████ THE CARD ████ -/
theorem card : Rows.PlacesCoverCardSaid :=
  Claim7.holds_tied_plain_at .later [] _ _ _ _ said (fun _ h => by cases h) (by kernel_rfl) (fun _ h => by cases h) placesCover_row_tie rfl ⟨rfl, rfl⟩ (by kernel_rfl) rfl plain (by kernel_rfl)

end Go.Proofs.YtbliikcgcgalmaaDoor.placesCover
