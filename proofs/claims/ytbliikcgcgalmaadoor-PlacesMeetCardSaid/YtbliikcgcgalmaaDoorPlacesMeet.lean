/-
  Which places are below which, and where any two meet: for every input the law returns true and leaves its input as it was; what its road names of the package's variables starts as the program's text lays it.
-/
import Derived.Test.YtbliikcgcgalmaaDoorCards
import Derived.Test.YtbliikcgcgalmaaDoorTie
import Derived.Test.YtbliikcgcgalmaaDoorMPMeet
import Derived.Test.YtbliikcgcgalmaaDoorSeat
import Derived.WalkKit
import Derived.ProofKit
import Derived.OpenShut
import Derived.LaidLaws
import Derived.Deep.DeepHandedRow
namespace Go.Proofs.YtbliikcgcgalmaaDoor.placesMeet
open Go.ChangeShapes Go.WideShapes Go.ChangeAt Go.RowKit Go.Ev

def ss : List OS := [.int .i64, .int .i64, .int .i64]
def N : Nat := 1000000000000
def e1 : EV := ⟨"fellowship/api.ErrRange", 1, [102, 101, 108, 108, 111, 119, 115, 104, 105, 112, 58, 32, 114, 97, 110, 103, 101], 3⟩
def e2 : EV := ⟨"fellowship/api.ErrShort", 2, [102, 101, 108, 108, 111, 119, 115, 104, 105, 112, 58, 32, 115, 104, 111, 114, 116], 2⟩
def e3 : EV := ⟨"fellowship/api.ErrLong", 3, [102, 101, 108, 108, 111, 119, 115, 104, 105, 112, 58, 32, 108, 111, 110, 103], 0⟩
def e4 : EV := ⟨"fellowship/api.ErrForm", 4, [102, 101, 108, 108, 111, 119, 115, 104, 105, 112, 58, 32, 102, 111, 114, 109], 1⟩
def e5 : EV := ⟨"fellowship/api.ErrKey", 5, [102, 101, 108, 108, 111, 119, 115, 104, 105, 112, 58, 32, 107, 101, 121], 4⟩
def e6 : EV := ⟨"fellowship/api.ErrSign", 6, [102, 101, 108, 108, 111, 119, 115, 104, 105, 112, 58, 32, 115, 105, 103, 110], 5⟩
def e7 : EV := ⟨"fellowship/api.ErrSeal", 7, [102, 101, 108, 108, 111, 119, 115, 104, 105, 112, 58, 32, 115, 101, 97, 108], 6⟩
def e8 : EV := ⟨"fellowship/api.ErrEpoch", 8, [102, 101, 108, 108, 111, 119, 115, 104, 105, 112, 58, 32, 101, 112, 111, 99, 104], 7⟩
def e9 : EV := ⟨"fellowship/api.ErrGroup", 9, [102, 101, 108, 108, 111, 119, 115, 104, 105, 112, 58, 32, 103, 114, 111, 117, 112], 8⟩
def e10 : EV := ⟨"fellowship/api.ErrSender", 10, [102, 101, 108, 108, 111, 119, 115, 104, 105, 112, 58, 32, 115, 101, 110, 100, 101, 114], 9⟩
def e11 : EV := ⟨"fellowship/api.ErrLeaf", 11, [102, 101, 108, 108, 111, 119, 115, 104, 105, 112, 58, 32, 108, 101, 97, 102], 10⟩
def e12 : EV := ⟨"fellowship/api.ErrOffer", 12, [102, 101, 108, 108, 111, 119, 115, 104, 105, 112, 58, 32, 111, 102, 102, 101, 114], 11⟩
def e13 : EV := ⟨"fellowship/api.ErrPath", 13, [102, 101, 108, 108, 111, 119, 115, 104, 105, 112, 58, 32, 112, 97, 116, 104], 12⟩
def e14 : EV := ⟨"fellowship/api.ErrTag", 14, [102, 101, 108, 108, 111, 119, 115, 104, 105, 112, 58, 32, 116, 97, 103], 13⟩
def e15 : EV := ⟨"fellowship/api.ErrNone", 15, [102, 101, 108, 108, 111, 119, 115, 104, 105, 112, 58, 32, 110, 111, 110, 101], 14⟩
def e16 : EV := ⟨"fellowship/api.ErrRemoved", 16, [102, 101, 108, 108, 111, 119, 115, 104, 105, 112, 58, 32, 114, 101, 109, 111, 118, 101, 100], 15⟩
def e17 : EV := ⟨"fellowship/api.ErrFull", 17, [102, 101, 108, 108, 111, 119, 115, 104, 105, 112, 58, 32, 102, 117, 108, 108], 16⟩
def e18 : EV := ⟨"fellowship/api.ErrState", 18, [102, 101, 108, 108, 111, 119, 115, 104, 105, 112, 58, 32, 115, 116, 97, 116, 101], 17⟩
def e19 : EV := ⟨"fellowship/api.ErrTwice", 19, [102, 101, 108, 108, 111, 119, 115, 104, 105, 112, 58, 32, 116, 119, 105, 99, 101], 18⟩
def errs : List EV := [e1, e2, e3, e4, e5, e6, e7, e8, e9, e10, e11, e12, e13, e14, e15, e16, e17, e18, e19]
theorem errs_ok : ∀ e ∈ errs, e.okB Tryd.prog := by
  intro e he
  simp only [errs, List.mem_cons, List.not_mem_nil, or_false] at he
  rcases he with rfl | rfl | rfl | rfl | rfl | rfl | rfl | rfl | rfl | rfl | rfl | rfl | rfl | rfl | rfl | rfl | rfl | rfl | rfl
  · exact seat.errOk _ (by kernel_rfl) (by kernel_rfl)
  · exact seat.errOk _ (by kernel_rfl) (by kernel_rfl)
  · exact seat.errOk _ (by kernel_rfl) (by kernel_rfl)
  · exact seat.errOk _ (by kernel_rfl) (by kernel_rfl)
  · exact seat.errOk _ (by kernel_rfl) (by kernel_rfl)
  · exact seat.errOk _ (by kernel_rfl) (by kernel_rfl)
  · exact seat.errOk _ (by kernel_rfl) (by kernel_rfl)
  · exact seat.errOk _ (by kernel_rfl) (by kernel_rfl)
  · exact seat.errOk _ (by kernel_rfl) (by kernel_rfl)
  · exact seat.errOk _ (by kernel_rfl) (by kernel_rfl)
  · exact seat.errOk _ (by kernel_rfl) (by kernel_rfl)
  · exact seat.errOk _ (by kernel_rfl) (by kernel_rfl)
  · exact seat.errOk _ (by kernel_rfl) (by kernel_rfl)
  · exact seat.errOk _ (by kernel_rfl) (by kernel_rfl)
  · exact seat.errOk _ (by kernel_rfl) (by kernel_rfl)
  · exact seat.errOk _ (by kernel_rfl) (by kernel_rfl)
  · exact seat.errOk _ (by kernel_rfl) (by kernel_rfl)
  · exact seat.errOk _ (by kernel_rfl) (by kernel_rfl)
  · exact seat.errOk _ (by kernel_rfl) (by kernel_rfl)
theorem laidH (W : World) : laidMetH Tryd.prog Rows.placesMeetRow.laid W = laidMet Tryd.prog (errs.map EV.entry ++ []) W := by kernel_rfl

theorem true_all (avs : List AV) (h : OS.goodL ss avs) : (fn.PlacesMeet.con (fn.PlacesMeet.M N)) Unit avs [] yes = some () := by
  obtain ⟨u0, t0, rfl, q0, h'⟩ := OS.goodL_cons h
  obtain ⟨n0, rfl, w0⟩ := OS.good_int q0
  obtain ⟨u1, t1, rfl, q1, h''⟩ := OS.goodL_cons h'
  obtain ⟨n1, rfl, w1⟩ := OS.good_int q1
  obtain ⟨u2, t2, rfl, q2, h'''⟩ := OS.goodL_cons h''
  obtain ⟨n2, rfl, w2⟩ := OS.good_int q2
  obtain rfl := OS.goodL_nil h'''
  rw [fn.PlacesMeet.con_eq]
  rw [fn.PlacesMeet_true N (by decide) n0 n1 n2]; rfl

set_option maxRecDepth 100000 in
theorem contract (H : Type) (enc : TypeId × Value → H) (W : World) (base : Nat) (args : Array Value) (ds gs : List (DataW H)) (before : List MemPlace)
    (hval : ∀ (j : Nat) t v, Tryd.f9.params[j]? = some t → args[j]? = some v → Value.okWide Tryd.prog W .any base t v)
    (hW : DataW.Whole enc Tryd.prog Tryd.f9.params.toList Rows.placesMeetSpec.vars false W args.toList ds gs before) (hL : laidMetH Tryd.prog Rows.placesMeetRow.laid W) :
    Calls Tryd.prog 9 args W fun e W' => ∃ v, e = .returned v ∧ Rows.placesMeetSpec.post enc Tryd.prog Tryd.f9 false true false false W args v W' := by
  rw [laidH] at hL
  obtain ⟨eps, he0, hg, _⟩ := laid_eps (r := []) seat.errTy errs_ok (by decide) (by decide) hL
  have he := he0 (gtL fn.PlacesMeet.gts) (fun g n hgn => by
    have h := gtL_errs (codes := errs.map EV.code) (by decide) g n hgn
    obtain ⟨e, h1, h2⟩ := List.mem_map.1 h
    exact .inr ⟨e, h1, h2⟩)
  have hG : ∀ p ∈ fn.PlacesMeet.gts, glbAt Tryd.prog (gtL fn.PlacesMeet.gts) eps W p.1 p.2 := by
    intro p hp
    simp only [fn.PlacesMeet.gts, List.mem_cons, List.not_mem_nil, or_false] at hp
    rcases hp with rfl | rfl | rfl | rfl | rfl | rfl | rfl | rfl | rfl | rfl | rfl | rfl | rfl | rfl | rfl | rfl | rfl | rfl | rfl
    · exact hg _ e3 (by unfold errs; repeat (first | exact List.mem_cons_self | apply List.mem_cons_of_mem))
    · exact hg _ e4 (by unfold errs; repeat (first | exact List.mem_cons_self | apply List.mem_cons_of_mem))
    · exact hg _ e2 (by unfold errs; repeat (first | exact List.mem_cons_self | apply List.mem_cons_of_mem))
    · exact hg _ e1 (by unfold errs; repeat (first | exact List.mem_cons_self | apply List.mem_cons_of_mem))
    · exact hg _ e5 (by unfold errs; repeat (first | exact List.mem_cons_self | apply List.mem_cons_of_mem))
    · exact hg _ e6 (by unfold errs; repeat (first | exact List.mem_cons_self | apply List.mem_cons_of_mem))
    · exact hg _ e7 (by unfold errs; repeat (first | exact List.mem_cons_self | apply List.mem_cons_of_mem))
    · exact hg _ e8 (by unfold errs; repeat (first | exact List.mem_cons_self | apply List.mem_cons_of_mem))
    · exact hg _ e9 (by unfold errs; repeat (first | exact List.mem_cons_self | apply List.mem_cons_of_mem))
    · exact hg _ e10 (by unfold errs; repeat (first | exact List.mem_cons_self | apply List.mem_cons_of_mem))
    · exact hg _ e11 (by unfold errs; repeat (first | exact List.mem_cons_self | apply List.mem_cons_of_mem))
    · exact hg _ e12 (by unfold errs; repeat (first | exact List.mem_cons_self | apply List.mem_cons_of_mem))
    · exact hg _ e13 (by unfold errs; repeat (first | exact List.mem_cons_self | apply List.mem_cons_of_mem))
    · exact hg _ e14 (by unfold errs; repeat (first | exact List.mem_cons_self | apply List.mem_cons_of_mem))
    · exact hg _ e15 (by unfold errs; repeat (first | exact List.mem_cons_self | apply List.mem_cons_of_mem))
    · exact hg _ e16 (by unfold errs; repeat (first | exact List.mem_cons_self | apply List.mem_cons_of_mem))
    · exact hg _ e17 (by unfold errs; repeat (first | exact List.mem_cons_self | apply List.mem_cons_of_mem))
    · exact hg _ e18 (by unfold errs; repeat (first | exact List.mem_cons_self | apply List.mem_cons_of_mem))
    · exact hg _ e19 (by unfold errs; repeat (first | exact List.mem_cons_self | apply List.mem_cons_of_mem))
  refine law_row (P := Tryd.prog) (gt := gtL fn.PlacesMeet.gts) (eps := eps) (f := 9) (fn := Tryd.f9) (spec := Rows.placesMeetSpec) (C := fn.PlacesMeet.con (fn.PlacesMeet.M N)) (ss := ss) (tb := 4) seat.laidOut seat.rowed seat.full rfl (by kernel_rfl) (by kernel_rfl) (by kernel_rfl) ?_ (by kernel_rfl) hval hW (fn.PlacesMeet.ok N) he (glbL hG) true_all
  · intro ds hd
    have hd' : ds.length = 3 := hd
    match ds, hd' with
    | [d0, d1, d2], _ => rfl

/-! ### a start that fits -/
noncomputable def low : Nat := (World.holding Tryd.prog default ⟨#[], #[], []⟩).heap.size
noncomputable def laidWorld (os : Os) : World :=
  let w0 := World.holding Tryd.prog os ⟨#[.cells #[.string ⟨#[102, 101, 108, 108, 111, 119, 115, 104, 105, 112, 58, 32, 114, 97, 110, 103, 101]⟩] 124, .cells #[.string ⟨#[102, 101, 108, 108, 111, 119, 115, 104, 105, 112, 58, 32, 115, 104, 111, 114, 116]⟩] 124, .cells #[.string ⟨#[102, 101, 108, 108, 111, 119, 115, 104, 105, 112, 58, 32, 108, 111, 110, 103]⟩] 124, .cells #[.string ⟨#[102, 101, 108, 108, 111, 119, 115, 104, 105, 112, 58, 32, 102, 111, 114, 109]⟩] 124, .cells #[.string ⟨#[102, 101, 108, 108, 111, 119, 115, 104, 105, 112, 58, 32, 107, 101, 121]⟩] 124, .cells #[.string ⟨#[102, 101, 108, 108, 111, 119, 115, 104, 105, 112, 58, 32, 115, 105, 103, 110]⟩] 124, .cells #[.string ⟨#[102, 101, 108, 108, 111, 119, 115, 104, 105, 112, 58, 32, 115, 101, 97, 108]⟩] 124, .cells #[.string ⟨#[102, 101, 108, 108, 111, 119, 115, 104, 105, 112, 58, 32, 101, 112, 111, 99, 104]⟩] 124, .cells #[.string ⟨#[102, 101, 108, 108, 111, 119, 115, 104, 105, 112, 58, 32, 103, 114, 111, 117, 112]⟩] 124, .cells #[.string ⟨#[102, 101, 108, 108, 111, 119, 115, 104, 105, 112, 58, 32, 115, 101, 110, 100, 101, 114]⟩] 124, .cells #[.string ⟨#[102, 101, 108, 108, 111, 119, 115, 104, 105, 112, 58, 32, 108, 101, 97, 102]⟩] 124, .cells #[.string ⟨#[102, 101, 108, 108, 111, 119, 115, 104, 105, 112, 58, 32, 111, 102, 102, 101, 114]⟩] 124, .cells #[.string ⟨#[102, 101, 108, 108, 111, 119, 115, 104, 105, 112, 58, 32, 112, 97, 116, 104]⟩] 124, .cells #[.string ⟨#[102, 101, 108, 108, 111, 119, 115, 104, 105, 112, 58, 32, 116, 97, 103]⟩] 124, .cells #[.string ⟨#[102, 101, 108, 108, 111, 119, 115, 104, 105, 112, 58, 32, 110, 111, 110, 101]⟩] 124, .cells #[.string ⟨#[102, 101, 108, 108, 111, 119, 115, 104, 105, 112, 58, 32, 114, 101, 109, 111, 118, 101, 100]⟩] 124, .cells #[.string ⟨#[102, 101, 108, 108, 111, 119, 115, 104, 105, 112, 58, 32, 102, 117, 108, 108]⟩] 124, .cells #[.string ⟨#[102, 101, 108, 108, 111, 119, 115, 104, 105, 112, 58, 32, 115, 116, 97, 116, 101]⟩] 124, .cells #[.string ⟨#[102, 101, 108, 108, 111, 119, 115, 104, 105, 112, 58, 32, 116, 119, 105, 99, 101]⟩] 124], #[], []⟩
  { w0 with heap := w0.heap
      |>.modify 3 (fun
      | .cells _ t frozen => .cells #[.iface 98 (.pointer (some ⟨low + 0, 0, none⟩))] t frozen
      | o => o)
      |>.modify 2 (fun
      | .cells _ t frozen => .cells #[.iface 98 (.pointer (some ⟨low + 1, 0, none⟩))] t frozen
      | o => o)
      |>.modify 0 (fun
      | .cells _ t frozen => .cells #[.iface 98 (.pointer (some ⟨low + 2, 0, none⟩))] t frozen
      | o => o)
      |>.modify 1 (fun
      | .cells _ t frozen => .cells #[.iface 98 (.pointer (some ⟨low + 3, 0, none⟩))] t frozen
      | o => o)
      |>.modify 4 (fun
      | .cells _ t frozen => .cells #[.iface 98 (.pointer (some ⟨low + 4, 0, none⟩))] t frozen
      | o => o)
      |>.modify 5 (fun
      | .cells _ t frozen => .cells #[.iface 98 (.pointer (some ⟨low + 5, 0, none⟩))] t frozen
      | o => o)
      |>.modify 6 (fun
      | .cells _ t frozen => .cells #[.iface 98 (.pointer (some ⟨low + 6, 0, none⟩))] t frozen
      | o => o)
      |>.modify 7 (fun
      | .cells _ t frozen => .cells #[.iface 98 (.pointer (some ⟨low + 7, 0, none⟩))] t frozen
      | o => o)
      |>.modify 8 (fun
      | .cells _ t frozen => .cells #[.iface 98 (.pointer (some ⟨low + 8, 0, none⟩))] t frozen
      | o => o)
      |>.modify 9 (fun
      | .cells _ t frozen => .cells #[.iface 98 (.pointer (some ⟨low + 9, 0, none⟩))] t frozen
      | o => o)
      |>.modify 10 (fun
      | .cells _ t frozen => .cells #[.iface 98 (.pointer (some ⟨low + 10, 0, none⟩))] t frozen
      | o => o)
      |>.modify 11 (fun
      | .cells _ t frozen => .cells #[.iface 98 (.pointer (some ⟨low + 11, 0, none⟩))] t frozen
      | o => o)
      |>.modify 12 (fun
      | .cells _ t frozen => .cells #[.iface 98 (.pointer (some ⟨low + 12, 0, none⟩))] t frozen
      | o => o)
      |>.modify 13 (fun
      | .cells _ t frozen => .cells #[.iface 98 (.pointer (some ⟨low + 13, 0, none⟩))] t frozen
      | o => o)
      |>.modify 14 (fun
      | .cells _ t frozen => .cells #[.iface 98 (.pointer (some ⟨low + 14, 0, none⟩))] t frozen
      | o => o)
      |>.modify 15 (fun
      | .cells _ t frozen => .cells #[.iface 98 (.pointer (some ⟨low + 15, 0, none⟩))] t frozen
      | o => o)
      |>.modify 16 (fun
      | .cells _ t frozen => .cells #[.iface 98 (.pointer (some ⟨low + 16, 0, none⟩))] t frozen
      | o => o)
      |>.modify 17 (fun
      | .cells _ t frozen => .cells #[.iface 98 (.pointer (some ⟨low + 17, 0, none⟩))] t frozen
      | o => o)
      |>.modify 18 (fun
      | .cells _ t frozen => .cells #[.iface 98 (.pointer (some ⟨low + 18, 0, none⟩))] t frozen
      | o => o) }
abbrev wargs : Array Value := #[.int .i64 0, .int .i64 0, .int .i64 0]
theorem laid_met (os : Os) : laidMet Tryd.prog Rows.placesMeetRow.laid ((laidWorld os).forCall (fun _ _ => 0) ⟨#[], wargs, []⟩).memory :=
  laidMet_of_run' 8 (by kernel_rfl) (by kernel_rfl)
theorem reads (os : Os) {H : Type} (enc : TypeId × Value → H) : ∃ places, DataW.whole enc Tryd.prog ((laidWorld os).forCall (fun _ _ => 0) ⟨#[], wargs, []⟩).memory Tryd.f9.params.toList Rows.placesMeetSpec.vars false wargs.toList 8 =
    some ([.lit (.int .i64 0), .lit (.int .i64 0), .lit (.int .i64 0)], [], places) :=
  ⟨[], by kernel_rfl⟩

set_option maxRecDepth 100000 in
theorem lifted (os : Os) (started : os.Started) (H : Type) (enc : TypeId × Value → H) (F : Stop.Interp) :
    ReturnsInHanded {} Tryd.checked os 9 .any ((OpenSpec.ofChange Rows.placesMeetSpec).preRow enc Tryd.prog Tryd.f9 Rows.placesMeetRow.domain false Rows.placesMeetRow.laid) (((OpenSpec.ofChange Rows.placesMeetSpec).at F).post enc Tryd.prog Tryd.f9 false true false false) := by
  obtain ⟨places, hx⟩ := reads os enc
  refine returnsInHanded_of_row (C := Tryd.checked) (s := OpenSpec.ofChange Rows.placesMeetSpec) seat.own started (by kernel_rfl) Tryd.func9
    (witness_row_at (enc := enc) (C := Tryd.checked) false (laidWorld os) wargs rfl (by kernel_rfl) (by kernel_rfl) (by kernel_rfl)
      (OpenSpec.preRow_of_cond 8 hx (by kernel_rfl) (fun k hk => by cases hk) (by kernel_rfl) (laid_met os))) ?_
  intro W base args ds gs before hval hW _ _ _ hL _ _
  exact contract H enc W base args ds gs before hval hW hL

theorem said : Rows.PlacesMeetSaid :=
  OpenClaim.holds_of_cond 9 Tryd.f9 rfl rfl rfl rfl rfl rfl rfl ⟨rfl, rfl, rfl, rfl, rfl⟩ rfl rfl rfl rfl rfl (by kernel_rfl) Tryd.func9 (by kernel_rfl)
    (of_decide_eq_true (by kernel_rfl)) (by unfold Func.isWrapper; rw [if_neg (of_decide_eq_false (by kernel_rfl))]; exact ⟨rfl, rfl⟩)
    (fun os started H enc _ F => by rw [OpenClaim.pre_eq_preRow]; exact lifted os started H enc F)

theorem plain (f : FuncId) (fn : Func) (hf : Tryd.pinned.checked.prog.funcNamed "fellowship/fellowshiplaw17.PlacesMeet" = some f) (hfn : Tryd.pinned.checked.prog.funcs[f]? = some fn) :
    true = Tryd.pinned.checked.prog.looks [] ∧ ∀ (j : Nat) t, fn.params[j]? = some t → Tryd.pinned.checked.prog.wantsStandIn t = false := by
  obtain rfl : f = 9 := Option.some.inj ((show Tryd.prog.funcNamed "fellowship/fellowshiplaw17.PlacesMeet" = some 9 by kernel_rfl).symm.trans hf) |>.symm
  obtain rfl : fn = Tryd.f9 := (Option.some.inj (Tryd.func9.symm.trans hfn)).symm
  refine ⟨by kernel_rfl, fun j t ht => ?_⟩
  rw [Tryd.params9] at ht
  have h : t = 3 ∨ t = 3 ∨ t = 3 := by simpa using Array.mem_of_getElem? ht
  rcases h with rfl | rfl | rfl
  · exact (show Tryd.prog.wantsStandIn 3 = false by kernel_rfl)
  · exact (show Tryd.prog.wantsStandIn 3 = false by kernel_rfl)
  · exact (show Tryd.prog.wantsStandIn 3 = false by kernel_rfl)

/-- ████ THE CARD ████ -/
theorem card : Rows.PlacesMeetCardSaid :=
  Claim7.holds_tied_plain_at .later [] _ _ _ _ said (fun _ h => by cases h) (by kernel_rfl) (fun _ h => by cases h) placesMeet_row_tie rfl ⟨rfl, rfl⟩ (by kernel_rfl) rfl plain (by kernel_rfl)

end Go.Proofs.YtbliikcgcgalmaaDoor.placesMeet
