/-
  A word that is turned twice is turned by both numbers, and by its bits not at all: for every input the law returns true and leaves its input as it was; the error variable that its road names starts as the program's text lays it.
-/
import Derived.Test.YtllnbcibleeogaaDoorCards
import Derived.Test.YtllnbcibleeogaaDoorTie
import Derived.Test.YtllnbcibleeogaaDoorEvZe
import Derived.WalkKit
import Derived.ProofKit
import Derived.OpenShut
import Derived.LaidLaws
import Derived.Deep.DeepHandedRow
import Derived.WideKeyPair
namespace Go.Proofs.YtllnbcibleeogaaDoor.wordsAgain
open Go.ChangeShapes Go.WideShapes Go.ChangeAt Go.RowKit Go.Ev

theorem own : ownKnob Tryd.prog.godebug = none := by kernel_rfl

noncomputable def tb : List (Nat × Func) := [(13, Tryd.f13), (16, Tryd.f16), (17, Tryd.f17), (19, Tryd.f19), (31, Tryd.f31), (5, Tryd.f5)]
def an : Anns := ⟨fun _ => none, fun _ => none⟩

theorem tb_ok : TblOk Tryd.prog tb := by
  intro p hp
  simp only [tb, List.mem_cons, List.not_mem_nil, or_false] at hp
  rcases hp with rfl | rfl | rfl | rfl | rfl | rfl
  · exact ⟨Tryd.func13, by kernel_rfl, by kernel_rfl⟩
  · exact ⟨Tryd.func16, by kernel_rfl, by kernel_rfl⟩
  · exact ⟨Tryd.func17, by kernel_rfl, by kernel_rfl⟩
  · exact ⟨Tryd.func19, by kernel_rfl, by kernel_rfl⟩
  · exact ⟨Tryd.func31, by kernel_rfl, by kernel_rfl⟩
  · exact ⟨Tryd.func5, by kernel_rfl, by kernel_rfl⟩

noncomputable def gi : Gi := giD Tryd.prog (fun _ => none) (fun _ => an) 20 tb (fun _ => none) 5

theorem law_ok : SoundC Tryd.prog (fun _ => none) 5 (fun _ args bs κ => evF gi an 20 Tryd.f5 args bs κ) :=
  fn_ok (by kernel_rfl) tb_ok (fun g v h => gtNone g v h) (ovNone _ _) 5 (by kernel_rfl)

def l32 (x y : Int) : Int := ior .u32 (ishl .u32 x ((IntKind.u64.wrap y).tmod 32)) (ishr .u32 x (IntKind.u64.wrap (32 - (IntKind.u64.wrap y).tmod 32)))
def r32 (x y : Int) : Int := ior .u32 (ishr .u32 x ((IntKind.u64.wrap y).tmod 32)) (ishl .u32 x (IntKind.u64.wrap (32 - (IntKind.u64.wrap y).tmod 32)))
def r64 (x y : Int) : Int := ior .u64 (ishr .u64 x ((IntKind.u64.wrap y).tmod 64)) (ishl .u64 x (IntKind.u64.wrap (64 - (IntKind.u64.wrap y).tmod 64)))

/-- What the law comes to. -/
theorem tree (x y a b : Int) (κ : AV → List Blk → Option Unit) : evF gi an 20 Tryd.f5 [.int .u32 x, .int .u64 y, .ints .i16 2 [a, b]] [] κ =
    cond (decide (l32 (l32 x (IntKind.i64.wrap a)) (IntKind.i64.wrap b) = l32 x (IntKind.i64.wrap (IntKind.i64.wrap a + IntKind.i64.wrap b))))
      (cond (decide (r64 (r64 y (IntKind.i64.wrap a)) (IntKind.i64.wrap b) = r64 y (IntKind.i64.wrap (IntKind.i64.wrap a + IntKind.i64.wrap b))))
        (cond (decide (l32 x 32 = x))
          (cond (decide (r32 x (IntKind.i64.wrap a) = l32 x (IntKind.i64.wrap (0 - IntKind.i64.wrap a))))
            (κ (.bool (decide (r64 y 64 = y))) []) (κ (.bool false) [])) (κ (.bool false) [])) (κ (.bool false) [])) (κ (.bool false) []) := by
  kernel_rfl

theorem turned (x : BitVec 32) (y : BitVec 64) (a b : Int) : evF gi an 20 Tryd.f5 [.int .u32 (un x), .int .u64 (un y), .ints .i16 2 [a, b]] [] yes = some () := by
  rw [tree]
  have el : ∀ (x : BitVec 32) (y : Int), l32 (un x) y = un (x.rotateLeft (y % 32).toNat) := left32
  have er : ∀ (x : BitVec 32) (y : Int), r32 (un x) y = un (x.rotateRight (y % 32).toNat) := right32
  have er6 : ∀ (x : BitVec 64) (y : Int), r64 (un x) y = un (x.rotateRight (y % 64).toNat) := right64
  have e1 : l32 (l32 (un x) (IntKind.i64.wrap a)) (IntKind.i64.wrap b) = l32 (un x) (IntKind.i64.wrap (IntKind.i64.wrap a + IntKind.i64.wrap b)) := by
    rw [el, el, el, left_left32, i64_mod32]
  have e2 : r64 (r64 (un y) (IntKind.i64.wrap a)) (IntKind.i64.wrap b) = r64 (un y) (IntKind.i64.wrap (IntKind.i64.wrap a + IntKind.i64.wrap b)) := by
    rw [er6, er6, er6, right_right64, i64_mod64]
  have e3 : l32 (un x) 32 = un x := by rw [el]; exact congrArg un (left0 x)
  have e4 : r32 (un x) (IntKind.i64.wrap a) = l32 (un x) (IntKind.i64.wrap (0 - IntKind.i64.wrap a)) := by
    rw [er, el, right_left32, i64_mod32 (0 - IntKind.i64.wrap a)]
  have e5 : r64 (un y) 64 = un y := by rw [er6]; exact congrArg un (right0 y)
  simp only [e1, e2, e3, e4, e5, decide_true, cond_true, yes]

theorem walk (a0 a1 a2 b2 : Int) (w0 : (Lit.int .u32 a0).wf = true) (w1 : (Lit.int .u64 a1).wf = true) (_ : (Lit.int .i16 a2).wf = true) (_ : (Lit.int .i16 b2).wf = true) (w : World) :
    Calls Tryd.prog 5 #[.int .u32 a0, .int .u64 a1, .agg #[.int .i16 a2, .int .i16 b2]] w fun e w' => e = .returned (.bool true) ∧ w.keptBut w' (fun _ => False) := by
  simp only [Lit.wf, IntKind.min, IntKind.max, IntKind.signed, IntKind.bits, Bool.and_eq_true, decide_eq_true_eq, Bool.false_eq_true, if_false] at w0 w1
  obtain ⟨x, rfl⟩ := ex_un (n := 32) w0.1 (by omega)
  obtain ⟨y, rfl⟩ := ex_un (n := 64) w1.1 (by omega)
  refine law_calls law_ok eps0_ok (fun g v h => gtNone g v h) (args := [.int .u32 (un x), .int .u64 (un y), .ints .i16 2 [a2, b2]]) ⟨⟨rfl, ?_⟩, ⟨rfl, ?_⟩, ⟨rfl, ?_, rfl⟩, trivial⟩ (turned x y a2 b2)
  · intro _ z hz; rw [List.mem_singleton] at hz; have := un_nn x; omega
  · intro _ z hz; rw [List.mem_singleton] at hz; have := un_nn y; omega
  · intro h; cases h

/-! ### the row -/

theorem pair2 : Go.WideMaps.ArrKey Tryd.prog 33 32 2 := ⟨Tryd.underlying33, by kernel_rfl, by kernel_rfl, by kernel_rfl⟩
set_option maxRecDepth 100000 in
theorem contract (H : Type) (enc : TypeId × Value → H) (W : World) (base : Nat) (args : Array Value) (ds gs : List (DataW H)) (before : List MemPlace)
    (hval : ∀ (j : Nat) t v, Tryd.f5.params[j]? = some t → args[j]? = some v → Value.okWide Tryd.prog W .any base t v)
    (hW : DataW.Whole enc Tryd.prog Tryd.f5.params.toList Rows.wordsAgainSpec.vars false W args.toList ds gs before) :
    Calls Tryd.prog 5 args W fun e W' => ∃ v, e = .returned v ∧ Rows.wordsAgainSpec.post enc Tryd.prog Tryd.f5 false true false false W args v W' := by
  have hW' := hW
  obtain ⟨p, q, hA0, hV, rfl, hfz, hnd⟩ := hW
  have hA : DataW.TrodAll enc Tryd.prog W 0 (fun _ => true) true Tryd.f5.params.toList args.toList ds p := hA0
  rw [Tryd.params5] at hA hval
  obtain ⟨v0, vs0, d0, ds0, p0, q0, hargs, rfl, rfl, h0, r0⟩ := trodAll_cons hA
  obtain ⟨v1, vs1, d1, ds1, p1, q1, rfl, rfl, rfl, h1, r1⟩ := trodAll_cons r0
  obtain ⟨v2, vs2, d2, ds2, p2, q2, rfl, rfl, rfl, h2, r2⟩ := trodAll_cons r1
  obtain ⟨rfl, rfl, rfl⟩ := trodAll_nil r2
  obtain rfl : args = #[v0, v1, v2] := by cases args; simp_all
  obtain ⟨rfl, rfl⟩ := trodVars_none hV
  obtain ⟨a0, rfl, rfl, rfl, w0⟩ := open_int Tryd.underlying26 (hval 0 26 v0 rfl rfl) h0
  obtain ⟨a1, rfl, rfl, rfl, w1⟩ := open_int Tryd.underlying22 (hval 1 22 v1 rfl rfl) h1
  obtain ⟨a2, b2, rfl, rfl, rfl, w2, u2⟩ := Go.WideMaps.open_pair pair2 Tryd.underlying32 (hval 2 33 v2 rfl rfl) h2
  clear hA0
  simp only [List.append_nil] at hW'
  refine (walk a0 a1 a2 b2 w0 w1 w2 u2 W).mono fun e W' ⟨he, hk⟩ => ?_
  subst he
  exact ⟨_, rfl, _, _, _, [], [], [], hW', trodAll_cons_mk (shut_bool Tryd.underlying4 _) trodAll_mk0,
    (trodAll_cons_mk (shut_int Tryd.underlying26 w0) (trodAll_cons_mk (shut_int Tryd.underlying22 w1) (trodAll_cons_mk (Go.WideMaps.shut_pair pair2 Tryd.underlying32 w2 u2) trodAll_mk0))), rfl, World.keptBut_mono (fun _ h => h.elim) hk, fun h => by cases h⟩

/-! ### a start that fits -/

noncomputable def low : Nat := (World.holding Tryd.prog default ⟨#[], #[], []⟩).heap.size
noncomputable def laidWorld (os : Os) : World :=
  let w0 := World.holding Tryd.prog os ⟨#[.cells #[.string ⟨#[102, 101, 108, 108, 111, 119, 115, 104, 105, 112, 58, 32, 108, 111, 110, 103]⟩] 113], #[], []⟩
  { w0 with heap := w0.heap
      |>.modify 3 fun
      | .cells _ t frozen => .cells #[.iface 88 (.pointer (some ⟨low + 0, 0, none⟩))] t frozen
      | o => o }
abbrev wargs : Array Value := #[.int .u32 0, .int .u64 0, .agg #[.int .i16 0, .int .i16 0]]
theorem laid_met (os : Os) : laidMet Tryd.prog Rows.wordsAgainRow.laid ((laidWorld os).forCall (fun _ _ => 0) ⟨#[], wargs, []⟩).memory :=
  laidMet_of_run' 8 (by kernel_rfl) (by kernel_rfl)
theorem reads (os : Os) {H : Type} (enc : TypeId × Value → H) : ∃ places, DataW.whole enc Tryd.prog ((laidWorld os).forCall (fun _ _ => 0) ⟨#[], wargs, []⟩).memory Tryd.f5.params.toList Rows.wordsAgainSpec.vars false wargs.toList 8 =
    some ([.lit (.int .u32 0), .lit (.int .u64 0), .agg [.lit (.int .i16 0), .lit (.int .i16 0)]], [], places) :=
  ⟨[], by kernel_rfl⟩

set_option maxRecDepth 100000 in
theorem lifted (os : Os) (started : os.Started) (H : Type) (enc : TypeId × Value → H) (F : Stop.Interp) :
    ReturnsInHanded {} Tryd.checked os 5 .any ((OpenSpec.ofChange Rows.wordsAgainSpec).preRow enc Tryd.prog Tryd.f5 Rows.wordsAgainRow.domain false Rows.wordsAgainRow.laid) (((OpenSpec.ofChange Rows.wordsAgainSpec).at F).post enc Tryd.prog Tryd.f5 false true false false) := by
  obtain ⟨places, hx⟩ := reads os enc
  refine returnsInHanded_of_row (C := Tryd.checked) (s := OpenSpec.ofChange Rows.wordsAgainSpec) own started (by kernel_rfl) Tryd.func5
    (witness_row_at (enc := enc) (C := Tryd.checked) false (laidWorld os) wargs rfl (by kernel_rfl) (by kernel_rfl) (by kernel_rfl)
      (OpenSpec.preRow_of_cond 8 hx (by kernel_rfl) (fun k hk => by cases hk) (by kernel_rfl) (laid_met os))) ?_
  intro W base args ds gs before hval hW _ _ _ hL _ _
  exact contract H enc W base args ds gs before hval hW

theorem said : Rows.WordsAgainSaid :=
  OpenClaim.holds_of_cond 5 Tryd.f5 rfl rfl rfl rfl rfl rfl rfl ⟨rfl, rfl, rfl, rfl, rfl⟩ rfl rfl rfl rfl rfl (by kernel_rfl) Tryd.func5 (by kernel_rfl)
    (of_decide_eq_true (by kernel_rfl)) (by unfold Func.isWrapper; rw [if_neg (of_decide_eq_false (by kernel_rfl))]; exact ⟨rfl, rfl⟩)
    (fun os started H enc _ F => by rw [OpenClaim.pre_eq_preRow]; exact lifted os started H enc F)

theorem plain (f : FuncId) (fn : Func) (hf : Tryd.pinned.checked.prog.funcNamed "fellowship/fellowshiplaw01.WordsAgain" = some f) (hfn : Tryd.pinned.checked.prog.funcs[f]? = some fn) :
    true = Tryd.pinned.checked.prog.looks [] ∧ ∀ (j : Nat) t, fn.params[j]? = some t → Tryd.pinned.checked.prog.wantsStandIn t = false := by
  obtain rfl : f = 5 := Option.some.inj ((show Tryd.prog.funcNamed "fellowship/fellowshiplaw01.WordsAgain" = some 5 by kernel_rfl).symm.trans hf) |>.symm
  obtain rfl : fn = Tryd.f5 := (Option.some.inj (Tryd.func5.symm.trans hfn)).symm
  refine ⟨by kernel_rfl, fun j t ht => ?_⟩
  rw [Tryd.params5] at ht
  have h : t = 26 ∨ t = 22 ∨ t = 33 := by simpa using Array.mem_of_getElem? ht
  rcases h with rfl | rfl | rfl
  · exact (show Tryd.prog.wantsStandIn 26 = false by kernel_rfl)
  · exact (show Tryd.prog.wantsStandIn 22 = false by kernel_rfl)
  · exact (show Tryd.prog.wantsStandIn 33 = false by kernel_rfl)

/-- ████ THE CARD ████ -/
theorem card : Rows.WordsAgainCardSaid :=
  Claim7.holds_tied_plain_at .later [] _ _ _ _ said (fun _ h => by cases h) (by kernel_rfl) (fun _ h => by cases h) wordsAgain_row_tie rfl ⟨rfl, rfl⟩ (by kernel_rfl) rfl plain (by kernel_rfl)

end Go.Proofs.YtllnbcibleeogaaDoor.wordsAgain
