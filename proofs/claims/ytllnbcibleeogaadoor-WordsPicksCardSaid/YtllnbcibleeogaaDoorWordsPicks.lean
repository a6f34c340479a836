/-
  Of two numbers one is picked, whichever they are: for every input the law returns true and leaves its input as it was; the error variable that its road names starts as the program's text lays it.
-/
import Derived.Test.YtllnbcibleeogaaDoorCards
import Derived.Test.YtllnbcibleeogaaDoorTie
import Derived.Test.YtllnbcibleeogaaDoorEvZd
import Derived.WalkKit
import Derived.ProofKit
import Derived.OpenShut
import Derived.LaidLaws
import Derived.Deep.DeepHandedRow
namespace Go.Proofs.YtllnbcibleeogaaDoor.wordsPicks
open Go.ChangeShapes Go.WideShapes Go.ChangeAt Go.RowKit Go.Ev

theorem own : ownKnob Tryd.prog.godebug = none := by kernel_rfl
theorem gLong : Tryd.prog.globalNamed "fellowship/api.ErrLong" = some 3 := by kernel_rfl

/-! ### what the evaluator says -/

noncomputable def tb : List (Nat × Func) := [(13, Tryd.f13), (14, Tryd.f14), (16, Tryd.f16), (31, Tryd.f31), (3, Tryd.f3)]
def an : Anns := ⟨fun _ => none, fun _ => none⟩

theorem tb_ok : TblOk Tryd.prog tb := by
  intro p hp
  simp only [tb, List.mem_cons, List.not_mem_nil, or_false] at hp
  rcases hp with rfl | rfl | rfl | rfl | rfl
  · exact ⟨Tryd.func13, by kernel_rfl, by kernel_rfl⟩
  · exact ⟨Tryd.func14, by kernel_rfl, by kernel_rfl⟩
  · exact ⟨Tryd.func16, by kernel_rfl, by kernel_rfl⟩
  · exact ⟨Tryd.func31, by kernel_rfl, by kernel_rfl⟩
  · exact ⟨Tryd.func3, by kernel_rfl, by kernel_rfl⟩

noncomputable def gi : Gi := giD Tryd.prog (fun _ => none) (fun _ => an) 20 tb (fun _ => none) 5

theorem law_ok : SoundC Tryd.prog (fun _ => none) 3 (fun R args bs κ => evF gi an 20 Tryd.f3 args bs κ) :=
  fn_ok (by kernel_rfl) tb_ok (fun g v h => gtNone g v h) (ovNone _ _) 5 (by kernel_rfl)

theorem tree (c : Bool) (a b : Int) (κ : AV → List Blk → Option Unit) : evF gi an 20 Tryd.f3 [.bool c, .int .u64 a, .int .u64 b] [] κ =
    cond c (κ (.bool (decide (ior .u64 (iand .u64 a (IntKind.u64.wrap (0 - 1))) (iandn .u64 b (IntKind.u64.wrap (0 - 1))) = a))) [])
      (κ (.bool (decide (ior .u64 (iand .u64 a 0) (iandn .u64 b 0) = b))) []) := by
  cases c
  · kernel_rfl
  · kernel_rfl

/-- Bits picked by a mask of ones or of noughts are one number's. -/
theorem picked (c : Bool) (a b : Int) (ha : 0 ≤ a) (ha' : a < 2 ^ 64) (hb : 0 ≤ b) (hb' : b < 2 ^ 64) : evF gi an 20 Tryd.f3 [.bool c, .int .u64 a, .int .u64 b] [] yes = some () := by
  rw [tree]
  obtain ⟨x, rfl⟩ := ex_un (n := 64) ha ha'
  obtain ⟨y, rfl⟩ := ex_un (n := 64) hb hb'
  cases c with
  | true =>
    have e1 : IntKind.u64.wrap (0 - 1) = un (BitVec.allOnes 64) := by rw [wrp64]; rfl
    have e2 : ior .u64 (iand .u64 (un x) (un (BitVec.allOnes 64))) (iandn .u64 (un y) (un (BitVec.allOnes 64))) = un x := by
      rw [iand64, iandn64, ior64, un_inj, BitVec.not_allOnes, BitVec.and_zero, BitVec.or_zero, BitVec.and_allOnes]
    simp only [cond_true, e1, e2, decide_true, yes]
  | false =>
    have e1 : (0 : Int) = un (0#64) := rfl
    have e2 : ior .u64 (iand .u64 (un x) 0) (iandn .u64 (un y) 0) = un y := by
      rw [e1, iand64, iandn64, ior64, un_inj, BitVec.not_zero, BitVec.and_zero, BitVec.zero_or, BitVec.and_allOnes]
    simp only [cond_false, e2, decide_true, yes]

theorem walk (a0 : Bool) (a1 : Int) (a2 : Int) (w1 : (Lit.int .u64 a1).wf = true) (w2 : (Lit.int .u64 a2).wf = true) (w : World) :
    Calls Tryd.prog 3 #[.bool a0, .int .u64 a1, .int .u64 a2] w fun e w' => e = .returned (.bool true) ∧ w.keptBut w' (fun _ => False) := by
  simp only [Lit.wf, IntKind.min, IntKind.max, IntKind.signed, IntKind.bits, Bool.and_eq_true, decide_eq_true_eq, Bool.false_eq_true, if_false] at w1 w2
  refine law_calls law_ok eps0_ok (fun g v h => gtNone g v h) (args := [.bool a0, .int .u64 a1, .int .u64 a2]) ⟨rfl, ⟨rfl, ?_⟩, ⟨rfl, ?_⟩, trivial⟩ (picked a0 a1 a2 w1.1 (by omega) w2.1 (by omega))
  · intro _ x hx; rw [List.mem_singleton] at hx; omega
  · intro _ x hx; rw [List.mem_singleton] at hx; omega

/-! ### the row -/

set_option maxRecDepth 100000 in
theorem contract (H : Type) (enc : TypeId × Value → H) (W : World) (base : Nat) (args : Array Value) (ds gs : List (DataW H)) (before : List MemPlace)
    (hval : ∀ (j : Nat) t v, Tryd.f3.params[j]? = some t → args[j]? = some v → Value.okWide Tryd.prog W .any base t v)
    (hW : DataW.Whole enc Tryd.prog Tryd.f3.params.toList Rows.wordsPicksSpec.vars false W args.toList ds gs before) :
    Calls Tryd.prog 3 args W fun e W' => ∃ v, e = .returned v ∧ Rows.wordsPicksSpec.post enc Tryd.prog Tryd.f3 false true false false W args v W' := by
  have hW' := hW
  obtain ⟨p, q, hA0, hV, rfl, hfz, hnd⟩ := hW
  have hA : DataW.TrodAll enc Tryd.prog W 0 (fun _ => true) true Tryd.f3.params.toList args.toList ds p := hA0
  rw [Tryd.params3] at hA hval
  obtain ⟨v0, vs0, d0, ds0, p0, q0, hargs, rfl, rfl, h0, r0⟩ := trodAll_cons hA
  obtain ⟨v1, vs1, d1, ds1, p1, q1, rfl, rfl, rfl, h1, r1⟩ := trodAll_cons r0
  obtain ⟨v2, vs2, d2, ds2, p2, q2, rfl, rfl, rfl, h2, r2⟩ := trodAll_cons r1
  obtain ⟨rfl, rfl, rfl⟩ := trodAll_nil r2
  obtain rfl : args = #[v0, v1, v2] := by cases args; simp_all
  obtain ⟨rfl, rfl⟩ := trodVars_none hV
  obtain ⟨a0, rfl, rfl, rfl⟩ := open_bool Tryd.underlying4 (hval 0 4 v0 rfl rfl) h0
  obtain ⟨a1, rfl, rfl, rfl, w1⟩ := open_int Tryd.underlying22 (hval 1 22 v1 rfl rfl) h1
  obtain ⟨a2, rfl, rfl, rfl, w2⟩ := open_int Tryd.underlying22 (hval 2 22 v2 rfl rfl) h2
  clear hA0
  simp only [List.append_nil] at hW'
  refine (walk a0 a1 a2 w1 w2 W).mono fun e W' ⟨he, hk⟩ => ?_
  subst he
  exact ⟨_, rfl, _, _, _, [], [], [], hW', trodAll_cons_mk (shut_bool Tryd.underlying4 _) trodAll_mk0,
    trodAll_cons_mk (shut_bool Tryd.underlying4 _) (trodAll_cons_mk (shut_int Tryd.underlying22 w1) (trodAll_cons_mk (shut_int Tryd.underlying22 w2) trodAll_mk0)), rfl, World.keptBut_mono (fun _ h => h.elim) hk, fun h => by cases h⟩

/-! ### a start that fits -/

noncomputable def low : Nat := (World.holding Tryd.prog default ⟨#[], #[], []⟩).heap.size
abbrev text : ByteArray := ⟨#[102, 101, 108, 108, 111, 119, 115, 104, 105, 112, 58, 32, 108, 111, 110, 103]⟩
noncomputable def laidWorld (os : Os) : World :=
  let w0 := World.holding Tryd.prog os ⟨#[.cells #[.string text] 113], #[], []⟩
  { w0 with heap := w0.heap.modify 3 fun
      | .cells _ t frozen => .cells #[.iface 88 (.pointer (some ⟨low, 0, none⟩))] t frozen
      | o => o }
abbrev wargs : Array Value := #[.bool false, .int .u64 0, .int .u64 0]
theorem laid_met (os : Os) : laidMet Tryd.prog Rows.wordsPicksRow.laid ((laidWorld os).forCall (fun _ _ => 0) ⟨#[], wargs, []⟩).memory :=
  laidMet_of_run' 8 (by kernel_rfl) (by kernel_rfl)
theorem reads (os : Os) {H : Type} (enc : TypeId × Value → H) : ∃ places, DataW.whole enc Tryd.prog ((laidWorld os).forCall (fun _ _ => 0) ⟨#[], wargs, []⟩).memory Tryd.f3.params.toList Rows.wordsPicksSpec.vars false wargs.toList 8 =
    some ([.lit (.bool false), .lit (.int .u64 0), .lit (.int .u64 0)], [], places) :=
  ⟨[], by kernel_rfl⟩

set_option maxRecDepth 100000 in
theorem lifted (os : Os) (started : os.Started) (H : Type) (enc : TypeId × Value → H) (F : Stop.Interp) :
    ReturnsInHanded {} Tryd.checked os 3 .any ((OpenSpec.ofChange Rows.wordsPicksSpec).preRow enc Tryd.prog Tryd.f3 Rows.wordsPicksRow.domain false Rows.wordsPicksRow.laid) (((OpenSpec.ofChange Rows.wordsPicksSpec).at F).post enc Tryd.prog Tryd.f3 false true false false) := by
  obtain ⟨places, hx⟩ := reads os enc
  refine returnsInHanded_of_row (C := Tryd.checked) (s := OpenSpec.ofChange Rows.wordsPicksSpec) own started (by kernel_rfl) Tryd.func3
    (witness_row_at (enc := enc) (C := Tryd.checked) false (laidWorld os) wargs rfl (by kernel_rfl) (by kernel_rfl) (by kernel_rfl)
      (OpenSpec.preRow_of_cond 8 hx (by kernel_rfl) (fun k hk => by cases hk) (by kernel_rfl) (laid_met os))) ?_
  intro W base args ds gs before hval hW _ _ _ hL _ _
  exact contract H enc W base args ds gs before hval hW

theorem said : Rows.WordsPicksSaid :=
  OpenClaim.holds_of_cond 3 Tryd.f3 rfl rfl rfl rfl rfl rfl rfl ⟨rfl, rfl, rfl, rfl, rfl⟩ rfl rfl rfl rfl rfl (by kernel_rfl) Tryd.func3 (by kernel_rfl)
    (of_decide_eq_true (by kernel_rfl)) (by unfold Func.isWrapper; rw [if_neg (of_decide_eq_false (by kernel_rfl))]; exact ⟨rfl, rfl⟩)
    (fun os started H enc _ F => by rw [OpenClaim.pre_eq_preRow]; exact lifted os started H enc F)

theorem plain (f : FuncId) (fn : Func) (hf : Tryd.pinned.checked.prog.funcNamed "fellowship/fellowshiplaw01.WordsPicks" = some f) (hfn : Tryd.pinned.checked.prog.funcs[f]? = some fn) :
    true = Tryd.pinned.checked.prog.looks [] ∧ ∀ (j : Nat) t, fn.params[j]? = some t → Tryd.pinned.checked.prog.wantsStandIn t = false := by
  obtain rfl : f = 3 := Option.some.inj ((show Tryd.prog.funcNamed "fellowship/fellowshiplaw01.WordsPicks" = some 3 by kernel_rfl).symm.trans hf) |>.symm
  obtain rfl : fn = Tryd.f3 := (Option.some.inj (Tryd.func3.symm.trans hfn)).symm
  refine ⟨by kernel_rfl, fun j t ht => ?_⟩
  rw [Tryd.params3] at ht
  have h : t = 4 ∨ t = 22 ∨ t = 22 := by simpa using Array.mem_of_getElem? ht
  rcases h with rfl | rfl | rfl
  · exact (show Tryd.prog.wantsStandIn 4 = false by kernel_rfl)
  · exact (show Tryd.prog.wantsStandIn 22 = false by kernel_rfl)
  · exact (show Tryd.prog.wantsStandIn 22 = false by kernel_rfl)

/-- ████ THE CARD ████ -/
theorem card : Rows.WordsPicksCardSaid :=
  Claim7.holds_tied_plain_at .later [] _ _ _ _ said (fun _ h => by cases h) (by kernel_rfl) (fun _ h => by cases h) wordsPicks_row_tie rfl ⟨rfl, rfl⟩ (by kernel_rfl) rfl plain (by kernel_rfl)

end Go.Proofs.YtllnbcibleeogaaDoor.wordsPicks
