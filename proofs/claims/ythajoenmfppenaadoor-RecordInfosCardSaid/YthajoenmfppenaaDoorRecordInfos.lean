/-
  What senders of infos sign, as a plain reference says: for every input the law returns true and leaves its input as it was; what its road names of the package's variables starts as the program's text lays it.
-/
import Derived.Test.YthajoenmfppenaaDoorCards
import Derived.Test.YthajoenmfppenaaDoorTie
import Derived.Test.YthajoenmfppenaaDoorMRecInfos
import Derived.Test.YthajoenmfppenaaDoorSeat
import Derived.Test.YthajoenmfppenaaDoorEv5
import Derived.WalkKit
import Derived.ProofKit
import Derived.OpenShut
import Derived.LaidLaws
import Derived.Deep.DeepHandedRow
namespace Go.Proofs.YthajoenmfppenaaDoor.recordInfos
open Go.ChangeShapes Go.WideShapes Go.ChangeAt Go.RowKit Go.Ev

def ss : List OS := [.agg [.agg [.ints .u8 32, .int .i64, .ints .u8 32, .ints .u8 32], .gsl (.st [(.int .i64), (.st [(.arr .u8 32), (.arr .u8 32), (.sl .u8), (.arr .u8 32), (.arr .u8 64)]), (.st [(.arr .u8 32), (.arr .u8 32), (.sl .i64)])]), .ints .u8 32, .int .i64, .ints .u8 64]]
def N : Nat := 1000000000000
def e1 : EV := ⟨"fellowship/api.ErrRange", 1, [102, 101, 108, 108, 111, 119, 115, 104, 105, 112, 58, 32, 114, 97, 110, 103, 101], 0⟩
def e2 : EV := ⟨"fellowship/api.ErrShort", 2, [102, 101, 108, 108, 111, 119, 115, 104, 105, 112, 58, 32, 115, 104, 111, 114, 116], 1⟩
def e3 : EV := ⟨"fellowship/api.ErrLong", 3, [102, 101, 108, 108, 111, 119, 115, 104, 105, 112, 58, 32, 108, 111, 110, 103], 2⟩
def e4 : EV := ⟨"fellowship/api.ErrForm", 4, [102, 101, 108, 108, 111, 119, 115, 104, 105, 112, 58, 32, 102, 111, 114, 109], 3⟩
def e5 : EV := ⟨"fellowship/api.ErrKey", 5, [102, 101, 108, 108, 111, 119, 115, 104, 105, 112, 58, 32, 107, 101, 121], 4⟩
def e6 : EV := ⟨"fellowship/api.ErrSign", 6, [102, 101, 108, 108, 111, 119, 115, 104, 105, 112, 58, 32, 115, 105, 103, 110], 5⟩
def e7 : EV := ⟨"fellowship/api.ErrSeal", 7, [102, 101, 108, 108, 111, 119, 115, 104, 105, 112, 58, 32, 115, 101, 97, 108], 6⟩
def e8 : EV := ⟨"fellowship/api.ErrEpoch", 8, [102, 101, 108, 108, 111, 119, 115, 104, 105, 112, 58, 32, 101, 112, 111, 99, 104], 7⟩
def e9 : EV := ⟨"fellowship/api.ErrGroup", 9, [102, 101, 108, 108, 111, 119, 115, 104, 105, 112, 58, 32, 103, 114, 111, 117, 112], 8⟩
def e10 : EV := ⟨"fellowship/api.ErrSender", 10, [102, 101, 108, 108, 111, 119, 115, 104, 105, 112, 58, 32, 115, 101, 110, 100, 101, 114], 9⟩
def e11 : EV := ⟨"fellowship/api.ErrLeaf", 11, [102, 101, 108, 108, 111, 119, 115, 104, 105, 112, 58, 32, 108, 101, 97, 102], 10⟩
def e12 : EV := ⟨"fellowship/api.ErrOffer", 12, [102, 101, 108, 108, 111, 119, 115, 104, 105, 112, 58, 32, 111, 102, 102, 101, 114], 11⟩
def e13 : EV := ⟨"fellowship/api.ErrPath", 13, [102, 101, 108, 108, 111, 119, 115, 104, 105, 112, 58, 32, 112, 97, 116, 104], 12⟩
def e14 : EV := ⟨"fellowship/api.ErrTag", 14, [102, 101, 108, 108, 111, 119, 115, 104, 105, 112, 58, 32, 116, 97, 103], 13⟩
def e15 : EV := ⟨"fellowship/api.ErrNone", 15, [102, 101, 108, 108, 111, 119, 115, 104, 105, 112, 58, 32, 110, 111, 110, 101], 14⟩
def e16 : EV := ⟨"fellowship/api.ErrRemoved", 16, [102, 101, 108, 108, 111, 119, 115, 104, 105, 112, 58, 32, 114, 101, 109, 111, 118, 101, 100], 15⟩
def e17 : EV := ⟨"fellowship/api.ErrFull", 17, [102, 101, 108, 108, 111, 119, 115, 104, 105, 112, 58, 32, 102, 117, 108, 108], 16⟩
def e18 : EV := ⟨"fellowship/api.ErrState", 18, [102, 101, 108, 108, 111, 119, 115, 104, 105, 112, 58, 32, 115, 116, 97, 116, 101], 17⟩
def e19 : EV := ⟨"fellowship/api.ErrTwice", 19, [102, 101, 108, 108, 111, 119, 115, 104, 105, 112, 58, 32, 116, 119, 105, 99, 101], 18⟩
def errs : List EV := [e1, e2, e3, e4, e5, e6, e7, e8, e9, e10, e11, e12, e13, e14, e15, e16, e17, e18, e19]
theorem errs_ok : ∀ e ∈ errs, e.okB Tryd.prog := by
  intro e he
  simp only [errs, List.mem_cons, List.not_mem_nil, or_false] at he
  rcases he with rfl | rfl | rfl | rfl | rfl | rfl | rfl | rfl | rfl | rfl | rfl | rfl | rfl | rfl | rfl | rfl | rfl | rfl | rfl
  · exact seat.errOk _ (by kernel_rfl) (by kernel_rfl)
  · exact seat.errOk _ (by kernel_rfl) (by kernel_rfl)
  · exact seat.errOk _ (by kernel_rfl) (by kernel_rfl)
  · exact seat.errOk _ (by kernel_rfl) (by kernel_rfl)
  · exact seat.errOk _ (by kernel_rfl) (by kernel_rfl)
  · exact seat.errOk _ (by kernel_rfl) (by kernel_rfl)
  · exact seat.errOk _ (by kernel_rfl) (by kernel_rfl)
  · exact seat.errOk _ (by kernel_rfl) (by kernel_rfl)
  · exact seat.errOk _ (by kernel_rfl) (by kernel_rfl)
  · exact seat.errOk _ (by kernel_rfl) (by kernel_rfl)
  · exact seat.errOk _ (by kernel_rfl) (by kernel_rfl)
  · exact seat.errOk _ (by kernel_rfl) (by kernel_rfl)
  · exact seat.errOk _ (by kernel_rfl) (by kernel_rfl)
  · exact seat.errOk _ (by kernel_rfl) (by kernel_rfl)
  · exact seat.errOk _ (by kernel_rfl) (by kernel_rfl)
  · exact seat.errOk _ (by kernel_rfl) (by kernel_rfl)
  · exact seat.errOk _ (by kernel_rfl) (by kernel_rfl)
  · exact seat.errOk _ (by kernel_rfl) (by kernel_rfl)
  · exact seat.errOk _ (by kernel_rfl) (by kernel_rfl)
theorem laidH (W : World) : laidMetH Tryd.prog Rows.recordInfosRow.laid W = laidMet Tryd.prog [e1.entry, e2.entry, e3.entry, e4.entry, e5.entry, e6.entry, e7.entry, e8.entry, e9.entry, e10.entry, e11.entry, e12.entry, e13.entry, e14.entry, e15.entry, e16.entry, e17.entry, e18.entry, e19.entry, ("fellowship/sha.constants", Rows.laid_fellowship_sha_constants)] W := by kernel_rfl
theorem is_laid_fellowship_sha_constants : (Rows.laid_fellowship_sha_constants : DataW Unit) = .agg (([1116352408, 1899447441, 3049323471, 3921009573, 961987163, 1508970993, 2453635748, 2870763221, 3624381080, 310598401, 607225278, 1426881987, 1925078388, 2162078206, 2614888103, 3248222580, 3835390401, 4022224774, 264347078, 604807628, 770255983, 1249150122, 1555081692, 1996064986, 2554220882, 2821834349, 2952996808, 3210313671, 3336571891, 3584528711, 113926993, 338241895, 666307205, 773529912, 1294757372, 1396182291, 1695183700, 1986661051, 2177026350, 2456956037, 2730485921, 2820302411, 3259730800, 3345764771, 3516065817, 3600352804, 4094571909, 275423344, 430227734, 506948616, 659060556, 883997877, 958139571, 1322822218, 1537002063, 1747873779, 1955562222, 2024104815, 2227730452, 2361852424, 2428436474, 2756734187, 3204031479, 3329325298] : List Int).map fun x => .lit (.int .u32 x)) := by kernel_rfl

theorem true_all (avs : List AV) (h : OS.goodL ss avs) : (fn.RecordInfos.con (fn.RecordInfos.M N)) Unit avs [] yes = some () := by
  obtain ⟨u0, t0, rfl, q0, h'⟩ := OS.goodL_cons h
  obtain ⟨l0, rfl, g0⟩ := OS.good_agg q0
  obtain ⟨u1, t1, rfl, q1, g0'⟩ := OS.goodL_cons g0
  obtain ⟨l1, rfl, g1⟩ := OS.good_agg q1
  obtain ⟨u2, t2, rfl, q2, g1'⟩ := OS.goodL_cons g1
  obtain ⟨l2, rfl, k2, w2⟩ := OS.good_ints q2
  obtain ⟨u3, t3, rfl, q3, g1''⟩ := OS.goodL_cons g1'
  obtain ⟨n3, rfl, w3⟩ := OS.good_int q3
  obtain ⟨u4, t4, rfl, q4, g1'''⟩ := OS.goodL_cons g1''
  obtain ⟨l4, rfl, k4, w4⟩ := OS.good_ints q4
  obtain ⟨u5, t5, rfl, q5, g1''''⟩ := OS.goodL_cons g1'''
  obtain ⟨l5, rfl, k5, w5⟩ := OS.good_ints q5
  obtain rfl := OS.goodL_nil g1''''
  obtain ⟨u6, t6, rfl, q6, g0''⟩ := OS.goodL_cons g0'
  obtain ⟨ll6, rfl, k6, w6⟩ := OS.good_gsl q6
  obtain ⟨u7, t7, rfl, q7, g0'''⟩ := OS.goodL_cons g0''
  obtain ⟨l7, rfl, k7, w7⟩ := OS.good_ints q7
  obtain ⟨u8, t8, rfl, q8, g0''''⟩ := OS.goodL_cons g0'''
  obtain ⟨n8, rfl, w8⟩ := OS.good_int q8
  obtain ⟨u9, t9, rfl, q9, g0'''''⟩ := OS.goodL_cons g0''''
  obtain ⟨l9, rfl, k9, w9⟩ := OS.good_ints q9
  obtain rfl := OS.goodL_nil g0'''''
  obtain rfl := OS.goodL_nil h'
  refine (fn.RecordInfos.con_eq _ _ _ l2 n3 l4 l5 ll6 l7 n8 l9).trans ?_
  rw [show N = 999999999920 + 80 from rfl, fn.RecordInfos_true 999999999920 (by decide) l2 n3 l4 l5 ll6 l7 n8 l9 k2 k4 k5 k7 (fun s hs => fn.slotS_of (w6 s hs))]; rfl

set_option maxRecDepth 100000 in
theorem contract (H : Type) (enc : TypeId × Value → H) (W : World) (base : Nat) (args : Array Value) (ds gs : List (DataW H)) (before : List MemPlace)
    (hval : ∀ (j : Nat) t v, Tryd.f6.params[j]? = some t → args[j]? = some v → Value.okWide Tryd.prog W .any base t v)
    (hW : DataW.Whole enc Tryd.prog Tryd.f6.params.toList Rows.recordInfosSpec.vars false W args.toList ds gs before) (hL : laidMetH Tryd.prog Rows.recordInfosRow.laid W) :
    Calls Tryd.prog 6 args W fun e W' => ∃ v, e = .returned v ∧ Rows.recordInfosSpec.post enc Tryd.prog Tryd.f6 false true false false W args v W' := by
  rw [laidH] at hL
  replace hL := laidMet_front (a := [e1.entry, e2.entry, e3.entry, e4.entry, e5.entry, e6.entry, e7.entry, e8.entry, e9.entry, e10.entry, e11.entry, e12.entry, e13.entry, e14.entry, e15.entry, e16.entry, e17.entry, e18.entry, e19.entry]) (b := []) ("fellowship/sha.constants", Rows.laid_fellowship_sha_constants) hL
  rw [is_laid_fellowship_sha_constants] at hL
  obtain ⟨hg_laid_fellowship_sha_constants, hL⟩ := laid_ints (g := 19) (t := 190) (e := 155) (l := [1116352408, 1899447441, 3049323471, 3921009573, 961987163, 1508970993, 2453635748, 2870763221, 3624381080, 310598401, 607225278, 1426881987, 1925078388, 2162078206, 2614888103, 3248222580, 3835390401, 4022224774, 264347078, 604807628, 770255983, 1249150122, 1555081692, 1996064986, 2554220882, 2821834349, 2952996808, 3210313671, 3336571891, 3584528711, 113926993, 338241895, 666307205, 773529912, 1294757372, 1396182291, 1695183700, 1986661051, 2177026350, 2456956037, 2730485921, 2820302411, 3259730800, 3345764771, 3516065817, 3600352804, 4094571909, 275423344, 430227734, 506948616, 659060556, 883997877, 958139571, 1322822218, 1537002063, 1747873779, 1955562222, 2024104815, 2227730452, 2361852424, 2428436474, 2756734187, 3204031479, 3329325298]) (by kernel_rfl) (by kernel_rfl) (by kernel_rfl) (by kernel_rfl) (by kernel_rfl) (by kernel_rfl) hL
  replace hL : laidMet Tryd.prog (errs.map EV.entry ++ []) W := hL
  obtain ⟨eps, he0, hg, _⟩ := laid_eps (r := []) seat.errTy errs_ok (by decide) (by decide) hL
  have he := he0 (gtL fn.RecordInfos.gts) (fun g n hgn => by
    have h := gtL_errs (codes := errs.map EV.code) (by decide) g n hgn
    obtain ⟨e, h1, h2⟩ := List.mem_map.1 h
    exact .inr ⟨e, h1, h2⟩)
  have hG : ∀ p ∈ fn.RecordInfos.gts, glbAt Tryd.prog (gtL fn.RecordInfos.gts) eps W p.1 p.2 := by
    intro p hp
    simp only [fn.RecordInfos.gts, List.mem_cons, List.not_mem_nil, or_false] at hp
    rcases hp with rfl | rfl | rfl | rfl | rfl | rfl | rfl | rfl | rfl | rfl | rfl | rfl | rfl | rfl | rfl | rfl | rfl | rfl | rfl | rfl
    · exact hg _ e1 (by unfold errs; repeat (first | exact List.mem_cons_self | apply List.mem_cons_of_mem))
    · exact hg _ e2 (by unfold errs; repeat (first | exact List.mem_cons_self | apply List.mem_cons_of_mem))
    · exact hg _ e3 (by unfold errs; repeat (first | exact List.mem_cons_self | apply List.mem_cons_of_mem))
    · exact hg _ e4 (by unfold errs; repeat (first | exact List.mem_cons_self | apply List.mem_cons_of_mem))
    · exact hg _ e5 (by unfold errs; repeat (first | exact List.mem_cons_self | apply List.mem_cons_of_mem))
    · exact hg _ e6 (by unfold errs; repeat (first | exact List.mem_cons_self | apply List.mem_cons_of_mem))
    · exact hg _ e7 (by unfold errs; repeat (first | exact List.mem_cons_self | apply List.mem_cons_of_mem))
    · exact hg _ e8 (by unfold errs; repeat (first | exact List.mem_cons_self | apply List.mem_cons_of_mem))
    · exact hg _ e9 (by unfold errs; repeat (first | exact List.mem_cons_self | apply List.mem_cons_of_mem))
    · exact hg _ e10 (by unfold errs; repeat (first | exact List.mem_cons_self | apply List.mem_cons_of_mem))
    · exact hg _ e11 (by unfold errs; repeat (first | exact List.mem_cons_self | apply List.mem_cons_of_mem))
    · exact hg _ e12 (by unfold errs; repeat (first | exact List.mem_cons_self | apply List.mem_cons_of_mem))
    · exact hg _ e13 (by unfold errs; repeat (first | exact List.mem_cons_self | apply List.mem_cons_of_mem))
    · exact hg _ e14 (by unfold errs; repeat (first | exact List.mem_cons_self | apply List.mem_cons_of_mem))
    · exact hg _ e15 (by unfold errs; repeat (first | exact List.mem_cons_self | apply List.mem_cons_of_mem))
    · exact hg _ e16 (by unfold errs; repeat (first | exact List.mem_cons_self | apply List.mem_cons_of_mem))
    · exact hg _ e17 (by unfold errs; repeat (first | exact List.mem_cons_self | apply List.mem_cons_of_mem))
    · exact hg _ e18 (by unfold errs; repeat (first | exact List.mem_cons_self | apply List.mem_cons_of_mem))
    · exact hg _ e19 (by unfold errs; repeat (first | exact List.mem_cons_self | apply List.mem_cons_of_mem))
    · exact hg_laid_fellowship_sha_constants _ _
  refine law_row (P := Tryd.prog) (gt := gtL fn.RecordInfos.gts) (eps := eps) (f := 6) (fn := Tryd.f6) (spec := Rows.recordInfosSpec) (C := fn.RecordInfos.con (fn.RecordInfos.M N)) (ss := ss) (tb := 4) seat.laidOut seat.rowed seat.full rfl (by kernel_rfl) (by kernel_rfl) (by kernel_rfl) ?_ (by kernel_rfl) hval hW (fn.RecordInfos.ok N) he (glbL hG) true_all
  · intro ds hd
    have hd' : ds.length = 1 := hd
    match ds, hd' with
    | [d0], _ => rfl

/-! ### a start that fits -/
noncomputable def low : Nat := (World.holding Tryd.prog default ⟨#[], #[], []⟩).heap.size
noncomputable def laidWorld (os : Os) : World :=
  let w0 := World.holding Tryd.prog os ⟨#[.cells #[.string ⟨#[102, 101, 108, 108, 111, 119, 115, 104, 105, 112, 58, 32, 114, 97, 110, 103, 101]⟩] 220, .cells #[.string ⟨#[102, 101, 108, 108, 111, 119, 115, 104, 105, 112, 58, 32, 115, 104, 111, 114, 116]⟩] 220, .cells #[.string ⟨#[102, 101, 108, 108, 111, 119, 115, 104, 105, 112, 58, 32, 108, 111, 110, 103]⟩] 220, .cells #[.string ⟨#[102, 101, 108, 108, 111, 119, 115, 104, 105, 112, 58, 32, 102, 111, 114, 109]⟩] 220, .cells #[.string ⟨#[102, 101, 108, 108, 111, 119, 115, 104, 105, 112, 58, 32, 107, 101, 121]⟩] 220, .cells #[.string ⟨#[102, 101, 108, 108, 111, 119, 115, 104, 105, 112, 58, 32, 115, 105, 103, 110]⟩] 220, .cells #[.string ⟨#[102, 101, 108, 108, 111, 119, 115, 104, 105, 112, 58, 32, 115, 101, 97, 108]⟩] 220, .cells #[.string ⟨#[102, 101, 108, 108, 111, 119, 115, 104, 105, 112, 58, 32, 101, 112, 111, 99, 104]⟩] 220, .cells #[.string ⟨#[102, 101, 108, 108, 111, 119, 115, 104, 105, 112, 58, 32, 103, 114, 111, 117, 112]⟩] 220, .cells #[.string ⟨#[102, 101, 108, 108, 111, 119, 115, 104, 105, 112, 58, 32, 115, 101, 110, 100, 101, 114]⟩] 220, .cells #[.string ⟨#[102, 101, 108, 108, 111, 119, 115, 104, 105, 112, 58, 32, 108, 101, 97, 102]⟩] 220, .cells #[.string ⟨#[102, 101, 108, 108, 111, 119, 115, 104, 105, 112, 58, 32, 111, 102, 102, 101, 114]⟩] 220, .cells #[.string ⟨#[102, 101, 108, 108, 111, 119, 115, 104, 105, 112, 58, 32, 112, 97, 116, 104]⟩] 220, .cells #[.string ⟨#[102, 101, 108, 108, 111, 119, 115, 104, 105, 112, 58, 32, 116, 97, 103]⟩] 220, .cells #[.string ⟨#[102, 101, 108, 108, 111, 119, 115, 104, 105, 112, 58, 32, 110, 111, 110, 101]⟩] 220, .cells #[.string ⟨#[102, 101, 108, 108, 111, 119, 115, 104, 105, 112, 58, 32, 114, 101, 109, 111, 118, 101, 100]⟩] 220, .cells #[.string ⟨#[102, 101, 108, 108, 111, 119, 115, 104, 105, 112, 58, 32, 102, 117, 108, 108]⟩] 220, .cells #[.string ⟨#[102, 101, 108, 108, 111, 119, 115, 104, 105, 112, 58, 32, 115, 116, 97, 116, 101]⟩] 220, .cells #[.string ⟨#[102, 101, 108, 108, 111, 119, 115, 104, 105, 112, 58, 32, 116, 119, 105, 99, 101]⟩] 220], #[], []⟩
  { w0 with heap := w0.heap
      |>.modify 19 (fun
      | .cells _ t frozen => .cells #[.int .u32 1116352408, .int .u32 1899447441, .int .u32 3049323471, .int .u32 3921009573, .int .u32 961987163, .int .u32 1508970993, .int .u32 2453635748, .int .u32 2870763221, .int .u32 3624381080, .int .u32 310598401, .int .u32 607225278, .int .u32 1426881987, .int .u32 1925078388, .int .u32 2162078206, .int .u32 2614888103, .int .u32 3248222580, .int .u32 3835390401, .int .u32 4022224774, .int .u32 264347078, .int .u32 604807628, .int .u32 770255983, .int .u32 1249150122, .int .u32 1555081692, .int .u32 1996064986, .int .u32 2554220882, .int .u32 2821834349, .int .u32 2952996808, .int .u32 3210313671, .int .u32 3336571891, .int .u32 3584528711, .int .u32 113926993, .int .u32 338241895, .int .u32 666307205, .int .u32 773529912, .int .u32 1294757372, .int .u32 1396182291, .int .u32 1695183700, .int .u32 1986661051, .int .u32 2177026350, .int .u32 2456956037, .int .u32 2730485921, .int .u32 2820302411, .int .u32 3259730800, .int .u32 3345764771, .int .u32 3516065817, .int .u32 3600352804, .int .u32 4094571909, .int .u32 275423344, .int .u32 430227734, .int .u32 506948616, .int .u32 659060556, .int .u32 883997877, .int .u32 958139571, .int .u32 1322822218, .int .u32 1537002063, .int .u32 1747873779, .int .u32 1955562222, .int .u32 2024104815, .int .u32 2227730452, .int .u32 2361852424, .int .u32 2428436474, .int .u32 2756734187, .int .u32 3204031479, .int .u32 3329325298] t frozen
      | o => o)
      |>.modify 0 (fun
      | .cells _ t frozen => .cells #[.iface 195 (.pointer (some ⟨low + 0, 0, none⟩))] t frozen
      | o => o)
      |>.modify 1 (fun
      | .cells _ t frozen => .cells #[.iface 195 (.pointer (some ⟨low + 1, 0, none⟩))] t frozen
      | o => o)
      |>.modify 2 (fun
      | .cells _ t frozen => .cells #[.iface 195 (.pointer (some ⟨low + 2, 0, none⟩))] t frozen
      | o => o)
      |>.modify 3 (fun
      | .cells _ t frozen => .cells #[.iface 195 (.pointer (some ⟨low + 3, 0, none⟩))] t frozen
      | o => o)
      |>.modify 4 (fun
      | .cells _ t frozen => .cells #[.iface 195 (.pointer (some ⟨low + 4, 0, none⟩))] t frozen
      | o => o)
      |>.modify 5 (fun
      | .cells _ t frozen => .cells #[.iface 195 (.pointer (some ⟨low + 5, 0, none⟩))] t frozen
      | o => o)
      |>.modify 6 (fun
      | .cells _ t frozen => .cells #[.iface 195 (.pointer (some ⟨low + 6, 0, none⟩))] t frozen
      | o => o)
      |>.modify 7 (fun
      | .cells _ t frozen => .cells #[.iface 195 (.pointer (some ⟨low + 7, 0, none⟩))] t frozen
      | o => o)
      |>.modify 8 (fun
      | .cells _ t frozen => .cells #[.iface 195 (.pointer (some ⟨low + 8, 0, none⟩))] t frozen
      | o => o)
      |>.modify 9 (fun
      | .cells _ t frozen => .cells #[.iface 195 (.pointer (some ⟨low + 9, 0, none⟩))] t frozen
      | o => o)
      |>.modify 10 (fun
      | .cells _ t frozen => .cells #[.iface 195 (.pointer (some ⟨low + 10, 0, none⟩))] t frozen
      | o => o)
      |>.modify 11 (fun
      | .cells _ t frozen => .cells #[.iface 195 (.pointer (some ⟨low + 11, 0, none⟩))] t frozen
      | o => o)
      |>.modify 12 (fun
      | .cells _ t frozen => .cells #[.iface 195 (.pointer (some ⟨low + 12, 0, none⟩))] t frozen
      | o => o)
      |>.modify 13 (fun
      | .cells _ t frozen => .cells #[.iface 195 (.pointer (some ⟨low + 13, 0, none⟩))] t frozen
      | o => o)
      |>.modify 14 (fun
      | .cells _ t frozen => .cells #[.iface 195 (.pointer (some ⟨low + 14, 0, none⟩))] t frozen
      | o => o)
      |>.modify 15 (fun
      | .cells _ t frozen => .cells #[.iface 195 (.pointer (some ⟨low + 15, 0, none⟩))] t frozen
      | o => o)
      |>.modify 16 (fun
      | .cells _ t frozen => .cells #[.iface 195 (.pointer (some ⟨low + 16, 0, none⟩))] t frozen
      | o => o)
      |>.modify 17 (fun
      | .cells _ t frozen => .cells #[.iface 195 (.pointer (some ⟨low + 17, 0, none⟩))] t frozen
      | o => o)
      |>.modify 18 (fun
      | .cells _ t frozen => .cells #[.iface 195 (.pointer (some ⟨low + 18, 0, none⟩))] t frozen
      | o => o) }
abbrev wargs : Array Value := #[.agg (List.replicate 32 (Value.int .u8 0) ++ [Value.int .i64 0] ++ List.replicate 64 (Value.int .u8 0) ++ [Value.slice none 0 0] ++ List.replicate 32 (Value.int .u8 0) ++ [Value.int .i64 0] ++ List.replicate 64 (Value.int .u8 0)).toArray]
theorem laid_met (os : Os) : laidMet Tryd.prog Rows.recordInfosRow.laid ((laidWorld os).forCall (fun _ _ => 0) ⟨#[], wargs, []⟩).memory :=
  laidMet_of_run' 8 (by kernel_rfl) (by kernel_rfl)
theorem reads (os : Os) {H : Type} (enc : TypeId × Value → H) : ∃ places, DataW.whole enc Tryd.prog ((laidWorld os).forCall (fun _ _ => 0) ⟨#[], wargs, []⟩).memory Tryd.f6.params.toList Rows.recordInfosSpec.vars false wargs.toList 8 =
    some ([.agg [.agg [.agg (List.replicate 32 (DataW.lit (.int .u8 0))), .lit (.int .i64 0), .agg (List.replicate 32 (DataW.lit (.int .u8 0))), .agg (List.replicate 32 (DataW.lit (.int .u8 0)))], .nil, .agg (List.replicate 32 (DataW.lit (.int .u8 0))), .lit (.int .i64 0), .agg (List.replicate 64 (DataW.lit (.int .u8 0)))]], [], places) :=
  ⟨[], by kernel_rfl⟩

set_option maxRecDepth 100000 in
theorem lifted (os : Os) (started : os.Started) (H : Type) (enc : TypeId × Value → H) (F : Stop.Interp) :
    ReturnsInHanded {} Tryd.checked os 6 .any ((OpenSpec.ofChange Rows.recordInfosSpec).preRow enc Tryd.prog Tryd.f6 Rows.recordInfosRow.domain false Rows.recordInfosRow.laid) (((OpenSpec.ofChange Rows.recordInfosSpec).at F).post enc Tryd.prog Tryd.f6 false true false false) := by
  obtain ⟨places, hx⟩ := reads os enc
  refine returnsInHanded_of_row (C := Tryd.checked) (s := OpenSpec.ofChange Rows.recordInfosSpec) seat.own started (by kernel_rfl) Tryd.func6
    (witness_row_at (enc := enc) (C := Tryd.checked) false (laidWorld os) wargs rfl (by kernel_rfl) (by kernel_rfl) (by kernel_rfl)
      (OpenSpec.preRow_of_cond 8 hx (by kernel_rfl) (fun k hk => by cases hk) (by kernel_rfl) (laid_met os))) ?_
  intro W base args ds gs before hval hW _ _ _ hL _ _
  exact contract H enc W base args ds gs before hval hW hL

theorem said : Rows.RecordInfosSaid :=
  OpenClaim.holds_of_cond 6 Tryd.f6 rfl rfl rfl rfl rfl rfl rfl ⟨rfl, rfl, rfl, rfl, rfl⟩ rfl rfl rfl rfl rfl (by kernel_rfl) Tryd.func6 (by kernel_rfl)
    (of_decide_eq_true (by kernel_rfl)) (by unfold Func.isWrapper; rw [if_neg (of_decide_eq_false (by kernel_rfl))]; exact ⟨rfl, rfl⟩)
    (fun os started H enc _ F => by rw [OpenClaim.pre_eq_preRow]; exact lifted os started H enc F)

theorem plain (f : FuncId) (fn : Func) (hf : Tryd.pinned.checked.prog.funcNamed "fellowship/fellowshiplaw23.RecordInfos" = some f) (hfn : Tryd.pinned.checked.prog.funcs[f]? = some fn) :
    true = Tryd.pinned.checked.prog.looks [] ∧ ∀ (j : Nat) t, fn.params[j]? = some t → Tryd.pinned.checked.prog.wantsStandIn t = false := by
  obtain rfl : f = 6 := Option.some.inj ((show Tryd.prog.funcNamed "fellowship/fellowshiplaw23.RecordInfos" = some 6 by kernel_rfl).symm.trans hf) |>.symm
  obtain rfl : fn = Tryd.f6 := (Option.some.inj (Tryd.func6.symm.trans hfn)).symm
  refine ⟨by kernel_rfl, fun j t ht => ?_⟩
  rw [Tryd.params6] at ht
  have h : t = 68 := by simpa using Array.mem_of_getElem? ht
  subst h
  · exact (show Tryd.prog.wantsStandIn 68 = false by kernel_rfl)

/-- ████ THE CARD ████ -/
theorem card : Rows.RecordInfosCardSaid :=
  Claim7.holds_tied_plain_at .later [] _ _ _ _ said (fun _ h => by cases h) (by kernel_rfl) (fun _ h => by cases h) recordInfos_row_tie rfl ⟨rfl, rfl⟩ (by kernel_rfl) rfl plain (by kernel_rfl)

end Go.Proofs.YthajoenmfppenaaDoor.recordInfos
