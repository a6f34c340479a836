/-
  NARROWER THAN 'FOR EVERY INPUT', by the rows' own cells (each row's printed sentence says how): ScheduleEpochs: laid · ScheduleChain: laid · ScheduleSame: laid · ScheduleGives: laid.
  DERIVED. THE GIVEN ROWS OF THIS SEAT. 4 by the template 'for every input the law returns true; each argument reads behind the call as it read before'; 0 by the template 'total and deterministic' (their statements: YtjaekdcbjfgcpaaDoorTotals.lean).
  GIVEN WITH THE SEED: the statements are not yours to turn. If you find one false, say at which input.
  Laid BY PROGRAM, IN A SANDBOX (cutbox-rows.mjs): the forced cells as the released guide's own fill.sh prints them over the translation 69965ee18b508216… (all of the seat's roots in one cut). By AI agents, Wed Nov 11 2026. No macro, syntax, notation, axiom, sorry.
-/
import Derived.Test.YtjaekdcbjfgcpaaDoorChecked
import GoSem.Claim
import GoSem.ClaimJoined
import GoSem.ClaimMapViews
import Derived.JoinedTies
import Derived.KernelRfl
namespace Go.Proofs.YtjaekdcbjfgcpaaDoor
/- THE CELL 'sum', in the pinned program and in every row, IS THE sha256 OF THE DUMP (.gsa) THAT YtjaekdcbjfgcpaaDoorProg.lean LOADS. Nothing in Lean hashes anything: it is a label: what it is worth is what the hold of that sum in a sandbox is worth. -/
noncomputable def Tryd.pinned : Pinned := { name := "ytjaekdcbjfgcpaadoor", sum := "69965ee18b508216384eaa0665b7cab1754cd10c07c3e94323d0e7b542851b30", checked := Tryd.checked }
namespace Rows
def none {H : Type} : Left H := { results := [], args := [] }

/- WHAT THE LISTED PACKAGE-LEVEL VARIABLES READ AS WHEN THE CALL BEGINS. Each datum BY PROGRAM (the guide's laid-datum.mjs) off the statement by which the dump's own 'gosem.cut.vars' lays the variable. In a bare row this is a premise. The card (YtjaekdcbjfgcpaaDoorCards.lean) ties it to the program's text. -/
def laid_fellowship_api_ErrRange {H : Type} : DataW H := .iface "*errors.errorString" (.ptr (.agg [.lit (.string [102, 101, 108, 108, 111, 119, 115, 104, 105, 112, 58, 32, 114, 97, 110, 103, 101])]))
def laid_fellowship_api_ErrLong {H : Type} : DataW H := .iface "*errors.errorString" (.ptr (.agg [.lit (.string [102, 101, 108, 108, 111, 119, 115, 104, 105, 112, 58, 32, 108, 111, 110, 103])]))
def laid_fellowship_sha_constants {H : Type} : DataW H := .agg [.lit (.int .u32 1116352408), .lit (.int .u32 1899447441), .lit (.int .u32 3049323471), .lit (.int .u32 3921009573), .lit (.int .u32 961987163), .lit (.int .u32 1508970993), .lit (.int .u32 2453635748), .lit (.int .u32 2870763221), .lit (.int .u32 3624381080), .lit (.int .u32 310598401), .lit (.int .u32 607225278), .lit (.int .u32 1426881987), .lit (.int .u32 1925078388), .lit (.int .u32 2162078206), .lit (.int .u32 2614888103), .lit (.int .u32 3248222580), .lit (.int .u32 3835390401), .lit (.int .u32 4022224774), .lit (.int .u32 264347078), .lit (.int .u32 604807628), .lit (.int .u32 770255983), .lit (.int .u32 1249150122), .lit (.int .u32 1555081692), .lit (.int .u32 1996064986), .lit (.int .u32 2554220882), .lit (.int .u32 2821834349), .lit (.int .u32 2952996808), .lit (.int .u32 3210313671), .lit (.int .u32 3336571891), .lit (.int .u32 3584528711), .lit (.int .u32 113926993), .lit (.int .u32 338241895), .lit (.int .u32 666307205), .lit (.int .u32 773529912), .lit (.int .u32 1294757372), .lit (.int .u32 1396182291), .lit (.int .u32 1695183700), .lit (.int .u32 1986661051), .lit (.int .u32 2177026350), .lit (.int .u32 2456956037), .lit (.int .u32 2730485921), .lit (.int .u32 2820302411), .lit (.int .u32 3259730800), .lit (.int .u32 3345764771), .lit (.int .u32 3516065817), .lit (.int .u32 3600352804), .lit (.int .u32 4094571909), .lit (.int .u32 275423344), .lit (.int .u32 430227734), .lit (.int .u32 506948616), .lit (.int .u32 659060556), .lit (.int .u32 883997877), .lit (.int .u32 958139571), .lit (.int .u32 1322822218), .lit (.int .u32 1537002063), .lit (.int .u32 1747873779), .lit (.int .u32 1955562222), .lit (.int .u32 2024104815), .lit (.int .u32 2227730452), .lit (.int .u32 2361852424), .lit (.int .u32 2428436474), .lit (.int .u32 2756734187), .lit (.int .u32 3204031479), .lit (.int .u32 3329325298)]
def laid_fellowship_api_ErrShort {H : Type} : DataW H := .iface "*errors.errorString" (.ptr (.agg [.lit (.string [102, 101, 108, 108, 111, 119, 115, 104, 105, 112, 58, 32, 115, 104, 111, 114, 116])]))
def laid_fellowship_api_ErrForm {H : Type} : DataW H := .iface "*errors.errorString" (.ptr (.agg [.lit (.string [102, 101, 108, 108, 111, 119, 115, 104, 105, 112, 58, 32, 102, 111, 114, 109])]))
def laid_fellowship_api_ErrKey {H : Type} : DataW H := .iface "*errors.errorString" (.ptr (.agg [.lit (.string [102, 101, 108, 108, 111, 119, 115, 104, 105, 112, 58, 32, 107, 101, 121])]))
def laid_fellowship_api_ErrSign {H : Type} : DataW H := .iface "*errors.errorString" (.ptr (.agg [.lit (.string [102, 101, 108, 108, 111, 119, 115, 104, 105, 112, 58, 32, 115, 105, 103, 110])]))
def laid_fellowship_api_ErrSeal {H : Type} : DataW H := .iface "*errors.errorString" (.ptr (.agg [.lit (.string [102, 101, 108, 108, 111, 119, 115, 104, 105, 112, 58, 32, 115, 101, 97, 108])]))
def laid_fellowship_api_ErrEpoch {H : Type} : DataW H := .iface "*errors.errorString" (.ptr (.agg [.lit (.string [102, 101, 108, 108, 111, 119, 115, 104, 105, 112, 58, 32, 101, 112, 111, 99, 104])]))
def laid_fellowship_api_ErrGroup {H : Type} : DataW H := .iface "*errors.errorString" (.ptr (.agg [.lit (.string [102, 101, 108, 108, 111, 119, 115, 104, 105, 112, 58, 32, 103, 114, 111, 117, 112])]))
def laid_fellowship_api_ErrSender {H : Type} : DataW H := .iface "*errors.errorString" (.ptr (.agg [.lit (.string [102, 101, 108, 108, 111, 119, 115, 104, 105, 112, 58, 32, 115, 101, 110, 100, 101, 114])]))
def laid_fellowship_api_ErrLeaf {H : Type} : DataW H := .iface "*errors.errorString" (.ptr (.agg [.lit (.string [102, 101, 108, 108, 111, 119, 115, 104, 105, 112, 58, 32, 108, 101, 97, 102])]))
def laid_fellowship_api_ErrOffer {H : Type} : DataW H := .iface "*errors.errorString" (.ptr (.agg [.lit (.string [102, 101, 108, 108, 111, 119, 115, 104, 105, 112, 58, 32, 111, 102, 102, 101, 114])]))
def laid_fellowship_api_ErrPath {H : Type} : DataW H := .iface "*errors.errorString" (.ptr (.agg [.lit (.string [102, 101, 108, 108, 111, 119, 115, 104, 105, 112, 58, 32, 112, 97, 116, 104])]))
def laid_fellowship_api_ErrTag {H : Type} : DataW H := .iface "*errors.errorString" (.ptr (.agg [.lit (.string [102, 101, 108, 108, 111, 119, 115, 104, 105, 112, 58, 32, 116, 97, 103])]))
def laid_fellowship_api_ErrNone {H : Type} : DataW H := .iface "*errors.errorString" (.ptr (.agg [.lit (.string [102, 101, 108, 108, 111, 119, 115, 104, 105, 112, 58, 32, 110, 111, 110, 101])]))
def laid_fellowship_api_ErrRemoved {H : Type} : DataW H := .iface "*errors.errorString" (.ptr (.agg [.lit (.string [102, 101, 108, 108, 111, 119, 115, 104, 105, 112, 58, 32, 114, 101, 109, 111, 118, 101, 100])]))
def laid_fellowship_api_ErrFull {H : Type} : DataW H := .iface "*errors.errorString" (.ptr (.agg [.lit (.string [102, 101, 108, 108, 111, 119, 115, 104, 105, 112, 58, 32, 102, 117, 108, 108])]))
def laid_fellowship_api_ErrState {H : Type} : DataW H := .iface "*errors.errorString" (.ptr (.agg [.lit (.string [102, 101, 108, 108, 111, 119, 115, 104, 105, 112, 58, 32, 115, 116, 97, 116, 101])]))
def laid_fellowship_api_ErrTwice {H : Type} : DataW H := .iface "*errors.errorString" (.ptr (.agg [.lit (.string [102, 101, 108, 108, 111, 119, 115, 104, 105, 112, 58, 32, 116, 119, 105, 99, 101])]))

/-- 'fellowshiplaw22.ScheduleEpochs': WHATEVER THE INPUT: true; the input reads as it did. -/
def scheduleEpochsSpec : ChangeSpec := { name := "scheduleEpochs", fn := fun _ => fun
  | [d1, d2, d3] => { results := [.lit (.bool true)], args := [d1, d2, d3] }
  | _ => none }
def scheduleEpochsRow : OpenClaim := { program := "ytjaekdcbjfgcpaadoor", sum := "69965ee18b508216384eaa0665b7cab1754cd10c07c3e94323d0e7b542851b30", func := "fellowship/fellowshiplaw22.ScheduleEpochs", spec := "scheduleEpochs", named := ["fellowship/api.ErrRange", "fellowship/api.ErrLong", "fellowship/sha.constants"], apart := false, laid := [("fellowship/api.ErrRange", laid_fellowship_api_ErrRange), ("fellowship/api.ErrLong", laid_fellowship_api_ErrLong), ("fellowship/sha.constants", laid_fellowship_sha_constants)] }
def ScheduleEpochsSaid : Prop := scheduleEpochsRow.holds Tryd.pinned (OpenSpec.ofChange scheduleEpochsSpec)

/-- ITS FALSE NEIGHBOUR: 'it returns false'. Refute it at one input. -/
def scheduleEpochsWrong : ChangeSpec := { name := "scheduleEpochs", fn := fun _ => fun
  | [d1, d2, d3] => { results := [.lit (.bool false)], args := [d1, d2, d3] }
  | _ => none }
def ScheduleEpochsWrongFalsely : Prop := scheduleEpochsRow.holds Tryd.pinned (OpenSpec.ofChange scheduleEpochsWrong)

/-- 'fellowshiplaw22.ScheduleChain': WHATEVER THE INPUT: true; the input reads as it did. -/
def scheduleChainSpec : ChangeSpec := { name := "scheduleChain", fn := fun _ => fun
  | [d1, d2, d3] => { results := [.lit (.bool true)], args := [d1, d2, d3] }
  | _ => none }
def scheduleChainRow : OpenClaim := { program := "ytjaekdcbjfgcpaadoor", sum := "69965ee18b508216384eaa0665b7cab1754cd10c07c3e94323d0e7b542851b30", func := "fellowship/fellowshiplaw22.ScheduleChain", spec := "scheduleChain", named := ["fellowship/api.ErrRange", "fellowship/api.ErrLong", "fellowship/sha.constants"], apart := false, laid := [("fellowship/api.ErrRange", laid_fellowship_api_ErrRange), ("fellowship/api.ErrLong", laid_fellowship_api_ErrLong), ("fellowship/sha.constants", laid_fellowship_sha_constants)] }
def ScheduleChainSaid : Prop := scheduleChainRow.holds Tryd.pinned (OpenSpec.ofChange scheduleChainSpec)

/-- ITS FALSE NEIGHBOUR: 'it returns false'. Refute it at one input. -/
def scheduleChainWrong : ChangeSpec := { name := "scheduleChain", fn := fun _ => fun
  | [d1, d2, d3] => { results := [.lit (.bool false)], args := [d1, d2, d3] }
  | _ => none }
def ScheduleChainWrongFalsely : Prop := scheduleChainRow.holds Tryd.pinned (OpenSpec.ofChange scheduleChainWrong)

/-- 'fellowshiplaw22.ScheduleSame': WHATEVER THE INPUT: true; the input reads as it did. -/
def scheduleSameSpec : ChangeSpec := { name := "scheduleSame", fn := fun _ => fun
  | [d1, d2, d3] => { results := [.lit (.bool true)], args := [d1, d2, d3] }
  | _ => none }
def scheduleSameRow : OpenClaim := { program := "ytjaekdcbjfgcpaadoor", sum := "69965ee18b508216384eaa0665b7cab1754cd10c07c3e94323d0e7b542851b30", func := "fellowship/fellowshiplaw22.ScheduleSame", spec := "scheduleSame", inPlace := ["internal/reflectlite.TypeOf"], unfollowed := true, recurses := true, named := ["fellowship/api.ErrRange", "fellowship/api.ErrLong", "fellowship/sha.constants", "fellowship/api.ErrShort", "fellowship/api.ErrForm", "fellowship/api.ErrKey", "fellowship/api.ErrSign", "fellowship/api.ErrSeal", "fellowship/api.ErrEpoch", "fellowship/api.ErrGroup", "fellowship/api.ErrSender", "fellowship/api.ErrLeaf", "fellowship/api.ErrOffer", "fellowship/api.ErrPath", "fellowship/api.ErrTag", "fellowship/api.ErrNone", "fellowship/api.ErrRemoved", "fellowship/api.ErrFull", "fellowship/api.ErrState", "fellowship/api.ErrTwice"], apart := false, laid := [("fellowship/api.ErrRange", laid_fellowship_api_ErrRange), ("fellowship/api.ErrShort", laid_fellowship_api_ErrShort), ("fellowship/api.ErrLong", laid_fellowship_api_ErrLong), ("fellowship/api.ErrForm", laid_fellowship_api_ErrForm), ("fellowship/api.ErrKey", laid_fellowship_api_ErrKey), ("fellowship/api.ErrSign", laid_fellowship_api_ErrSign), ("fellowship/api.ErrSeal", laid_fellowship_api_ErrSeal), ("fellowship/api.ErrEpoch", laid_fellowship_api_ErrEpoch), ("fellowship/api.ErrGroup", laid_fellowship_api_ErrGroup), ("fellowship/api.ErrSender", laid_fellowship_api_ErrSender), ("fellowship/api.ErrLeaf", laid_fellowship_api_ErrLeaf), ("fellowship/api.ErrOffer", laid_fellowship_api_ErrOffer), ("fellowship/api.ErrPath", laid_fellowship_api_ErrPath), ("fellowship/api.ErrTag", laid_fellowship_api_ErrTag), ("fellowship/api.ErrNone", laid_fellowship_api_ErrNone), ("fellowship/api.ErrRemoved", laid_fellowship_api_ErrRemoved), ("fellowship/api.ErrFull", laid_fellowship_api_ErrFull), ("fellowship/api.ErrState", laid_fellowship_api_ErrState), ("fellowship/api.ErrTwice", laid_fellowship_api_ErrTwice), ("fellowship/sha.constants", laid_fellowship_sha_constants)] }
def ScheduleSameSaid : Prop := scheduleSameRow.holds Tryd.pinned (OpenSpec.ofChange scheduleSameSpec)

/-- ITS FALSE NEIGHBOUR: 'it returns false'. Refute it at one input. -/
def scheduleSameWrong : ChangeSpec := { name := "scheduleSame", fn := fun _ => fun
  | [d1, d2, d3] => { results := [.lit (.bool false)], args := [d1, d2, d3] }
  | _ => none }
def ScheduleSameWrongFalsely : Prop := scheduleSameRow.holds Tryd.pinned (OpenSpec.ofChange scheduleSameWrong)

/-- 'fellowshiplaw22.ScheduleGives': WHATEVER THE INPUT: true; the input reads as it did. -/
def scheduleGivesSpec : ChangeSpec := { name := "scheduleGives", fn := fun _ => fun
  | [d1, d2, d3] => { results := [.lit (.bool true)], args := [d1, d2, d3] }
  | _ => none }
def scheduleGivesRow : OpenClaim := { program := "ytjaekdcbjfgcpaadoor", sum := "69965ee18b508216384eaa0665b7cab1754cd10c07c3e94323d0e7b542851b30", func := "fellowship/fellowshiplaw22.ScheduleGives", spec := "scheduleGives", inPlace := ["internal/reflectlite.TypeOf"], unfollowed := true, recurses := true, named := ["fellowship/api.ErrRange", "fellowship/api.ErrLong", "fellowship/sha.constants", "fellowship/api.ErrShort", "fellowship/api.ErrForm", "fellowship/api.ErrKey", "fellowship/api.ErrSign", "fellowship/api.ErrSeal", "fellowship/api.ErrEpoch", "fellowship/api.ErrGroup", "fellowship/api.ErrSender", "fellowship/api.ErrLeaf", "fellowship/api.ErrOffer", "fellowship/api.ErrPath", "fellowship/api.ErrTag", "fellowship/api.ErrNone", "fellowship/api.ErrRemoved", "fellowship/api.ErrFull", "fellowship/api.ErrState", "fellowship/api.ErrTwice"], apart := false, laid := [("fellowship/api.ErrRange", laid_fellowship_api_ErrRange), ("fellowship/api.ErrShort", laid_fellowship_api_ErrShort), ("fellowship/api.ErrLong", laid_fellowship_api_ErrLong), ("fellowship/api.ErrForm", laid_fellowship_api_ErrForm), ("fellowship/api.ErrKey", laid_fellowship_api_ErrKey), ("fellowship/api.ErrSign", laid_fellowship_api_ErrSign), ("fellowship/api.ErrSeal", laid_fellowship_api_ErrSeal), ("fellowship/api.ErrEpoch", laid_fellowship_api_ErrEpoch), ("fellowship/api.ErrGroup", laid_fellowship_api_ErrGroup), ("fellowship/api.ErrSender", laid_fellowship_api_ErrSender), ("fellowship/api.ErrLeaf", laid_fellowship_api_ErrLeaf), ("fellowship/api.ErrOffer", laid_fellowship_api_ErrOffer), ("fellowship/api.ErrPath", laid_fellowship_api_ErrPath), ("fellowship/api.ErrTag", laid_fellowship_api_ErrTag), ("fellowship/api.ErrNone", laid_fellowship_api_ErrNone), ("fellowship/api.ErrRemoved", laid_fellowship_api_ErrRemoved), ("fellowship/api.ErrFull", laid_fellowship_api_ErrFull), ("fellowship/api.ErrState", laid_fellowship_api_ErrState), ("fellowship/api.ErrTwice", laid_fellowship_api_ErrTwice), ("fellowship/sha.constants", laid_fellowship_sha_constants)] }
def ScheduleGivesSaid : Prop := scheduleGivesRow.holds Tryd.pinned (OpenSpec.ofChange scheduleGivesSpec)

/-- ITS FALSE NEIGHBOUR: 'it returns false'. Refute it at one input. -/
def scheduleGivesWrong : ChangeSpec := { name := "scheduleGives", fn := fun _ => fun
  | [d1, d2, d3] => { results := [.lit (.bool false)], args := [d1, d2, d3] }
  | _ => none }
def ScheduleGivesWrongFalsely : Prop := scheduleGivesRow.holds Tryd.pinned (OpenSpec.ofChange scheduleGivesWrong)

/- THE SECOND FORM. 'bulk': how many values and letters a reading holds, each counted each time it is reached (what is shared counts as often as it is met; a slice's spare places count too). A statement '..UptoSaid' is the law's where the arguments, and the package variables that the reading takes, are together of bulk at most 1048576: NARROWER than '..Said'. Prove '..Said' where nothing that the law and all that it calls make is longer than what came in: it says more and counts as full. Else prove '..UptoSaid'. A law counts once. -/
mutual
def uptoBulk {H : Type} : DataW H → Nat
  | .lit (.string bytes) => bytes.length + 1
  | .lit _ => 1
  | .nil => 1
  | .ptr d => uptoBulk d + 1
  | .slice elems spare => uptoBulkAll elems + uptoBulkAll spare + 1
  | .agg parts => uptoBulkAll parts + 1
  | .iface _ d => uptoBulk d + 1
  | .map entries => uptoBulkEntries entries + 1
  | .held _ => 1
def uptoBulkAll {H : Type} : List (DataW H) → Nat
  | [] => 0
  | d :: r => uptoBulk d + uptoBulkAll r
def uptoBulkEntries {H : Type} : List (Lit × DataW H) → Nat
  | [] => 0
  | x :: r => uptoBulkEntry x + uptoBulkEntries r
def uptoBulkEntry {H : Type} : Lit × DataW H → Nat
  | (.string bytes, d) => bytes.length + uptoBulk d + 1
  | (_, d) => uptoBulk d + 1
 end
def uptoSmall : (H : Type) → List (DataW H) → Bool := fun _ ds => decide (uptoBulkAll ds ≤ 1048576)
def OpenSpec.upto (s : _root_.Go.ChangeSpec) : _root_.Go.OpenSpec := { _root_.Go.OpenSpec.ofChange s with cond := some uptoSmall }

/-- 'fellowshiplaw22.ScheduleEpochs', WHERE WHAT IT READS IS OF BULK AT MOST 1048576: true; the input reads as it did. -/
def scheduleEpochsUptoRow : OpenClaim := { program := "ytjaekdcbjfgcpaadoor", sum := "69965ee18b508216384eaa0665b7cab1754cd10c07c3e94323d0e7b542851b30", func := "fellowship/fellowshiplaw22.ScheduleEpochs", spec := "scheduleEpochs", named := ["fellowship/api.ErrRange", "fellowship/api.ErrLong", "fellowship/sha.constants"], apart := false, laid := [("fellowship/api.ErrRange", laid_fellowship_api_ErrRange), ("fellowship/api.ErrLong", laid_fellowship_api_ErrLong), ("fellowship/sha.constants", laid_fellowship_sha_constants)], narrowed := true }
def ScheduleEpochsUptoSaid : Prop := scheduleEpochsUptoRow.holds Tryd.pinned (OpenSpec.upto scheduleEpochsSpec)

/-- 'fellowshiplaw22.ScheduleChain', WHERE WHAT IT READS IS OF BULK AT MOST 1048576: true; the input reads as it did. -/
def scheduleChainUptoRow : OpenClaim := { program := "ytjaekdcbjfgcpaadoor", sum := "69965ee18b508216384eaa0665b7cab1754cd10c07c3e94323d0e7b542851b30", func := "fellowship/fellowshiplaw22.ScheduleChain", spec := "scheduleChain", named := ["fellowship/api.ErrRange", "fellowship/api.ErrLong", "fellowship/sha.constants"], apart := false, laid := [("fellowship/api.ErrRange", laid_fellowship_api_ErrRange), ("fellowship/api.ErrLong", laid_fellowship_api_ErrLong), ("fellowship/sha.constants", laid_fellowship_sha_constants)], narrowed := true }
def ScheduleChainUptoSaid : Prop := scheduleChainUptoRow.holds Tryd.pinned (OpenSpec.upto scheduleChainSpec)

/-- 'fellowshiplaw22.ScheduleSame', WHERE WHAT IT READS IS OF BULK AT MOST 1048576: true; the input reads as it did. -/
def scheduleSameUptoRow : OpenClaim := { program := "ytjaekdcbjfgcpaadoor", sum := "69965ee18b508216384eaa0665b7cab1754cd10c07c3e94323d0e7b542851b30", func := "fellowship/fellowshiplaw22.ScheduleSame", spec := "scheduleSame", inPlace := ["internal/reflectlite.TypeOf"], unfollowed := true, recurses := true, named := ["fellowship/api.ErrRange", "fellowship/api.ErrLong", "fellowship/sha.constants", "fellowship/api.ErrShort", "fellowship/api.ErrForm", "fellowship/api.ErrKey", "fellowship/api.ErrSign", "fellowship/api.ErrSeal", "fellowship/api.ErrEpoch", "fellowship/api.ErrGroup", "fellowship/api.ErrSender", "fellowship/api.ErrLeaf", "fellowship/api.ErrOffer", "fellowship/api.ErrPath", "fellowship/api.ErrTag", "fellowship/api.ErrNone", "fellowship/api.ErrRemoved", "fellowship/api.ErrFull", "fellowship/api.ErrState", "fellowship/api.ErrTwice"], apart := false, laid := [("fellowship/api.ErrRange", laid_fellowship_api_ErrRange), ("fellowship/api.ErrShort", laid_fellowship_api_ErrShort), ("fellowship/api.ErrLong", laid_fellowship_api_ErrLong), ("fellowship/api.ErrForm", laid_fellowship_api_ErrForm), ("fellowship/api.ErrKey", laid_fellowship_api_ErrKey), ("fellowship/api.ErrSign", laid_fellowship_api_ErrSign), ("fellowship/api.ErrSeal", laid_fellowship_api_ErrSeal), ("fellowship/api.ErrEpoch", laid_fellowship_api_ErrEpoch), ("fellowship/api.ErrGroup", laid_fellowship_api_ErrGroup), ("fellowship/api.ErrSender", laid_fellowship_api_ErrSender), ("fellowship/api.ErrLeaf", laid_fellowship_api_ErrLeaf), ("fellowship/api.ErrOffer", laid_fellowship_api_ErrOffer), ("fellowship/api.ErrPath", laid_fellowship_api_ErrPath), ("fellowship/api.ErrTag", laid_fellowship_api_ErrTag), ("fellowship/api.ErrNone", laid_fellowship_api_ErrNone), ("fellowship/api.ErrRemoved", laid_fellowship_api_ErrRemoved), ("fellowship/api.ErrFull", laid_fellowship_api_ErrFull), ("fellowship/api.ErrState", laid_fellowship_api_ErrState), ("fellowship/api.ErrTwice", laid_fellowship_api_ErrTwice), ("fellowship/sha.constants", laid_fellowship_sha_constants)], narrowed := true }
def ScheduleSameUptoSaid : Prop := scheduleSameUptoRow.holds Tryd.pinned (OpenSpec.upto scheduleSameSpec)

/-- 'fellowshiplaw22.ScheduleGives', WHERE WHAT IT READS IS OF BULK AT MOST 1048576: true; the input reads as it did. -/
def scheduleGivesUptoRow : OpenClaim := { program := "ytjaekdcbjfgcpaadoor", sum := "69965ee18b508216384eaa0665b7cab1754cd10c07c3e94323d0e7b542851b30", func := "fellowship/fellowshiplaw22.ScheduleGives", spec := "scheduleGives", inPlace := ["internal/reflectlite.TypeOf"], unfollowed := true, recurses := true, named := ["fellowship/api.ErrRange", "fellowship/api.ErrLong", "fellowship/sha.constants", "fellowship/api.ErrShort", "fellowship/api.ErrForm", "fellowship/api.ErrKey", "fellowship/api.ErrSign", "fellowship/api.ErrSeal", "fellowship/api.ErrEpoch", "fellowship/api.ErrGroup", "fellowship/api.ErrSender", "fellowship/api.ErrLeaf", "fellowship/api.ErrOffer", "fellowship/api.ErrPath", "fellowship/api.ErrTag", "fellowship/api.ErrNone", "fellowship/api.ErrRemoved", "fellowship/api.ErrFull", "fellowship/api.ErrState", "fellowship/api.ErrTwice"], apart := false, laid := [("fellowship/api.ErrRange", laid_fellowship_api_ErrRange), ("fellowship/api.ErrShort", laid_fellowship_api_ErrShort), ("fellowship/api.ErrLong", laid_fellowship_api_ErrLong), ("fellowship/api.ErrForm", laid_fellowship_api_ErrForm), ("fellowship/api.ErrKey", laid_fellowship_api_ErrKey), ("fellowship/api.ErrSign", laid_fellowship_api_ErrSign), ("fellowship/api.ErrSeal", laid_fellowship_api_ErrSeal), ("fellowship/api.ErrEpoch", laid_fellowship_api_ErrEpoch), ("fellowship/api.ErrGroup", laid_fellowship_api_ErrGroup), ("fellowship/api.ErrSender", laid_fellowship_api_ErrSender), ("fellowship/api.ErrLeaf", laid_fellowship_api_ErrLeaf), ("fellowship/api.ErrOffer", laid_fellowship_api_ErrOffer), ("fellowship/api.ErrPath", laid_fellowship_api_ErrPath), ("fellowship/api.ErrTag", laid_fellowship_api_ErrTag), ("fellowship/api.ErrNone", laid_fellowship_api_ErrNone), ("fellowship/api.ErrRemoved", laid_fellowship_api_ErrRemoved), ("fellowship/api.ErrFull", laid_fellowship_api_ErrFull), ("fellowship/api.ErrState", laid_fellowship_api_ErrState), ("fellowship/api.ErrTwice", laid_fellowship_api_ErrTwice), ("fellowship/sha.constants", laid_fellowship_sha_constants)], narrowed := true }
def ScheduleGivesUptoSaid : Prop := scheduleGivesUptoRow.holds Tryd.pinned (OpenSpec.upto scheduleGivesSpec)

end Rows
end Go.Proofs.YtjaekdcbjfgcpaaDoor
