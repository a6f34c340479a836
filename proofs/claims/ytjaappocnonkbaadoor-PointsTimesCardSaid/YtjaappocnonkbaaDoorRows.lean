/-
  NARROWER THAN 'FOR EVERY INPUT', by the rows' own cells (each row's printed sentence says how): PointsReads: laid · PointsTimes: laid · PointsChains: laid · PointsSums: laid · PointsWith: laid.
  DERIVED. THE GIVEN ROWS OF THIS SEAT. 5 by the template 'for every input the law returns true; each argument reads behind the call as it read before'; 0 by the template 'total and deterministic' (their statements: YtjaappocnonkbaaDoorTotals.lean).
  GIVEN WITH THE SEED: the statements are not yours to turn. If you find one false, say at which input.
  Laid BY PROGRAM, IN A SANDBOX (cutbox-rows.mjs): the forced cells as the released guide's own fill.sh prints them over the translation ebe9914be6eb5be5… (all of the seat's roots in one cut). By AI agents, Wed Nov 11 2026. No macro, syntax, notation, axiom, sorry.
-/
import Derived.Test.YtjaappocnonkbaaDoorChecked
import GoSem.Claim
import GoSem.ClaimJoined
import GoSem.ClaimMapViews
import Derived.JoinedTies
import Derived.KernelRfl
namespace Go.Proofs.YtjaappocnonkbaaDoor
/- THE CELL 'sum', in the pinned program and in every row, IS THE sha256 OF THE DUMP (.gsa) THAT YtjaappocnonkbaaDoorProg.lean LOADS. Nothing in Lean hashes anything: it is a label: what it is worth is what the hold of that sum in a sandbox is worth. -/
noncomputable def Tryd.pinned : Pinned := { name := "ytjaappocnonkbaadoor", sum := "ebe9914be6eb5be5add83ae0289d69fd9b8d9d27c6c4e54f636b5aa437560ba6", checked := Tryd.checked }
namespace Rows
def none {H : Type} : Left H := { results := [], args := [] }

/- WHAT THE LISTED PACKAGE-LEVEL VARIABLES READ AS WHEN THE CALL BEGINS. Each datum BY PROGRAM (the guide's laid-datum.mjs) off the statement by which the dump's own 'gosem.cut.vars' lays the variable. In a bare row this is a premise. The card (YtjaappocnonkbaaDoorCards.lean) ties it to the program's text. -/
def laid_fellowship_api_ErrRange {H : Type} : DataW H := .iface "*errors.errorString" (.ptr (.agg [.lit (.string [102, 101, 108, 108, 111, 119, 115, 104, 105, 112, 58, 32, 114, 97, 110, 103, 101])]))
def laid_fellowship_api_ErrShort {H : Type} : DataW H := .iface "*errors.errorString" (.ptr (.agg [.lit (.string [102, 101, 108, 108, 111, 119, 115, 104, 105, 112, 58, 32, 115, 104, 111, 114, 116])]))
def laid_fellowship_api_ErrLong {H : Type} : DataW H := .iface "*errors.errorString" (.ptr (.agg [.lit (.string [102, 101, 108, 108, 111, 119, 115, 104, 105, 112, 58, 32, 108, 111, 110, 103])]))
def laid_fellowship_api_ErrForm {H : Type} : DataW H := .iface "*errors.errorString" (.ptr (.agg [.lit (.string [102, 101, 108, 108, 111, 119, 115, 104, 105, 112, 58, 32, 102, 111, 114, 109])]))
def laid_fellowship_api_ErrKey {H : Type} : DataW H := .iface "*errors.errorString" (.ptr (.agg [.lit (.string [102, 101, 108, 108, 111, 119, 115, 104, 105, 112, 58, 32, 107, 101, 121])]))
def laid_fellowship_api_ErrSign {H : Type} : DataW H := .iface "*errors.errorString" (.ptr (.agg [.lit (.string [102, 101, 108, 108, 111, 119, 115, 104, 105, 112, 58, 32, 115, 105, 103, 110])]))
def laid_fellowship_api_ErrSeal {H : Type} : DataW H := .iface "*errors.errorString" (.ptr (.agg [.lit (.string [102, 101, 108, 108, 111, 119, 115, 104, 105, 112, 58, 32, 115, 101, 97, 108])]))
def laid_fellowship_api_ErrEpoch {H : Type} : DataW H := .iface "*errors.errorString" (.ptr (.agg [.lit (.string [102, 101, 108, 108, 111, 119, 115, 104, 105, 112, 58, 32, 101, 112, 111, 99, 104])]))
def laid_fellowship_api_ErrGroup {H : Type} : DataW H := .iface "*errors.errorString" (.ptr (.agg [.lit (.string [102, 101, 108, 108, 111, 119, 115, 104, 105, 112, 58, 32, 103, 114, 111, 117, 112])]))
def laid_fellowship_api_ErrSender {H : Type} : DataW H := .iface "*errors.errorString" (.ptr (.agg [.lit (.string [102, 101, 108, 108, 111, 119, 115, 104, 105, 112, 58, 32, 115, 101, 110, 100, 101, 114])]))
def laid_fellowship_api_ErrLeaf {H : Type} : DataW H := .iface "*errors.errorString" (.ptr (.agg [.lit (.string [102, 101, 108, 108, 111, 119, 115, 104, 105, 112, 58, 32, 108, 101, 97, 102])]))
def laid_fellowship_api_ErrOffer {H : Type} : DataW H := .iface "*errors.errorString" (.ptr (.agg [.lit (.string [102, 101, 108, 108, 111, 119, 115, 104, 105, 112, 58, 32, 111, 102, 102, 101, 114])]))
def laid_fellowship_api_ErrPath {H : Type} : DataW H := .iface "*errors.errorString" (.ptr (.agg [.lit (.string [102, 101, 108, 108, 111, 119, 115, 104, 105, 112, 58, 32, 112, 97, 116, 104])]))
def laid_fellowship_api_ErrTag {H : Type} : DataW H := .iface "*errors.errorString" (.ptr (.agg [.lit (.string [102, 101, 108, 108, 111, 119, 115, 104, 105, 112, 58, 32, 116, 97, 103])]))
def laid_fellowship_api_ErrNone {H : Type} : DataW H := .iface "*errors.errorString" (.ptr (.agg [.lit (.string [102, 101, 108, 108, 111, 119, 115, 104, 105, 112, 58, 32, 110, 111, 110, 101])]))
def laid_fellowship_api_ErrRemoved {H : Type} : DataW H := .iface "*errors.errorString" (.ptr (.agg [.lit (.string [102, 101, 108, 108, 111, 119, 115, 104, 105, 112, 58, 32, 114, 101, 109, 111, 118, 101, 100])]))
def laid_fellowship_api_ErrFull {H : Type} : DataW H := .iface "*errors.errorString" (.ptr (.agg [.lit (.string [102, 101, 108, 108, 111, 119, 115, 104, 105, 112, 58, 32, 102, 117, 108, 108])]))
def laid_fellowship_api_ErrState {H : Type} : DataW H := .iface "*errors.errorString" (.ptr (.agg [.lit (.string [102, 101, 108, 108, 111, 119, 115, 104, 105, 112, 58, 32, 115, 116, 97, 116, 101])]))
def laid_fellowship_api_ErrTwice {H : Type} : DataW H := .iface "*errors.errorString" (.ptr (.agg [.lit (.string [102, 101, 108, 108, 111, 119, 115, 104, 105, 112, 58, 32, 116, 119, 105, 99, 101])]))
def laid_fellowship_field_many {H : Type} : DataW H := .agg [.lit (.int .u64 134216512), .lit (.int .u64 134217726), .lit (.int .u64 134217726), .lit (.int .u64 134217726), .lit (.int .u64 134217726), .lit (.int .u64 134217726), .lit (.int .u64 134217726), .lit (.int .u64 134217726), .lit (.int .u64 134217726), .lit (.int .u64 134217726)]
def laid_fellowship_field_minus {H : Type} : DataW H := .agg [.lit (.int .u64 34513072), .lit (.int .u64 59165138), .lit (.int .u64 38243406), .lit (.int .u64 1750207), .lit (.int .u64 53429016), .lit (.int .u64 58652137), .lit (.int .u64 13633939), .lit (.int .u64 58469549), .lit (.int .u64 8409025), .lit (.int .u64 712905)]

/-- 'fellowshiplaw12.PointsReads': WHATEVER THE INPUT: true; the input reads as it did. -/
def pointsReadsSpec : ChangeSpec := { name := "pointsReads", fn := fun _ => fun
  | [d] => { results := [.lit (.bool true)], args := [d] }
  | _ => none }
def pointsReadsRow : OpenClaim := { program := "ytjaappocnonkbaadoor", sum := "ebe9914be6eb5be5add83ae0289d69fd9b8d9d27c6c4e54f636b5aa437560ba6", func := "fellowship/fellowshiplaw12.PointsReads", spec := "pointsReads", inPlace := ["internal/reflectlite.TypeOf"], unfollowed := true, recurses := true, named := ["fellowship/field.many", "fellowship/api.ErrForm", "fellowship/field.minus", "fellowship/api.ErrRange", "fellowship/api.ErrShort", "fellowship/api.ErrLong", "fellowship/api.ErrKey", "fellowship/api.ErrSign", "fellowship/api.ErrSeal", "fellowship/api.ErrEpoch", "fellowship/api.ErrGroup", "fellowship/api.ErrSender", "fellowship/api.ErrLeaf", "fellowship/api.ErrOffer", "fellowship/api.ErrPath", "fellowship/api.ErrTag", "fellowship/api.ErrNone", "fellowship/api.ErrRemoved", "fellowship/api.ErrFull", "fellowship/api.ErrState", "fellowship/api.ErrTwice"], apart := false, laid := [("fellowship/api.ErrRange", laid_fellowship_api_ErrRange), ("fellowship/api.ErrShort", laid_fellowship_api_ErrShort), ("fellowship/api.ErrLong", laid_fellowship_api_ErrLong), ("fellowship/api.ErrForm", laid_fellowship_api_ErrForm), ("fellowship/api.ErrKey", laid_fellowship_api_ErrKey), ("fellowship/api.ErrSign", laid_fellowship_api_ErrSign), ("fellowship/api.ErrSeal", laid_fellowship_api_ErrSeal), ("fellowship/api.ErrEpoch", laid_fellowship_api_ErrEpoch), ("fellowship/api.ErrGroup", laid_fellowship_api_ErrGroup), ("fellowship/api.ErrSender", laid_fellowship_api_ErrSender), ("fellowship/api.ErrLeaf", laid_fellowship_api_ErrLeaf), ("fellowship/api.ErrOffer", laid_fellowship_api_ErrOffer), ("fellowship/api.ErrPath", laid_fellowship_api_ErrPath), ("fellowship/api.ErrTag", laid_fellowship_api_ErrTag), ("fellowship/api.ErrNone", laid_fellowship_api_ErrNone), ("fellowship/api.ErrRemoved", laid_fellowship_api_ErrRemoved), ("fellowship/api.ErrFull", laid_fellowship_api_ErrFull), ("fellowship/api.ErrState", laid_fellowship_api_ErrState), ("fellowship/api.ErrTwice", laid_fellowship_api_ErrTwice), ("fellowship/field.many", laid_fellowship_field_many), ("fellowship/field.minus", laid_fellowship_field_minus)] }
def PointsReadsSaid : Prop := pointsReadsRow.holds Tryd.pinned (OpenSpec.ofChange pointsReadsSpec)

/-- ITS FALSE NEIGHBOUR: 'it returns false'. Refute it at one input. -/
def pointsReadsWrong : ChangeSpec := { name := "pointsReads", fn := fun _ => fun
  | [d] => { results := [.lit (.bool false)], args := [d] }
  | _ => none }
def PointsReadsWrongFalsely : Prop := pointsReadsRow.holds Tryd.pinned (OpenSpec.ofChange pointsReadsWrong)

/-- 'fellowshiplaw12.PointsTimes': WHATEVER THE INPUT: true; the input reads as it did. -/
def pointsTimesSpec : ChangeSpec := { name := "pointsTimes", fn := fun _ => fun
  | [d1, d2] => { results := [.lit (.bool true)], args := [d1, d2] }
  | _ => none }
def pointsTimesRow : OpenClaim := { program := "ytjaappocnonkbaadoor", sum := "ebe9914be6eb5be5add83ae0289d69fd9b8d9d27c6c4e54f636b5aa437560ba6", func := "fellowship/fellowshiplaw12.PointsTimes", spec := "pointsTimes", named := ["fellowship/field.many", "fellowship/api.ErrForm", "fellowship/field.minus"], apart := false, laid := [("fellowship/api.ErrForm", laid_fellowship_api_ErrForm), ("fellowship/field.many", laid_fellowship_field_many), ("fellowship/field.minus", laid_fellowship_field_minus)] }
def PointsTimesSaid : Prop := pointsTimesRow.holds Tryd.pinned (OpenSpec.ofChange pointsTimesSpec)

/-- ITS FALSE NEIGHBOUR: 'it returns false'. Refute it at one input. -/
def pointsTimesWrong : ChangeSpec := { name := "pointsTimes", fn := fun _ => fun
  | [d1, d2] => { results := [.lit (.bool false)], args := [d1, d2] }
  | _ => none }
def PointsTimesWrongFalsely : Prop := pointsTimesRow.holds Tryd.pinned (OpenSpec.ofChange pointsTimesWrong)

/-- 'fellowshiplaw12.PointsChains': WHATEVER THE INPUT: true; the input reads as it did. -/
def pointsChainsSpec : ChangeSpec := { name := "pointsChains", fn := fun _ => fun
  | [d1, d2, d3] => { results := [.lit (.bool true)], args := [d1, d2, d3] }
  | _ => none }
def pointsChainsRow : OpenClaim := { program := "ytjaappocnonkbaadoor", sum := "ebe9914be6eb5be5add83ae0289d69fd9b8d9d27c6c4e54f636b5aa437560ba6", func := "fellowship/fellowshiplaw12.PointsChains", spec := "pointsChains", named := ["fellowship/field.many", "fellowship/api.ErrForm", "fellowship/field.minus"], apart := false, laid := [("fellowship/api.ErrForm", laid_fellowship_api_ErrForm), ("fellowship/field.many", laid_fellowship_field_many), ("fellowship/field.minus", laid_fellowship_field_minus)] }
def PointsChainsSaid : Prop := pointsChainsRow.holds Tryd.pinned (OpenSpec.ofChange pointsChainsSpec)

/-- ITS FALSE NEIGHBOUR: 'it returns false'. Refute it at one input. -/
def pointsChainsWrong : ChangeSpec := { name := "pointsChains", fn := fun _ => fun
  | [d1, d2, d3] => { results := [.lit (.bool false)], args := [d1, d2, d3] }
  | _ => none }
def PointsChainsWrongFalsely : Prop := pointsChainsRow.holds Tryd.pinned (OpenSpec.ofChange pointsChainsWrong)

/-- 'fellowshiplaw12.PointsSums': WHATEVER THE INPUT: true; the input reads as it did. -/
def pointsSumsSpec : ChangeSpec := { name := "pointsSums", fn := fun _ => fun
  | [d1, d2] => { results := [.lit (.bool true)], args := [d1, d2] }
  | _ => none }
def pointsSumsRow : OpenClaim := { program := "ytjaappocnonkbaadoor", sum := "ebe9914be6eb5be5add83ae0289d69fd9b8d9d27c6c4e54f636b5aa437560ba6", func := "fellowship/fellowshiplaw12.PointsSums", spec := "pointsSums", named := ["fellowship/field.many", "fellowship/api.ErrForm", "fellowship/field.minus"], apart := false, laid := [("fellowship/api.ErrForm", laid_fellowship_api_ErrForm), ("fellowship/field.many", laid_fellowship_field_many), ("fellowship/field.minus", laid_fellowship_field_minus)] }
def PointsSumsSaid : Prop := pointsSumsRow.holds Tryd.pinned (OpenSpec.ofChange pointsSumsSpec)

/-- ITS FALSE NEIGHBOUR: 'it returns false'. Refute it at one input. -/
def pointsSumsWrong : ChangeSpec := { name := "pointsSums", fn := fun _ => fun
  | [d1, d2] => { results := [.lit (.bool false)], args := [d1, d2] }
  | _ => none }
def PointsSumsWrongFalsely : Prop := pointsSumsRow.holds Tryd.pinned (OpenSpec.ofChange pointsSumsWrong)

/-- 'fellowshiplaw12.PointsWith': WHATEVER THE INPUT: true; the input reads as it did. -/
def pointsWithSpec : ChangeSpec := { name := "pointsWith", fn := fun _ => fun
  | [d1, d2, d3] => { results := [.lit (.bool true)], args := [d1, d2, d3] }
  | _ => none }
def pointsWithRow : OpenClaim := { program := "ytjaappocnonkbaadoor", sum := "ebe9914be6eb5be5add83ae0289d69fd9b8d9d27c6c4e54f636b5aa437560ba6", func := "fellowship/fellowshiplaw12.PointsWith", spec := "pointsWith", named := ["fellowship/field.many", "fellowship/api.ErrForm", "fellowship/field.minus"], apart := false, laid := [("fellowship/api.ErrForm", laid_fellowship_api_ErrForm), ("fellowship/field.many", laid_fellowship_field_many), ("fellowship/field.minus", laid_fellowship_field_minus)] }
def PointsWithSaid : Prop := pointsWithRow.holds Tryd.pinned (OpenSpec.ofChange pointsWithSpec)

/-- ITS FALSE NEIGHBOUR: 'it returns false'. Refute it at one input. -/
def pointsWithWrong : ChangeSpec := { name := "pointsWith", fn := fun _ => fun
  | [d1, d2, d3] => { results := [.lit (.bool false)], args := [d1, d2, d3] }
  | _ => none }
def PointsWithWrongFalsely : Prop := pointsWithRow.holds Tryd.pinned (OpenSpec.ofChange pointsWithWrong)

/- THE SECOND FORM. 'bulk': how many values and letters a reading holds, each counted each time it is reached (what is shared counts as often as it is met; a slice's spare places count too). A statement '..UptoSaid' is the law's where the arguments, and the package variables that the reading takes, are together of bulk at most 1048576: NARROWER than '..Said'. Prove '..Said' where nothing that the law and all that it calls make is longer than what came in: it says more and counts as full. Else prove '..UptoSaid'. A law counts once. -/
mutual
def uptoBulk {H : Type} : DataW H → Nat
  | .lit (.string bytes) => bytes.length + 1
  | .lit _ => 1
  | .nil => 1
  | .ptr d => uptoBulk d + 1
  | .slice elems spare => uptoBulkAll elems + uptoBulkAll spare + 1
  | .agg parts => uptoBulkAll parts + 1
  | .iface _ d => uptoBulk d + 1
  | .map entries => uptoBulkEntries entries + 1
  | .held _ => 1
def uptoBulkAll {H : Type} : List (DataW H) → Nat
  | [] => 0
  | d :: r => uptoBulk d + uptoBulkAll r
def uptoBulkEntries {H : Type} : List (Lit × DataW H) → Nat
  | [] => 0
  | x :: r => uptoBulkEntry x + uptoBulkEntries r
def uptoBulkEntry {H : Type} : Lit × DataW H → Nat
  | (.string bytes, d) => bytes.length + uptoBulk d + 1
  | (_, d) => uptoBulk d + 1
 end
def uptoSmall : (H : Type) → List (DataW H) → Bool := fun _ ds => decide (uptoBulkAll ds ≤ 1048576)
def OpenSpec.upto (s : _root_.Go.ChangeSpec) : _root_.Go.OpenSpec := { _root_.Go.OpenSpec.ofChange s with cond := some uptoSmall }

/-- 'fellowshiplaw12.PointsReads', WHERE WHAT IT READS IS OF BULK AT MOST 1048576: true; the input reads as it did. -/
def pointsReadsUptoRow : OpenClaim := { program := "ytjaappocnonkbaadoor", sum := "ebe9914be6eb5be5add83ae0289d69fd9b8d9d27c6c4e54f636b5aa437560ba6", func := "fellowship/fellowshiplaw12.PointsReads", spec := "pointsReads", inPlace := ["internal/reflectlite.TypeOf"], unfollowed := true, recurses := true, named := ["fellowship/field.many", "fellowship/api.ErrForm", "fellowship/field.minus", "fellowship/api.ErrRange", "fellowship/api.ErrShort", "fellowship/api.ErrLong", "fellowship/api.ErrKey", "fellowship/api.ErrSign", "fellowship/api.ErrSeal", "fellowship/api.ErrEpoch", "fellowship/api.ErrGroup", "fellowship/api.ErrSender", "fellowship/api.ErrLeaf", "fellowship/api.ErrOffer", "fellowship/api.ErrPath", "fellowship/api.ErrTag", "fellowship/api.ErrNone", "fellowship/api.ErrRemoved", "fellowship/api.ErrFull", "fellowship/api.ErrState", "fellowship/api.ErrTwice"], apart := false, laid := [("fellowship/api.ErrRange", laid_fellowship_api_ErrRange), ("fellowship/api.ErrShort", laid_fellowship_api_ErrShort), ("fellowship/api.ErrLong", laid_fellowship_api_ErrLong), ("fellowship/api.ErrForm", laid_fellowship_api_ErrForm), ("fellowship/api.ErrKey", laid_fellowship_api_ErrKey), ("fellowship/api.ErrSign", laid_fellowship_api_ErrSign), ("fellowship/api.ErrSeal", laid_fellowship_api_ErrSeal), ("fellowship/api.ErrEpoch", laid_fellowship_api_ErrEpoch), ("fellowship/api.ErrGroup", laid_fellowship_api_ErrGroup), ("fellowship/api.ErrSender", laid_fellowship_api_ErrSender), ("fellowship/api.ErrLeaf", laid_fellowship_api_ErrLeaf), ("fellowship/api.ErrOffer", laid_fellowship_api_ErrOffer), ("fellowship/api.ErrPath", laid_fellowship_api_ErrPath), ("fellowship/api.ErrTag", laid_fellowship_api_ErrTag), ("fellowship/api.ErrNone", laid_fellowship_api_ErrNone), ("fellowship/api.ErrRemoved", laid_fellowship_api_ErrRemoved), ("fellowship/api.ErrFull", laid_fellowship_api_ErrFull), ("fellowship/api.ErrState", laid_fellowship_api_ErrState), ("fellowship/api.ErrTwice", laid_fellowship_api_ErrTwice), ("fellowship/field.many", laid_fellowship_field_many), ("fellowship/field.minus", laid_fellowship_field_minus)], narrowed := true }
def PointsReadsUptoSaid : Prop := pointsReadsUptoRow.holds Tryd.pinned (OpenSpec.upto pointsReadsSpec)

/-- 'fellowshiplaw12.PointsTimes', WHERE WHAT IT READS IS OF BULK AT MOST 1048576: true; the input reads as it did. -/
def pointsTimesUptoRow : OpenClaim := { program := "ytjaappocnonkbaadoor", sum := "ebe9914be6eb5be5add83ae0289d69fd9b8d9d27c6c4e54f636b5aa437560ba6", func := "fellowship/fellowshiplaw12.PointsTimes", spec := "pointsTimes", named := ["fellowship/field.many", "fellowship/api.ErrForm", "fellowship/field.minus"], apart := false, laid := [("fellowship/api.ErrForm", laid_fellowship_api_ErrForm), ("fellowship/field.many", laid_fellowship_field_many), ("fellowship/field.minus", laid_fellowship_field_minus)], narrowed := true }
def PointsTimesUptoSaid : Prop := pointsTimesUptoRow.holds Tryd.pinned (OpenSpec.upto pointsTimesSpec)

/-- 'fellowshiplaw12.PointsChains', WHERE WHAT IT READS IS OF BULK AT MOST 1048576: true; the input reads as it did. -/
def pointsChainsUptoRow : OpenClaim := { program := "ytjaappocnonkbaadoor", sum := "ebe9914be6eb5be5add83ae0289d69fd9b8d9d27c6c4e54f636b5aa437560ba6", func := "fellowship/fellowshiplaw12.PointsChains", spec := "pointsChains", named := ["fellowship/field.many", "fellowship/api.ErrForm", "fellowship/field.minus"], apart := false, laid := [("fellowship/api.ErrForm", laid_fellowship_api_ErrForm), ("fellowship/field.many", laid_fellowship_field_many), ("fellowship/field.minus", laid_fellowship_field_minus)], narrowed := true }
def PointsChainsUptoSaid : Prop := pointsChainsUptoRow.holds Tryd.pinned (OpenSpec.upto pointsChainsSpec)

/-- 'fellowshiplaw12.PointsSums', WHERE WHAT IT READS IS OF BULK AT MOST 1048576: true; the input reads as it did. -/
def pointsSumsUptoRow : OpenClaim := { program := "ytjaappocnonkbaadoor", sum := "ebe9914be6eb5be5add83ae0289d69fd9b8d9d27c6c4e54f636b5aa437560ba6", func := "fellowship/fellowshiplaw12.PointsSums", spec := "pointsSums", named := ["fellowship/field.many", "fellowship/api.ErrForm", "fellowship/field.minus"], apart := false, laid := [("fellowship/api.ErrForm", laid_fellowship_api_ErrForm), ("fellowship/field.many", laid_fellowship_field_many), ("fellowship/field.minus", laid_fellowship_field_minus)], narrowed := true }
def PointsSumsUptoSaid : Prop := pointsSumsUptoRow.holds Tryd.pinned (OpenSpec.upto pointsSumsSpec)

/-- 'fellowshiplaw12.PointsWith', WHERE WHAT IT READS IS OF BULK AT MOST 1048576: true; the input reads as it did. -/
def pointsWithUptoRow : OpenClaim := { program := "ytjaappocnonkbaadoor", sum := "ebe9914be6eb5be5add83ae0289d69fd9b8d9d27c6c4e54f636b5aa437560ba6", func := "fellowship/fellowshiplaw12.PointsWith", spec := "pointsWith", named := ["fellowship/field.many", "fellowship/api.ErrForm", "fellowship/field.minus"], apart := false, laid := [("fellowship/api.ErrForm", laid_fellowship_api_ErrForm), ("fellowship/field.many", laid_fellowship_field_many), ("fellowship/field.minus", laid_fellowship_field_minus)], narrowed := true }
def PointsWithUptoSaid : Prop := pointsWithUptoRow.holds Tryd.pinned (OpenSpec.upto pointsWithSpec)

end Rows
end Go.Proofs.YtjaappocnonkbaaDoor
