/-
  NARROWER THAN 'FOR EVERY INPUT', by the rows' own cells (each row's printed sentence says how): FieldSums: laid · FieldReads: laid · FieldInverts: laid · FieldChains: laid · FieldRoots: laid · LadderMults: laid · LadderBases: laid · LadderMeets: laid.
  DERIVED. THE GIVEN ROWS OF THIS SEAT. 8 by the template 'for every input the law returns true; each argument reads behind the call as it read before'; 0 by the template 'total and deterministic' (their statements: YtganankiiipkgaaDoorTotals.lean).
  GIVEN WITH THE SEED: the statements are not yours to turn. If you find one false, say at which input.
  Laid BY PROGRAM, IN A SANDBOX (cutbox-rows.mjs): the forced cells as the released guide's own fill.sh prints them over the translation aaea7f84a3e0f478… (all of the seat's roots in one cut). By AI agents, Wed Nov 11 2026. No macro, syntax, notation, axiom, sorry.
-/
import Derived.Test.YtganankiiipkgaaDoorChecked
import GoSem.Claim
import GoSem.ClaimJoined
import GoSem.ClaimMapViews
import Derived.JoinedTies
import Derived.KernelRfl
namespace Go.Proofs.YtganankiiipkgaaDoor
/- THE CELL 'sum', in the pinned program and in every row, IS THE sha256 OF THE DUMP (.gsa) THAT YtganankiiipkgaaDoorProg.lean LOADS. Nothing in Lean hashes anything: it is a label: what it is worth is what the hold of that sum in a sandbox is worth. -/
noncomputable def Tryd.pinned : Pinned := { name := "ytganankiiipkgaadoor", sum := "aaea7f84a3e0f478f079bccd091053fae30610407d7f32594ed4aff40af176de", checked := Tryd.checked }
namespace Rows
def none {H : Type} : Left H := { results := [], args := [] }

/- WHAT THE LISTED PACKAGE-LEVEL VARIABLES READ AS WHEN THE CALL BEGINS. Each datum BY PROGRAM (the guide's laid-datum.mjs) off the statement by which the dump's own 'gosem.cut.vars' lays the variable. In a bare row this is a premise. The card (YtganankiiipkgaaDoorCards.lean) ties it to the program's text. -/
def laid_fellowship_field_many {H : Type} : DataW H := .agg [.lit (.int .u64 134216512), .lit (.int .u64 134217726), .lit (.int .u64 134217726), .lit (.int .u64 134217726), .lit (.int .u64 134217726), .lit (.int .u64 134217726), .lit (.int .u64 134217726), .lit (.int .u64 134217726), .lit (.int .u64 134217726), .lit (.int .u64 134217726)]
def laid_fellowship_api_ErrRange {H : Type} : DataW H := .iface "*errors.errorString" (.ptr (.agg [.lit (.string [102, 101, 108, 108, 111, 119, 115, 104, 105, 112, 58, 32, 114, 97, 110, 103, 101])]))
def laid_fellowship_api_ErrShort {H : Type} : DataW H := .iface "*errors.errorString" (.ptr (.agg [.lit (.string [102, 101, 108, 108, 111, 119, 115, 104, 105, 112, 58, 32, 115, 104, 111, 114, 116])]))
def laid_fellowship_api_ErrLong {H : Type} : DataW H := .iface "*errors.errorString" (.ptr (.agg [.lit (.string [102, 101, 108, 108, 111, 119, 115, 104, 105, 112, 58, 32, 108, 111, 110, 103])]))
def laid_fellowship_api_ErrForm {H : Type} : DataW H := .iface "*errors.errorString" (.ptr (.agg [.lit (.string [102, 101, 108, 108, 111, 119, 115, 104, 105, 112, 58, 32, 102, 111, 114, 109])]))
def laid_fellowship_api_ErrKey {H : Type} : DataW H := .iface "*errors.errorString" (.ptr (.agg [.lit (.string [102, 101, 108, 108, 111, 119, 115, 104, 105, 112, 58, 32, 107, 101, 121])]))
def laid_fellowship_api_ErrSign {H : Type} : DataW H := .iface "*errors.errorString" (.ptr (.agg [.lit (.string [102, 101, 108, 108, 111, 119, 115, 104, 105, 112, 58, 32, 115, 105, 103, 110])]))
def laid_fellowship_api_ErrSeal {H : Type} : DataW H := .iface "*errors.errorString" (.ptr (.agg [.lit (.string [102, 101, 108, 108, 111, 119, 115, 104, 105, 112, 58, 32, 115, 101, 97, 108])]))
def laid_fellowship_api_ErrEpoch {H : Type} : DataW H := .iface "*errors.errorString" (.ptr (.agg [.lit (.string [102, 101, 108, 108, 111, 119, 115, 104, 105, 112, 58, 32, 101, 112, 111, 99, 104])]))
def laid_fellowship_api_ErrGroup {H : Type} : DataW H := .iface "*errors.errorString" (.ptr (.agg [.lit (.string [102, 101, 108, 108, 111, 119, 115, 104, 105, 112, 58, 32, 103, 114, 111, 117, 112])]))
def laid_fellowship_api_ErrSender {H : Type} : DataW H := .iface "*errors.errorString" (.ptr (.agg [.lit (.string [102, 101, 108, 108, 111, 119, 115, 104, 105, 112, 58, 32, 115, 101, 110, 100, 101, 114])]))
def laid_fellowship_api_ErrLeaf {H : Type} : DataW H := .iface "*errors.errorString" (.ptr (.agg [.lit (.string [102, 101, 108, 108, 111, 119, 115, 104, 105, 112, 58, 32, 108, 101, 97, 102])]))
def laid_fellowship_api_ErrOffer {H : Type} : DataW H := .iface "*errors.errorString" (.ptr (.agg [.lit (.string [102, 101, 108, 108, 111, 119, 115, 104, 105, 112, 58, 32, 111, 102, 102, 101, 114])]))
def laid_fellowship_api_ErrPath {H : Type} : DataW H := .iface "*errors.errorString" (.ptr (.agg [.lit (.string [102, 101, 108, 108, 111, 119, 115, 104, 105, 112, 58, 32, 112, 97, 116, 104])]))
def laid_fellowship_api_ErrTag {H : Type} : DataW H := .iface "*errors.errorString" (.ptr (.agg [.lit (.string [102, 101, 108, 108, 111, 119, 115, 104, 105, 112, 58, 32, 116, 97, 103])]))
def laid_fellowship_api_ErrNone {H : Type} : DataW H := .iface "*errors.errorString" (.ptr (.agg [.lit (.string [102, 101, 108, 108, 111, 119, 115, 104, 105, 112, 58, 32, 110, 111, 110, 101])]))
def laid_fellowship_api_ErrRemoved {H : Type} : DataW H := .iface "*errors.errorString" (.ptr (.agg [.lit (.string [102, 101, 108, 108, 111, 119, 115, 104, 105, 112, 58, 32, 114, 101, 109, 111, 118, 101, 100])]))
def laid_fellowship_api_ErrFull {H : Type} : DataW H := .iface "*errors.errorString" (.ptr (.agg [.lit (.string [102, 101, 108, 108, 111, 119, 115, 104, 105, 112, 58, 32, 102, 117, 108, 108])]))
def laid_fellowship_api_ErrState {H : Type} : DataW H := .iface "*errors.errorString" (.ptr (.agg [.lit (.string [102, 101, 108, 108, 111, 119, 115, 104, 105, 112, 58, 32, 115, 116, 97, 116, 101])]))
def laid_fellowship_api_ErrTwice {H : Type} : DataW H := .iface "*errors.errorString" (.ptr (.agg [.lit (.string [102, 101, 108, 108, 111, 119, 115, 104, 105, 112, 58, 32, 116, 119, 105, 99, 101])]))
def laid_fellowship_field_minus {H : Type} : DataW H := .agg [.lit (.int .u64 34513072), .lit (.int .u64 59165138), .lit (.int .u64 38243406), .lit (.int .u64 1750207), .lit (.int .u64 53429016), .lit (.int .u64 58652137), .lit (.int .u64 13633939), .lit (.int .u64 58469549), .lit (.int .u64 8409025), .lit (.int .u64 712905)]

/-- 'fellowshiplaw09.FieldSums': WHATEVER THE INPUT: true; the input reads as it did. -/
def fieldSumsSpec : ChangeSpec := { name := "fieldSums", fn := fun _ => fun
  | [d1, d2] => { results := [.lit (.bool true)], args := [d1, d2] }
  | _ => none }
def fieldSumsRow : OpenClaim := { program := "ytganankiiipkgaadoor", sum := "aaea7f84a3e0f478f079bccd091053fae30610407d7f32594ed4aff40af176de", func := "fellowship/fellowshiplaw09.FieldSums", spec := "fieldSums", named := ["fellowship/field.many"], apart := false, laid := [("fellowship/field.many", laid_fellowship_field_many)] }
def FieldSumsSaid : Prop := fieldSumsRow.holds Tryd.pinned (OpenSpec.ofChange fieldSumsSpec)

/-- ITS FALSE NEIGHBOUR: 'it returns false'. Refute it at one input. -/
def fieldSumsWrong : ChangeSpec := { name := "fieldSums", fn := fun _ => fun
  | [d1, d2] => { results := [.lit (.bool false)], args := [d1, d2] }
  | _ => none }
def FieldSumsWrongFalsely : Prop := fieldSumsRow.holds Tryd.pinned (OpenSpec.ofChange fieldSumsWrong)

/-- 'fellowshiplaw09.FieldReads': WHATEVER THE INPUT: true; the input reads as it did. -/
def fieldReadsSpec : ChangeSpec := { name := "fieldReads", fn := fun _ => fun
  | [d1, d2] => { results := [.lit (.bool true)], args := [d1, d2] }
  | _ => none }
def fieldReadsRow : OpenClaim := { program := "ytganankiiipkgaadoor", sum := "aaea7f84a3e0f478f079bccd091053fae30610407d7f32594ed4aff40af176de", func := "fellowship/fellowshiplaw09.FieldReads", spec := "fieldReads", inPlace := ["internal/reflectlite.TypeOf"], unfollowed := true, recurses := true, named := ["fellowship/field.many", "fellowship/api.ErrForm", "fellowship/api.ErrRange", "fellowship/api.ErrShort", "fellowship/api.ErrLong", "fellowship/api.ErrKey", "fellowship/api.ErrSign", "fellowship/api.ErrSeal", "fellowship/api.ErrEpoch", "fellowship/api.ErrGroup", "fellowship/api.ErrSender", "fellowship/api.ErrLeaf", "fellowship/api.ErrOffer", "fellowship/api.ErrPath", "fellowship/api.ErrTag", "fellowship/api.ErrNone", "fellowship/api.ErrRemoved", "fellowship/api.ErrFull", "fellowship/api.ErrState", "fellowship/api.ErrTwice"], apart := false, laid := [("fellowship/api.ErrRange", laid_fellowship_api_ErrRange), ("fellowship/api.ErrShort", laid_fellowship_api_ErrShort), ("fellowship/api.ErrLong", laid_fellowship_api_ErrLong), ("fellowship/api.ErrForm", laid_fellowship_api_ErrForm), ("fellowship/api.ErrKey", laid_fellowship_api_ErrKey), ("fellowship/api.ErrSign", laid_fellowship_api_ErrSign), ("fellowship/api.ErrSeal", laid_fellowship_api_ErrSeal), ("fellowship/api.ErrEpoch", laid_fellowship_api_ErrEpoch), ("fellowship/api.ErrGroup", laid_fellowship_api_ErrGroup), ("fellowship/api.ErrSender", laid_fellowship_api_ErrSender), ("fellowship/api.ErrLeaf", laid_fellowship_api_ErrLeaf), ("fellowship/api.ErrOffer", laid_fellowship_api_ErrOffer), ("fellowship/api.ErrPath", laid_fellowship_api_ErrPath), ("fellowship/api.ErrTag", laid_fellowship_api_ErrTag), ("fellowship/api.ErrNone", laid_fellowship_api_ErrNone), ("fellowship/api.ErrRemoved", laid_fellowship_api_ErrRemoved), ("fellowship/api.ErrFull", laid_fellowship_api_ErrFull), ("fellowship/api.ErrState", laid_fellowship_api_ErrState), ("fellowship/api.ErrTwice", laid_fellowship_api_ErrTwice), ("fellowship/field.many", laid_fellowship_field_many)] }
def FieldReadsSaid : Prop := fieldReadsRow.holds Tryd.pinned (OpenSpec.ofChange fieldReadsSpec)

/-- ITS FALSE NEIGHBOUR: 'it returns false'. Refute it at one input. -/
def fieldReadsWrong : ChangeSpec := { name := "fieldReads", fn := fun _ => fun
  | [d1, d2] => { results := [.lit (.bool false)], args := [d1, d2] }
  | _ => none }
def FieldReadsWrongFalsely : Prop := fieldReadsRow.holds Tryd.pinned (OpenSpec.ofChange fieldReadsWrong)

/-- 'fellowshiplaw09.FieldInverts': WHATEVER THE INPUT: true; the input reads as it did. -/
def fieldInvertsSpec : ChangeSpec := { name := "fieldInverts", fn := fun _ => fun
  | [d] => { results := [.lit (.bool true)], args := [d] }
  | _ => none }
def fieldInvertsRow : OpenClaim := { program := "ytganankiiipkgaadoor", sum := "aaea7f84a3e0f478f079bccd091053fae30610407d7f32594ed4aff40af176de", func := "fellowship/fellowshiplaw09.FieldInverts", spec := "fieldInverts", named := ["fellowship/field.many", "fellowship/field.minus"], apart := false, laid := [("fellowship/field.many", laid_fellowship_field_many), ("fellowship/field.minus", laid_fellowship_field_minus)] }
def FieldInvertsSaid : Prop := fieldInvertsRow.holds Tryd.pinned (OpenSpec.ofChange fieldInvertsSpec)

/-- ITS FALSE NEIGHBOUR: 'it returns false'. Refute it at one input. -/
def fieldInvertsWrong : ChangeSpec := { name := "fieldInverts", fn := fun _ => fun
  | [d] => { results := [.lit (.bool false)], args := [d] }
  | _ => none }
def FieldInvertsWrongFalsely : Prop := fieldInvertsRow.holds Tryd.pinned (OpenSpec.ofChange fieldInvertsWrong)

/-- 'fellowshiplaw09.FieldChains': WHATEVER THE INPUT: true; the input reads as it did. -/
def fieldChainsSpec : ChangeSpec := { name := "fieldChains", fn := fun _ => fun
  | [d1, d2, d3] => { results := [.lit (.bool true)], args := [d1, d2, d3] }
  | _ => none }
def fieldChainsRow : OpenClaim := { program := "ytganankiiipkgaadoor", sum := "aaea7f84a3e0f478f079bccd091053fae30610407d7f32594ed4aff40af176de", func := "fellowship/fellowshiplaw09.FieldChains", spec := "fieldChains", named := ["fellowship/field.many"], apart := false, laid := [("fellowship/field.many", laid_fellowship_field_many)] }
def FieldChainsSaid : Prop := fieldChainsRow.holds Tryd.pinned (OpenSpec.ofChange fieldChainsSpec)

/-- ITS FALSE NEIGHBOUR: 'it returns false'. Refute it at one input. -/
def fieldChainsWrong : ChangeSpec := { name := "fieldChains", fn := fun _ => fun
  | [d1, d2, d3] => { results := [.lit (.bool false)], args := [d1, d2, d3] }
  | _ => none }
def FieldChainsWrongFalsely : Prop := fieldChainsRow.holds Tryd.pinned (OpenSpec.ofChange fieldChainsWrong)

/-- 'fellowshiplaw09.FieldRoots': WHATEVER THE INPUT: true; the input reads as it did. -/
def fieldRootsSpec : ChangeSpec := { name := "fieldRoots", fn := fun _ => fun
  | [d1, d2, d3] => { results := [.lit (.bool true)], args := [d1, d2, d3] }
  | _ => none }
def fieldRootsRow : OpenClaim := { program := "ytganankiiipkgaadoor", sum := "aaea7f84a3e0f478f079bccd091053fae30610407d7f32594ed4aff40af176de", func := "fellowship/fellowshiplaw09.FieldRoots", spec := "fieldRoots", named := ["fellowship/field.many", "fellowship/field.minus"], apart := false, laid := [("fellowship/field.many", laid_fellowship_field_many), ("fellowship/field.minus", laid_fellowship_field_minus)] }
def FieldRootsSaid : Prop := fieldRootsRow.holds Tryd.pinned (OpenSpec.ofChange fieldRootsSpec)

/-- ITS FALSE NEIGHBOUR: 'it returns false'. Refute it at one input. -/
def fieldRootsWrong : ChangeSpec := { name := "fieldRoots", fn := fun _ => fun
  | [d1, d2, d3] => { results := [.lit (.bool false)], args := [d1, d2, d3] }
  | _ => none }
def FieldRootsWrongFalsely : Prop := fieldRootsRow.holds Tryd.pinned (OpenSpec.ofChange fieldRootsWrong)

/-- 'fellowshiplaw10.LadderMults': WHATEVER THE INPUT: true; the input reads as it did. -/
def ladderMultsSpec : ChangeSpec := { name := "ladderMults", fn := fun _ => fun
  | [d1, d2] => { results := [.lit (.bool true)], args := [d1, d2] }
  | _ => none }
def ladderMultsRow : OpenClaim := { program := "ytganankiiipkgaadoor", sum := "aaea7f84a3e0f478f079bccd091053fae30610407d7f32594ed4aff40af176de", func := "fellowship/fellowshiplaw10.LadderMults", spec := "ladderMults", inPlace := ["internal/reflectlite.TypeOf"], unfollowed := true, recurses := true, named := ["fellowship/api.ErrKey", "fellowship/field.many", "fellowship/api.ErrRange", "fellowship/api.ErrShort", "fellowship/api.ErrLong", "fellowship/api.ErrForm", "fellowship/api.ErrSign", "fellowship/api.ErrSeal", "fellowship/api.ErrEpoch", "fellowship/api.ErrGroup", "fellowship/api.ErrSender", "fellowship/api.ErrLeaf", "fellowship/api.ErrOffer", "fellowship/api.ErrPath", "fellowship/api.ErrTag", "fellowship/api.ErrNone", "fellowship/api.ErrRemoved", "fellowship/api.ErrFull", "fellowship/api.ErrState", "fellowship/api.ErrTwice"], apart := false, laid := [("fellowship/api.ErrRange", laid_fellowship_api_ErrRange), ("fellowship/api.ErrShort", laid_fellowship_api_ErrShort), ("fellowship/api.ErrLong", laid_fellowship_api_ErrLong), ("fellowship/api.ErrForm", laid_fellowship_api_ErrForm), ("fellowship/api.ErrKey", laid_fellowship_api_ErrKey), ("fellowship/api.ErrSign", laid_fellowship_api_ErrSign), ("fellowship/api.ErrSeal", laid_fellowship_api_ErrSeal), ("fellowship/api.ErrEpoch", laid_fellowship_api_ErrEpoch), ("fellowship/api.ErrGroup", laid_fellowship_api_ErrGroup), ("fellowship/api.ErrSender", laid_fellowship_api_ErrSender), ("fellowship/api.ErrLeaf", laid_fellowship_api_ErrLeaf), ("fellowship/api.ErrOffer", laid_fellowship_api_ErrOffer), ("fellowship/api.ErrPath", laid_fellowship_api_ErrPath), ("fellowship/api.ErrTag", laid_fellowship_api_ErrTag), ("fellowship/api.ErrNone", laid_fellowship_api_ErrNone), ("fellowship/api.ErrRemoved", laid_fellowship_api_ErrRemoved), ("fellowship/api.ErrFull", laid_fellowship_api_ErrFull), ("fellowship/api.ErrState", laid_fellowship_api_ErrState), ("fellowship/api.ErrTwice", laid_fellowship_api_ErrTwice), ("fellowship/field.many", laid_fellowship_field_many)] }
def LadderMultsSaid : Prop := ladderMultsRow.holds Tryd.pinned (OpenSpec.ofChange ladderMultsSpec)

/-- ITS FALSE NEIGHBOUR: 'it returns false'. Refute it at one input. -/
def ladderMultsWrong : ChangeSpec := { name := "ladderMults", fn := fun _ => fun
  | [d1, d2] => { results := [.lit (.bool false)], args := [d1, d2] }
  | _ => none }
def LadderMultsWrongFalsely : Prop := ladderMultsRow.holds Tryd.pinned (OpenSpec.ofChange ladderMultsWrong)

/-- 'fellowshiplaw10.LadderBases': WHATEVER THE INPUT: true; the input reads as it did. -/
def ladderBasesSpec : ChangeSpec := { name := "ladderBases", fn := fun _ => fun
  | [d] => { results := [.lit (.bool true)], args := [d] }
  | _ => none }
def ladderBasesRow : OpenClaim := { program := "ytganankiiipkgaadoor", sum := "aaea7f84a3e0f478f079bccd091053fae30610407d7f32594ed4aff40af176de", func := "fellowship/fellowshiplaw10.LadderBases", spec := "ladderBases", inPlace := ["internal/reflectlite.TypeOf"], unfollowed := true, recurses := true, named := ["fellowship/api.ErrKey", "fellowship/field.many", "fellowship/api.ErrRange", "fellowship/api.ErrShort", "fellowship/api.ErrLong", "fellowship/api.ErrForm", "fellowship/api.ErrSign", "fellowship/api.ErrSeal", "fellowship/api.ErrEpoch", "fellowship/api.ErrGroup", "fellowship/api.ErrSender", "fellowship/api.ErrLeaf", "fellowship/api.ErrOffer", "fellowship/api.ErrPath", "fellowship/api.ErrTag", "fellowship/api.ErrNone", "fellowship/api.ErrRemoved", "fellowship/api.ErrFull", "fellowship/api.ErrState", "fellowship/api.ErrTwice"], apart := false, laid := [("fellowship/api.ErrRange", laid_fellowship_api_ErrRange), ("fellowship/api.ErrShort", laid_fellowship_api_ErrShort), ("fellowship/api.ErrLong", laid_fellowship_api_ErrLong), ("fellowship/api.ErrForm", laid_fellowship_api_ErrForm), ("fellowship/api.ErrKey", laid_fellowship_api_ErrKey), ("fellowship/api.ErrSign", laid_fellowship_api_ErrSign), ("fellowship/api.ErrSeal", laid_fellowship_api_ErrSeal), ("fellowship/api.ErrEpoch", laid_fellowship_api_ErrEpoch), ("fellowship/api.ErrGroup", laid_fellowship_api_ErrGroup), ("fellowship/api.ErrSender", laid_fellowship_api_ErrSender), ("fellowship/api.ErrLeaf", laid_fellowship_api_ErrLeaf), ("fellowship/api.ErrOffer", laid_fellowship_api_ErrOffer), ("fellowship/api.ErrPath", laid_fellowship_api_ErrPath), ("fellowship/api.ErrTag", laid_fellowship_api_ErrTag), ("fellowship/api.ErrNone", laid_fellowship_api_ErrNone), ("fellowship/api.ErrRemoved", laid_fellowship_api_ErrRemoved), ("fellowship/api.ErrFull", laid_fellowship_api_ErrFull), ("fellowship/api.ErrState", laid_fellowship_api_ErrState), ("fellowship/api.ErrTwice", laid_fellowship_api_ErrTwice), ("fellowship/field.many", laid_fellowship_field_many)] }
def LadderBasesSaid : Prop := ladderBasesRow.holds Tryd.pinned (OpenSpec.ofChange ladderBasesSpec)

/-- ITS FALSE NEIGHBOUR: 'it returns false'. Refute it at one input. -/
def ladderBasesWrong : ChangeSpec := { name := "ladderBases", fn := fun _ => fun
  | [d] => { results := [.lit (.bool false)], args := [d] }
  | _ => none }
def LadderBasesWrongFalsely : Prop := ladderBasesRow.holds Tryd.pinned (OpenSpec.ofChange ladderBasesWrong)

/-- 'fellowshiplaw10.LadderMeets': WHATEVER THE INPUT: true; the input reads as it did. -/
def ladderMeetsSpec : ChangeSpec := { name := "ladderMeets", fn := fun _ => fun
  | [d1, d2] => { results := [.lit (.bool true)], args := [d1, d2] }
  | _ => none }
def ladderMeetsRow : OpenClaim := { program := "ytganankiiipkgaadoor", sum := "aaea7f84a3e0f478f079bccd091053fae30610407d7f32594ed4aff40af176de", func := "fellowship/fellowshiplaw10.LadderMeets", spec := "ladderMeets", inPlace := ["internal/reflectlite.TypeOf"], unfollowed := true, recurses := true, named := ["fellowship/api.ErrKey", "fellowship/field.many", "fellowship/api.ErrRange", "fellowship/api.ErrShort", "fellowship/api.ErrLong", "fellowship/api.ErrForm", "fellowship/api.ErrSign", "fellowship/api.ErrSeal", "fellowship/api.ErrEpoch", "fellowship/api.ErrGroup", "fellowship/api.ErrSender", "fellowship/api.ErrLeaf", "fellowship/api.ErrOffer", "fellowship/api.ErrPath", "fellowship/api.ErrTag", "fellowship/api.ErrNone", "fellowship/api.ErrRemoved", "fellowship/api.ErrFull", "fellowship/api.ErrState", "fellowship/api.ErrTwice"], apart := false, laid := [("fellowship/api.ErrRange", laid_fellowship_api_ErrRange), ("fellowship/api.ErrShort", laid_fellowship_api_ErrShort), ("fellowship/api.ErrLong", laid_fellowship_api_ErrLong), ("fellowship/api.ErrForm", laid_fellowship_api_ErrForm), ("fellowship/api.ErrKey", laid_fellowship_api_ErrKey), ("fellowship/api.ErrSign", laid_fellowship_api_ErrSign), ("fellowship/api.ErrSeal", laid_fellowship_api_ErrSeal), ("fellowship/api.ErrEpoch", laid_fellowship_api_ErrEpoch), ("fellowship/api.ErrGroup", laid_fellowship_api_ErrGroup), ("fellowship/api.ErrSender", laid_fellowship_api_ErrSender), ("fellowship/api.ErrLeaf", laid_fellowship_api_ErrLeaf), ("fellowship/api.ErrOffer", laid_fellowship_api_ErrOffer), ("fellowship/api.ErrPath", laid_fellowship_api_ErrPath), ("fellowship/api.ErrTag", laid_fellowship_api_ErrTag), ("fellowship/api.ErrNone", laid_fellowship_api_ErrNone), ("fellowship/api.ErrRemoved", laid_fellowship_api_ErrRemoved), ("fellowship/api.ErrFull", laid_fellowship_api_ErrFull), ("fellowship/api.ErrState", laid_fellowship_api_ErrState), ("fellowship/api.ErrTwice", laid_fellowship_api_ErrTwice), ("fellowship/field.many", laid_fellowship_field_many)] }
def LadderMeetsSaid : Prop := ladderMeetsRow.holds Tryd.pinned (OpenSpec.ofChange ladderMeetsSpec)

/-- ITS FALSE NEIGHBOUR: 'it returns false'. Refute it at one input. -/
def ladderMeetsWrong : ChangeSpec := { name := "ladderMeets", fn := fun _ => fun
  | [d1, d2] => { results := [.lit (.bool false)], args := [d1, d2] }
  | _ => none }
def LadderMeetsWrongFalsely : Prop := ladderMeetsRow.holds Tryd.pinned (OpenSpec.ofChange ladderMeetsWrong)

/- THE SECOND FORM. 'bulk': how many values and letters a reading holds, each counted each time it is reached (what is shared counts as often as it is met; a slice's spare places count too). A statement '..UptoSaid' is the law's where the arguments, and the package variables that the reading takes, are together of bulk at most 1048576: NARROWER than '..Said'. Prove '..Said' where nothing that the law and all that it calls make is longer than what came in: it says more and counts as full. Else prove '..UptoSaid'. A law counts once. -/
mutual
def uptoBulk {H : Type} : DataW H → Nat
  | .lit (.string bytes) => bytes.length + 1
  | .lit _ => 1
  | .nil => 1
  | .ptr d => uptoBulk d + 1
  | .slice elems spare => uptoBulkAll elems + uptoBulkAll spare + 1
  | .agg parts => uptoBulkAll parts + 1
  | .iface _ d => uptoBulk d + 1
  | .map entries => uptoBulkEntries entries + 1
  | .held _ => 1
def uptoBulkAll {H : Type} : List (DataW H) → Nat
  | [] => 0
  | d :: r => uptoBulk d + uptoBulkAll r
def uptoBulkEntries {H : Type} : List (Lit × DataW H) → Nat
  | [] => 0
  | x :: r => uptoBulkEntry x + uptoBulkEntries r
def uptoBulkEntry {H : Type} : Lit × DataW H → Nat
  | (.string bytes, d) => bytes.length + uptoBulk d + 1
  | (_, d) => uptoBulk d + 1
 end
def uptoSmall : (H : Type) → List (DataW H) → Bool := fun _ ds => decide (uptoBulkAll ds ≤ 1048576)
def OpenSpec.upto (s : _root_.Go.ChangeSpec) : _root_.Go.OpenSpec := { _root_.Go.OpenSpec.ofChange s with cond := some uptoSmall }

/-- 'fellowshiplaw09.FieldSums', WHERE WHAT IT READS IS OF BULK AT MOST 1048576: true; the input reads as it did. -/
def fieldSumsUptoRow : OpenClaim := { program := "ytganankiiipkgaadoor", sum := "aaea7f84a3e0f478f079bccd091053fae30610407d7f32594ed4aff40af176de", func := "fellowship/fellowshiplaw09.FieldSums", spec := "fieldSums", named := ["fellowship/field.many"], apart := false, laid := [("fellowship/field.many", laid_fellowship_field_many)], narrowed := true }
def FieldSumsUptoSaid : Prop := fieldSumsUptoRow.holds Tryd.pinned (OpenSpec.upto fieldSumsSpec)

/-- 'fellowshiplaw09.FieldReads', WHERE WHAT IT READS IS OF BULK AT MOST 1048576: true; the input reads as it did. -/
def fieldReadsUptoRow : OpenClaim := { program := "ytganankiiipkgaadoor", sum := "aaea7f84a3e0f478f079bccd091053fae30610407d7f32594ed4aff40af176de", func := "fellowship/fellowshiplaw09.FieldReads", spec := "fieldReads", inPlace := ["internal/reflectlite.TypeOf"], unfollowed := true, recurses := true, named := ["fellowship/field.many", "fellowship/api.ErrForm", "fellowship/api.ErrRange", "fellowship/api.ErrShort", "fellowship/api.ErrLong", "fellowship/api.ErrKey", "fellowship/api.ErrSign", "fellowship/api.ErrSeal", "fellowship/api.ErrEpoch", "fellowship/api.ErrGroup", "fellowship/api.ErrSender", "fellowship/api.ErrLeaf", "fellowship/api.ErrOffer", "fellowship/api.ErrPath", "fellowship/api.ErrTag", "fellowship/api.ErrNone", "fellowship/api.ErrRemoved", "fellowship/api.ErrFull", "fellowship/api.ErrState", "fellowship/api.ErrTwice"], apart := false, laid := [("fellowship/api.ErrRange", laid_fellowship_api_ErrRange), ("fellowship/api.ErrShort", laid_fellowship_api_ErrShort), ("fellowship/api.ErrLong", laid_fellowship_api_ErrLong), ("fellowship/api.ErrForm", laid_fellowship_api_ErrForm), ("fellowship/api.ErrKey", laid_fellowship_api_ErrKey), ("fellowship/api.ErrSign", laid_fellowship_api_ErrSign), ("fellowship/api.ErrSeal", laid_fellowship_api_ErrSeal), ("fellowship/api.ErrEpoch", laid_fellowship_api_ErrEpoch), ("fellowship/api.ErrGroup", laid_fellowship_api_ErrGroup), ("fellowship/api.ErrSender", laid_fellowship_api_ErrSender), ("fellowship/api.ErrLeaf", laid_fellowship_api_ErrLeaf), ("fellowship/api.ErrOffer", laid_fellowship_api_ErrOffer), ("fellowship/api.ErrPath", laid_fellowship_api_ErrPath), ("fellowship/api.ErrTag", laid_fellowship_api_ErrTag), ("fellowship/api.ErrNone", laid_fellowship_api_ErrNone), ("fellowship/api.ErrRemoved", laid_fellowship_api_ErrRemoved), ("fellowship/api.ErrFull", laid_fellowship_api_ErrFull), ("fellowship/api.ErrState", laid_fellowship_api_ErrState), ("fellowship/api.ErrTwice", laid_fellowship_api_ErrTwice), ("fellowship/field.many", laid_fellowship_field_many)], narrowed := true }
def FieldReadsUptoSaid : Prop := fieldReadsUptoRow.holds Tryd.pinned (OpenSpec.upto fieldReadsSpec)

/-- 'fellowshiplaw09.FieldInverts', WHERE WHAT IT READS IS OF BULK AT MOST 1048576: true; the input reads as it did. -/
def fieldInvertsUptoRow : OpenClaim := { program := "ytganankiiipkgaadoor", sum := "aaea7f84a3e0f478f079bccd091053fae30610407d7f32594ed4aff40af176de", func := "fellowship/fellowshiplaw09.FieldInverts", spec := "fieldInverts", named := ["fellowship/field.many", "fellowship/field.minus"], apart := false, laid := [("fellowship/field.many", laid_fellowship_field_many), ("fellowship/field.minus", laid_fellowship_field_minus)], narrowed := true }
def FieldInvertsUptoSaid : Prop := fieldInvertsUptoRow.holds Tryd.pinned (OpenSpec.upto fieldInvertsSpec)

/-- 'fellowshiplaw09.FieldChains', WHERE WHAT IT READS IS OF BULK AT MOST 1048576: true; the input reads as it did. -/
def fieldChainsUptoRow : OpenClaim := { program := "ytganankiiipkgaadoor", sum := "aaea7f84a3e0f478f079bccd091053fae30610407d7f32594ed4aff40af176de", func := "fellowship/fellowshiplaw09.FieldChains", spec := "fieldChains", named := ["fellowship/field.many"], apart := false, laid := [("fellowship/field.many", laid_fellowship_field_many)], narrowed := true }
def FieldChainsUptoSaid : Prop := fieldChainsUptoRow.holds Tryd.pinned (OpenSpec.upto fieldChainsSpec)

/-- 'fellowshiplaw09.FieldRoots', WHERE WHAT IT READS IS OF BULK AT MOST 1048576: true; the input reads as it did. -/
def fieldRootsUptoRow : OpenClaim := { program := "ytganankiiipkgaadoor", sum := "aaea7f84a3e0f478f079bccd091053fae30610407d7f32594ed4aff40af176de", func := "fellowship/fellowshiplaw09.FieldRoots", spec := "fieldRoots", named := ["fellowship/field.many", "fellowship/field.minus"], apart := false, laid := [("fellowship/field.many", laid_fellowship_field_many), ("fellowship/field.minus", laid_fellowship_field_minus)], narrowed := true }
def FieldRootsUptoSaid : Prop := fieldRootsUptoRow.holds Tryd.pinned (OpenSpec.upto fieldRootsSpec)

/-- 'fellowshiplaw10.LadderMults', WHERE WHAT IT READS IS OF BULK AT MOST 1048576: true; the input reads as it did. -/
def ladderMultsUptoRow : OpenClaim := { program := "ytganankiiipkgaadoor", sum := "aaea7f84a3e0f478f079bccd091053fae30610407d7f32594ed4aff40af176de", func := "fellowship/fellowshiplaw10.LadderMults", spec := "ladderMults", inPlace := ["internal/reflectlite.TypeOf"], unfollowed := true, recurses := true, named := ["fellowship/api.ErrKey", "fellowship/field.many", "fellowship/api.ErrRange", "fellowship/api.ErrShort", "fellowship/api.ErrLong", "fellowship/api.ErrForm", "fellowship/api.ErrSign", "fellowship/api.ErrSeal", "fellowship/api.ErrEpoch", "fellowship/api.ErrGroup", "fellowship/api.ErrSender", "fellowship/api.ErrLeaf", "fellowship/api.ErrOffer", "fellowship/api.ErrPath", "fellowship/api.ErrTag", "fellowship/api.ErrNone", "fellowship/api.ErrRemoved", "fellowship/api.ErrFull", "fellowship/api.ErrState", "fellowship/api.ErrTwice"], apart := false, laid := [("fellowship/api.ErrRange", laid_fellowship_api_ErrRange), ("fellowship/api.ErrShort", laid_fellowship_api_ErrShort), ("fellowship/api.ErrLong", laid_fellowship_api_ErrLong), ("fellowship/api.ErrForm", laid_fellowship_api_ErrForm), ("fellowship/api.ErrKey", laid_fellowship_api_ErrKey), ("fellowship/api.ErrSign", laid_fellowship_api_ErrSign), ("fellowship/api.ErrSeal", laid_fellowship_api_ErrSeal), ("fellowship/api.ErrEpoch", laid_fellowship_api_ErrEpoch), ("fellowship/api.ErrGroup", laid_fellowship_api_ErrGroup), ("fellowship/api.ErrSender", laid_fellowship_api_ErrSender), ("fellowship/api.ErrLeaf", laid_fellowship_api_ErrLeaf), ("fellowship/api.ErrOffer", laid_fellowship_api_ErrOffer), ("fellowship/api.ErrPath", laid_fellowship_api_ErrPath), ("fellowship/api.ErrTag", laid_fellowship_api_ErrTag), ("fellowship/api.ErrNone", laid_fellowship_api_ErrNone), ("fellowship/api.ErrRemoved", laid_fellowship_api_ErrRemoved), ("fellowship/api.ErrFull", laid_fellowship_api_ErrFull), ("fellowship/api.ErrState", laid_fellowship_api_ErrState), ("fellowship/api.ErrTwice", laid_fellowship_api_ErrTwice), ("fellowship/field.many", laid_fellowship_field_many)], narrowed := true }
def LadderMultsUptoSaid : Prop := ladderMultsUptoRow.holds Tryd.pinned (OpenSpec.upto ladderMultsSpec)

/-- 'fellowshiplaw10.LadderBases', WHERE WHAT IT READS IS OF BULK AT MOST 1048576: true; the input reads as it did. -/
def ladderBasesUptoRow : OpenClaim := { program := "ytganankiiipkgaadoor", sum := "aaea7f84a3e0f478f079bccd091053fae30610407d7f32594ed4aff40af176de", func := "fellowship/fellowshiplaw10.LadderBases", spec := "ladderBases", inPlace := ["internal/reflectlite.TypeOf"], unfollowed := true, recurses := true, named := ["fellowship/api.ErrKey", "fellowship/field.many", "fellowship/api.ErrRange", "fellowship/api.ErrShort", "fellowship/api.ErrLong", "fellowship/api.ErrForm", "fellowship/api.ErrSign", "fellowship/api.ErrSeal", "fellowship/api.ErrEpoch", "fellowship/api.ErrGroup", "fellowship/api.ErrSender", "fellowship/api.ErrLeaf", "fellowship/api.ErrOffer", "fellowship/api.ErrPath", "fellowship/api.ErrTag", "fellowship/api.ErrNone", "fellowship/api.ErrRemoved", "fellowship/api.ErrFull", "fellowship/api.ErrState", "fellowship/api.ErrTwice"], apart := false, laid := [("fellowship/api.ErrRange", laid_fellowship_api_ErrRange), ("fellowship/api.ErrShort", laid_fellowship_api_ErrShort), ("fellowship/api.ErrLong", laid_fellowship_api_ErrLong), ("fellowship/api.ErrForm", laid_fellowship_api_ErrForm), ("fellowship/api.ErrKey", laid_fellowship_api_ErrKey), ("fellowship/api.ErrSign", laid_fellowship_api_ErrSign), ("fellowship/api.ErrSeal", laid_fellowship_api_ErrSeal), ("fellowship/api.ErrEpoch", laid_fellowship_api_ErrEpoch), ("fellowship/api.ErrGroup", laid_fellowship_api_ErrGroup), ("fellowship/api.ErrSender", laid_fellowship_api_ErrSender), ("fellowship/api.ErrLeaf", laid_fellowship_api_ErrLeaf), ("fellowship/api.ErrOffer", laid_fellowship_api_ErrOffer), ("fellowship/api.ErrPath", laid_fellowship_api_ErrPath), ("fellowship/api.ErrTag", laid_fellowship_api_ErrTag), ("fellowship/api.ErrNone", laid_fellowship_api_ErrNone), ("fellowship/api.ErrRemoved", laid_fellowship_api_ErrRemoved), ("fellowship/api.ErrFull", laid_fellowship_api_ErrFull), ("fellowship/api.ErrState", laid_fellowship_api_ErrState), ("fellowship/api.ErrTwice", laid_fellowship_api_ErrTwice), ("fellowship/field.many", laid_fellowship_field_many)], narrowed := true }
def LadderBasesUptoSaid : Prop := ladderBasesUptoRow.holds Tryd.pinned (OpenSpec.upto ladderBasesSpec)

/-- 'fellowshiplaw10.LadderMeets', WHERE WHAT IT READS IS OF BULK AT MOST 1048576: true; the input reads as it did. -/
def ladderMeetsUptoRow : OpenClaim := { program := "ytganankiiipkgaadoor", sum := "aaea7f84a3e0f478f079bccd091053fae30610407d7f32594ed4aff40af176de", func := "fellowship/fellowshiplaw10.LadderMeets", spec := "ladderMeets", inPlace := ["internal/reflectlite.TypeOf"], unfollowed := true, recurses := true, named := ["fellowship/api.ErrKey", "fellowship/field.many", "fellowship/api.ErrRange", "fellowship/api.ErrShort", "fellowship/api.ErrLong", "fellowship/api.ErrForm", "fellowship/api.ErrSign", "fellowship/api.ErrSeal", "fellowship/api.ErrEpoch", "fellowship/api.ErrGroup", "fellowship/api.ErrSender", "fellowship/api.ErrLeaf", "fellowship/api.ErrOffer", "fellowship/api.ErrPath", "fellowship/api.ErrTag", "fellowship/api.ErrNone", "fellowship/api.ErrRemoved", "fellowship/api.ErrFull", "fellowship/api.ErrState", "fellowship/api.ErrTwice"], apart := false, laid := [("fellowship/api.ErrRange", laid_fellowship_api_ErrRange), ("fellowship/api.ErrShort", laid_fellowship_api_ErrShort), ("fellowship/api.ErrLong", laid_fellowship_api_ErrLong), ("fellowship/api.ErrForm", laid_fellowship_api_ErrForm), ("fellowship/api.ErrKey", laid_fellowship_api_ErrKey), ("fellowship/api.ErrSign", laid_fellowship_api_ErrSign), ("fellowship/api.ErrSeal", laid_fellowship_api_ErrSeal), ("fellowship/api.ErrEpoch", laid_fellowship_api_ErrEpoch), ("fellowship/api.ErrGroup", laid_fellowship_api_ErrGroup), ("fellowship/api.ErrSender", laid_fellowship_api_ErrSender), ("fellowship/api.ErrLeaf", laid_fellowship_api_ErrLeaf), ("fellowship/api.ErrOffer", laid_fellowship_api_ErrOffer), ("fellowship/api.ErrPath", laid_fellowship_api_ErrPath), ("fellowship/api.ErrTag", laid_fellowship_api_ErrTag), ("fellowship/api.ErrNone", laid_fellowship_api_ErrNone), ("fellowship/api.ErrRemoved", laid_fellowship_api_ErrRemoved), ("fellowship/api.ErrFull", laid_fellowship_api_ErrFull), ("fellowship/api.ErrState", laid_fellowship_api_ErrState), ("fellowship/api.ErrTwice", laid_fellowship_api_ErrTwice), ("fellowship/field.many", laid_fellowship_field_many)], narrowed := true }
def LadderMeetsUptoSaid : Prop := ladderMeetsUptoRow.holds Tryd.pinned (OpenSpec.upto ladderMeetsSpec)

end Rows
end Go.Proofs.YtganankiiipkgaaDoor
