/-
  NARROWER THAN 'FOR EVERY INPUT', by the rows' own cells (each row's printed sentence says how): WireWithin: laid · WireNums: laid · WireUnrows: laid · WireLong: laid · WireRows: laid · PlacesCover: laid · PlacesMeet: laid.
  DERIVED. THE GIVEN ROWS OF THIS SEAT. 7 by the template 'for every input the law returns true; each argument reads behind the call as it read before'; 0 by the template 'total and deterministic' (their statements: YtbliikcgcgalmaaDoorTotals.lean).
  GIVEN WITH THE SEED: the statements are not yours to turn. If you find one false, say at which input.
  Laid BY PROGRAM, IN A SANDBOX (cutbox-rows.mjs): the forced cells as the released guide's own fill.sh prints them over the translation fbbddabb2b5c62be… (all of the seat's roots in one cut). By AI agents, Wed Nov 11 2026. No macro, syntax, notation, axiom, sorry.
-/
import Derived.Test.YtbliikcgcgalmaaDoorChecked
import GoSem.Claim
import GoSem.ClaimJoined
import GoSem.ClaimMapViews
import Derived.JoinedTies
import Derived.KernelRfl
namespace Go.Proofs.YtbliikcgcgalmaaDoor
/- THE CELL 'sum', in the pinned program and in every row, IS THE sha256 OF THE DUMP (.gsa) THAT YtbliikcgcgalmaaDoorProg.lean LOADS. Nothing in Lean hashes anything: it is a label: what it is worth is what the hold of that sum in a sandbox is worth. -/
noncomputable def Tryd.pinned : Pinned := { name := "ytbliikcgcgalmaadoor", sum := "fbbddabb2b5c62be7c3f9076112fce1550d2df883dfb7ffabdd5d9d56fb7a6f4", checked := Tryd.checked }
namespace Rows
def none {H : Type} : Left H := { results := [], args := [] }

/- WHAT THE LISTED PACKAGE-LEVEL VARIABLES READ AS WHEN THE CALL BEGINS. Each datum BY PROGRAM (the guide's laid-datum.mjs) off the statement by which the dump's own 'gosem.cut.vars' lays the variable. In a bare row this is a premise. The card (YtbliikcgcgalmaaDoorCards.lean) ties it to the program's text. -/
def laid_fellowship_api_ErrRange {H : Type} : DataW H := .iface "*errors.errorString" (.ptr (.agg [.lit (.string [102, 101, 108, 108, 111, 119, 115, 104, 105, 112, 58, 32, 114, 97, 110, 103, 101])]))
def laid_fellowship_api_ErrShort {H : Type} : DataW H := .iface "*errors.errorString" (.ptr (.agg [.lit (.string [102, 101, 108, 108, 111, 119, 115, 104, 105, 112, 58, 32, 115, 104, 111, 114, 116])]))
def laid_fellowship_api_ErrLong {H : Type} : DataW H := .iface "*errors.errorString" (.ptr (.agg [.lit (.string [102, 101, 108, 108, 111, 119, 115, 104, 105, 112, 58, 32, 108, 111, 110, 103])]))
def laid_fellowship_api_ErrForm {H : Type} : DataW H := .iface "*errors.errorString" (.ptr (.agg [.lit (.string [102, 101, 108, 108, 111, 119, 115, 104, 105, 112, 58, 32, 102, 111, 114, 109])]))
def laid_fellowship_api_ErrKey {H : Type} : DataW H := .iface "*errors.errorString" (.ptr (.agg [.lit (.string [102, 101, 108, 108, 111, 119, 115, 104, 105, 112, 58, 32, 107, 101, 121])]))
def laid_fellowship_api_ErrSign {H : Type} : DataW H := .iface "*errors.errorString" (.ptr (.agg [.lit (.string [102, 101, 108, 108, 111, 119, 115, 104, 105, 112, 58, 32, 115, 105, 103, 110])]))
def laid_fellowship_api_ErrSeal {H : Type} : DataW H := .iface "*errors.errorString" (.ptr (.agg [.lit (.string [102, 101, 108, 108, 111, 119, 115, 104, 105, 112, 58, 32, 115, 101, 97, 108])]))
def laid_fellowship_api_ErrEpoch {H : Type} : DataW H := .iface "*errors.errorString" (.ptr (.agg [.lit (.string [102, 101, 108, 108, 111, 119, 115, 104, 105, 112, 58, 32, 101, 112, 111, 99, 104])]))
def laid_fellowship_api_ErrGroup {H : Type} : DataW H := .iface "*errors.errorString" (.ptr (.agg [.lit (.string [102, 101, 108, 108, 111, 119, 115, 104, 105, 112, 58, 32, 103, 114, 111, 117, 112])]))
def laid_fellowship_api_ErrSender {H : Type} : DataW H := .iface "*errors.errorString" (.ptr (.agg [.lit (.string [102, 101, 108, 108, 111, 119, 115, 104, 105, 112, 58, 32, 115, 101, 110, 100, 101, 114])]))
def laid_fellowship_api_ErrLeaf {H : Type} : DataW H := .iface "*errors.errorString" (.ptr (.agg [.lit (.string [102, 101, 108, 108, 111, 119, 115, 104, 105, 112, 58, 32, 108, 101, 97, 102])]))
def laid_fellowship_api_ErrOffer {H : Type} : DataW H := .iface "*errors.errorString" (.ptr (.agg [.lit (.string [102, 101, 108, 108, 111, 119, 115, 104, 105, 112, 58, 32, 111, 102, 102, 101, 114])]))
def laid_fellowship_api_ErrPath {H : Type} : DataW H := .iface "*errors.errorString" (.ptr (.agg [.lit (.string [102, 101, 108, 108, 111, 119, 115, 104, 105, 112, 58, 32, 112, 97, 116, 104])]))
def laid_fellowship_api_ErrTag {H : Type} : DataW H := .iface "*errors.errorString" (.ptr (.agg [.lit (.string [102, 101, 108, 108, 111, 119, 115, 104, 105, 112, 58, 32, 116, 97, 103])]))
def laid_fellowship_api_ErrNone {H : Type} : DataW H := .iface "*errors.errorString" (.ptr (.agg [.lit (.string [102, 101, 108, 108, 111, 119, 115, 104, 105, 112, 58, 32, 110, 111, 110, 101])]))
def laid_fellowship_api_ErrRemoved {H : Type} : DataW H := .iface "*errors.errorString" (.ptr (.agg [.lit (.string [102, 101, 108, 108, 111, 119, 115, 104, 105, 112, 58, 32, 114, 101, 109, 111, 118, 101, 100])]))
def laid_fellowship_api_ErrFull {H : Type} : DataW H := .iface "*errors.errorString" (.ptr (.agg [.lit (.string [102, 101, 108, 108, 111, 119, 115, 104, 105, 112, 58, 32, 102, 117, 108, 108])]))
def laid_fellowship_api_ErrState {H : Type} : DataW H := .iface "*errors.errorString" (.ptr (.agg [.lit (.string [102, 101, 108, 108, 111, 119, 115, 104, 105, 112, 58, 32, 115, 116, 97, 116, 101])]))
def laid_fellowship_api_ErrTwice {H : Type} : DataW H := .iface "*errors.errorString" (.ptr (.agg [.lit (.string [102, 101, 108, 108, 111, 119, 115, 104, 105, 112, 58, 32, 116, 119, 105, 99, 101])]))

/-- 'fellowshiplaw16.WireWithin': WHATEVER THE INPUT: true; the input reads as it did. -/
def wireWithinSpec : ChangeSpec := { name := "wireWithin", fn := fun _ => fun
  | [d1, d2] => { results := [.lit (.bool true)], args := [d1, d2] }
  | _ => none }
def wireWithinRow : OpenClaim := { program := "ytbliikcgcgalmaadoor", sum := "fbbddabb2b5c62be7c3f9076112fce1550d2df883dfb7ffabdd5d9d56fb7a6f4", func := "fellowship/fellowshiplaw16.WireWithin", spec := "wireWithin", named := ["fellowship/api.ErrLong", "fellowship/api.ErrRange", "fellowship/api.ErrForm", "fellowship/api.ErrShort"], apart := false, laid := [("fellowship/api.ErrRange", laid_fellowship_api_ErrRange), ("fellowship/api.ErrShort", laid_fellowship_api_ErrShort), ("fellowship/api.ErrLong", laid_fellowship_api_ErrLong), ("fellowship/api.ErrForm", laid_fellowship_api_ErrForm)] }
def WireWithinSaid : Prop := wireWithinRow.holds Tryd.pinned (OpenSpec.ofChange wireWithinSpec)

/-- ITS FALSE NEIGHBOUR: 'it returns false'. Refute it at one input. -/
def wireWithinWrong : ChangeSpec := { name := "wireWithin", fn := fun _ => fun
  | [d1, d2] => { results := [.lit (.bool false)], args := [d1, d2] }
  | _ => none }
def WireWithinWrongFalsely : Prop := wireWithinRow.holds Tryd.pinned (OpenSpec.ofChange wireWithinWrong)

/-- 'fellowshiplaw16.WireNums': WHATEVER THE INPUT: true; the input reads as it did. -/
def wireNumsSpec : ChangeSpec := { name := "wireNums", fn := fun _ => fun
  | [d1, d2] => { results := [.lit (.bool true)], args := [d1, d2] }
  | _ => none }
def wireNumsRow : OpenClaim := { program := "ytbliikcgcgalmaadoor", sum := "fbbddabb2b5c62be7c3f9076112fce1550d2df883dfb7ffabdd5d9d56fb7a6f4", func := "fellowship/fellowshiplaw16.WireNums", spec := "wireNums", inPlace := ["internal/reflectlite.TypeOf"], unfollowed := true, recurses := true, named := ["fellowship/api.ErrLong", "fellowship/api.ErrRange", "fellowship/api.ErrForm", "fellowship/api.ErrShort", "fellowship/api.ErrKey", "fellowship/api.ErrSign", "fellowship/api.ErrSeal", "fellowship/api.ErrEpoch", "fellowship/api.ErrGroup", "fellowship/api.ErrSender", "fellowship/api.ErrLeaf", "fellowship/api.ErrOffer", "fellowship/api.ErrPath", "fellowship/api.ErrTag", "fellowship/api.ErrNone", "fellowship/api.ErrRemoved", "fellowship/api.ErrFull", "fellowship/api.ErrState", "fellowship/api.ErrTwice"], apart := false, laid := [("fellowship/api.ErrRange", laid_fellowship_api_ErrRange), ("fellowship/api.ErrShort", laid_fellowship_api_ErrShort), ("fellowship/api.ErrLong", laid_fellowship_api_ErrLong), ("fellowship/api.ErrForm", laid_fellowship_api_ErrForm), ("fellowship/api.ErrKey", laid_fellowship_api_ErrKey), ("fellowship/api.ErrSign", laid_fellowship_api_ErrSign), ("fellowship/api.ErrSeal", laid_fellowship_api_ErrSeal), ("fellowship/api.ErrEpoch", laid_fellowship_api_ErrEpoch), ("fellowship/api.ErrGroup", laid_fellowship_api_ErrGroup), ("fellowship/api.ErrSender", laid_fellowship_api_ErrSender), ("fellowship/api.ErrLeaf", laid_fellowship_api_ErrLeaf), ("fellowship/api.ErrOffer", laid_fellowship_api_ErrOffer), ("fellowship/api.ErrPath", laid_fellowship_api_ErrPath), ("fellowship/api.ErrTag", laid_fellowship_api_ErrTag), ("fellowship/api.ErrNone", laid_fellowship_api_ErrNone), ("fellowship/api.ErrRemoved", laid_fellowship_api_ErrRemoved), ("fellowship/api.ErrFull", laid_fellowship_api_ErrFull), ("fellowship/api.ErrState", laid_fellowship_api_ErrState), ("fellowship/api.ErrTwice", laid_fellowship_api_ErrTwice)] }
def WireNumsSaid : Prop := wireNumsRow.holds Tryd.pinned (OpenSpec.ofChange wireNumsSpec)

/-- ITS FALSE NEIGHBOUR: 'it returns false'. Refute it at one input. -/
def wireNumsWrong : ChangeSpec := { name := "wireNums", fn := fun _ => fun
  | [d1, d2] => { results := [.lit (.bool false)], args := [d1, d2] }
  | _ => none }
def WireNumsWrongFalsely : Prop := wireNumsRow.holds Tryd.pinned (OpenSpec.ofChange wireNumsWrong)

/-- 'fellowshiplaw16.WireUnrows': WHATEVER THE INPUT: true; the input reads as it did. -/
def wireUnrowsSpec : ChangeSpec := { name := "wireUnrows", fn := fun _ => fun
  | [d] => { results := [.lit (.bool true)], args := [d] }
  | _ => none }
def wireUnrowsRow : OpenClaim := { program := "ytbliikcgcgalmaadoor", sum := "fbbddabb2b5c62be7c3f9076112fce1550d2df883dfb7ffabdd5d9d56fb7a6f4", func := "fellowship/fellowshiplaw16.WireUnrows", spec := "wireUnrows", inPlace := ["internal/reflectlite.TypeOf"], unfollowed := true, recurses := true, named := ["fellowship/api.ErrLong", "fellowship/api.ErrRange", "fellowship/api.ErrForm", "fellowship/api.ErrShort", "fellowship/api.ErrKey", "fellowship/api.ErrSign", "fellowship/api.ErrSeal", "fellowship/api.ErrEpoch", "fellowship/api.ErrGroup", "fellowship/api.ErrSender", "fellowship/api.ErrLeaf", "fellowship/api.ErrOffer", "fellowship/api.ErrPath", "fellowship/api.ErrTag", "fellowship/api.ErrNone", "fellowship/api.ErrRemoved", "fellowship/api.ErrFull", "fellowship/api.ErrState", "fellowship/api.ErrTwice"], apart := false, laid := [("fellowship/api.ErrRange", laid_fellowship_api_ErrRange), ("fellowship/api.ErrShort", laid_fellowship_api_ErrShort), ("fellowship/api.ErrLong", laid_fellowship_api_ErrLong), ("fellowship/api.ErrForm", laid_fellowship_api_ErrForm), ("fellowship/api.ErrKey", laid_fellowship_api_ErrKey), ("fellowship/api.ErrSign", laid_fellowship_api_ErrSign), ("fellowship/api.ErrSeal", laid_fellowship_api_ErrSeal), ("fellowship/api.ErrEpoch", laid_fellowship_api_ErrEpoch), ("fellowship/api.ErrGroup", laid_fellowship_api_ErrGroup), ("fellowship/api.ErrSender", laid_fellowship_api_ErrSender), ("fellowship/api.ErrLeaf", laid_fellowship_api_ErrLeaf), ("fellowship/api.ErrOffer", laid_fellowship_api_ErrOffer), ("fellowship/api.ErrPath", laid_fellowship_api_ErrPath), ("fellowship/api.ErrTag", laid_fellowship_api_ErrTag), ("fellowship/api.ErrNone", laid_fellowship_api_ErrNone), ("fellowship/api.ErrRemoved", laid_fellowship_api_ErrRemoved), ("fellowship/api.ErrFull", laid_fellowship_api_ErrFull), ("fellowship/api.ErrState", laid_fellowship_api_ErrState), ("fellowship/api.ErrTwice", laid_fellowship_api_ErrTwice)] }
def WireUnrowsSaid : Prop := wireUnrowsRow.holds Tryd.pinned (OpenSpec.ofChange wireUnrowsSpec)

/-- ITS FALSE NEIGHBOUR: 'it returns false'. Refute it at one input. -/
def wireUnrowsWrong : ChangeSpec := { name := "wireUnrows", fn := fun _ => fun
  | [d] => { results := [.lit (.bool false)], args := [d] }
  | _ => none }
def WireUnrowsWrongFalsely : Prop := wireUnrowsRow.holds Tryd.pinned (OpenSpec.ofChange wireUnrowsWrong)

/-- 'fellowshiplaw16.WireLong': WHATEVER THE INPUT: true; the input reads as it did. -/
def wireLongSpec : ChangeSpec := { name := "wireLong", fn := fun _ => fun
  | [d] => { results := [.lit (.bool true)], args := [d] }
  | _ => none }
def wireLongRow : OpenClaim := { program := "ytbliikcgcgalmaadoor", sum := "fbbddabb2b5c62be7c3f9076112fce1550d2df883dfb7ffabdd5d9d56fb7a6f4", func := "fellowship/fellowshiplaw16.WireLong", spec := "wireLong", inPlace := ["internal/reflectlite.TypeOf"], unfollowed := true, recurses := true, named := ["fellowship/api.ErrLong", "fellowship/api.ErrRange", "fellowship/api.ErrForm", "fellowship/api.ErrShort", "fellowship/api.ErrKey", "fellowship/api.ErrSign", "fellowship/api.ErrSeal", "fellowship/api.ErrEpoch", "fellowship/api.ErrGroup", "fellowship/api.ErrSender", "fellowship/api.ErrLeaf", "fellowship/api.ErrOffer", "fellowship/api.ErrPath", "fellowship/api.ErrTag", "fellowship/api.ErrNone", "fellowship/api.ErrRemoved", "fellowship/api.ErrFull", "fellowship/api.ErrState", "fellowship/api.ErrTwice"], apart := false, laid := [("fellowship/api.ErrRange", laid_fellowship_api_ErrRange), ("fellowship/api.ErrShort", laid_fellowship_api_ErrShort), ("fellowship/api.ErrLong", laid_fellowship_api_ErrLong), ("fellowship/api.ErrForm", laid_fellowship_api_ErrForm), ("fellowship/api.ErrKey", laid_fellowship_api_ErrKey), ("fellowship/api.ErrSign", laid_fellowship_api_ErrSign), ("fellowship/api.ErrSeal", laid_fellowship_api_ErrSeal), ("fellowship/api.ErrEpoch", laid_fellowship_api_ErrEpoch), ("fellowship/api.ErrGroup", laid_fellowship_api_ErrGroup), ("fellowship/api.ErrSender", laid_fellowship_api_ErrSender), ("fellowship/api.ErrLeaf", laid_fellowship_api_ErrLeaf), ("fellowship/api.ErrOffer", laid_fellowship_api_ErrOffer), ("fellowship/api.ErrPath", laid_fellowship_api_ErrPath), ("fellowship/api.ErrTag", laid_fellowship_api_ErrTag), ("fellowship/api.ErrNone", laid_fellowship_api_ErrNone), ("fellowship/api.ErrRemoved", laid_fellowship_api_ErrRemoved), ("fellowship/api.ErrFull", laid_fellowship_api_ErrFull), ("fellowship/api.ErrState", laid_fellowship_api_ErrState), ("fellowship/api.ErrTwice", laid_fellowship_api_ErrTwice)] }
def WireLongSaid : Prop := wireLongRow.holds Tryd.pinned (OpenSpec.ofChange wireLongSpec)

/-- ITS FALSE NEIGHBOUR: 'it returns false'. Refute it at one input. -/
def wireLongWrong : ChangeSpec := { name := "wireLong", fn := fun _ => fun
  | [d] => { results := [.lit (.bool false)], args := [d] }
  | _ => none }
def WireLongWrongFalsely : Prop := wireLongRow.holds Tryd.pinned (OpenSpec.ofChange wireLongWrong)

/-- 'fellowshiplaw16.WireRows': WHATEVER THE INPUT: true; the input reads as it did. -/
def wireRowsSpec : ChangeSpec := { name := "wireRows", fn := fun _ => fun
  | [d] => { results := [.lit (.bool true)], args := [d] }
  | _ => none }
def wireRowsRow : OpenClaim := { program := "ytbliikcgcgalmaadoor", sum := "fbbddabb2b5c62be7c3f9076112fce1550d2df883dfb7ffabdd5d9d56fb7a6f4", func := "fellowship/fellowshiplaw16.WireRows", spec := "wireRows", inPlace := ["internal/reflectlite.TypeOf"], unfollowed := true, recurses := true, named := ["fellowship/api.ErrLong", "fellowship/api.ErrRange", "fellowship/api.ErrShort", "fellowship/api.ErrForm", "fellowship/api.ErrKey", "fellowship/api.ErrSign", "fellowship/api.ErrSeal", "fellowship/api.ErrEpoch", "fellowship/api.ErrGroup", "fellowship/api.ErrSender", "fellowship/api.ErrLeaf", "fellowship/api.ErrOffer", "fellowship/api.ErrPath", "fellowship/api.ErrTag", "fellowship/api.ErrNone", "fellowship/api.ErrRemoved", "fellowship/api.ErrFull", "fellowship/api.ErrState", "fellowship/api.ErrTwice"], apart := false, laid := [("fellowship/api.ErrRange", laid_fellowship_api_ErrRange), ("fellowship/api.ErrShort", laid_fellowship_api_ErrShort), ("fellowship/api.ErrLong", laid_fellowship_api_ErrLong), ("fellowship/api.ErrForm", laid_fellowship_api_ErrForm), ("fellowship/api.ErrKey", laid_fellowship_api_ErrKey), ("fellowship/api.ErrSign", laid_fellowship_api_ErrSign), ("fellowship/api.ErrSeal", laid_fellowship_api_ErrSeal), ("fellowship/api.ErrEpoch", laid_fellowship_api_ErrEpoch), ("fellowship/api.ErrGroup", laid_fellowship_api_ErrGroup), ("fellowship/api.ErrSender", laid_fellowship_api_ErrSender), ("fellowship/api.ErrLeaf", laid_fellowship_api_ErrLeaf), ("fellowship/api.ErrOffer", laid_fellowship_api_ErrOffer), ("fellowship/api.ErrPath", laid_fellowship_api_ErrPath), ("fellowship/api.ErrTag", laid_fellowship_api_ErrTag), ("fellowship/api.ErrNone", laid_fellowship_api_ErrNone), ("fellowship/api.ErrRemoved", laid_fellowship_api_ErrRemoved), ("fellowship/api.ErrFull", laid_fellowship_api_ErrFull), ("fellowship/api.ErrState", laid_fellowship_api_ErrState), ("fellowship/api.ErrTwice", laid_fellowship_api_ErrTwice)] }
def WireRowsSaid : Prop := wireRowsRow.holds Tryd.pinned (OpenSpec.ofChange wireRowsSpec)

/-- ITS FALSE NEIGHBOUR: 'it returns false'. Refute it at one input. -/
def wireRowsWrong : ChangeSpec := { name := "wireRows", fn := fun _ => fun
  | [d] => { results := [.lit (.bool false)], args := [d] }
  | _ => none }
def WireRowsWrongFalsely : Prop := wireRowsRow.holds Tryd.pinned (OpenSpec.ofChange wireRowsWrong)

/-- 'fellowshiplaw17.PlacesCover': WHATEVER THE INPUT: true; the input reads as it did. -/
def placesCoverSpec : ChangeSpec := { name := "placesCover", fn := fun _ => fun
  | [d1, d2] => { results := [.lit (.bool true)], args := [d1, d2] }
  | _ => none }
def placesCoverRow : OpenClaim := { program := "ytbliikcgcgalmaadoor", sum := "fbbddabb2b5c62be7c3f9076112fce1550d2df883dfb7ffabdd5d9d56fb7a6f4", func := "fellowship/fellowshiplaw17.PlacesCover", spec := "placesCover", named := ["fellowship/api.ErrRange", "fellowship/api.ErrNone", "fellowship/api.ErrLeaf"], apart := false, laid := [("fellowship/api.ErrRange", laid_fellowship_api_ErrRange), ("fellowship/api.ErrLeaf", laid_fellowship_api_ErrLeaf), ("fellowship/api.ErrNone", laid_fellowship_api_ErrNone)] }
def PlacesCoverSaid : Prop := placesCoverRow.holds Tryd.pinned (OpenSpec.ofChange placesCoverSpec)

/-- ITS FALSE NEIGHBOUR: 'it returns false'. Refute it at one input. -/
def placesCoverWrong : ChangeSpec := { name := "placesCover", fn := fun _ => fun
  | [d1, d2] => { results := [.lit (.bool false)], args := [d1, d2] }
  | _ => none }
def PlacesCoverWrongFalsely : Prop := placesCoverRow.holds Tryd.pinned (OpenSpec.ofChange placesCoverWrong)

/-- 'fellowshiplaw17.PlacesMeet': WHATEVER THE INPUT: true; the input reads as it did. -/
def placesMeetSpec : ChangeSpec := { name := "placesMeet", fn := fun _ => fun
  | [d1, d2, d3] => { results := [.lit (.bool true)], args := [d1, d2, d3] }
  | _ => none }
def placesMeetRow : OpenClaim := { program := "ytbliikcgcgalmaadoor", sum := "fbbddabb2b5c62be7c3f9076112fce1550d2df883dfb7ffabdd5d9d56fb7a6f4", func := "fellowship/fellowshiplaw17.PlacesMeet", spec := "placesMeet", inPlace := ["internal/reflectlite.TypeOf"], unfollowed := true, recurses := true, named := ["fellowship/api.ErrRange", "fellowship/api.ErrNone", "fellowship/api.ErrLeaf", "fellowship/api.ErrShort", "fellowship/api.ErrLong", "fellowship/api.ErrForm", "fellowship/api.ErrKey", "fellowship/api.ErrSign", "fellowship/api.ErrSeal", "fellowship/api.ErrEpoch", "fellowship/api.ErrGroup", "fellowship/api.ErrSender", "fellowship/api.ErrOffer", "fellowship/api.ErrPath", "fellowship/api.ErrTag", "fellowship/api.ErrRemoved", "fellowship/api.ErrFull", "fellowship/api.ErrState", "fellowship/api.ErrTwice"], apart := false, laid := [("fellowship/api.ErrRange", laid_fellowship_api_ErrRange), ("fellowship/api.ErrShort", laid_fellowship_api_ErrShort), ("fellowship/api.ErrLong", laid_fellowship_api_ErrLong), ("fellowship/api.ErrForm", laid_fellowship_api_ErrForm), ("fellowship/api.ErrKey", laid_fellowship_api_ErrKey), ("fellowship/api.ErrSign", laid_fellowship_api_ErrSign), ("fellowship/api.ErrSeal", laid_fellowship_api_ErrSeal), ("fellowship/api.ErrEpoch", laid_fellowship_api_ErrEpoch), ("fellowship/api.ErrGroup", laid_fellowship_api_ErrGroup), ("fellowship/api.ErrSender", laid_fellowship_api_ErrSender), ("fellowship/api.ErrLeaf", laid_fellowship_api_ErrLeaf), ("fellowship/api.ErrOffer", laid_fellowship_api_ErrOffer), ("fellowship/api.ErrPath", laid_fellowship_api_ErrPath), ("fellowship/api.ErrTag", laid_fellowship_api_ErrTag), ("fellowship/api.ErrNone", laid_fellowship_api_ErrNone), ("fellowship/api.ErrRemoved", laid_fellowship_api_ErrRemoved), ("fellowship/api.ErrFull", laid_fellowship_api_ErrFull), ("fellowship/api.ErrState", laid_fellowship_api_ErrState), ("fellowship/api.ErrTwice", laid_fellowship_api_ErrTwice)] }
def PlacesMeetSaid : Prop := placesMeetRow.holds Tryd.pinned (OpenSpec.ofChange placesMeetSpec)

/-- ITS FALSE NEIGHBOUR: 'it returns false'. Refute it at one input. -/
def placesMeetWrong : ChangeSpec := { name := "placesMeet", fn := fun _ => fun
  | [d1, d2, d3] => { results := [.lit (.bool false)], args := [d1, d2, d3] }
  | _ => none }
def PlacesMeetWrongFalsely : Prop := placesMeetRow.holds Tryd.pinned (OpenSpec.ofChange placesMeetWrong)

/- THE SECOND FORM. 'bulk': how many values and letters a reading holds, each counted each time it is reached (what is shared counts as often as it is met; a slice's spare places count too). A statement '..UptoSaid' is the law's where the arguments, and the package variables that the reading takes, are together of bulk at most 1048576: NARROWER than '..Said'. Prove '..Said' where nothing that the law and all that it calls make is longer than what came in: it says more and counts as full. Else prove '..UptoSaid'. A law counts once. -/
mutual
def uptoBulk {H : Type} : DataW H → Nat
  | .lit (.string bytes) => bytes.length + 1
  | .lit _ => 1
  | .nil => 1
  | .ptr d => uptoBulk d + 1
  | .slice elems spare => uptoBulkAll elems + uptoBulkAll spare + 1
  | .agg parts => uptoBulkAll parts + 1
  | .iface _ d => uptoBulk d + 1
  | .map entries => uptoBulkEntries entries + 1
  | .held _ => 1
def uptoBulkAll {H : Type} : List (DataW H) → Nat
  | [] => 0
  | d :: r => uptoBulk d + uptoBulkAll r
def uptoBulkEntries {H : Type} : List (Lit × DataW H) → Nat
  | [] => 0
  | x :: r => uptoBulkEntry x + uptoBulkEntries r
def uptoBulkEntry {H : Type} : Lit × DataW H → Nat
  | (.string bytes, d) => bytes.length + uptoBulk d + 1
  | (_, d) => uptoBulk d + 1
 end
def uptoSmall : (H : Type) → List (DataW H) → Bool := fun _ ds => decide (uptoBulkAll ds ≤ 1048576)
def OpenSpec.upto (s : _root_.Go.ChangeSpec) : _root_.Go.OpenSpec := { _root_.Go.OpenSpec.ofChange s with cond := some uptoSmall }

/-- 'fellowshiplaw16.WireWithin', WHERE WHAT IT READS IS OF BULK AT MOST 1048576: true; the input reads as it did. -/
def wireWithinUptoRow : OpenClaim := { program := "ytbliikcgcgalmaadoor", sum := "fbbddabb2b5c62be7c3f9076112fce1550d2df883dfb7ffabdd5d9d56fb7a6f4", func := "fellowship/fellowshiplaw16.WireWithin", spec := "wireWithin", named := ["fellowship/api.ErrLong", "fellowship/api.ErrRange", "fellowship/api.ErrForm", "fellowship/api.ErrShort"], apart := false, laid := [("fellowship/api.ErrRange", laid_fellowship_api_ErrRange), ("fellowship/api.ErrShort", laid_fellowship_api_ErrShort), ("fellowship/api.ErrLong", laid_fellowship_api_ErrLong), ("fellowship/api.ErrForm", laid_fellowship_api_ErrForm)], narrowed := true }
def WireWithinUptoSaid : Prop := wireWithinUptoRow.holds Tryd.pinned (OpenSpec.upto wireWithinSpec)

/-- 'fellowshiplaw16.WireNums', WHERE WHAT IT READS IS OF BULK AT MOST 1048576: true; the input reads as it did. -/
def wireNumsUptoRow : OpenClaim := { program := "ytbliikcgcgalmaadoor", sum := "fbbddabb2b5c62be7c3f9076112fce1550d2df883dfb7ffabdd5d9d56fb7a6f4", func := "fellowship/fellowshiplaw16.WireNums", spec := "wireNums", inPlace := ["internal/reflectlite.TypeOf"], unfollowed := true, recurses := true, named := ["fellowship/api.ErrLong", "fellowship/api.ErrRange", "fellowship/api.ErrForm", "fellowship/api.ErrShort", "fellowship/api.ErrKey", "fellowship/api.ErrSign", "fellowship/api.ErrSeal", "fellowship/api.ErrEpoch", "fellowship/api.ErrGroup", "fellowship/api.ErrSender", "fellowship/api.ErrLeaf", "fellowship/api.ErrOffer", "fellowship/api.ErrPath", "fellowship/api.ErrTag", "fellowship/api.ErrNone", "fellowship/api.ErrRemoved", "fellowship/api.ErrFull", "fellowship/api.ErrState", "fellowship/api.ErrTwice"], apart := false, laid := [("fellowship/api.ErrRange", laid_fellowship_api_ErrRange), ("fellowship/api.ErrShort", laid_fellowship_api_ErrShort), ("fellowship/api.ErrLong", laid_fellowship_api_ErrLong), ("fellowship/api.ErrForm", laid_fellowship_api_ErrForm), ("fellowship/api.ErrKey", laid_fellowship_api_ErrKey), ("fellowship/api.ErrSign", laid_fellowship_api_ErrSign), ("fellowship/api.ErrSeal", laid_fellowship_api_ErrSeal), ("fellowship/api.ErrEpoch", laid_fellowship_api_ErrEpoch), ("fellowship/api.ErrGroup", laid_fellowship_api_ErrGroup), ("fellowship/api.ErrSender", laid_fellowship_api_ErrSender), ("fellowship/api.ErrLeaf", laid_fellowship_api_ErrLeaf), ("fellowship/api.ErrOffer", laid_fellowship_api_ErrOffer), ("fellowship/api.ErrPath", laid_fellowship_api_ErrPath), ("fellowship/api.ErrTag", laid_fellowship_api_ErrTag), ("fellowship/api.ErrNone", laid_fellowship_api_ErrNone), ("fellowship/api.ErrRemoved", laid_fellowship_api_ErrRemoved), ("fellowship/api.ErrFull", laid_fellowship_api_ErrFull), ("fellowship/api.ErrState", laid_fellowship_api_ErrState), ("fellowship/api.ErrTwice", laid_fellowship_api_ErrTwice)], narrowed := true }
def WireNumsUptoSaid : Prop := wireNumsUptoRow.holds Tryd.pinned (OpenSpec.upto wireNumsSpec)

/-- 'fellowshiplaw16.WireUnrows', WHERE WHAT IT READS IS OF BULK AT MOST 1048576: true; the input reads as it did. -/
def wireUnrowsUptoRow : OpenClaim := { program := "ytbliikcgcgalmaadoor", sum := "fbbddabb2b5c62be7c3f9076112fce1550d2df883dfb7ffabdd5d9d56fb7a6f4", func := "fellowship/fellowshiplaw16.WireUnrows", spec := "wireUnrows", inPlace := ["internal/reflectlite.TypeOf"], unfollowed := true, recurses := true, named := ["fellowship/api.ErrLong", "fellowship/api.ErrRange", "fellowship/api.ErrForm", "fellowship/api.ErrShort", "fellowship/api.ErrKey", "fellowship/api.ErrSign", "fellowship/api.ErrSeal", "fellowship/api.ErrEpoch", "fellowship/api.ErrGroup", "fellowship/api.ErrSender", "fellowship/api.ErrLeaf", "fellowship/api.ErrOffer", "fellowship/api.ErrPath", "fellowship/api.ErrTag", "fellowship/api.ErrNone", "fellowship/api.ErrRemoved", "fellowship/api.ErrFull", "fellowship/api.ErrState", "fellowship/api.ErrTwice"], apart := false, laid := [("fellowship/api.ErrRange", laid_fellowship_api_ErrRange), ("fellowship/api.ErrShort", laid_fellowship_api_ErrShort), ("fellowship/api.ErrLong", laid_fellowship_api_ErrLong), ("fellowship/api.ErrForm", laid_fellowship_api_ErrForm), ("fellowship/api.ErrKey", laid_fellowship_api_ErrKey), ("fellowship/api.ErrSign", laid_fellowship_api_ErrSign), ("fellowship/api.ErrSeal", laid_fellowship_api_ErrSeal), ("fellowship/api.ErrEpoch", laid_fellowship_api_ErrEpoch), ("fellowship/api.ErrGroup", laid_fellowship_api_ErrGroup), ("fellowship/api.ErrSender", laid_fellowship_api_ErrSender), ("fellowship/api.ErrLeaf", laid_fellowship_api_ErrLeaf), ("fellowship/api.ErrOffer", laid_fellowship_api_ErrOffer), ("fellowship/api.ErrPath", laid_fellowship_api_ErrPath), ("fellowship/api.ErrTag", laid_fellowship_api_ErrTag), ("fellowship/api.ErrNone", laid_fellowship_api_ErrNone), ("fellowship/api.ErrRemoved", laid_fellowship_api_ErrRemoved), ("fellowship/api.ErrFull", laid_fellowship_api_ErrFull), ("fellowship/api.ErrState", laid_fellowship_api_ErrState), ("fellowship/api.ErrTwice", laid_fellowship_api_ErrTwice)], narrowed := true }
def WireUnrowsUptoSaid : Prop := wireUnrowsUptoRow.holds Tryd.pinned (OpenSpec.upto wireUnrowsSpec)

/-- 'fellowshiplaw16.WireLong', WHERE WHAT IT READS IS OF BULK AT MOST 1048576: true; the input reads as it did. -/
def wireLongUptoRow : OpenClaim := { program := "ytbliikcgcgalmaadoor", sum := "fbbddabb2b5c62be7c3f9076112fce1550d2df883dfb7ffabdd5d9d56fb7a6f4", func := "fellowship/fellowshiplaw16.WireLong", spec := "wireLong", inPlace := ["internal/reflectlite.TypeOf"], unfollowed := true, recurses := true, named := ["fellowship/api.ErrLong", "fellowship/api.ErrRange", "fellowship/api.ErrForm", "fellowship/api.ErrShort", "fellowship/api.ErrKey", "fellowship/api.ErrSign", "fellowship/api.ErrSeal", "fellowship/api.ErrEpoch", "fellowship/api.ErrGroup", "fellowship/api.ErrSender", "fellowship/api.ErrLeaf", "fellowship/api.ErrOffer", "fellowship/api.ErrPath", "fellowship/api.ErrTag", "fellowship/api.ErrNone", "fellowship/api.ErrRemoved", "fellowship/api.ErrFull", "fellowship/api.ErrState", "fellowship/api.ErrTwice"], apart := false, laid := [("fellowship/api.ErrRange", laid_fellowship_api_ErrRange), ("fellowship/api.ErrShort", laid_fellowship_api_ErrShort), ("fellowship/api.ErrLong", laid_fellowship_api_ErrLong), ("fellowship/api.ErrForm", laid_fellowship_api_ErrForm), ("fellowship/api.ErrKey", laid_fellowship_api_ErrKey), ("fellowship/api.ErrSign", laid_fellowship_api_ErrSign), ("fellowship/api.ErrSeal", laid_fellowship_api_ErrSeal), ("fellowship/api.ErrEpoch", laid_fellowship_api_ErrEpoch), ("fellowship/api.ErrGroup", laid_fellowship_api_ErrGroup), ("fellowship/api.ErrSender", laid_fellowship_api_ErrSender), ("fellowship/api.ErrLeaf", laid_fellowship_api_ErrLeaf), ("fellowship/api.ErrOffer", laid_fellowship_api_ErrOffer), ("fellowship/api.ErrPath", laid_fellowship_api_ErrPath), ("fellowship/api.ErrTag", laid_fellowship_api_ErrTag), ("fellowship/api.ErrNone", laid_fellowship_api_ErrNone), ("fellowship/api.ErrRemoved", laid_fellowship_api_ErrRemoved), ("fellowship/api.ErrFull", laid_fellowship_api_ErrFull), ("fellowship/api.ErrState", laid_fellowship_api_ErrState), ("fellowship/api.ErrTwice", laid_fellowship_api_ErrTwice)], narrowed := true }
def WireLongUptoSaid : Prop := wireLongUptoRow.holds Tryd.pinned (OpenSpec.upto wireLongSpec)

/-- 'fellowshiplaw16.WireRows', WHERE WHAT IT READS IS OF BULK AT MOST 1048576: true; the input reads as it did. -/
def wireRowsUptoRow : OpenClaim := { program := "ytbliikcgcgalmaadoor", sum := "fbbddabb2b5c62be7c3f9076112fce1550d2df883dfb7ffabdd5d9d56fb7a6f4", func := "fellowship/fellowshiplaw16.WireRows", spec := "wireRows", inPlace := ["internal/reflectlite.TypeOf"], unfollowed := true, recurses := true, named := ["fellowship/api.ErrLong", "fellowship/api.ErrRange", "fellowship/api.ErrShort", "fellowship/api.ErrForm", "fellowship/api.ErrKey", "fellowship/api.ErrSign", "fellowship/api.ErrSeal", "fellowship/api.ErrEpoch", "fellowship/api.ErrGroup", "fellowship/api.ErrSender", "fellowship/api.ErrLeaf", "fellowship/api.ErrOffer", "fellowship/api.ErrPath", "fellowship/api.ErrTag", "fellowship/api.ErrNone", "fellowship/api.ErrRemoved", "fellowship/api.ErrFull", "fellowship/api.ErrState", "fellowship/api.ErrTwice"], apart := false, laid := [("fellowship/api.ErrRange", laid_fellowship_api_ErrRange), ("fellowship/api.ErrShort", laid_fellowship_api_ErrShort), ("fellowship/api.ErrLong", laid_fellowship_api_ErrLong), ("fellowship/api.ErrForm", laid_fellowship_api_ErrForm), ("fellowship/api.ErrKey", laid_fellowship_api_ErrKey), ("fellowship/api.ErrSign", laid_fellowship_api_ErrSign), ("fellowship/api.ErrSeal", laid_fellowship_api_ErrSeal), ("fellowship/api.ErrEpoch", laid_fellowship_api_ErrEpoch), ("fellowship/api.ErrGroup", laid_fellowship_api_ErrGroup), ("fellowship/api.ErrSender", laid_fellowship_api_ErrSender), ("fellowship/api.ErrLeaf", laid_fellowship_api_ErrLeaf), ("fellowship/api.ErrOffer", laid_fellowship_api_ErrOffer), ("fellowship/api.ErrPath", laid_fellowship_api_ErrPath), ("fellowship/api.ErrTag", laid_fellowship_api_ErrTag), ("fellowship/api.ErrNone", laid_fellowship_api_ErrNone), ("fellowship/api.ErrRemoved", laid_fellowship_api_ErrRemoved), ("fellowship/api.ErrFull", laid_fellowship_api_ErrFull), ("fellowship/api.ErrState", laid_fellowship_api_ErrState), ("fellowship/api.ErrTwice", laid_fellowship_api_ErrTwice)], narrowed := true }
def WireRowsUptoSaid : Prop := wireRowsUptoRow.holds Tryd.pinned (OpenSpec.upto wireRowsSpec)

/-- 'fellowshiplaw17.PlacesCover', WHERE WHAT IT READS IS OF BULK AT MOST 1048576: true; the input reads as it did. -/
def placesCoverUptoRow : OpenClaim := { program := "ytbliikcgcgalmaadoor", sum := "fbbddabb2b5c62be7c3f9076112fce1550d2df883dfb7ffabdd5d9d56fb7a6f4", func := "fellowship/fellowshiplaw17.PlacesCover", spec := "placesCover", named := ["fellowship/api.ErrRange", "fellowship/api.ErrNone", "fellowship/api.ErrLeaf"], apart := false, laid := [("fellowship/api.ErrRange", laid_fellowship_api_ErrRange), ("fellowship/api.ErrLeaf", laid_fellowship_api_ErrLeaf), ("fellowship/api.ErrNone", laid_fellowship_api_ErrNone)], narrowed := true }
def PlacesCoverUptoSaid : Prop := placesCoverUptoRow.holds Tryd.pinned (OpenSpec.upto placesCoverSpec)

/-- 'fellowshiplaw17.PlacesMeet', WHERE WHAT IT READS IS OF BULK AT MOST 1048576: true; the input reads as it did. -/
def placesMeetUptoRow : OpenClaim := { program := "ytbliikcgcgalmaadoor", sum := "fbbddabb2b5c62be7c3f9076112fce1550d2df883dfb7ffabdd5d9d56fb7a6f4", func := "fellowship/fellowshiplaw17.PlacesMeet", spec := "placesMeet", inPlace := ["internal/reflectlite.TypeOf"], unfollowed := true, recurses := true, named := ["fellowship/api.ErrRange", "fellowship/api.ErrNone", "fellowship/api.ErrLeaf", "fellowship/api.ErrShort", "fellowship/api.ErrLong", "fellowship/api.ErrForm", "fellowship/api.ErrKey", "fellowship/api.ErrSign", "fellowship/api.ErrSeal", "fellowship/api.ErrEpoch", "fellowship/api.ErrGroup", "fellowship/api.ErrSender", "fellowship/api.ErrOffer", "fellowship/api.ErrPath", "fellowship/api.ErrTag", "fellowship/api.ErrRemoved", "fellowship/api.ErrFull", "fellowship/api.ErrState", "fellowship/api.ErrTwice"], apart := false, laid := [("fellowship/api.ErrRange", laid_fellowship_api_ErrRange), ("fellowship/api.ErrShort", laid_fellowship_api_ErrShort), ("fellowship/api.ErrLong", laid_fellowship_api_ErrLong), ("fellowship/api.ErrForm", laid_fellowship_api_ErrForm), ("fellowship/api.ErrKey", laid_fellowship_api_ErrKey), ("fellowship/api.ErrSign", laid_fellowship_api_ErrSign), ("fellowship/api.ErrSeal", laid_fellowship_api_ErrSeal), ("fellowship/api.ErrEpoch", laid_fellowship_api_ErrEpoch), ("fellowship/api.ErrGroup", laid_fellowship_api_ErrGroup), ("fellowship/api.ErrSender", laid_fellowship_api_ErrSender), ("fellowship/api.ErrLeaf", laid_fellowship_api_ErrLeaf), ("fellowship/api.ErrOffer", laid_fellowship_api_ErrOffer), ("fellowship/api.ErrPath", laid_fellowship_api_ErrPath), ("fellowship/api.ErrTag", laid_fellowship_api_ErrTag), ("fellowship/api.ErrNone", laid_fellowship_api_ErrNone), ("fellowship/api.ErrRemoved", laid_fellowship_api_ErrRemoved), ("fellowship/api.ErrFull", laid_fellowship_api_ErrFull), ("fellowship/api.ErrState", laid_fellowship_api_ErrState), ("fellowship/api.ErrTwice", laid_fellowship_api_ErrTwice)], narrowed := true }
def PlacesMeetUptoSaid : Prop := placesMeetUptoRow.holds Tryd.pinned (OpenSpec.upto placesMeetSpec)

end Rows
end Go.Proofs.YtbliikcgcgalmaaDoor
