/-
  NARROWER THAN 'FOR EVERY INPUT', by the rows' own cells (each row's printed sentence says how): WordsPicks: laid · WordsTurns: laid · WordsAgain: laid · WordsRows: laid · WordsBytes: laid · PlacesCover: laid · PlacesUnder: laid · PlacesWays: laid · PlacesNumbers: laid · PlacesMeet: laid.
  DERIVED. THE GIVEN ROWS OF THIS SEAT. 10 by the template 'for every input the law returns true; each argument reads behind the call as it read before'; 0 by the template 'total and deterministic' (their statements: YtllnbcibleeogaaDoorTotals.lean).
  GIVEN WITH THE SEED: the statements are not yours to turn. If you find one false, say at which input.
  Laid BY PROGRAM, IN A SANDBOX (cutbox-rows.mjs): the forced cells as the released guide's own fill.sh prints them over the translation af9e1d10025914b1… (all of the seat's roots in one cut). By AI agents, Wed Nov 11 2026. No macro, syntax, notation, axiom, sorry.
-/
import Derived.Test.YtllnbcibleeogaaDoorChecked
import GoSem.Claim
import GoSem.ClaimJoined
import GoSem.ClaimMapViews
import Derived.JoinedTies
import Derived.KernelRfl
namespace Go.Proofs.YtllnbcibleeogaaDoor
/- THE CELL 'sum', in the pinned program and in every row, IS THE sha256 OF THE DUMP (.gsa) THAT YtllnbcibleeogaaDoorProg.lean LOADS. Nothing in Lean hashes anything: it is a label: what it is worth is what the hold of that sum in a sandbox is worth. -/
noncomputable def Tryd.pinned : Pinned := { name := "ytllnbcibleeogaadoor", sum := "af9e1d10025914b1c51f60261a46c4b5e5550ae175da6fcbc6b3e2b0586d121b", checked := Tryd.checked }
namespace Rows
def none {H : Type} : Left H := { results := [], args := [] }

/- WHAT THE LISTED PACKAGE-LEVEL VARIABLES READ AS WHEN THE CALL BEGINS. Each datum BY PROGRAM (the guide's laid-datum.mjs) off the statement by which the dump's own 'gosem.cut.vars' lays the variable. In a bare row this is a premise. The card (YtllnbcibleeogaaDoorCards.lean) ties it to the program's text. -/
def laid_fellowship_api_ErrLong {H : Type} : DataW H := .iface "*errors.errorString" (.ptr (.agg [.lit (.string [102, 101, 108, 108, 111, 119, 115, 104, 105, 112, 58, 32, 108, 111, 110, 103])]))
def laid_fellowship_api_ErrRange {H : Type} : DataW H := .iface "*errors.errorString" (.ptr (.agg [.lit (.string [102, 101, 108, 108, 111, 119, 115, 104, 105, 112, 58, 32, 114, 97, 110, 103, 101])]))
def laid_fellowship_api_ErrShort {H : Type} : DataW H := .iface "*errors.errorString" (.ptr (.agg [.lit (.string [102, 101, 108, 108, 111, 119, 115, 104, 105, 112, 58, 32, 115, 104, 111, 114, 116])]))
def laid_fellowship_api_ErrForm {H : Type} : DataW H := .iface "*errors.errorString" (.ptr (.agg [.lit (.string [102, 101, 108, 108, 111, 119, 115, 104, 105, 112, 58, 32, 102, 111, 114, 109])]))
def laid_fellowship_api_ErrKey {H : Type} : DataW H := .iface "*errors.errorString" (.ptr (.agg [.lit (.string [102, 101, 108, 108, 111, 119, 115, 104, 105, 112, 58, 32, 107, 101, 121])]))
def laid_fellowship_api_ErrSign {H : Type} : DataW H := .iface "*errors.errorString" (.ptr (.agg [.lit (.string [102, 101, 108, 108, 111, 119, 115, 104, 105, 112, 58, 32, 115, 105, 103, 110])]))
def laid_fellowship_api_ErrSeal {H : Type} : DataW H := .iface "*errors.errorString" (.ptr (.agg [.lit (.string [102, 101, 108, 108, 111, 119, 115, 104, 105, 112, 58, 32, 115, 101, 97, 108])]))
def laid_fellowship_api_ErrEpoch {H : Type} : DataW H := .iface "*errors.errorString" (.ptr (.agg [.lit (.string [102, 101, 108, 108, 111, 119, 115, 104, 105, 112, 58, 32, 101, 112, 111, 99, 104])]))
def laid_fellowship_api_ErrGroup {H : Type} : DataW H := .iface "*errors.errorString" (.ptr (.agg [.lit (.string [102, 101, 108, 108, 111, 119, 115, 104, 105, 112, 58, 32, 103, 114, 111, 117, 112])]))
def laid_fellowship_api_ErrSender {H : Type} : DataW H := .iface "*errors.errorString" (.ptr (.agg [.lit (.string [102, 101, 108, 108, 111, 119, 115, 104, 105, 112, 58, 32, 115, 101, 110, 100, 101, 114])]))
def laid_fellowship_api_ErrLeaf {H : Type} : DataW H := .iface "*errors.errorString" (.ptr (.agg [.lit (.string [102, 101, 108, 108, 111, 119, 115, 104, 105, 112, 58, 32, 108, 101, 97, 102])]))
def laid_fellowship_api_ErrOffer {H : Type} : DataW H := .iface "*errors.errorString" (.ptr (.agg [.lit (.string [102, 101, 108, 108, 111, 119, 115, 104, 105, 112, 58, 32, 111, 102, 102, 101, 114])]))
def laid_fellowship_api_ErrPath {H : Type} : DataW H := .iface "*errors.errorString" (.ptr (.agg [.lit (.string [102, 101, 108, 108, 111, 119, 115, 104, 105, 112, 58, 32, 112, 97, 116, 104])]))
def laid_fellowship_api_ErrTag {H : Type} : DataW H := .iface "*errors.errorString" (.ptr (.agg [.lit (.string [102, 101, 108, 108, 111, 119, 115, 104, 105, 112, 58, 32, 116, 97, 103])]))
def laid_fellowship_api_ErrNone {H : Type} : DataW H := .iface "*errors.errorString" (.ptr (.agg [.lit (.string [102, 101, 108, 108, 111, 119, 115, 104, 105, 112, 58, 32, 110, 111, 110, 101])]))
def laid_fellowship_api_ErrRemoved {H : Type} : DataW H := .iface "*errors.errorString" (.ptr (.agg [.lit (.string [102, 101, 108, 108, 111, 119, 115, 104, 105, 112, 58, 32, 114, 101, 109, 111, 118, 101, 100])]))
def laid_fellowship_api_ErrFull {H : Type} : DataW H := .iface "*errors.errorString" (.ptr (.agg [.lit (.string [102, 101, 108, 108, 111, 119, 115, 104, 105, 112, 58, 32, 102, 117, 108, 108])]))
def laid_fellowship_api_ErrState {H : Type} : DataW H := .iface "*errors.errorString" (.ptr (.agg [.lit (.string [102, 101, 108, 108, 111, 119, 115, 104, 105, 112, 58, 32, 115, 116, 97, 116, 101])]))
def laid_fellowship_api_ErrTwice {H : Type} : DataW H := .iface "*errors.errorString" (.ptr (.agg [.lit (.string [102, 101, 108, 108, 111, 119, 115, 104, 105, 112, 58, 32, 116, 119, 105, 99, 101])]))

/-- 'fellowshiplaw01.WordsPicks': WHATEVER THE INPUT: true; the input reads as it did. -/
def wordsPicksSpec : ChangeSpec := { name := "wordsPicks", fn := fun _ => fun
  | [d1, d2, d3] => { results := [.lit (.bool true)], args := [d1, d2, d3] }
  | _ => none }
def wordsPicksRow : OpenClaim := { program := "ytllnbcibleeogaadoor", sum := "af9e1d10025914b1c51f60261a46c4b5e5550ae175da6fcbc6b3e2b0586d121b", func := "fellowship/fellowshiplaw01.WordsPicks", spec := "wordsPicks", named := ["fellowship/api.ErrLong"], apart := false, laid := [("fellowship/api.ErrLong", laid_fellowship_api_ErrLong)] }
def WordsPicksSaid : Prop := wordsPicksRow.holds Tryd.pinned (OpenSpec.ofChange wordsPicksSpec)

/-- ITS FALSE NEIGHBOUR: 'it returns false'. Refute it at one input. -/
def wordsPicksWrong : ChangeSpec := { name := "wordsPicks", fn := fun _ => fun
  | [d1, d2, d3] => { results := [.lit (.bool false)], args := [d1, d2, d3] }
  | _ => none }
def WordsPicksWrongFalsely : Prop := wordsPicksRow.holds Tryd.pinned (OpenSpec.ofChange wordsPicksWrong)

/-- 'fellowshiplaw01.WordsTurns': WHATEVER THE INPUT: true; the input reads as it did. -/
def wordsTurnsSpec : ChangeSpec := { name := "wordsTurns", fn := fun _ => fun
  | [d1, d2, d3] => { results := [.lit (.bool true)], args := [d1, d2, d3] }
  | _ => none }
def wordsTurnsRow : OpenClaim := { program := "ytllnbcibleeogaadoor", sum := "af9e1d10025914b1c51f60261a46c4b5e5550ae175da6fcbc6b3e2b0586d121b", func := "fellowship/fellowshiplaw01.WordsTurns", spec := "wordsTurns", named := ["fellowship/api.ErrLong"], apart := false, laid := [("fellowship/api.ErrLong", laid_fellowship_api_ErrLong)] }
def WordsTurnsSaid : Prop := wordsTurnsRow.holds Tryd.pinned (OpenSpec.ofChange wordsTurnsSpec)

/-- ITS FALSE NEIGHBOUR: 'it returns false'. Refute it at one input. -/
def wordsTurnsWrong : ChangeSpec := { name := "wordsTurns", fn := fun _ => fun
  | [d1, d2, d3] => { results := [.lit (.bool false)], args := [d1, d2, d3] }
  | _ => none }
def WordsTurnsWrongFalsely : Prop := wordsTurnsRow.holds Tryd.pinned (OpenSpec.ofChange wordsTurnsWrong)

/-- 'fellowshiplaw01.WordsAgain': WHATEVER THE INPUT: true; the input reads as it did. -/
def wordsAgainSpec : ChangeSpec := { name := "wordsAgain", fn := fun _ => fun
  | [d1, d2, d3] => { results := [.lit (.bool true)], args := [d1, d2, d3] }
  | _ => none }
def wordsAgainRow : OpenClaim := { program := "ytllnbcibleeogaadoor", sum := "af9e1d10025914b1c51f60261a46c4b5e5550ae175da6fcbc6b3e2b0586d121b", func := "fellowship/fellowshiplaw01.WordsAgain", spec := "wordsAgain", named := ["fellowship/api.ErrLong"], apart := false, laid := [("fellowship/api.ErrLong", laid_fellowship_api_ErrLong)] }
def WordsAgainSaid : Prop := wordsAgainRow.holds Tryd.pinned (OpenSpec.ofChange wordsAgainSpec)

/-- ITS FALSE NEIGHBOUR: 'it returns false'. Refute it at one input. -/
def wordsAgainWrong : ChangeSpec := { name := "wordsAgain", fn := fun _ => fun
  | [d1, d2, d3] => { results := [.lit (.bool false)], args := [d1, d2, d3] }
  | _ => none }
def WordsAgainWrongFalsely : Prop := wordsAgainRow.holds Tryd.pinned (OpenSpec.ofChange wordsAgainWrong)

/-- 'fellowshiplaw01.WordsRows': WHATEVER THE INPUT: true; the input reads as it did. -/
def wordsRowsSpec : ChangeSpec := { name := "wordsRows", fn := fun _ => fun
  | [d1, d2] => { results := [.lit (.bool true)], args := [d1, d2] }
  | _ => none }
def wordsRowsRow : OpenClaim := { program := "ytllnbcibleeogaadoor", sum := "af9e1d10025914b1c51f60261a46c4b5e5550ae175da6fcbc6b3e2b0586d121b", func := "fellowship/fellowshiplaw01.WordsRows", spec := "wordsRows", inPlace := ["internal/reflectlite.TypeOf"], unfollowed := true, recurses := true, named := ["fellowship/api.ErrLong", "fellowship/api.ErrForm", "fellowship/api.ErrRange", "fellowship/api.ErrShort", "fellowship/api.ErrKey", "fellowship/api.ErrSign", "fellowship/api.ErrSeal", "fellowship/api.ErrEpoch", "fellowship/api.ErrGroup", "fellowship/api.ErrSender", "fellowship/api.ErrLeaf", "fellowship/api.ErrOffer", "fellowship/api.ErrPath", "fellowship/api.ErrTag", "fellowship/api.ErrNone", "fellowship/api.ErrRemoved", "fellowship/api.ErrFull", "fellowship/api.ErrState", "fellowship/api.ErrTwice"], apart := false, laid := [("fellowship/api.ErrRange", laid_fellowship_api_ErrRange), ("fellowship/api.ErrShort", laid_fellowship_api_ErrShort), ("fellowship/api.ErrLong", laid_fellowship_api_ErrLong), ("fellowship/api.ErrForm", laid_fellowship_api_ErrForm), ("fellowship/api.ErrKey", laid_fellowship_api_ErrKey), ("fellowship/api.ErrSign", laid_fellowship_api_ErrSign), ("fellowship/api.ErrSeal", laid_fellowship_api_ErrSeal), ("fellowship/api.ErrEpoch", laid_fellowship_api_ErrEpoch), ("fellowship/api.ErrGroup", laid_fellowship_api_ErrGroup), ("fellowship/api.ErrSender", laid_fellowship_api_ErrSender), ("fellowship/api.ErrLeaf", laid_fellowship_api_ErrLeaf), ("fellowship/api.ErrOffer", laid_fellowship_api_ErrOffer), ("fellowship/api.ErrPath", laid_fellowship_api_ErrPath), ("fellowship/api.ErrTag", laid_fellowship_api_ErrTag), ("fellowship/api.ErrNone", laid_fellowship_api_ErrNone), ("fellowship/api.ErrRemoved", laid_fellowship_api_ErrRemoved), ("fellowship/api.ErrFull", laid_fellowship_api_ErrFull), ("fellowship/api.ErrState", laid_fellowship_api_ErrState), ("fellowship/api.ErrTwice", laid_fellowship_api_ErrTwice)] }
def WordsRowsSaid : Prop := wordsRowsRow.holds Tryd.pinned (OpenSpec.ofChange wordsRowsSpec)

/-- ITS FALSE NEIGHBOUR: 'it returns false'. Refute it at one input. -/
def wordsRowsWrong : ChangeSpec := { name := "wordsRows", fn := fun _ => fun
  | [d1, d2] => { results := [.lit (.bool false)], args := [d1, d2] }
  | _ => none }
def WordsRowsWrongFalsely : Prop := wordsRowsRow.holds Tryd.pinned (OpenSpec.ofChange wordsRowsWrong)

/-- 'fellowshiplaw01.WordsBytes': WHATEVER THE INPUT: true; the input reads as it did. -/
def wordsBytesSpec : ChangeSpec := { name := "wordsBytes", fn := fun _ => fun
  | [d1, d2, d3] => { results := [.lit (.bool true)], args := [d1, d2, d3] }
  | _ => none }
def wordsBytesRow : OpenClaim := { program := "ytllnbcibleeogaadoor", sum := "af9e1d10025914b1c51f60261a46c4b5e5550ae175da6fcbc6b3e2b0586d121b", func := "fellowship/fellowshiplaw01.WordsBytes", spec := "wordsBytes", inPlace := ["internal/reflectlite.TypeOf"], unfollowed := true, recurses := true, named := ["fellowship/api.ErrLong", "fellowship/api.ErrRange", "fellowship/api.ErrShort", "fellowship/api.ErrForm", "fellowship/api.ErrKey", "fellowship/api.ErrSign", "fellowship/api.ErrSeal", "fellowship/api.ErrEpoch", "fellowship/api.ErrGroup", "fellowship/api.ErrSender", "fellowship/api.ErrLeaf", "fellowship/api.ErrOffer", "fellowship/api.ErrPath", "fellowship/api.ErrTag", "fellowship/api.ErrNone", "fellowship/api.ErrRemoved", "fellowship/api.ErrFull", "fellowship/api.ErrState", "fellowship/api.ErrTwice"], apart := false, laid := [("fellowship/api.ErrRange", laid_fellowship_api_ErrRange), ("fellowship/api.ErrShort", laid_fellowship_api_ErrShort), ("fellowship/api.ErrLong", laid_fellowship_api_ErrLong), ("fellowship/api.ErrForm", laid_fellowship_api_ErrForm), ("fellowship/api.ErrKey", laid_fellowship_api_ErrKey), ("fellowship/api.ErrSign", laid_fellowship_api_ErrSign), ("fellowship/api.ErrSeal", laid_fellowship_api_ErrSeal), ("fellowship/api.ErrEpoch", laid_fellowship_api_ErrEpoch), ("fellowship/api.ErrGroup", laid_fellowship_api_ErrGroup), ("fellowship/api.ErrSender", laid_fellowship_api_ErrSender), ("fellowship/api.ErrLeaf", laid_fellowship_api_ErrLeaf), ("fellowship/api.ErrOffer", laid_fellowship_api_ErrOffer), ("fellowship/api.ErrPath", laid_fellowship_api_ErrPath), ("fellowship/api.ErrTag", laid_fellowship_api_ErrTag), ("fellowship/api.ErrNone", laid_fellowship_api_ErrNone), ("fellowship/api.ErrRemoved", laid_fellowship_api_ErrRemoved), ("fellowship/api.ErrFull", laid_fellowship_api_ErrFull), ("fellowship/api.ErrState", laid_fellowship_api_ErrState), ("fellowship/api.ErrTwice", laid_fellowship_api_ErrTwice)] }
def WordsBytesSaid : Prop := wordsBytesRow.holds Tryd.pinned (OpenSpec.ofChange wordsBytesSpec)

/-- ITS FALSE NEIGHBOUR: 'it returns false'. Refute it at one input. -/
def wordsBytesWrong : ChangeSpec := { name := "wordsBytes", fn := fun _ => fun
  | [d1, d2, d3] => { results := [.lit (.bool false)], args := [d1, d2, d3] }
  | _ => none }
def WordsBytesWrongFalsely : Prop := wordsBytesRow.holds Tryd.pinned (OpenSpec.ofChange wordsBytesWrong)

/-- 'fellowshiplaw17.PlacesCover': WHATEVER THE INPUT: true; the input reads as it did. -/
def placesCoverSpec : ChangeSpec := { name := "placesCover", fn := fun _ => fun
  | [d1, d2] => { results := [.lit (.bool true)], args := [d1, d2] }
  | _ => none }
def placesCoverRow : OpenClaim := { program := "ytllnbcibleeogaadoor", sum := "af9e1d10025914b1c51f60261a46c4b5e5550ae175da6fcbc6b3e2b0586d121b", func := "fellowship/fellowshiplaw17.PlacesCover", spec := "placesCover", named := ["fellowship/api.ErrRange", "fellowship/api.ErrNone", "fellowship/api.ErrLeaf"], apart := false, laid := [("fellowship/api.ErrRange", laid_fellowship_api_ErrRange), ("fellowship/api.ErrLeaf", laid_fellowship_api_ErrLeaf), ("fellowship/api.ErrNone", laid_fellowship_api_ErrNone)] }
def PlacesCoverSaid : Prop := placesCoverRow.holds Tryd.pinned (OpenSpec.ofChange placesCoverSpec)

/-- ITS FALSE NEIGHBOUR: 'it returns false'. Refute it at one input. -/
def placesCoverWrong : ChangeSpec := { name := "placesCover", fn := fun _ => fun
  | [d1, d2] => { results := [.lit (.bool false)], args := [d1, d2] }
  | _ => none }
def PlacesCoverWrongFalsely : Prop := placesCoverRow.holds Tryd.pinned (OpenSpec.ofChange placesCoverWrong)

/-- 'fellowshiplaw17.PlacesUnder': WHATEVER THE INPUT: true; the input reads as it did. -/
def placesUnderSpec : ChangeSpec := { name := "placesUnder", fn := fun _ => fun
  | [d1, d2, d3] => { results := [.lit (.bool true)], args := [d1, d2, d3] }
  | _ => none }
def placesUnderRow : OpenClaim := { program := "ytllnbcibleeogaadoor", sum := "af9e1d10025914b1c51f60261a46c4b5e5550ae175da6fcbc6b3e2b0586d121b", func := "fellowship/fellowshiplaw17.PlacesUnder", spec := "placesUnder", named := ["fellowship/api.ErrRange", "fellowship/api.ErrNone", "fellowship/api.ErrLeaf"], apart := false, laid := [("fellowship/api.ErrRange", laid_fellowship_api_ErrRange), ("fellowship/api.ErrLeaf", laid_fellowship_api_ErrLeaf), ("fellowship/api.ErrNone", laid_fellowship_api_ErrNone)] }
def PlacesUnderSaid : Prop := placesUnderRow.holds Tryd.pinned (OpenSpec.ofChange placesUnderSpec)

/-- ITS FALSE NEIGHBOUR: 'it returns false'. Refute it at one input. -/
def placesUnderWrong : ChangeSpec := { name := "placesUnder", fn := fun _ => fun
  | [d1, d2, d3] => { results := [.lit (.bool false)], args := [d1, d2, d3] }
  | _ => none }
def PlacesUnderWrongFalsely : Prop := placesUnderRow.holds Tryd.pinned (OpenSpec.ofChange placesUnderWrong)

/-- 'fellowshiplaw17.PlacesWays': WHATEVER THE INPUT: true; the input reads as it did. -/
def placesWaysSpec : ChangeSpec := { name := "placesWays", fn := fun _ => fun
  | [d1, d2] => { results := [.lit (.bool true)], args := [d1, d2] }
  | _ => none }
def placesWaysRow : OpenClaim := { program := "ytllnbcibleeogaadoor", sum := "af9e1d10025914b1c51f60261a46c4b5e5550ae175da6fcbc6b3e2b0586d121b", func := "fellowship/fellowshiplaw17.PlacesWays", spec := "placesWays", inPlace := ["internal/reflectlite.TypeOf"], unfollowed := true, recurses := true, named := ["fellowship/api.ErrRange", "fellowship/api.ErrNone", "fellowship/api.ErrLeaf", "fellowship/api.ErrShort", "fellowship/api.ErrLong", "fellowship/api.ErrForm", "fellowship/api.ErrKey", "fellowship/api.ErrSign", "fellowship/api.ErrSeal", "fellowship/api.ErrEpoch", "fellowship/api.ErrGroup", "fellowship/api.ErrSender", "fellowship/api.ErrOffer", "fellowship/api.ErrPath", "fellowship/api.ErrTag", "fellowship/api.ErrRemoved", "fellowship/api.ErrFull", "fellowship/api.ErrState", "fellowship/api.ErrTwice"], apart := false, laid := [("fellowship/api.ErrRange", laid_fellowship_api_ErrRange), ("fellowship/api.ErrShort", laid_fellowship_api_ErrShort), ("fellowship/api.ErrLong", laid_fellowship_api_ErrLong), ("fellowship/api.ErrForm", laid_fellowship_api_ErrForm), ("fellowship/api.ErrKey", laid_fellowship_api_ErrKey), ("fellowship/api.ErrSign", laid_fellowship_api_ErrSign), ("fellowship/api.ErrSeal", laid_fellowship_api_ErrSeal), ("fellowship/api.ErrEpoch", laid_fellowship_api_ErrEpoch), ("fellowship/api.ErrGroup", laid_fellowship_api_ErrGroup), ("fellowship/api.ErrSender", laid_fellowship_api_ErrSender), ("fellowship/api.ErrLeaf", laid_fellowship_api_ErrLeaf), ("fellowship/api.ErrOffer", laid_fellowship_api_ErrOffer), ("fellowship/api.ErrPath", laid_fellowship_api_ErrPath), ("fellowship/api.ErrTag", laid_fellowship_api_ErrTag), ("fellowship/api.ErrNone", laid_fellowship_api_ErrNone), ("fellowship/api.ErrRemoved", laid_fellowship_api_ErrRemoved), ("fellowship/api.ErrFull", laid_fellowship_api_ErrFull), ("fellowship/api.ErrState", laid_fellowship_api_ErrState), ("fellowship/api.ErrTwice", laid_fellowship_api_ErrTwice)] }
def PlacesWaysSaid : Prop := placesWaysRow.holds Tryd.pinned (OpenSpec.ofChange placesWaysSpec)

/-- ITS FALSE NEIGHBOUR: 'it returns false'. Refute it at one input. -/
def placesWaysWrong : ChangeSpec := { name := "placesWays", fn := fun _ => fun
  | [d1, d2] => { results := [.lit (.bool false)], args := [d1, d2] }
  | _ => none }
def PlacesWaysWrongFalsely : Prop := placesWaysRow.holds Tryd.pinned (OpenSpec.ofChange placesWaysWrong)

/-- 'fellowshiplaw17.PlacesNumbers': WHATEVER THE INPUT: true; the input reads as it did. -/
def placesNumbersSpec : ChangeSpec := { name := "placesNumbers", fn := fun _ => fun
  | [d1, d2] => { results := [.lit (.bool true)], args := [d1, d2] }
  | _ => none }
def placesNumbersRow : OpenClaim := { program := "ytllnbcibleeogaadoor", sum := "af9e1d10025914b1c51f60261a46c4b5e5550ae175da6fcbc6b3e2b0586d121b", func := "fellowship/fellowshiplaw17.PlacesNumbers", spec := "placesNumbers", inPlace := ["internal/reflectlite.TypeOf"], unfollowed := true, recurses := true, named := ["fellowship/api.ErrRange", "fellowship/api.ErrNone", "fellowship/api.ErrLeaf", "fellowship/api.ErrShort", "fellowship/api.ErrLong", "fellowship/api.ErrForm", "fellowship/api.ErrKey", "fellowship/api.ErrSign", "fellowship/api.ErrSeal", "fellowship/api.ErrEpoch", "fellowship/api.ErrGroup", "fellowship/api.ErrSender", "fellowship/api.ErrOffer", "fellowship/api.ErrPath", "fellowship/api.ErrTag", "fellowship/api.ErrRemoved", "fellowship/api.ErrFull", "fellowship/api.ErrState", "fellowship/api.ErrTwice"], apart := false, laid := [("fellowship/api.ErrRange", laid_fellowship_api_ErrRange), ("fellowship/api.ErrShort", laid_fellowship_api_ErrShort), ("fellowship/api.ErrLong", laid_fellowship_api_ErrLong), ("fellowship/api.ErrForm", laid_fellowship_api_ErrForm), ("fellowship/api.ErrKey", laid_fellowship_api_ErrKey), ("fellowship/api.ErrSign", laid_fellowship_api_ErrSign), ("fellowship/api.ErrSeal", laid_fellowship_api_ErrSeal), ("fellowship/api.ErrEpoch", laid_fellowship_api_ErrEpoch), ("fellowship/api.ErrGroup", laid_fellowship_api_ErrGroup), ("fellowship/api.ErrSender", laid_fellowship_api_ErrSender), ("fellowship/api.ErrLeaf", laid_fellowship_api_ErrLeaf), ("fellowship/api.ErrOffer", laid_fellowship_api_ErrOffer), ("fellowship/api.ErrPath", laid_fellowship_api_ErrPath), ("fellowship/api.ErrTag", laid_fellowship_api_ErrTag), ("fellowship/api.ErrNone", laid_fellowship_api_ErrNone), ("fellowship/api.ErrRemoved", laid_fellowship_api_ErrRemoved), ("fellowship/api.ErrFull", laid_fellowship_api_ErrFull), ("fellowship/api.ErrState", laid_fellowship_api_ErrState), ("fellowship/api.ErrTwice", laid_fellowship_api_ErrTwice)] }
def PlacesNumbersSaid : Prop := placesNumbersRow.holds Tryd.pinned (OpenSpec.ofChange placesNumbersSpec)

/-- ITS FALSE NEIGHBOUR: 'it returns false'. Refute it at one input. -/
def placesNumbersWrong : ChangeSpec := { name := "placesNumbers", fn := fun _ => fun
  | [d1, d2] => { results := [.lit (.bool false)], args := [d1, d2] }
  | _ => none }
def PlacesNumbersWrongFalsely : Prop := placesNumbersRow.holds Tryd.pinned (OpenSpec.ofChange placesNumbersWrong)

/-- 'fellowshiplaw17.PlacesMeet': WHATEVER THE INPUT: true; the input reads as it did. -/
def placesMeetSpec : ChangeSpec := { name := "placesMeet", fn := fun _ => fun
  | [d1, d2, d3] => { results := [.lit (.bool true)], args := [d1, d2, d3] }
  | _ => none }
def placesMeetRow : OpenClaim := { program := "ytllnbcibleeogaadoor", sum := "af9e1d10025914b1c51f60261a46c4b5e5550ae175da6fcbc6b3e2b0586d121b", func := "fellowship/fellowshiplaw17.PlacesMeet", spec := "placesMeet", inPlace := ["internal/reflectlite.TypeOf"], unfollowed := true, recurses := true, named := ["fellowship/api.ErrRange", "fellowship/api.ErrNone", "fellowship/api.ErrLeaf", "fellowship/api.ErrShort", "fellowship/api.ErrLong", "fellowship/api.ErrForm", "fellowship/api.ErrKey", "fellowship/api.ErrSign", "fellowship/api.ErrSeal", "fellowship/api.ErrEpoch", "fellowship/api.ErrGroup", "fellowship/api.ErrSender", "fellowship/api.ErrOffer", "fellowship/api.ErrPath", "fellowship/api.ErrTag", "fellowship/api.ErrRemoved", "fellowship/api.ErrFull", "fellowship/api.ErrState", "fellowship/api.ErrTwice"], apart := false, laid := [("fellowship/api.ErrRange", laid_fellowship_api_ErrRange), ("fellowship/api.ErrShort", laid_fellowship_api_ErrShort), ("fellowship/api.ErrLong", laid_fellowship_api_ErrLong), ("fellowship/api.ErrForm", laid_fellowship_api_ErrForm), ("fellowship/api.ErrKey", laid_fellowship_api_ErrKey), ("fellowship/api.ErrSign", laid_fellowship_api_ErrSign), ("fellowship/api.ErrSeal", laid_fellowship_api_ErrSeal), ("fellowship/api.ErrEpoch", laid_fellowship_api_ErrEpoch), ("fellowship/api.ErrGroup", laid_fellowship_api_ErrGroup), ("fellowship/api.ErrSender", laid_fellowship_api_ErrSender), ("fellowship/api.ErrLeaf", laid_fellowship_api_ErrLeaf), ("fellowship/api.ErrOffer", laid_fellowship_api_ErrOffer), ("fellowship/api.ErrPath", laid_fellowship_api_ErrPath), ("fellowship/api.ErrTag", laid_fellowship_api_ErrTag), ("fellowship/api.ErrNone", laid_fellowship_api_ErrNone), ("fellowship/api.ErrRemoved", laid_fellowship_api_ErrRemoved), ("fellowship/api.ErrFull", laid_fellowship_api_ErrFull), ("fellowship/api.ErrState", laid_fellowship_api_ErrState), ("fellowship/api.ErrTwice", laid_fellowship_api_ErrTwice)] }
def PlacesMeetSaid : Prop := placesMeetRow.holds Tryd.pinned (OpenSpec.ofChange placesMeetSpec)

/-- ITS FALSE NEIGHBOUR: 'it returns false'. Refute it at one input. -/
def placesMeetWrong : ChangeSpec := { name := "placesMeet", fn := fun _ => fun
  | [d1, d2, d3] => { results := [.lit (.bool false)], args := [d1, d2, d3] }
  | _ => none }
def PlacesMeetWrongFalsely : Prop := placesMeetRow.holds Tryd.pinned (OpenSpec.ofChange placesMeetWrong)

/- THE SECOND FORM. 'bulk': how many values and letters a reading holds, each counted each time it is reached (what is shared counts as often as it is met; a slice's spare places count too). A statement '..UptoSaid' is the law's where the arguments, and the package variables that the reading takes, are together of bulk at most 1048576: NARROWER than '..Said'. Prove '..Said' where nothing that the law and all that it calls make is longer than what came in: it says more and counts as full. Else prove '..UptoSaid'. A law counts once. -/
mutual
def uptoBulk {H : Type} : DataW H → Nat
  | .lit (.string bytes) => bytes.length + 1
  | .lit _ => 1
  | .nil => 1
  | .ptr d => uptoBulk d + 1
  | .slice elems spare => uptoBulkAll elems + uptoBulkAll spare + 1
  | .agg parts => uptoBulkAll parts + 1
  | .iface _ d => uptoBulk d + 1
  | .map entries => uptoBulkEntries entries + 1
  | .held _ => 1
def uptoBulkAll {H : Type} : List (DataW H) → Nat
  | [] => 0
  | d :: r => uptoBulk d + uptoBulkAll r
def uptoBulkEntries {H : Type} : List (Lit × DataW H) → Nat
  | [] => 0
  | x :: r => uptoBulkEntry x + uptoBulkEntries r
def uptoBulkEntry {H : Type} : Lit × DataW H → Nat
  | (.string bytes, d) => bytes.length + uptoBulk d + 1
  | (_, d) => uptoBulk d + 1
 end
def uptoSmall : (H : Type) → List (DataW H) → Bool := fun _ ds => decide (uptoBulkAll ds ≤ 1048576)
def OpenSpec.upto (s : _root_.Go.ChangeSpec) : _root_.Go.OpenSpec := { _root_.Go.OpenSpec.ofChange s with cond := some uptoSmall }

/-- 'fellowshiplaw01.WordsPicks', WHERE WHAT IT READS IS OF BULK AT MOST 1048576: true; the input reads as it did. -/
def wordsPicksUptoRow : OpenClaim := { program := "ytllnbcibleeogaadoor", sum := "af9e1d10025914b1c51f60261a46c4b5e5550ae175da6fcbc6b3e2b0586d121b", func := "fellowship/fellowshiplaw01.WordsPicks", spec := "wordsPicks", named := ["fellowship/api.ErrLong"], apart := false, laid := [("fellowship/api.ErrLong", laid_fellowship_api_ErrLong)], narrowed := true }
def WordsPicksUptoSaid : Prop := wordsPicksUptoRow.holds Tryd.pinned (OpenSpec.upto wordsPicksSpec)

/-- 'fellowshiplaw01.WordsTurns', WHERE WHAT IT READS IS OF BULK AT MOST 1048576: true; the input reads as it did. -/
def wordsTurnsUptoRow : OpenClaim := { program := "ytllnbcibleeogaadoor", sum := "af9e1d10025914b1c51f60261a46c4b5e5550ae175da6fcbc6b3e2b0586d121b", func := "fellowship/fellowshiplaw01.WordsTurns", spec := "wordsTurns", named := ["fellowship/api.ErrLong"], apart := false, laid := [("fellowship/api.ErrLong", laid_fellowship_api_ErrLong)], narrowed := true }
def WordsTurnsUptoSaid : Prop := wordsTurnsUptoRow.holds Tryd.pinned (OpenSpec.upto wordsTurnsSpec)

/-- 'fellowshiplaw01.WordsAgain', WHERE WHAT IT READS IS OF BULK AT MOST 1048576: true; the input reads as it did. -/
def wordsAgainUptoRow : OpenClaim := { program := "ytllnbcibleeogaadoor", sum := "af9e1d10025914b1c51f60261a46c4b5e5550ae175da6fcbc6b3e2b0586d121b", func := "fellowship/fellowshiplaw01.WordsAgain", spec := "wordsAgain", named := ["fellowship/api.ErrLong"], apart := false, laid := [("fellowship/api.ErrLong", laid_fellowship_api_ErrLong)], narrowed := true }
def WordsAgainUptoSaid : Prop := wordsAgainUptoRow.holds Tryd.pinned (OpenSpec.upto wordsAgainSpec)

/-- 'fellowshiplaw01.WordsRows', WHERE WHAT IT READS IS OF BULK AT MOST 1048576: true; the input reads as it did. -/
def wordsRowsUptoRow : OpenClaim := { program := "ytllnbcibleeogaadoor", sum := "af9e1d10025914b1c51f60261a46c4b5e5550ae175da6fcbc6b3e2b0586d121b", func := "fellowship/fellowshiplaw01.WordsRows", spec := "wordsRows", inPlace := ["internal/reflectlite.TypeOf"], unfollowed := true, recurses := true, named := ["fellowship/api.ErrLong", "fellowship/api.ErrForm", "fellowship/api.ErrRange", "fellowship/api.ErrShort", "fellowship/api.ErrKey", "fellowship/api.ErrSign", "fellowship/api.ErrSeal", "fellowship/api.ErrEpoch", "fellowship/api.ErrGroup", "fellowship/api.ErrSender", "fellowship/api.ErrLeaf", "fellowship/api.ErrOffer", "fellowship/api.ErrPath", "fellowship/api.ErrTag", "fellowship/api.ErrNone", "fellowship/api.ErrRemoved", "fellowship/api.ErrFull", "fellowship/api.ErrState", "fellowship/api.ErrTwice"], apart := false, laid := [("fellowship/api.ErrRange", laid_fellowship_api_ErrRange), ("fellowship/api.ErrShort", laid_fellowship_api_ErrShort), ("fellowship/api.ErrLong", laid_fellowship_api_ErrLong), ("fellowship/api.ErrForm", laid_fellowship_api_ErrForm), ("fellowship/api.ErrKey", laid_fellowship_api_ErrKey), ("fellowship/api.ErrSign", laid_fellowship_api_ErrSign), ("fellowship/api.ErrSeal", laid_fellowship_api_ErrSeal), ("fellowship/api.ErrEpoch", laid_fellowship_api_ErrEpoch), ("fellowship/api.ErrGroup", laid_fellowship_api_ErrGroup), ("fellowship/api.ErrSender", laid_fellowship_api_ErrSender), ("fellowship/api.ErrLeaf", laid_fellowship_api_ErrLeaf), ("fellowship/api.ErrOffer", laid_fellowship_api_ErrOffer), ("fellowship/api.ErrPath", laid_fellowship_api_ErrPath), ("fellowship/api.ErrTag", laid_fellowship_api_ErrTag), ("fellowship/api.ErrNone", laid_fellowship_api_ErrNone), ("fellowship/api.ErrRemoved", laid_fellowship_api_ErrRemoved), ("fellowship/api.ErrFull", laid_fellowship_api_ErrFull), ("fellowship/api.ErrState", laid_fellowship_api_ErrState), ("fellowship/api.ErrTwice", laid_fellowship_api_ErrTwice)], narrowed := true }
def WordsRowsUptoSaid : Prop := wordsRowsUptoRow.holds Tryd.pinned (OpenSpec.upto wordsRowsSpec)

/-- 'fellowshiplaw01.WordsBytes', WHERE WHAT IT READS IS OF BULK AT MOST 1048576: true; the input reads as it did. -/
def wordsBytesUptoRow : OpenClaim := { program := "ytllnbcibleeogaadoor", sum := "af9e1d10025914b1c51f60261a46c4b5e5550ae175da6fcbc6b3e2b0586d121b", func := "fellowship/fellowshiplaw01.WordsBytes", spec := "wordsBytes", inPlace := ["internal/reflectlite.TypeOf"], unfollowed := true, recurses := true, named := ["fellowship/api.ErrLong", "fellowship/api.ErrRange", "fellowship/api.ErrShort", "fellowship/api.ErrForm", "fellowship/api.ErrKey", "fellowship/api.ErrSign", "fellowship/api.ErrSeal", "fellowship/api.ErrEpoch", "fellowship/api.ErrGroup", "fellowship/api.ErrSender", "fellowship/api.ErrLeaf", "fellowship/api.ErrOffer", "fellowship/api.ErrPath", "fellowship/api.ErrTag", "fellowship/api.ErrNone", "fellowship/api.ErrRemoved", "fellowship/api.ErrFull", "fellowship/api.ErrState", "fellowship/api.ErrTwice"], apart := false, laid := [("fellowship/api.ErrRange", laid_fellowship_api_ErrRange), ("fellowship/api.ErrShort", laid_fellowship_api_ErrShort), ("fellowship/api.ErrLong", laid_fellowship_api_ErrLong), ("fellowship/api.ErrForm", laid_fellowship_api_ErrForm), ("fellowship/api.ErrKey", laid_fellowship_api_ErrKey), ("fellowship/api.ErrSign", laid_fellowship_api_ErrSign), ("fellowship/api.ErrSeal", laid_fellowship_api_ErrSeal), ("fellowship/api.ErrEpoch", laid_fellowship_api_ErrEpoch), ("fellowship/api.ErrGroup", laid_fellowship_api_ErrGroup), ("fellowship/api.ErrSender", laid_fellowship_api_ErrSender), ("fellowship/api.ErrLeaf", laid_fellowship_api_ErrLeaf), ("fellowship/api.ErrOffer", laid_fellowship_api_ErrOffer), ("fellowship/api.ErrPath", laid_fellowship_api_ErrPath), ("fellowship/api.ErrTag", laid_fellowship_api_ErrTag), ("fellowship/api.ErrNone", laid_fellowship_api_ErrNone), ("fellowship/api.ErrRemoved", laid_fellowship_api_ErrRemoved), ("fellowship/api.ErrFull", laid_fellowship_api_ErrFull), ("fellowship/api.ErrState", laid_fellowship_api_ErrState), ("fellowship/api.ErrTwice", laid_fellowship_api_ErrTwice)], narrowed := true }
def WordsBytesUptoSaid : Prop := wordsBytesUptoRow.holds Tryd.pinned (OpenSpec.upto wordsBytesSpec)

/-- 'fellowshiplaw17.PlacesCover', WHERE WHAT IT READS IS OF BULK AT MOST 1048576: true; the input reads as it did. -/
def placesCoverUptoRow : OpenClaim := { program := "ytllnbcibleeogaadoor", sum := "af9e1d10025914b1c51f60261a46c4b5e5550ae175da6fcbc6b3e2b0586d121b", func := "fellowship/fellowshiplaw17.PlacesCover", spec := "placesCover", named := ["fellowship/api.ErrRange", "fellowship/api.ErrNone", "fellowship/api.ErrLeaf"], apart := false, laid := [("fellowship/api.ErrRange", laid_fellowship_api_ErrRange), ("fellowship/api.ErrLeaf", laid_fellowship_api_ErrLeaf), ("fellowship/api.ErrNone", laid_fellowship_api_ErrNone)], narrowed := true }
def PlacesCoverUptoSaid : Prop := placesCoverUptoRow.holds Tryd.pinned (OpenSpec.upto placesCoverSpec)

/-- 'fellowshiplaw17.PlacesUnder', WHERE WHAT IT READS IS OF BULK AT MOST 1048576: true; the input reads as it did. -/
def placesUnderUptoRow : OpenClaim := { program := "ytllnbcibleeogaadoor", sum := "af9e1d10025914b1c51f60261a46c4b5e5550ae175da6fcbc6b3e2b0586d121b", func := "fellowship/fellowshiplaw17.PlacesUnder", spec := "placesUnder", named := ["fellowship/api.ErrRange", "fellowship/api.ErrNone", "fellowship/api.ErrLeaf"], apart := false, laid := [("fellowship/api.ErrRange", laid_fellowship_api_ErrRange), ("fellowship/api.ErrLeaf", laid_fellowship_api_ErrLeaf), ("fellowship/api.ErrNone", laid_fellowship_api_ErrNone)], narrowed := true }
def PlacesUnderUptoSaid : Prop := placesUnderUptoRow.holds Tryd.pinned (OpenSpec.upto placesUnderSpec)

/-- 'fellowshiplaw17.PlacesWays', WHERE WHAT IT READS IS OF BULK AT MOST 1048576: true; the input reads as it did. -/
def placesWaysUptoRow : OpenClaim := { program := "ytllnbcibleeogaadoor", sum := "af9e1d10025914b1c51f60261a46c4b5e5550ae175da6fcbc6b3e2b0586d121b", func := "fellowship/fellowshiplaw17.PlacesWays", spec := "placesWays", inPlace := ["internal/reflectlite.TypeOf"], unfollowed := true, recurses := true, named := ["fellowship/api.ErrRange", "fellowship/api.ErrNone", "fellowship/api.ErrLeaf", "fellowship/api.ErrShort", "fellowship/api.ErrLong", "fellowship/api.ErrForm", "fellowship/api.ErrKey", "fellowship/api.ErrSign", "fellowship/api.ErrSeal", "fellowship/api.ErrEpoch", "fellowship/api.ErrGroup", "fellowship/api.ErrSender", "fellowship/api.ErrOffer", "fellowship/api.ErrPath", "fellowship/api.ErrTag", "fellowship/api.ErrRemoved", "fellowship/api.ErrFull", "fellowship/api.ErrState", "fellowship/api.ErrTwice"], apart := false, laid := [("fellowship/api.ErrRange", laid_fellowship_api_ErrRange), ("fellowship/api.ErrShort", laid_fellowship_api_ErrShort), ("fellowship/api.ErrLong", laid_fellowship_api_ErrLong), ("fellowship/api.ErrForm", laid_fellowship_api_ErrForm), ("fellowship/api.ErrKey", laid_fellowship_api_ErrKey), ("fellowship/api.ErrSign", laid_fellowship_api_ErrSign), ("fellowship/api.ErrSeal", laid_fellowship_api_ErrSeal), ("fellowship/api.ErrEpoch", laid_fellowship_api_ErrEpoch), ("fellowship/api.ErrGroup", laid_fellowship_api_ErrGroup), ("fellowship/api.ErrSender", laid_fellowship_api_ErrSender), ("fellowship/api.ErrLeaf", laid_fellowship_api_ErrLeaf), ("fellowship/api.ErrOffer", laid_fellowship_api_ErrOffer), ("fellowship/api.ErrPath", laid_fellowship_api_ErrPath), ("fellowship/api.ErrTag", laid_fellowship_api_ErrTag), ("fellowship/api.ErrNone", laid_fellowship_api_ErrNone), ("fellowship/api.ErrRemoved", laid_fellowship_api_ErrRemoved), ("fellowship/api.ErrFull", laid_fellowship_api_ErrFull), ("fellowship/api.ErrState", laid_fellowship_api_ErrState), ("fellowship/api.ErrTwice", laid_fellowship_api_ErrTwice)], narrowed := true }
def PlacesWaysUptoSaid : Prop := placesWaysUptoRow.holds Tryd.pinned (OpenSpec.upto placesWaysSpec)

/-- 'fellowshiplaw17.PlacesNumbers', WHERE WHAT IT READS IS OF BULK AT MOST 1048576: true; the input reads as it did. -/
def placesNumbersUptoRow : OpenClaim := { program := "ytllnbcibleeogaadoor", sum := "af9e1d10025914b1c51f60261a46c4b5e5550ae175da6fcbc6b3e2b0586d121b", func := "fellowship/fellowshiplaw17.PlacesNumbers", spec := "placesNumbers", inPlace := ["internal/reflectlite.TypeOf"], unfollowed := true, recurses := true, named := ["fellowship/api.ErrRange", "fellowship/api.ErrNone", "fellowship/api.ErrLeaf", "fellowship/api.ErrShort", "fellowship/api.ErrLong", "fellowship/api.ErrForm", "fellowship/api.ErrKey", "fellowship/api.ErrSign", "fellowship/api.ErrSeal", "fellowship/api.ErrEpoch", "fellowship/api.ErrGroup", "fellowship/api.ErrSender", "fellowship/api.ErrOffer", "fellowship/api.ErrPath", "fellowship/api.ErrTag", "fellowship/api.ErrRemoved", "fellowship/api.ErrFull", "fellowship/api.ErrState", "fellowship/api.ErrTwice"], apart := false, laid := [("fellowship/api.ErrRange", laid_fellowship_api_ErrRange), ("fellowship/api.ErrShort", laid_fellowship_api_ErrShort), ("fellowship/api.ErrLong", laid_fellowship_api_ErrLong), ("fellowship/api.ErrForm", laid_fellowship_api_ErrForm), ("fellowship/api.ErrKey", laid_fellowship_api_ErrKey), ("fellowship/api.ErrSign", laid_fellowship_api_ErrSign), ("fellowship/api.ErrSeal", laid_fellowship_api_ErrSeal), ("fellowship/api.ErrEpoch", laid_fellowship_api_ErrEpoch), ("fellowship/api.ErrGroup", laid_fellowship_api_ErrGroup), ("fellowship/api.ErrSender", laid_fellowship_api_ErrSender), ("fellowship/api.ErrLeaf", laid_fellowship_api_ErrLeaf), ("fellowship/api.ErrOffer", laid_fellowship_api_ErrOffer), ("fellowship/api.ErrPath", laid_fellowship_api_ErrPath), ("fellowship/api.ErrTag", laid_fellowship_api_ErrTag), ("fellowship/api.ErrNone", laid_fellowship_api_ErrNone), ("fellowship/api.ErrRemoved", laid_fellowship_api_ErrRemoved), ("fellowship/api.ErrFull", laid_fellowship_api_ErrFull), ("fellowship/api.ErrState", laid_fellowship_api_ErrState), ("fellowship/api.ErrTwice", laid_fellowship_api_ErrTwice)], narrowed := true }
def PlacesNumbersUptoSaid : Prop := placesNumbersUptoRow.holds Tryd.pinned (OpenSpec.upto placesNumbersSpec)

/-- 'fellowshiplaw17.PlacesMeet', WHERE WHAT IT READS IS OF BULK AT MOST 1048576: true; the input reads as it did. -/
def placesMeetUptoRow : OpenClaim := { program := "ytllnbcibleeogaadoor", sum := "af9e1d10025914b1c51f60261a46c4b5e5550ae175da6fcbc6b3e2b0586d121b", func := "fellowship/fellowshiplaw17.PlacesMeet", spec := "placesMeet", inPlace := ["internal/reflectlite.TypeOf"], unfollowed := true, recurses := true, named := ["fellowship/api.ErrRange", "fellowship/api.ErrNone", "fellowship/api.ErrLeaf", "fellowship/api.ErrShort", "fellowship/api.ErrLong", "fellowship/api.ErrForm", "fellowship/api.ErrKey", "fellowship/api.ErrSign", "fellowship/api.ErrSeal", "fellowship/api.ErrEpoch", "fellowship/api.ErrGroup", "fellowship/api.ErrSender", "fellowship/api.ErrOffer", "fellowship/api.ErrPath", "fellowship/api.ErrTag", "fellowship/api.ErrRemoved", "fellowship/api.ErrFull", "fellowship/api.ErrState", "fellowship/api.ErrTwice"], apart := false, laid := [("fellowship/api.ErrRange", laid_fellowship_api_ErrRange), ("fellowship/api.ErrShort", laid_fellowship_api_ErrShort), ("fellowship/api.ErrLong", laid_fellowship_api_ErrLong), ("fellowship/api.ErrForm", laid_fellowship_api_ErrForm), ("fellowship/api.ErrKey", laid_fellowship_api_ErrKey), ("fellowship/api.ErrSign", laid_fellowship_api_ErrSign), ("fellowship/api.ErrSeal", laid_fellowship_api_ErrSeal), ("fellowship/api.ErrEpoch", laid_fellowship_api_ErrEpoch), ("fellowship/api.ErrGroup", laid_fellowship_api_ErrGroup), ("fellowship/api.ErrSender", laid_fellowship_api_ErrSender), ("fellowship/api.ErrLeaf", laid_fellowship_api_ErrLeaf), ("fellowship/api.ErrOffer", laid_fellowship_api_ErrOffer), ("fellowship/api.ErrPath", laid_fellowship_api_ErrPath), ("fellowship/api.ErrTag", laid_fellowship_api_ErrTag), ("fellowship/api.ErrNone", laid_fellowship_api_ErrNone), ("fellowship/api.ErrRemoved", laid_fellowship_api_ErrRemoved), ("fellowship/api.ErrFull", laid_fellowship_api_ErrFull), ("fellowship/api.ErrState", laid_fellowship_api_ErrState), ("fellowship/api.ErrTwice", laid_fellowship_api_ErrTwice)], narrowed := true }
def PlacesMeetUptoSaid : Prop := placesMeetUptoRow.holds Tryd.pinned (OpenSpec.upto placesMeetSpec)

end Rows
end Go.Proofs.YtllnbcibleeogaaDoor
