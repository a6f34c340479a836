/-
  DERIVED. GIVEN WITH THE SEED: THE CARDS: each row of YtganankiiipkgaaDoorRows.lean that lists a variable, with what it lists TIED to the program's text (the seventh form; the later family's looks); each row that meets fmt, with fmt's text TOLD by the authors' own Lean function (tested against real Go, not proved from fmt's source: count such statements apart). THE CARD IS WHAT COUNTS. Prove the row's statement (the work); the ties are given (YtganankiiipkgaaDoorTie.lean); close each card by the builder's one call (the guide's Derived/Test/ToyasCard.lean, 'card_holds'). Laid BY PROGRAM, IN A SANDBOX (cutbox-door.mjs). By AI agents, Wed Nov 11 2026. No macro, syntax, notation, axiom, sorry.
-/
import Derived.Test.YtganankiiipkgaaDoorRows
import GoSem.ClaimSeven
namespace Go.Proofs.YtganankiiipkgaaDoor
namespace Rows

/-- THE TIED CARD OF 'fellowshiplaw09.FieldSums'. -/
def fieldSumsCard : Claim7 := { stood := { row := fieldSumsRow, standIns := [], harness := (true, "94cce8d256aafcb47e268e8521d824821d52b788cf0ef3101850d7e4ec72ebe9"), looks := true }, kinds := [], alts := [], laidByText := true, laidKinds := [.data], laidTests := true, laidLooks := .later }
def FieldSumsCardSaid : Prop := Claim7.holds Tryd.pinned (.plain (OpenSpec.ofChange fieldSumsSpec)) fieldSumsCard

/-- THE TIED CARD OF 'fellowshiplaw09.FieldReads'. -/
def fieldReadsCard : Claim7 := { stood := { row := fieldReadsRow, standIns := [], harness := (true, "94cce8d256aafcb47e268e8521d824821d52b788cf0ef3101850d7e4ec72ebe9"), looks := true }, kinds := [], alts := [], laidByText := true, laidKinds := [.sentinel, .sentinel, .sentinel, .sentinel, .sentinel, .sentinel, .sentinel, .sentinel, .sentinel, .sentinel, .sentinel, .sentinel, .sentinel, .sentinel, .sentinel, .sentinel, .sentinel, .sentinel, .sentinel, .data], laidTests := true, laidLooks := .later }
def FieldReadsCardSaid : Prop := Claim7.holds Tryd.pinned (.plain (OpenSpec.ofChange fieldReadsSpec)) fieldReadsCard

/-- THE TIED CARD OF 'fellowshiplaw09.FieldInverts'. -/
def fieldInvertsCard : Claim7 := { stood := { row := fieldInvertsRow, standIns := [], harness := (true, "94cce8d256aafcb47e268e8521d824821d52b788cf0ef3101850d7e4ec72ebe9"), looks := true }, kinds := [], alts := [], laidByText := true, laidKinds := [.data, .data], laidTests := true, laidLooks := .later }
def FieldInvertsCardSaid : Prop := Claim7.holds Tryd.pinned (.plain (OpenSpec.ofChange fieldInvertsSpec)) fieldInvertsCard

/-- THE TIED CARD OF 'fellowshiplaw09.FieldChains'. -/
def fieldChainsCard : Claim7 := { stood := { row := fieldChainsRow, standIns := [], harness := (true, "94cce8d256aafcb47e268e8521d824821d52b788cf0ef3101850d7e4ec72ebe9"), looks := true }, kinds := [], alts := [], laidByText := true, laidKinds := [.data], laidTests := true, laidLooks := .later }
def FieldChainsCardSaid : Prop := Claim7.holds Tryd.pinned (.plain (OpenSpec.ofChange fieldChainsSpec)) fieldChainsCard

/-- THE TIED CARD OF 'fellowshiplaw09.FieldRoots'. -/
def fieldRootsCard : Claim7 := { stood := { row := fieldRootsRow, standIns := [], harness := (true, "94cce8d256aafcb47e268e8521d824821d52b788cf0ef3101850d7e4ec72ebe9"), looks := true }, kinds := [], alts := [], laidByText := true, laidKinds := [.data, .data], laidTests := true, laidLooks := .later }
def FieldRootsCardSaid : Prop := Claim7.holds Tryd.pinned (.plain (OpenSpec.ofChange fieldRootsSpec)) fieldRootsCard

/-- THE TIED CARD OF 'fellowshiplaw10.LadderMults'. -/
def ladderMultsCard : Claim7 := { stood := { row := ladderMultsRow, standIns := [], harness := (true, "94cce8d256aafcb47e268e8521d824821d52b788cf0ef3101850d7e4ec72ebe9"), looks := true }, kinds := [], alts := [], laidByText := true, laidKinds := [.sentinel, .sentinel, .sentinel, .sentinel, .sentinel, .sentinel, .sentinel, .sentinel, .sentinel, .sentinel, .sentinel, .sentinel, .sentinel, .sentinel, .sentinel, .sentinel, .sentinel, .sentinel, .sentinel, .data], laidTests := true, laidLooks := .later }
def LadderMultsCardSaid : Prop := Claim7.holds Tryd.pinned (.plain (OpenSpec.ofChange ladderMultsSpec)) ladderMultsCard

/-- THE TIED CARD OF 'fellowshiplaw10.LadderBases'. -/
def ladderBasesCard : Claim7 := { stood := { row := ladderBasesRow, standIns := [], harness := (true, "94cce8d256aafcb47e268e8521d824821d52b788cf0ef3101850d7e4ec72ebe9"), looks := true }, kinds := [], alts := [], laidByText := true, laidKinds := [.sentinel, .sentinel, .sentinel, .sentinel, .sentinel, .sentinel, .sentinel, .sentinel, .sentinel, .sentinel, .sentinel, .sentinel, .sentinel, .sentinel, .sentinel, .sentinel, .sentinel, .sentinel, .sentinel, .data], laidTests := true, laidLooks := .later }
def LadderBasesCardSaid : Prop := Claim7.holds Tryd.pinned (.plain (OpenSpec.ofChange ladderBasesSpec)) ladderBasesCard

/-- THE TIED CARD OF 'fellowshiplaw10.LadderMeets'. -/
def ladderMeetsCard : Claim7 := { stood := { row := ladderMeetsRow, standIns := [], harness := (true, "94cce8d256aafcb47e268e8521d824821d52b788cf0ef3101850d7e4ec72ebe9"), looks := true }, kinds := [], alts := [], laidByText := true, laidKinds := [.sentinel, .sentinel, .sentinel, .sentinel, .sentinel, .sentinel, .sentinel, .sentinel, .sentinel, .sentinel, .sentinel, .sentinel, .sentinel, .sentinel, .sentinel, .sentinel, .sentinel, .sentinel, .sentinel, .data], laidTests := true, laidLooks := .later }
def LadderMeetsCardSaid : Prop := Claim7.holds Tryd.pinned (.plain (OpenSpec.ofChange ladderMeetsSpec)) ladderMeetsCard

/-- THE SECOND FORM's CARD OF 'fellowshiplaw09.FieldSums'. -/
def fieldSumsUptoCard : Claim7 := { stood := { row := fieldSumsUptoRow, standIns := [], harness := (true, "94cce8d256aafcb47e268e8521d824821d52b788cf0ef3101850d7e4ec72ebe9"), looks := true }, kinds := [], alts := [], laidByText := true, laidKinds := [.data], laidTests := true, laidLooks := .later }
def FieldSumsUptoCardSaid : Prop := Claim7.holds Tryd.pinned (.plain (OpenSpec.upto fieldSumsSpec)) fieldSumsUptoCard

/-- THE SECOND FORM's CARD OF 'fellowshiplaw09.FieldReads'. -/
def fieldReadsUptoCard : Claim7 := { stood := { row := fieldReadsUptoRow, standIns := [], harness := (true, "94cce8d256aafcb47e268e8521d824821d52b788cf0ef3101850d7e4ec72ebe9"), looks := true }, kinds := [], alts := [], laidByText := true, laidKinds := [.sentinel, .sentinel, .sentinel, .sentinel, .sentinel, .sentinel, .sentinel, .sentinel, .sentinel, .sentinel, .sentinel, .sentinel, .sentinel, .sentinel, .sentinel, .sentinel, .sentinel, .sentinel, .sentinel, .data], laidTests := true, laidLooks := .later }
def FieldReadsUptoCardSaid : Prop := Claim7.holds Tryd.pinned (.plain (OpenSpec.upto fieldReadsSpec)) fieldReadsUptoCard

/-- THE SECOND FORM's CARD OF 'fellowshiplaw09.FieldInverts'. -/
def fieldInvertsUptoCard : Claim7 := { stood := { row := fieldInvertsUptoRow, standIns := [], harness := (true, "94cce8d256aafcb47e268e8521d824821d52b788cf0ef3101850d7e4ec72ebe9"), looks := true }, kinds := [], alts := [], laidByText := true, laidKinds := [.data, .data], laidTests := true, laidLooks := .later }
def FieldInvertsUptoCardSaid : Prop := Claim7.holds Tryd.pinned (.plain (OpenSpec.upto fieldInvertsSpec)) fieldInvertsUptoCard

/-- THE SECOND FORM's CARD OF 'fellowshiplaw09.FieldChains'. -/
def fieldChainsUptoCard : Claim7 := { stood := { row := fieldChainsUptoRow, standIns := [], harness := (true, "94cce8d256aafcb47e268e8521d824821d52b788cf0ef3101850d7e4ec72ebe9"), looks := true }, kinds := [], alts := [], laidByText := true, laidKinds := [.data], laidTests := true, laidLooks := .later }
def FieldChainsUptoCardSaid : Prop := Claim7.holds Tryd.pinned (.plain (OpenSpec.upto fieldChainsSpec)) fieldChainsUptoCard

/-- THE SECOND FORM's CARD OF 'fellowshiplaw09.FieldRoots'. -/
def fieldRootsUptoCard : Claim7 := { stood := { row := fieldRootsUptoRow, standIns := [], harness := (true, "94cce8d256aafcb47e268e8521d824821d52b788cf0ef3101850d7e4ec72ebe9"), looks := true }, kinds := [], alts := [], laidByText := true, laidKinds := [.data, .data], laidTests := true, laidLooks := .later }
def FieldRootsUptoCardSaid : Prop := Claim7.holds Tryd.pinned (.plain (OpenSpec.upto fieldRootsSpec)) fieldRootsUptoCard

/-- THE SECOND FORM's CARD OF 'fellowshiplaw10.LadderMults'. -/
def ladderMultsUptoCard : Claim7 := { stood := { row := ladderMultsUptoRow, standIns := [], harness := (true, "94cce8d256aafcb47e268e8521d824821d52b788cf0ef3101850d7e4ec72ebe9"), looks := true }, kinds := [], alts := [], laidByText := true, laidKinds := [.sentinel, .sentinel, .sentinel, .sentinel, .sentinel, .sentinel, .sentinel, .sentinel, .sentinel, .sentinel, .sentinel, .sentinel, .sentinel, .sentinel, .sentinel, .sentinel, .sentinel, .sentinel, .sentinel, .data], laidTests := true, laidLooks := .later }
def LadderMultsUptoCardSaid : Prop := Claim7.holds Tryd.pinned (.plain (OpenSpec.upto ladderMultsSpec)) ladderMultsUptoCard

/-- THE SECOND FORM's CARD OF 'fellowshiplaw10.LadderBases'. -/
def ladderBasesUptoCard : Claim7 := { stood := { row := ladderBasesUptoRow, standIns := [], harness := (true, "94cce8d256aafcb47e268e8521d824821d52b788cf0ef3101850d7e4ec72ebe9"), looks := true }, kinds := [], alts := [], laidByText := true, laidKinds := [.sentinel, .sentinel, .sentinel, .sentinel, .sentinel, .sentinel, .sentinel, .sentinel, .sentinel, .sentinel, .sentinel, .sentinel, .sentinel, .sentinel, .sentinel, .sentinel, .sentinel, .sentinel, .sentinel, .data], laidTests := true, laidLooks := .later }
def LadderBasesUptoCardSaid : Prop := Claim7.holds Tryd.pinned (.plain (OpenSpec.upto ladderBasesSpec)) ladderBasesUptoCard

/-- THE SECOND FORM's CARD OF 'fellowshiplaw10.LadderMeets'. -/
def ladderMeetsUptoCard : Claim7 := { stood := { row := ladderMeetsUptoRow, standIns := [], harness := (true, "94cce8d256aafcb47e268e8521d824821d52b788cf0ef3101850d7e4ec72ebe9"), looks := true }, kinds := [], alts := [], laidByText := true, laidKinds := [.sentinel, .sentinel, .sentinel, .sentinel, .sentinel, .sentinel, .sentinel, .sentinel, .sentinel, .sentinel, .sentinel, .sentinel, .sentinel, .sentinel, .sentinel, .sentinel, .sentinel, .sentinel, .sentinel, .data], laidTests := true, laidLooks := .later }
def LadderMeetsUptoCardSaid : Prop := Claim7.holds Tryd.pinned (.plain (OpenSpec.upto ladderMeetsSpec)) ladderMeetsUptoCard
end Rows
end Go.Proofs.YtganankiiipkgaaDoor
