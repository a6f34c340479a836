/-
  DERIVED. GIVEN WITH THE SEED: THE CARDS: each row of YtjaappocnonkbaaDoorRows.lean that lists a variable, with what it lists TIED to the program's text (the seventh form; the later family's looks); each row that meets fmt, with fmt's text TOLD by the authors' own Lean function (tested against real Go, not proved from fmt's source: count such statements apart). THE CARD IS WHAT COUNTS. Prove the row's statement (the work); the ties are given (YtjaappocnonkbaaDoorTie.lean); close each card by the builder's one call (the guide's Derived/Test/ToyasCard.lean, 'card_holds'). Laid BY PROGRAM, IN A SANDBOX (cutbox-door.mjs). By AI agents, Wed Nov 11 2026. No macro, syntax, notation, axiom, sorry.
-/
import Derived.Test.YtjaappocnonkbaaDoorRows
import GoSem.ClaimSeven
namespace Go.Proofs.YtjaappocnonkbaaDoor
namespace Rows

/-- THE TIED CARD OF 'fellowshiplaw12.PointsReads'. -/
def pointsReadsCard : Claim7 := { stood := { row := pointsReadsRow, standIns := [], harness := (true, "959cc205e13901270d45613bc78b56e40ecd6243c5947ddcfdcee8940fc9d9ba"), looks := true }, kinds := [], alts := [], laidByText := true, laidKinds := [.sentinel, .sentinel, .sentinel, .sentinel, .sentinel, .sentinel, .sentinel, .sentinel, .sentinel, .sentinel, .sentinel, .sentinel, .sentinel, .sentinel, .sentinel, .sentinel, .sentinel, .sentinel, .sentinel, .data, .data], laidTests := true, laidLooks := .later }
def PointsReadsCardSaid : Prop := Claim7.holds Tryd.pinned (.plain (OpenSpec.ofChange pointsReadsSpec)) pointsReadsCard

/-- THE TIED CARD OF 'fellowshiplaw12.PointsTimes'. -/
def pointsTimesCard : Claim7 := { stood := { row := pointsTimesRow, standIns := [], harness := (true, "959cc205e13901270d45613bc78b56e40ecd6243c5947ddcfdcee8940fc9d9ba"), looks := true }, kinds := [], alts := [], laidByText := true, laidKinds := [.sentinel, .data, .data], laidTests := true, laidLooks := .later }
def PointsTimesCardSaid : Prop := Claim7.holds Tryd.pinned (.plain (OpenSpec.ofChange pointsTimesSpec)) pointsTimesCard

/-- THE TIED CARD OF 'fellowshiplaw12.PointsChains'. -/
def pointsChainsCard : Claim7 := { stood := { row := pointsChainsRow, standIns := [], harness := (true, "959cc205e13901270d45613bc78b56e40ecd6243c5947ddcfdcee8940fc9d9ba"), looks := true }, kinds := [], alts := [], laidByText := true, laidKinds := [.sentinel, .data, .data], laidTests := true, laidLooks := .later }
def PointsChainsCardSaid : Prop := Claim7.holds Tryd.pinned (.plain (OpenSpec.ofChange pointsChainsSpec)) pointsChainsCard

/-- THE TIED CARD OF 'fellowshiplaw12.PointsSums'. -/
def pointsSumsCard : Claim7 := { stood := { row := pointsSumsRow, standIns := [], harness := (true, "959cc205e13901270d45613bc78b56e40ecd6243c5947ddcfdcee8940fc9d9ba"), looks := true }, kinds := [], alts := [], laidByText := true, laidKinds := [.sentinel, .data, .data], laidTests := true, laidLooks := .later }
def PointsSumsCardSaid : Prop := Claim7.holds Tryd.pinned (.plain (OpenSpec.ofChange pointsSumsSpec)) pointsSumsCard

/-- THE TIED CARD OF 'fellowshiplaw12.PointsWith'. -/
def pointsWithCard : Claim7 := { stood := { row := pointsWithRow, standIns := [], harness := (true, "959cc205e13901270d45613bc78b56e40ecd6243c5947ddcfdcee8940fc9d9ba"), looks := true }, kinds := [], alts := [], laidByText := true, laidKinds := [.sentinel, .data, .data], laidTests := true, laidLooks := .later }
def PointsWithCardSaid : Prop := Claim7.holds Tryd.pinned (.plain (OpenSpec.ofChange pointsWithSpec)) pointsWithCard

/-- THE SECOND FORM's CARD OF 'fellowshiplaw12.PointsReads'. -/
def pointsReadsUptoCard : Claim7 := { stood := { row := pointsReadsUptoRow, standIns := [], harness := (true, "959cc205e13901270d45613bc78b56e40ecd6243c5947ddcfdcee8940fc9d9ba"), looks := true }, kinds := [], alts := [], laidByText := true, laidKinds := [.sentinel, .sentinel, .sentinel, .sentinel, .sentinel, .sentinel, .sentinel, .sentinel, .sentinel, .sentinel, .sentinel, .sentinel, .sentinel, .sentinel, .sentinel, .sentinel, .sentinel, .sentinel, .sentinel, .data, .data], laidTests := true, laidLooks := .later }
def PointsReadsUptoCardSaid : Prop := Claim7.holds Tryd.pinned (.plain (OpenSpec.upto pointsReadsSpec)) pointsReadsUptoCard

/-- THE SECOND FORM's CARD OF 'fellowshiplaw12.PointsTimes'. -/
def pointsTimesUptoCard : Claim7 := { stood := { row := pointsTimesUptoRow, standIns := [], harness := (true, "959cc205e13901270d45613bc78b56e40ecd6243c5947ddcfdcee8940fc9d9ba"), looks := true }, kinds := [], alts := [], laidByText := true, laidKinds := [.sentinel, .data, .data], laidTests := true, laidLooks := .later }
def PointsTimesUptoCardSaid : Prop := Claim7.holds Tryd.pinned (.plain (OpenSpec.upto pointsTimesSpec)) pointsTimesUptoCard

/-- THE SECOND FORM's CARD OF 'fellowshiplaw12.PointsChains'. -/
def pointsChainsUptoCard : Claim7 := { stood := { row := pointsChainsUptoRow, standIns := [], harness := (true, "959cc205e13901270d45613bc78b56e40ecd6243c5947ddcfdcee8940fc9d9ba"), looks := true }, kinds := [], alts := [], laidByText := true, laidKinds := [.sentinel, .data, .data], laidTests := true, laidLooks := .later }
def PointsChainsUptoCardSaid : Prop := Claim7.holds Tryd.pinned (.plain (OpenSpec.upto pointsChainsSpec)) pointsChainsUptoCard

/-- THE SECOND FORM's CARD OF 'fellowshiplaw12.PointsSums'. -/
def pointsSumsUptoCard : Claim7 := { stood := { row := pointsSumsUptoRow, standIns := [], harness := (true, "959cc205e13901270d45613bc78b56e40ecd6243c5947ddcfdcee8940fc9d9ba"), looks := true }, kinds := [], alts := [], laidByText := true, laidKinds := [.sentinel, .data, .data], laidTests := true, laidLooks := .later }
def PointsSumsUptoCardSaid : Prop := Claim7.holds Tryd.pinned (.plain (OpenSpec.upto pointsSumsSpec)) pointsSumsUptoCard

/-- THE SECOND FORM's CARD OF 'fellowshiplaw12.PointsWith'. -/
def pointsWithUptoCard : Claim7 := { stood := { row := pointsWithUptoRow, standIns := [], harness := (true, "959cc205e13901270d45613bc78b56e40ecd6243c5947ddcfdcee8940fc9d9ba"), looks := true }, kinds := [], alts := [], laidByText := true, laidKinds := [.sentinel, .data, .data], laidTests := true, laidLooks := .later }
def PointsWithUptoCardSaid : Prop := Claim7.holds Tryd.pinned (.plain (OpenSpec.upto pointsWithSpec)) pointsWithUptoCard
end Rows
end Go.Proofs.YtjaappocnonkbaaDoor
