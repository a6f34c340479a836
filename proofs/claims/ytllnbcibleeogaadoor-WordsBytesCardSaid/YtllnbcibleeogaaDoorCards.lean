/-
  DERIVED. GIVEN WITH THE SEED: THE CARDS: each row of YtllnbcibleeogaaDoorRows.lean that lists a variable, with what it lists TIED to the program's text (the seventh form; the later family's looks); each row that meets fmt, with fmt's text TOLD by the authors' own Lean function (tested against real Go, not proved from fmt's source: count such statements apart). THE CARD IS WHAT COUNTS. Prove the row's statement (the work); the ties are given (YtllnbcibleeogaaDoorTie.lean); close each card by the builder's one call (the guide's Derived/Test/ToyasCard.lean, 'card_holds'). Laid BY PROGRAM, IN A SANDBOX (cutbox-door.mjs). By AI agents, Wed Nov 11 2026. No macro, syntax, notation, axiom, sorry.
-/
import Derived.Test.YtllnbcibleeogaaDoorRows
import GoSem.ClaimSeven
namespace Go.Proofs.YtllnbcibleeogaaDoor
namespace Rows

/-- THE TIED CARD OF 'fellowshiplaw01.WordsPicks'. -/
def wordsPicksCard : Claim7 := { stood := { row := wordsPicksRow, standIns := [], harness := (true, "63163cb55bd045ca4c24061049e73bdcca4dcdc4dc3669fd1e83d408e2a3949a"), looks := true }, kinds := [], alts := [], laidByText := true, laidKinds := [.sentinel], laidTests := true, laidLooks := .later }
def WordsPicksCardSaid : Prop := Claim7.holds Tryd.pinned (.plain (OpenSpec.ofChange wordsPicksSpec)) wordsPicksCard

/-- THE TIED CARD OF 'fellowshiplaw01.WordsTurns'. -/
def wordsTurnsCard : Claim7 := { stood := { row := wordsTurnsRow, standIns := [], harness := (true, "63163cb55bd045ca4c24061049e73bdcca4dcdc4dc3669fd1e83d408e2a3949a"), looks := true }, kinds := [], alts := [], laidByText := true, laidKinds := [.sentinel], laidTests := true, laidLooks := .later }
def WordsTurnsCardSaid : Prop := Claim7.holds Tryd.pinned (.plain (OpenSpec.ofChange wordsTurnsSpec)) wordsTurnsCard

/-- THE TIED CARD OF 'fellowshiplaw01.WordsAgain'. -/
def wordsAgainCard : Claim7 := { stood := { row := wordsAgainRow, standIns := [], harness := (true, "63163cb55bd045ca4c24061049e73bdcca4dcdc4dc3669fd1e83d408e2a3949a"), looks := true }, kinds := [], alts := [], laidByText := true, laidKinds := [.sentinel], laidTests := true, laidLooks := .later }
def WordsAgainCardSaid : Prop := Claim7.holds Tryd.pinned (.plain (OpenSpec.ofChange wordsAgainSpec)) wordsAgainCard

/-- THE TIED CARD OF 'fellowshiplaw01.WordsRows'. -/
def wordsRowsCard : Claim7 := { stood := { row := wordsRowsRow, standIns := [], harness := (true, "63163cb55bd045ca4c24061049e73bdcca4dcdc4dc3669fd1e83d408e2a3949a"), looks := true }, kinds := [], alts := [], laidByText := true, laidKinds := [.sentinel, .sentinel, .sentinel, .sentinel, .sentinel, .sentinel, .sentinel, .sentinel, .sentinel, .sentinel, .sentinel, .sentinel, .sentinel, .sentinel, .sentinel, .sentinel, .sentinel, .sentinel, .sentinel], laidTests := true, laidLooks := .later }
def WordsRowsCardSaid : Prop := Claim7.holds Tryd.pinned (.plain (OpenSpec.ofChange wordsRowsSpec)) wordsRowsCard

/-- THE TIED CARD OF 'fellowshiplaw01.WordsBytes'. -/
def wordsBytesCard : Claim7 := { stood := { row := wordsBytesRow, standIns := [], harness := (true, "63163cb55bd045ca4c24061049e73bdcca4dcdc4dc3669fd1e83d408e2a3949a"), looks := true }, kinds := [], alts := [], laidByText := true, laidKinds := [.sentinel, .sentinel, .sentinel, .sentinel, .sentinel, .sentinel, .sentinel, .sentinel, .sentinel, .sentinel, .sentinel, .sentinel, .sentinel, .sentinel, .sentinel, .sentinel, .sentinel, .sentinel, .sentinel], laidTests := true, laidLooks := .later }
def WordsBytesCardSaid : Prop := Claim7.holds Tryd.pinned (.plain (OpenSpec.ofChange wordsBytesSpec)) wordsBytesCard

/-- THE TIED CARD OF 'fellowshiplaw17.PlacesCover'. -/
def placesCoverCard : Claim7 := { stood := { row := placesCoverRow, standIns := [], harness := (true, "63163cb55bd045ca4c24061049e73bdcca4dcdc4dc3669fd1e83d408e2a3949a"), looks := true }, kinds := [], alts := [], laidByText := true, laidKinds := [.sentinel, .sentinel, .sentinel], laidTests := true, laidLooks := .later }
def PlacesCoverCardSaid : Prop := Claim7.holds Tryd.pinned (.plain (OpenSpec.ofChange placesCoverSpec)) placesCoverCard

/-- THE TIED CARD OF 'fellowshiplaw17.PlacesUnder'. -/
def placesUnderCard : Claim7 := { stood := { row := placesUnderRow, standIns := [], harness := (true, "63163cb55bd045ca4c24061049e73bdcca4dcdc4dc3669fd1e83d408e2a3949a"), looks := true }, kinds := [], alts := [], laidByText := true, laidKinds := [.sentinel, .sentinel, .sentinel], laidTests := true, laidLooks := .later }
def PlacesUnderCardSaid : Prop := Claim7.holds Tryd.pinned (.plain (OpenSpec.ofChange placesUnderSpec)) placesUnderCard

/-- THE TIED CARD OF 'fellowshiplaw17.PlacesWays'. -/
def placesWaysCard : Claim7 := { stood := { row := placesWaysRow, standIns := [], harness := (true, "63163cb55bd045ca4c24061049e73bdcca4dcdc4dc3669fd1e83d408e2a3949a"), looks := true }, kinds := [], alts := [], laidByText := true, laidKinds := [.sentinel, .sentinel, .sentinel, .sentinel, .sentinel, .sentinel, .sentinel, .sentinel, .sentinel, .sentinel, .sentinel, .sentinel, .sentinel, .sentinel, .sentinel, .sentinel, .sentinel, .sentinel, .sentinel], laidTests := true, laidLooks := .later }
def PlacesWaysCardSaid : Prop := Claim7.holds Tryd.pinned (.plain (OpenSpec.ofChange placesWaysSpec)) placesWaysCard

/-- THE TIED CARD OF 'fellowshiplaw17.PlacesNumbers'. -/
def placesNumbersCard : Claim7 := { stood := { row := placesNumbersRow, standIns := [], harness := (true, "63163cb55bd045ca4c24061049e73bdcca4dcdc4dc3669fd1e83d408e2a3949a"), looks := true }, kinds := [], alts := [], laidByText := true, laidKinds := [.sentinel, .sentinel, .sentinel, .sentinel, .sentinel, .sentinel, .sentinel, .sentinel, .sentinel, .sentinel, .sentinel, .sentinel, .sentinel, .sentinel, .sentinel, .sentinel, .sentinel, .sentinel, .sentinel], laidTests := true, laidLooks := .later }
def PlacesNumbersCardSaid : Prop := Claim7.holds Tryd.pinned (.plain (OpenSpec.ofChange placesNumbersSpec)) placesNumbersCard

/-- THE TIED CARD OF 'fellowshiplaw17.PlacesMeet'. -/
def placesMeetCard : Claim7 := { stood := { row := placesMeetRow, standIns := [], harness := (true, "63163cb55bd045ca4c24061049e73bdcca4dcdc4dc3669fd1e83d408e2a3949a"), looks := true }, kinds := [], alts := [], laidByText := true, laidKinds := [.sentinel, .sentinel, .sentinel, .sentinel, .sentinel, .sentinel, .sentinel, .sentinel, .sentinel, .sentinel, .sentinel, .sentinel, .sentinel, .sentinel, .sentinel, .sentinel, .sentinel, .sentinel, .sentinel], laidTests := true, laidLooks := .later }
def PlacesMeetCardSaid : Prop := Claim7.holds Tryd.pinned (.plain (OpenSpec.ofChange placesMeetSpec)) placesMeetCard

/-- THE SECOND FORM's CARD OF 'fellowshiplaw01.WordsPicks'. -/
def wordsPicksUptoCard : Claim7 := { stood := { row := wordsPicksUptoRow, standIns := [], harness := (true, "63163cb55bd045ca4c24061049e73bdcca4dcdc4dc3669fd1e83d408e2a3949a"), looks := true }, kinds := [], alts := [], laidByText := true, laidKinds := [.sentinel], laidTests := true, laidLooks := .later }
def WordsPicksUptoCardSaid : Prop := Claim7.holds Tryd.pinned (.plain (OpenSpec.upto wordsPicksSpec)) wordsPicksUptoCard

/-- THE SECOND FORM's CARD OF 'fellowshiplaw01.WordsTurns'. -/
def wordsTurnsUptoCard : Claim7 := { stood := { row := wordsTurnsUptoRow, standIns := [], harness := (true, "63163cb55bd045ca4c24061049e73bdcca4dcdc4dc3669fd1e83d408e2a3949a"), looks := true }, kinds := [], alts := [], laidByText := true, laidKinds := [.sentinel], laidTests := true, laidLooks := .later }
def WordsTurnsUptoCardSaid : Prop := Claim7.holds Tryd.pinned (.plain (OpenSpec.upto wordsTurnsSpec)) wordsTurnsUptoCard

/-- THE SECOND FORM's CARD OF 'fellowshiplaw01.WordsAgain'. -/
def wordsAgainUptoCard : Claim7 := { stood := { row := wordsAgainUptoRow, standIns := [], harness := (true, "63163cb55bd045ca4c24061049e73bdcca4dcdc4dc3669fd1e83d408e2a3949a"), looks := true }, kinds := [], alts := [], laidByText := true, laidKinds := [.sentinel], laidTests := true, laidLooks := .later }
def WordsAgainUptoCardSaid : Prop := Claim7.holds Tryd.pinned (.plain (OpenSpec.upto wordsAgainSpec)) wordsAgainUptoCard

/-- THE SECOND FORM's CARD OF 'fellowshiplaw01.WordsRows'. -/
def wordsRowsUptoCard : Claim7 := { stood := { row := wordsRowsUptoRow, standIns := [], harness := (true, "63163cb55bd045ca4c24061049e73bdcca4dcdc4dc3669fd1e83d408e2a3949a"), looks := true }, kinds := [], alts := [], laidByText := true, laidKinds := [.sentinel, .sentinel, .sentinel, .sentinel, .sentinel, .sentinel, .sentinel, .sentinel, .sentinel, .sentinel, .sentinel, .sentinel, .sentinel, .sentinel, .sentinel, .sentinel, .sentinel, .sentinel, .sentinel], laidTests := true, laidLooks := .later }
def WordsRowsUptoCardSaid : Prop := Claim7.holds Tryd.pinned (.plain (OpenSpec.upto wordsRowsSpec)) wordsRowsUptoCard

/-- THE SECOND FORM's CARD OF 'fellowshiplaw01.WordsBytes'. -/
def wordsBytesUptoCard : Claim7 := { stood := { row := wordsBytesUptoRow, standIns := [], harness := (true, "63163cb55bd045ca4c24061049e73bdcca4dcdc4dc3669fd1e83d408e2a3949a"), looks := true }, kinds := [], alts := [], laidByText := true, laidKinds := [.sentinel, .sentinel, .sentinel, .sentinel, .sentinel, .sentinel, .sentinel, .sentinel, .sentinel, .sentinel, .sentinel, .sentinel, .sentinel, .sentinel, .sentinel, .sentinel, .sentinel, .sentinel, .sentinel], laidTests := true, laidLooks := .later }
def WordsBytesUptoCardSaid : Prop := Claim7.holds Tryd.pinned (.plain (OpenSpec.upto wordsBytesSpec)) wordsBytesUptoCard

/-- THE SECOND FORM's CARD OF 'fellowshiplaw17.PlacesCover'. -/
def placesCoverUptoCard : Claim7 := { stood := { row := placesCoverUptoRow, standIns := [], harness := (true, "63163cb55bd045ca4c24061049e73bdcca4dcdc4dc3669fd1e83d408e2a3949a"), looks := true }, kinds := [], alts := [], laidByText := true, laidKinds := [.sentinel, .sentinel, .sentinel], laidTests := true, laidLooks := .later }
def PlacesCoverUptoCardSaid : Prop := Claim7.holds Tryd.pinned (.plain (OpenSpec.upto placesCoverSpec)) placesCoverUptoCard

/-- THE SECOND FORM's CARD OF 'fellowshiplaw17.PlacesUnder'. -/
def placesUnderUptoCard : Claim7 := { stood := { row := placesUnderUptoRow, standIns := [], harness := (true, "63163cb55bd045ca4c24061049e73bdcca4dcdc4dc3669fd1e83d408e2a3949a"), looks := true }, kinds := [], alts := [], laidByText := true, laidKinds := [.sentinel, .sentinel, .sentinel], laidTests := true, laidLooks := .later }
def PlacesUnderUptoCardSaid : Prop := Claim7.holds Tryd.pinned (.plain (OpenSpec.upto placesUnderSpec)) placesUnderUptoCard

/-- THE SECOND FORM's CARD OF 'fellowshiplaw17.PlacesWays'. -/
def placesWaysUptoCard : Claim7 := { stood := { row := placesWaysUptoRow, standIns := [], harness := (true, "63163cb55bd045ca4c24061049e73bdcca4dcdc4dc3669fd1e83d408e2a3949a"), looks := true }, kinds := [], alts := [], laidByText := true, laidKinds := [.sentinel, .sentinel, .sentinel, .sentinel, .sentinel, .sentinel, .sentinel, .sentinel, .sentinel, .sentinel, .sentinel, .sentinel, .sentinel, .sentinel, .sentinel, .sentinel, .sentinel, .sentinel, .sentinel], laidTests := true, laidLooks := .later }
def PlacesWaysUptoCardSaid : Prop := Claim7.holds Tryd.pinned (.plain (OpenSpec.upto placesWaysSpec)) placesWaysUptoCard

/-- THE SECOND FORM's CARD OF 'fellowshiplaw17.PlacesNumbers'. -/
def placesNumbersUptoCard : Claim7 := { stood := { row := placesNumbersUptoRow, standIns := [], harness := (true, "63163cb55bd045ca4c24061049e73bdcca4dcdc4dc3669fd1e83d408e2a3949a"), looks := true }, kinds := [], alts := [], laidByText := true, laidKinds := [.sentinel, .sentinel, .sentinel, .sentinel, .sentinel, .sentinel, .sentinel, .sentinel, .sentinel, .sentinel, .sentinel, .sentinel, .sentinel, .sentinel, .sentinel, .sentinel, .sentinel, .sentinel, .sentinel], laidTests := true, laidLooks := .later }
def PlacesNumbersUptoCardSaid : Prop := Claim7.holds Tryd.pinned (.plain (OpenSpec.upto placesNumbersSpec)) placesNumbersUptoCard

/-- THE SECOND FORM's CARD OF 'fellowshiplaw17.PlacesMeet'. -/
def placesMeetUptoCard : Claim7 := { stood := { row := placesMeetUptoRow, standIns := [], harness := (true, "63163cb55bd045ca4c24061049e73bdcca4dcdc4dc3669fd1e83d408e2a3949a"), looks := true }, kinds := [], alts := [], laidByText := true, laidKinds := [.sentinel, .sentinel, .sentinel, .sentinel, .sentinel, .sentinel, .sentinel, .sentinel, .sentinel, .sentinel, .sentinel, .sentinel, .sentinel, .sentinel, .sentinel, .sentinel, .sentinel, .sentinel, .sentinel], laidTests := true, laidLooks := .later }
def PlacesMeetUptoCardSaid : Prop := Claim7.holds Tryd.pinned (.plain (OpenSpec.upto placesMeetSpec)) placesMeetUptoCard
end Rows
end Go.Proofs.YtllnbcibleeogaaDoor
