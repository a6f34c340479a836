/-
  DERIVED. GIVEN WITH THE SEED: THE CARDS: each row of YthajoenmfppenaaDoorRows.lean that lists a variable, with what it lists TIED to the program's text (the seventh form; the later family's looks); each row that meets fmt, with fmt's text TOLD by the authors' own Lean function (tested against real Go, not proved from fmt's source: count such statements apart). THE CARD IS WHAT COUNTS. Prove the row's statement (the work); the ties are given (YthajoenmfppenaaDoorTie.lean); close each card by the builder's one call (the guide's Derived/Test/ToyasCard.lean, 'card_holds'). Laid BY PROGRAM, IN A SANDBOX (cutbox-door.mjs). By AI agents, Wed Nov 11 2026. No macro, syntax, notation, axiom, sorry.
-/
import Derived.Test.YthajoenmfppenaaDoorRows
import GoSem.ClaimSeven
namespace Go.Proofs.YthajoenmfppenaaDoor
namespace Rows

/-- THE TIED CARD OF 'fellowshiplaw18.FormsUnlike'. -/
def formsUnlikeCard : Claim7 := { stood := { row := formsUnlikeRow, standIns := [], harness := (true, "0cdb998a58c66a792a053d8aba6d96aef1762df71a147ffff5930b78c109d48e"), looks := true }, kinds := [], alts := [], laidByText := true, laidKinds := [.sentinel, .sentinel, .sentinel, .sentinel, .sentinel, .sentinel, .sentinel, .sentinel, .sentinel, .sentinel, .sentinel, .sentinel, .sentinel, .sentinel, .sentinel, .sentinel, .sentinel, .sentinel, .sentinel], laidTests := true, laidLooks := .later }
def FormsUnlikeCardSaid : Prop := Claim7.holds Tryd.pinned (.plain (OpenSpec.ofChange formsUnlikeSpec)) formsUnlikeCard

/-- THE TIED CARD OF 'fellowshiplaw23.RecordUnlike'. -/
def recordUnlikeCard : Claim7 := { stood := { row := recordUnlikeRow, standIns := [], harness := (true, "0cdb998a58c66a792a053d8aba6d96aef1762df71a147ffff5930b78c109d48e"), looks := true }, kinds := [], alts := [], laidByText := true, laidKinds := [.sentinel, .sentinel, .sentinel, .data], laidTests := true, laidLooks := .later }
def RecordUnlikeCardSaid : Prop := Claim7.holds Tryd.pinned (.plain (OpenSpec.ofChange recordUnlikeSpec)) recordUnlikeCard

/-- THE TIED CARD OF 'fellowshiplaw23.RecordOffers'. -/
def recordOffersCard : Claim7 := { stood := { row := recordOffersRow, standIns := [], harness := (true, "0cdb998a58c66a792a053d8aba6d96aef1762df71a147ffff5930b78c109d48e"), looks := true }, kinds := [], alts := [], laidByText := true, laidKinds := [.sentinel, .sentinel, .sentinel, .sentinel, .sentinel, .sentinel, .sentinel, .sentinel, .sentinel, .sentinel, .sentinel, .sentinel, .sentinel, .sentinel, .sentinel, .sentinel, .sentinel, .sentinel, .sentinel, .data], laidTests := true, laidLooks := .later }
def RecordOffersCardSaid : Prop := Claim7.holds Tryd.pinned (.plain (OpenSpec.ofChange recordOffersSpec)) recordOffersCard

/-- THE TIED CARD OF 'fellowshiplaw23.RecordInfos'. -/
def recordInfosCard : Claim7 := { stood := { row := recordInfosRow, standIns := [], harness := (true, "0cdb998a58c66a792a053d8aba6d96aef1762df71a147ffff5930b78c109d48e"), looks := true }, kinds := [], alts := [], laidByText := true, laidKinds := [.sentinel, .sentinel, .sentinel, .sentinel, .sentinel, .sentinel, .sentinel, .sentinel, .sentinel, .sentinel, .sentinel, .sentinel, .sentinel, .sentinel, .sentinel, .sentinel, .sentinel, .sentinel, .sentinel, .data], laidTests := true, laidLooks := .later }
def RecordInfosCardSaid : Prop := Claim7.holds Tryd.pinned (.plain (OpenSpec.ofChange recordInfosSpec)) recordInfosCard

/-- THE TIED CARD OF 'fellowshiplaw23.RecordCommits'. -/
def recordCommitsCard : Claim7 := { stood := { row := recordCommitsRow, standIns := [], harness := (true, "0cdb998a58c66a792a053d8aba6d96aef1762df71a147ffff5930b78c109d48e"), looks := true }, kinds := [], alts := [], laidByText := true, laidKinds := [.sentinel, .sentinel, .sentinel, .sentinel, .sentinel, .sentinel, .sentinel, .sentinel, .sentinel, .sentinel, .sentinel, .sentinel, .sentinel, .sentinel, .sentinel, .sentinel, .sentinel, .sentinel, .sentinel, .data], laidTests := true, laidLooks := .later }
def RecordCommitsCardSaid : Prop := Claim7.holds Tryd.pinned (.plain (OpenSpec.ofChange recordCommitsSpec)) recordCommitsCard

/-- THE SECOND FORM's CARD OF 'fellowshiplaw18.FormsUnlike'. -/
def formsUnlikeUptoCard : Claim7 := { stood := { row := formsUnlikeUptoRow, standIns := [], harness := (true, "0cdb998a58c66a792a053d8aba6d96aef1762df71a147ffff5930b78c109d48e"), looks := true }, kinds := [], alts := [], laidByText := true, laidKinds := [.sentinel, .sentinel, .sentinel, .sentinel, .sentinel, .sentinel, .sentinel, .sentinel, .sentinel, .sentinel, .sentinel, .sentinel, .sentinel, .sentinel, .sentinel, .sentinel, .sentinel, .sentinel, .sentinel], laidTests := true, laidLooks := .later }
def FormsUnlikeUptoCardSaid : Prop := Claim7.holds Tryd.pinned (.plain (OpenSpec.upto formsUnlikeSpec)) formsUnlikeUptoCard

/-- THE SECOND FORM's CARD OF 'fellowshiplaw23.RecordUnlike'. -/
def recordUnlikeUptoCard : Claim7 := { stood := { row := recordUnlikeUptoRow, standIns := [], harness := (true, "0cdb998a58c66a792a053d8aba6d96aef1762df71a147ffff5930b78c109d48e"), looks := true }, kinds := [], alts := [], laidByText := true, laidKinds := [.sentinel, .sentinel, .sentinel, .data], laidTests := true, laidLooks := .later }
def RecordUnlikeUptoCardSaid : Prop := Claim7.holds Tryd.pinned (.plain (OpenSpec.upto recordUnlikeSpec)) recordUnlikeUptoCard

/-- THE SECOND FORM's CARD OF 'fellowshiplaw23.RecordOffers'. -/
def recordOffersUptoCard : Claim7 := { stood := { row := recordOffersUptoRow, standIns := [], harness := (true, "0cdb998a58c66a792a053d8aba6d96aef1762df71a147ffff5930b78c109d48e"), looks := true }, kinds := [], alts := [], laidByText := true, laidKinds := [.sentinel, .sentinel, .sentinel, .sentinel, .sentinel, .sentinel, .sentinel, .sentinel, .sentinel, .sentinel, .sentinel, .sentinel, .sentinel, .sentinel, .sentinel, .sentinel, .sentinel, .sentinel, .sentinel, .data], laidTests := true, laidLooks := .later }
def RecordOffersUptoCardSaid : Prop := Claim7.holds Tryd.pinned (.plain (OpenSpec.upto recordOffersSpec)) recordOffersUptoCard

/-- THE SECOND FORM's CARD OF 'fellowshiplaw23.RecordInfos'. -/
def recordInfosUptoCard : Claim7 := { stood := { row := recordInfosUptoRow, standIns := [], harness := (true, "0cdb998a58c66a792a053d8aba6d96aef1762df71a147ffff5930b78c109d48e"), looks := true }, kinds := [], alts := [], laidByText := true, laidKinds := [.sentinel, .sentinel, .sentinel, .sentinel, .sentinel, .sentinel, .sentinel, .sentinel, .sentinel, .sentinel, .sentinel, .sentinel, .sentinel, .sentinel, .sentinel, .sentinel, .sentinel, .sentinel, .sentinel, .data], laidTests := true, laidLooks := .later }
def RecordInfosUptoCardSaid : Prop := Claim7.holds Tryd.pinned (.plain (OpenSpec.upto recordInfosSpec)) recordInfosUptoCard

/-- THE SECOND FORM's CARD OF 'fellowshiplaw23.RecordCommits'. -/
def recordCommitsUptoCard : Claim7 := { stood := { row := recordCommitsUptoRow, standIns := [], harness := (true, "0cdb998a58c66a792a053d8aba6d96aef1762df71a147ffff5930b78c109d48e"), looks := true }, kinds := [], alts := [], laidByText := true, laidKinds := [.sentinel, .sentinel, .sentinel, .sentinel, .sentinel, .sentinel, .sentinel, .sentinel, .sentinel, .sentinel, .sentinel, .sentinel, .sentinel, .sentinel, .sentinel, .sentinel, .sentinel, .sentinel, .sentinel, .data], laidTests := true, laidLooks := .later }
def RecordCommitsUptoCardSaid : Prop := Claim7.holds Tryd.pinned (.plain (OpenSpec.upto recordCommitsSpec)) recordCommitsUptoCard
end Rows
end Go.Proofs.YthajoenmfppenaaDoor
