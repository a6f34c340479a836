/-
  DERIVED. GIVEN WITH THE SEED: THE CARDS: each row of YtmijagoibgkocaaDoorRows.lean that lists a variable, with what it lists TIED to the program's text (the seventh form; the later family's looks); each row that meets fmt, with fmt's text TOLD by the authors' own Lean function (tested against real Go, not proved from fmt's source: count such statements apart). THE CARD IS WHAT COUNTS. Prove the row's statement (the work); the ties are given (YtmijagoibgkocaaDoorTie.lean); close each card by the builder's one call (the guide's Derived/Test/ToyasCard.lean, 'card_holds'). Laid BY PROGRAM, IN A SANDBOX (cutbox-door.mjs). By AI agents, Wed Nov 11 2026. No macro, syntax, notation, axiom, sorry.
-/
import Derived.Test.YtmijagoibgkocaaDoorRows
import GoSem.ClaimSeven
namespace Go.Proofs.YtmijagoibgkocaaDoor
namespace Rows

/-- THE TIED CARD OF 'fellowshiplaw06.StreamBlocks'. -/
def streamBlocksCard : Claim7 := { stood := { row := streamBlocksRow, standIns := [], harness := (true, "9f458efe821731a0f65e629668538e5d13af46821abfb88a887092d749359c03"), looks := true }, kinds := [], alts := [], laidByText := true, laidKinds := [.sentinel, .sentinel, .sentinel, .sentinel, .sentinel, .sentinel, .sentinel, .sentinel, .sentinel, .sentinel, .sentinel, .sentinel, .sentinel, .sentinel, .sentinel, .sentinel, .sentinel, .sentinel, .sentinel], laidTests := true, laidLooks := .later }
def StreamBlocksCardSaid : Prop := Claim7.holds Tryd.pinned (.plain (OpenSpec.ofChange streamBlocksSpec)) streamBlocksCard

/-- THE TIED CARD OF 'fellowshiplaw06.StreamLike'. -/
def streamLikeCard : Claim7 := { stood := { row := streamLikeRow, standIns := [], harness := (true, "9f458efe821731a0f65e629668538e5d13af46821abfb88a887092d749359c03"), looks := true }, kinds := [], alts := [], laidByText := true, laidKinds := [.sentinel, .sentinel], laidTests := true, laidLooks := .later }
def StreamLikeCardSaid : Prop := Claim7.holds Tryd.pinned (.plain (OpenSpec.ofChange streamLikeSpec)) streamLikeCard

/-- THE TIED CARD OF 'fellowshiplaw06.StreamTurns'. -/
def streamTurnsCard : Claim7 := { stood := { row := streamTurnsRow, standIns := [], harness := (true, "9f458efe821731a0f65e629668538e5d13af46821abfb88a887092d749359c03"), looks := true }, kinds := [], alts := [], laidByText := true, laidKinds := [.sentinel, .sentinel, .sentinel, .sentinel, .sentinel, .sentinel, .sentinel, .sentinel, .sentinel, .sentinel, .sentinel, .sentinel, .sentinel, .sentinel, .sentinel, .sentinel, .sentinel, .sentinel, .sentinel], laidTests := true, laidLooks := .later }
def StreamTurnsCardSaid : Prop := Claim7.holds Tryd.pinned (.plain (OpenSpec.ofChange streamTurnsSpec)) streamTurnsCard

/-- THE TIED CARD OF 'fellowshiplaw06.StreamGoes'. -/
def streamGoesCard : Claim7 := { stood := { row := streamGoesRow, standIns := [], harness := (true, "9f458efe821731a0f65e629668538e5d13af46821abfb88a887092d749359c03"), looks := true }, kinds := [], alts := [], laidByText := true, laidKinds := [.sentinel, .sentinel, .sentinel, .sentinel, .sentinel, .sentinel, .sentinel, .sentinel, .sentinel, .sentinel, .sentinel, .sentinel, .sentinel, .sentinel, .sentinel, .sentinel, .sentinel, .sentinel, .sentinel], laidTests := true, laidLooks := .later }
def StreamGoesCardSaid : Prop := Claim7.holds Tryd.pinned (.plain (OpenSpec.ofChange streamGoesSpec)) streamGoesCard

/-- THE SECOND FORM's CARD OF 'fellowshiplaw06.StreamBlocks'. -/
def streamBlocksUptoCard : Claim7 := { stood := { row := streamBlocksUptoRow, standIns := [], harness := (true, "9f458efe821731a0f65e629668538e5d13af46821abfb88a887092d749359c03"), looks := true }, kinds := [], alts := [], laidByText := true, laidKinds := [.sentinel, .sentinel, .sentinel, .sentinel, .sentinel, .sentinel, .sentinel, .sentinel, .sentinel, .sentinel, .sentinel, .sentinel, .sentinel, .sentinel, .sentinel, .sentinel, .sentinel, .sentinel, .sentinel], laidTests := true, laidLooks := .later }
def StreamBlocksUptoCardSaid : Prop := Claim7.holds Tryd.pinned (.plain (OpenSpec.upto streamBlocksSpec)) streamBlocksUptoCard

/-- THE SECOND FORM's CARD OF 'fellowshiplaw06.StreamLike'. -/
def streamLikeUptoCard : Claim7 := { stood := { row := streamLikeUptoRow, standIns := [], harness := (true, "9f458efe821731a0f65e629668538e5d13af46821abfb88a887092d749359c03"), looks := true }, kinds := [], alts := [], laidByText := true, laidKinds := [.sentinel, .sentinel], laidTests := true, laidLooks := .later }
def StreamLikeUptoCardSaid : Prop := Claim7.holds Tryd.pinned (.plain (OpenSpec.upto streamLikeSpec)) streamLikeUptoCard

/-- THE SECOND FORM's CARD OF 'fellowshiplaw06.StreamTurns'. -/
def streamTurnsUptoCard : Claim7 := { stood := { row := streamTurnsUptoRow, standIns := [], harness := (true, "9f458efe821731a0f65e629668538e5d13af46821abfb88a887092d749359c03"), looks := true }, kinds := [], alts := [], laidByText := true, laidKinds := [.sentinel, .sentinel, .sentinel, .sentinel, .sentinel, .sentinel, .sentinel, .sentinel, .sentinel, .sentinel, .sentinel, .sentinel, .sentinel, .sentinel, .sentinel, .sentinel, .sentinel, .sentinel, .sentinel], laidTests := true, laidLooks := .later }
def StreamTurnsUptoCardSaid : Prop := Claim7.holds Tryd.pinned (.plain (OpenSpec.upto streamTurnsSpec)) streamTurnsUptoCard

/-- THE SECOND FORM's CARD OF 'fellowshiplaw06.StreamGoes'. -/
def streamGoesUptoCard : Claim7 := { stood := { row := streamGoesUptoRow, standIns := [], harness := (true, "9f458efe821731a0f65e629668538e5d13af46821abfb88a887092d749359c03"), looks := true }, kinds := [], alts := [], laidByText := true, laidKinds := [.sentinel, .sentinel, .sentinel, .sentinel, .sentinel, .sentinel, .sentinel, .sentinel, .sentinel, .sentinel, .sentinel, .sentinel, .sentinel, .sentinel, .sentinel, .sentinel, .sentinel, .sentinel, .sentinel], laidTests := true, laidLooks := .later }
def StreamGoesUptoCardSaid : Prop := Claim7.holds Tryd.pinned (.plain (OpenSpec.upto streamGoesSpec)) streamGoesUptoCard
end Rows
end Go.Proofs.YtmijagoibgkocaaDoor
