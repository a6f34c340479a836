/-
  DERIVED. GIVEN WITH THE SEED: THE CARDS: each row of YtbliikcgcgalmaaDoorRows.lean that lists a variable, with what it lists TIED to the program's text (the seventh form; the later family's looks); each row that meets fmt, with fmt's text TOLD by the authors' own Lean function (tested against real Go, not proved from fmt's source: count such statements apart). THE CARD IS WHAT COUNTS. Prove the row's statement (the work); the ties are given (YtbliikcgcgalmaaDoorTie.lean); close each card by the builder's one call (the guide's Derived/Test/ToyasCard.lean, 'card_holds'). Laid BY PROGRAM, IN A SANDBOX (cutbox-door.mjs). By AI agents, Wed Nov 11 2026. No macro, syntax, notation, axiom, sorry.
-/
import Derived.Test.YtbliikcgcgalmaaDoorRows
import GoSem.ClaimSeven
namespace Go.Proofs.YtbliikcgcgalmaaDoor
namespace Rows

/-- THE TIED CARD OF 'fellowshiplaw16.WireWithin'. -/
def wireWithinCard : Claim7 := { stood := { row := wireWithinRow, standIns := [], harness := (true, "206f18b11f9f83d00042cbdf21e47d1a0192479799ff6fcbb6501ef431ef2a7d"), looks := true }, kinds := [], alts := [], laidByText := true, laidKinds := [.sentinel, .sentinel, .sentinel, .sentinel], laidTests := true, laidLooks := .later }
def WireWithinCardSaid : Prop := Claim7.holds Tryd.pinned (.plain (OpenSpec.ofChange wireWithinSpec)) wireWithinCard

/-- THE TIED CARD OF 'fellowshiplaw16.WireNums'. -/
def wireNumsCard : Claim7 := { stood := { row := wireNumsRow, standIns := [], harness := (true, "206f18b11f9f83d00042cbdf21e47d1a0192479799ff6fcbb6501ef431ef2a7d"), looks := true }, kinds := [], alts := [], laidByText := true, laidKinds := [.sentinel, .sentinel, .sentinel, .sentinel, .sentinel, .sentinel, .sentinel, .sentinel, .sentinel, .sentinel, .sentinel, .sentinel, .sentinel, .sentinel, .sentinel, .sentinel, .sentinel, .sentinel, .sentinel], laidTests := true, laidLooks := .later }
def WireNumsCardSaid : Prop := Claim7.holds Tryd.pinned (.plain (OpenSpec.ofChange wireNumsSpec)) wireNumsCard

/-- THE TIED CARD OF 'fellowshiplaw16.WireUnrows'. -/
def wireUnrowsCard : Claim7 := { stood := { row := wireUnrowsRow, standIns := [], harness := (true, "206f18b11f9f83d00042cbdf21e47d1a0192479799ff6fcbb6501ef431ef2a7d"), looks := true }, kinds := [], alts := [], laidByText := true, laidKinds := [.sentinel, .sentinel, .sentinel, .sentinel, .sentinel, .sentinel, .sentinel, .sentinel, .sentinel, .sentinel, .sentinel, .sentinel, .sentinel, .sentinel, .sentinel, .sentinel, .sentinel, .sentinel, .sentinel], laidTests := true, laidLooks := .later }
def WireUnrowsCardSaid : Prop := Claim7.holds Tryd.pinned (.plain (OpenSpec.ofChange wireUnrowsSpec)) wireUnrowsCard

/-- THE TIED CARD OF 'fellowshiplaw16.WireLong'. -/
def wireLongCard : Claim7 := { stood := { row := wireLongRow, standIns := [], harness := (true, "206f18b11f9f83d00042cbdf21e47d1a0192479799ff6fcbb6501ef431ef2a7d"), looks := true }, kinds := [], alts := [], laidByText := true, laidKinds := [.sentinel, .sentinel, .sentinel, .sentinel, .sentinel, .sentinel, .sentinel, .sentinel, .sentinel, .sentinel, .sentinel, .sentinel, .sentinel, .sentinel, .sentinel, .sentinel, .sentinel, .sentinel, .sentinel], laidTests := true, laidLooks := .later }
def WireLongCardSaid : Prop := Claim7.holds Tryd.pinned (.plain (OpenSpec.ofChange wireLongSpec)) wireLongCard

/-- THE TIED CARD OF 'fellowshiplaw16.WireRows'. -/
def wireRowsCard : Claim7 := { stood := { row := wireRowsRow, standIns := [], harness := (true, "206f18b11f9f83d00042cbdf21e47d1a0192479799ff6fcbb6501ef431ef2a7d"), looks := true }, kinds := [], alts := [], laidByText := true, laidKinds := [.sentinel, .sentinel, .sentinel, .sentinel, .sentinel, .sentinel, .sentinel, .sentinel, .sentinel, .sentinel, .sentinel, .sentinel, .sentinel, .sentinel, .sentinel, .sentinel, .sentinel, .sentinel, .sentinel], laidTests := true, laidLooks := .later }
def WireRowsCardSaid : Prop := Claim7.holds Tryd.pinned (.plain (OpenSpec.ofChange wireRowsSpec)) wireRowsCard

/-- THE TIED CARD OF 'fellowshiplaw17.PlacesCover'. -/
def placesCoverCard : Claim7 := { stood := { row := placesCoverRow, standIns := [], harness := (true, "206f18b11f9f83d00042cbdf21e47d1a0192479799ff6fcbb6501ef431ef2a7d"), looks := true }, kinds := [], alts := [], laidByText := true, laidKinds := [.sentinel, .sentinel, .sentinel], laidTests := true, laidLooks := .later }
def PlacesCoverCardSaid : Prop := Claim7.holds Tryd.pinned (.plain (OpenSpec.ofChange placesCoverSpec)) placesCoverCard

/-- THE TIED CARD OF 'fellowshiplaw17.PlacesMeet'. -/
def placesMeetCard : Claim7 := { stood := { row := placesMeetRow, standIns := [], harness := (true, "206f18b11f9f83d00042cbdf21e47d1a0192479799ff6fcbb6501ef431ef2a7d"), looks := true }, kinds := [], alts := [], laidByText := true, laidKinds := [.sentinel, .sentinel, .sentinel, .sentinel, .sentinel, .sentinel, .sentinel, .sentinel, .sentinel, .sentinel, .sentinel, .sentinel, .sentinel, .sentinel, .sentinel, .sentinel, .sentinel, .sentinel, .sentinel], laidTests := true, laidLooks := .later }
def PlacesMeetCardSaid : Prop := Claim7.holds Tryd.pinned (.plain (OpenSpec.ofChange placesMeetSpec)) placesMeetCard

/-- THE SECOND FORM's CARD OF 'fellowshiplaw16.WireWithin'. -/
def wireWithinUptoCard : Claim7 := { stood := { row := wireWithinUptoRow, standIns := [], harness := (true, "206f18b11f9f83d00042cbdf21e47d1a0192479799ff6fcbb6501ef431ef2a7d"), looks := true }, kinds := [], alts := [], laidByText := true, laidKinds := [.sentinel, .sentinel, .sentinel, .sentinel], laidTests := true, laidLooks := .later }
def WireWithinUptoCardSaid : Prop := Claim7.holds Tryd.pinned (.plain (OpenSpec.upto wireWithinSpec)) wireWithinUptoCard

/-- THE SECOND FORM's CARD OF 'fellowshiplaw16.WireNums'. -/
def wireNumsUptoCard : Claim7 := { stood := { row := wireNumsUptoRow, standIns := [], harness := (true, "206f18b11f9f83d00042cbdf21e47d1a0192479799ff6fcbb6501ef431ef2a7d"), looks := true }, kinds := [], alts := [], laidByText := true, laidKinds := [.sentinel, .sentinel, .sentinel, .sentinel, .sentinel, .sentinel, .sentinel, .sentinel, .sentinel, .sentinel, .sentinel, .sentinel, .sentinel, .sentinel, .sentinel, .sentinel, .sentinel, .sentinel, .sentinel], laidTests := true, laidLooks := .later }
def WireNumsUptoCardSaid : Prop := Claim7.holds Tryd.pinned (.plain (OpenSpec.upto wireNumsSpec)) wireNumsUptoCard

/-- THE SECOND FORM's CARD OF 'fellowshiplaw16.WireUnrows'. -/
def wireUnrowsUptoCard : Claim7 := { stood := { row := wireUnrowsUptoRow, standIns := [], harness := (true, "206f18b11f9f83d00042cbdf21e47d1a0192479799ff6fcbb6501ef431ef2a7d"), looks := true }, kinds := [], alts := [], laidByText := true, laidKinds := [.sentinel, .sentinel, .sentinel, .sentinel, .sentinel, .sentinel, .sentinel, .sentinel, .sentinel, .sentinel, .sentinel, .sentinel, .sentinel, .sentinel, .sentinel, .sentinel, .sentinel, .sentinel, .sentinel], laidTests := true, laidLooks := .later }
def WireUnrowsUptoCardSaid : Prop := Claim7.holds Tryd.pinned (.plain (OpenSpec.upto wireUnrowsSpec)) wireUnrowsUptoCard

/-- THE SECOND FORM's CARD OF 'fellowshiplaw16.WireLong'. -/
def wireLongUptoCard : Claim7 := { stood := { row := wireLongUptoRow, standIns := [], harness := (true, "206f18b11f9f83d00042cbdf21e47d1a0192479799ff6fcbb6501ef431ef2a7d"), looks := true }, kinds := [], alts := [], laidByText := true, laidKinds := [.sentinel, .sentinel, .sentinel, .sentinel, .sentinel, .sentinel, .sentinel, .sentinel, .sentinel, .sentinel, .sentinel, .sentinel, .sentinel, .sentinel, .sentinel, .sentinel, .sentinel, .sentinel, .sentinel], laidTests := true, laidLooks := .later }
def WireLongUptoCardSaid : Prop := Claim7.holds Tryd.pinned (.plain (OpenSpec.upto wireLongSpec)) wireLongUptoCard

/-- THE SECOND FORM's CARD OF 'fellowshiplaw16.WireRows'. -/
def wireRowsUptoCard : Claim7 := { stood := { row := wireRowsUptoRow, standIns := [], harness := (true, "206f18b11f9f83d00042cbdf21e47d1a0192479799ff6fcbb6501ef431ef2a7d"), looks := true }, kinds := [], alts := [], laidByText := true, laidKinds := [.sentinel, .sentinel, .sentinel, .sentinel, .sentinel, .sentinel, .sentinel, .sentinel, .sentinel, .sentinel, .sentinel, .sentinel, .sentinel, .sentinel, .sentinel, .sentinel, .sentinel, .sentinel, .sentinel], laidTests := true, laidLooks := .later }
def WireRowsUptoCardSaid : Prop := Claim7.holds Tryd.pinned (.plain (OpenSpec.upto wireRowsSpec)) wireRowsUptoCard

/-- THE SECOND FORM's CARD OF 'fellowshiplaw17.PlacesCover'. -/
def placesCoverUptoCard : Claim7 := { stood := { row := placesCoverUptoRow, standIns := [], harness := (true, "206f18b11f9f83d00042cbdf21e47d1a0192479799ff6fcbb6501ef431ef2a7d"), looks := true }, kinds := [], alts := [], laidByText := true, laidKinds := [.sentinel, .sentinel, .sentinel], laidTests := true, laidLooks := .later }
def PlacesCoverUptoCardSaid : Prop := Claim7.holds Tryd.pinned (.plain (OpenSpec.upto placesCoverSpec)) placesCoverUptoCard

/-- THE SECOND FORM's CARD OF 'fellowshiplaw17.PlacesMeet'. -/
def placesMeetUptoCard : Claim7 := { stood := { row := placesMeetUptoRow, standIns := [], harness := (true, "206f18b11f9f83d00042cbdf21e47d1a0192479799ff6fcbb6501ef431ef2a7d"), looks := true }, kinds := [], alts := [], laidByText := true, laidKinds := [.sentinel, .sentinel, .sentinel, .sentinel, .sentinel, .sentinel, .sentinel, .sentinel, .sentinel, .sentinel, .sentinel, .sentinel, .sentinel, .sentinel, .sentinel, .sentinel, .sentinel, .sentinel, .sentinel], laidTests := true, laidLooks := .later }
def PlacesMeetUptoCardSaid : Prop := Claim7.holds Tryd.pinned (.plain (OpenSpec.upto placesMeetSpec)) placesMeetUptoCard
end Rows
end Go.Proofs.YtbliikcgcgalmaaDoor
