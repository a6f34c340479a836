/-
  DERIVED. GIVEN WITH THE SEED: THE CARDS: each row of YtildbbihjaaloaaDoorRows.lean that lists a variable, with what it lists TIED to the program's text (the seventh form; the later family's looks); each row that meets fmt, with fmt's text TOLD by the authors' own Lean function (tested against real Go, not proved from fmt's source: count such statements apart). THE CARD IS WHAT COUNTS. Prove the row's statement (the work); the ties are given (YtildbbihjaaloaaDoorTie.lean); close each card by the builder's one call (the guide's Derived/Test/ToyasCard.lean, 'card_holds'). Laid BY PROGRAM, IN A SANDBOX (cutbox-door.mjs). By AI agents, Wed Nov 11 2026. No macro, syntax, notation, axiom, sorry.
-/
import Derived.Test.YtildbbihjaaloaaDoorRows
import GoSem.ClaimSeven
namespace Go.Proofs.YtildbbihjaaloaaDoor
namespace Rows

/-- THE TIED CARD OF 'fellowshiplaw02.ShaSums'. -/
def shaSumsCard : Claim7 := { stood := { row := shaSumsRow, standIns := [], harness := (true, "5609395e34792f7c213009109426c78bebd438b3e5c5c7cc670c46877de17b4d"), looks := true }, kinds := [], alts := [], laidByText := true, laidKinds := [.sentinel, .data], laidTests := true, laidLooks := .later }
def ShaSumsCardSaid : Prop := Claim7.holds Tryd.pinned (.plain (OpenSpec.ofChange shaSumsSpec)) shaSumsCard

/-- THE TIED CARD OF 'fellowshiplaw02.ShaPieces'. -/
def shaPiecesCard : Claim7 := { stood := { row := shaPiecesRow, standIns := [], harness := (true, "5609395e34792f7c213009109426c78bebd438b3e5c5c7cc670c46877de17b4d"), looks := true }, kinds := [], alts := [], laidByText := true, laidKinds := [.sentinel, .data], laidTests := true, laidLooks := .later }
def ShaPiecesCardSaid : Prop := Claim7.holds Tryd.pinned (.plain (OpenSpec.ofChange shaPiecesSpec)) shaPiecesCard

/-- THE TIED CARD OF 'fellowshiplaw02.ShaEnds'. -/
def shaEndsCard : Claim7 := { stood := { row := shaEndsRow, standIns := [], harness := (true, "5609395e34792f7c213009109426c78bebd438b3e5c5c7cc670c46877de17b4d"), looks := true }, kinds := [], alts := [], laidByText := true, laidKinds := [.sentinel, .data], laidTests := true, laidLooks := .later }
def ShaEndsCardSaid : Prop := Claim7.holds Tryd.pinned (.plain (OpenSpec.ofChange shaEndsSpec)) shaEndsCard

/-- THE TIED CARD OF 'fellowshiplaw03.ShawideSums'. -/
def shawideSumsCard : Claim7 := { stood := { row := shawideSumsRow, standIns := [], harness := (true, "5609395e34792f7c213009109426c78bebd438b3e5c5c7cc670c46877de17b4d"), looks := true }, kinds := [], alts := [], laidByText := true, laidKinds := [.data], laidTests := true, laidLooks := .later }
def ShawideSumsCardSaid : Prop := Claim7.holds Tryd.pinned (.plain (OpenSpec.ofChange shawideSumsSpec)) shawideSumsCard

/-- THE TIED CARD OF 'fellowshiplaw03.ShawideParts'. -/
def shawidePartsCard : Claim7 := { stood := { row := shawidePartsRow, standIns := [], harness := (true, "5609395e34792f7c213009109426c78bebd438b3e5c5c7cc670c46877de17b4d"), looks := true }, kinds := [], alts := [], laidByText := true, laidKinds := [.data], laidTests := true, laidLooks := .later }
def ShawidePartsCardSaid : Prop := Claim7.holds Tryd.pinned (.plain (OpenSpec.ofChange shawidePartsSpec)) shawidePartsCard

/-- THE TIED CARD OF 'fellowshiplaw03.ShawideBlocks'. -/
def shawideBlocksCard : Claim7 := { stood := { row := shawideBlocksRow, standIns := [], harness := (true, "5609395e34792f7c213009109426c78bebd438b3e5c5c7cc670c46877de17b4d"), looks := true }, kinds := [], alts := [], laidByText := true, laidKinds := [.sentinel, .sentinel, .sentinel, .sentinel, .sentinel, .sentinel, .sentinel, .sentinel, .sentinel, .sentinel, .sentinel, .sentinel, .sentinel, .sentinel, .sentinel, .sentinel, .sentinel, .sentinel, .sentinel, .data], laidTests := true, laidLooks := .later }
def ShawideBlocksCardSaid : Prop := Claim7.holds Tryd.pinned (.plain (OpenSpec.ofChange shawideBlocksSpec)) shawideBlocksCard

/-- THE TIED CARD OF 'fellowshiplaw04.MacSums'. -/
def macSumsCard : Claim7 := { stood := { row := macSumsRow, standIns := [], harness := (true, "5609395e34792f7c213009109426c78bebd438b3e5c5c7cc670c46877de17b4d"), looks := true }, kinds := [], alts := [], laidByText := true, laidKinds := [.sentinel, .data], laidTests := true, laidLooks := .later }
def MacSumsCardSaid : Prop := Claim7.holds Tryd.pinned (.plain (OpenSpec.ofChange macSumsSpec)) macSumsCard

/-- THE TIED CARD OF 'fellowshiplaw04.MacKeys'. -/
def macKeysCard : Claim7 := { stood := { row := macKeysRow, standIns := [], harness := (true, "5609395e34792f7c213009109426c78bebd438b3e5c5c7cc670c46877de17b4d"), looks := true }, kinds := [], alts := [], laidByText := true, laidKinds := [.sentinel, .data], laidTests := true, laidLooks := .later }
def MacKeysCardSaid : Prop := Claim7.holds Tryd.pinned (.plain (OpenSpec.ofChange macKeysSpec)) macKeysCard

/-- THE TIED CARD OF 'fellowshiplaw04.MacRight'. -/
def macRightCard : Claim7 := { stood := { row := macRightRow, standIns := [], harness := (true, "5609395e34792f7c213009109426c78bebd438b3e5c5c7cc670c46877de17b4d"), looks := true }, kinds := [], alts := [], laidByText := true, laidKinds := [.sentinel, .data], laidTests := true, laidLooks := .later }
def MacRightCardSaid : Prop := Claim7.holds Tryd.pinned (.plain (OpenSpec.ofChange macRightSpec)) macRightCard

/-- THE TIED CARD OF 'fellowshiplaw05.DeriveUnlike'. -/
def deriveUnlikeCard : Claim7 := { stood := { row := deriveUnlikeRow, standIns := [], harness := (true, "5609395e34792f7c213009109426c78bebd438b3e5c5c7cc670c46877de17b4d"), looks := true }, kinds := [], alts := [], laidByText := true, laidKinds := [.sentinel, .sentinel, .data], laidTests := true, laidLooks := .later }
def DeriveUnlikeCardSaid : Prop := Claim7.holds Tryd.pinned (.plain (OpenSpec.ofChange deriveUnlikeSpec)) deriveUnlikeCard

/-- THE TIED CARD OF 'fellowshiplaw05.DeriveExpands'. -/
def deriveExpandsCard : Claim7 := { stood := { row := deriveExpandsRow, standIns := [], harness := (true, "5609395e34792f7c213009109426c78bebd438b3e5c5c7cc670c46877de17b4d"), looks := true }, kinds := [], alts := [], laidByText := true, laidKinds := [.sentinel, .sentinel, .sentinel, .sentinel, .sentinel, .sentinel, .sentinel, .sentinel, .sentinel, .sentinel, .sentinel, .sentinel, .sentinel, .sentinel, .sentinel, .sentinel, .sentinel, .sentinel, .sentinel, .data], laidTests := true, laidLooks := .later }
def DeriveExpandsCardSaid : Prop := Claim7.holds Tryd.pinned (.plain (OpenSpec.ofChange deriveExpandsSpec)) deriveExpandsCard

/-- THE TIED CARD OF 'fellowshiplaw05.DeriveLabels'. -/
def deriveLabelsCard : Claim7 := { stood := { row := deriveLabelsRow, standIns := [], harness := (true, "5609395e34792f7c213009109426c78bebd438b3e5c5c7cc670c46877de17b4d"), looks := true }, kinds := [], alts := [], laidByText := true, laidKinds := [.sentinel, .sentinel, .sentinel, .sentinel, .sentinel, .sentinel, .sentinel, .sentinel, .sentinel, .sentinel, .sentinel, .sentinel, .sentinel, .sentinel, .sentinel, .sentinel, .sentinel, .sentinel, .sentinel, .data], laidTests := true, laidLooks := .later }
def DeriveLabelsCardSaid : Prop := Claim7.holds Tryd.pinned (.plain (OpenSpec.ofChange deriveLabelsSpec)) deriveLabelsCard

/-- THE SECOND FORM's CARD OF 'fellowshiplaw02.ShaSums'. -/
def shaSumsUptoCard : Claim7 := { stood := { row := shaSumsUptoRow, standIns := [], harness := (true, "5609395e34792f7c213009109426c78bebd438b3e5c5c7cc670c46877de17b4d"), looks := true }, kinds := [], alts := [], laidByText := true, laidKinds := [.sentinel, .data], laidTests := true, laidLooks := .later }
def ShaSumsUptoCardSaid : Prop := Claim7.holds Tryd.pinned (.plain (OpenSpec.upto shaSumsSpec)) shaSumsUptoCard

/-- THE SECOND FORM's CARD OF 'fellowshiplaw02.ShaPieces'. -/
def shaPiecesUptoCard : Claim7 := { stood := { row := shaPiecesUptoRow, standIns := [], harness := (true, "5609395e34792f7c213009109426c78bebd438b3e5c5c7cc670c46877de17b4d"), looks := true }, kinds := [], alts := [], laidByText := true, laidKinds := [.sentinel, .data], laidTests := true, laidLooks := .later }
def ShaPiecesUptoCardSaid : Prop := Claim7.holds Tryd.pinned (.plain (OpenSpec.upto shaPiecesSpec)) shaPiecesUptoCard

/-- THE SECOND FORM's CARD OF 'fellowshiplaw02.ShaEnds'. -/
def shaEndsUptoCard : Claim7 := { stood := { row := shaEndsUptoRow, standIns := [], harness := (true, "5609395e34792f7c213009109426c78bebd438b3e5c5c7cc670c46877de17b4d"), looks := true }, kinds := [], alts := [], laidByText := true, laidKinds := [.sentinel, .data], laidTests := true, laidLooks := .later }
def ShaEndsUptoCardSaid : Prop := Claim7.holds Tryd.pinned (.plain (OpenSpec.upto shaEndsSpec)) shaEndsUptoCard

/-- THE SECOND FORM's CARD OF 'fellowshiplaw03.ShawideSums'. -/
def shawideSumsUptoCard : Claim7 := { stood := { row := shawideSumsUptoRow, standIns := [], harness := (true, "5609395e34792f7c213009109426c78bebd438b3e5c5c7cc670c46877de17b4d"), looks := true }, kinds := [], alts := [], laidByText := true, laidKinds := [.data], laidTests := true, laidLooks := .later }
def ShawideSumsUptoCardSaid : Prop := Claim7.holds Tryd.pinned (.plain (OpenSpec.upto shawideSumsSpec)) shawideSumsUptoCard

/-- THE SECOND FORM's CARD OF 'fellowshiplaw03.ShawideParts'. -/
def shawidePartsUptoCard : Claim7 := { stood := { row := shawidePartsUptoRow, standIns := [], harness := (true, "5609395e34792f7c213009109426c78bebd438b3e5c5c7cc670c46877de17b4d"), looks := true }, kinds := [], alts := [], laidByText := true, laidKinds := [.data], laidTests := true, laidLooks := .later }
def ShawidePartsUptoCardSaid : Prop := Claim7.holds Tryd.pinned (.plain (OpenSpec.upto shawidePartsSpec)) shawidePartsUptoCard

/-- THE SECOND FORM's CARD OF 'fellowshiplaw03.ShawideBlocks'. -/
def shawideBlocksUptoCard : Claim7 := { stood := { row := shawideBlocksUptoRow, standIns := [], harness := (true, "5609395e34792f7c213009109426c78bebd438b3e5c5c7cc670c46877de17b4d"), looks := true }, kinds := [], alts := [], laidByText := true, laidKinds := [.sentinel, .sentinel, .sentinel, .sentinel, .sentinel, .sentinel, .sentinel, .sentinel, .sentinel, .sentinel, .sentinel, .sentinel, .sentinel, .sentinel, .sentinel, .sentinel, .sentinel, .sentinel, .sentinel, .data], laidTests := true, laidLooks := .later }
def ShawideBlocksUptoCardSaid : Prop := Claim7.holds Tryd.pinned (.plain (OpenSpec.upto shawideBlocksSpec)) shawideBlocksUptoCard

/-- THE SECOND FORM's CARD OF 'fellowshiplaw04.MacSums'. -/
def macSumsUptoCard : Claim7 := { stood := { row := macSumsUptoRow, standIns := [], harness := (true, "5609395e34792f7c213009109426c78bebd438b3e5c5c7cc670c46877de17b4d"), looks := true }, kinds := [], alts := [], laidByText := true, laidKinds := [.sentinel, .data], laidTests := true, laidLooks := .later }
def MacSumsUptoCardSaid : Prop := Claim7.holds Tryd.pinned (.plain (OpenSpec.upto macSumsSpec)) macSumsUptoCard

/-- THE SECOND FORM's CARD OF 'fellowshiplaw04.MacKeys'. -/
def macKeysUptoCard : Claim7 := { stood := { row := macKeysUptoRow, standIns := [], harness := (true, "5609395e34792f7c213009109426c78bebd438b3e5c5c7cc670c46877de17b4d"), looks := true }, kinds := [], alts := [], laidByText := true, laidKinds := [.sentinel, .data], laidTests := true, laidLooks := .later }
def MacKeysUptoCardSaid : Prop := Claim7.holds Tryd.pinned (.plain (OpenSpec.upto macKeysSpec)) macKeysUptoCard

/-- THE SECOND FORM's CARD OF 'fellowshiplaw04.MacRight'. -/
def macRightUptoCard : Claim7 := { stood := { row := macRightUptoRow, standIns := [], harness := (true, "5609395e34792f7c213009109426c78bebd438b3e5c5c7cc670c46877de17b4d"), looks := true }, kinds := [], alts := [], laidByText := true, laidKinds := [.sentinel, .data], laidTests := true, laidLooks := .later }
def MacRightUptoCardSaid : Prop := Claim7.holds Tryd.pinned (.plain (OpenSpec.upto macRightSpec)) macRightUptoCard

/-- THE SECOND FORM's CARD OF 'fellowshiplaw05.DeriveUnlike'. -/
def deriveUnlikeUptoCard : Claim7 := { stood := { row := deriveUnlikeUptoRow, standIns := [], harness := (true, "5609395e34792f7c213009109426c78bebd438b3e5c5c7cc670c46877de17b4d"), looks := true }, kinds := [], alts := [], laidByText := true, laidKinds := [.sentinel, .sentinel, .data], laidTests := true, laidLooks := .later }
def DeriveUnlikeUptoCardSaid : Prop := Claim7.holds Tryd.pinned (.plain (OpenSpec.upto deriveUnlikeSpec)) deriveUnlikeUptoCard

/-- THE SECOND FORM's CARD OF 'fellowshiplaw05.DeriveExpands'. -/
def deriveExpandsUptoCard : Claim7 := { stood := { row := deriveExpandsUptoRow, standIns := [], harness := (true, "5609395e34792f7c213009109426c78bebd438b3e5c5c7cc670c46877de17b4d"), looks := true }, kinds := [], alts := [], laidByText := true, laidKinds := [.sentinel, .sentinel, .sentinel, .sentinel, .sentinel, .sentinel, .sentinel, .sentinel, .sentinel, .sentinel, .sentinel, .sentinel, .sentinel, .sentinel, .sentinel, .sentinel, .sentinel, .sentinel, .sentinel, .data], laidTests := true, laidLooks := .later }
def DeriveExpandsUptoCardSaid : Prop := Claim7.holds Tryd.pinned (.plain (OpenSpec.upto deriveExpandsSpec)) deriveExpandsUptoCard

/-- THE SECOND FORM's CARD OF 'fellowshiplaw05.DeriveLabels'. -/
def deriveLabelsUptoCard : Claim7 := { stood := { row := deriveLabelsUptoRow, standIns := [], harness := (true, "5609395e34792f7c213009109426c78bebd438b3e5c5c7cc670c46877de17b4d"), looks := true }, kinds := [], alts := [], laidByText := true, laidKinds := [.sentinel, .sentinel, .sentinel, .sentinel, .sentinel, .sentinel, .sentinel, .sentinel, .sentinel, .sentinel, .sentinel, .sentinel, .sentinel, .sentinel, .sentinel, .sentinel, .sentinel, .sentinel, .sentinel, .data], laidTests := true, laidLooks := .later }
def DeriveLabelsUptoCardSaid : Prop := Claim7.holds Tryd.pinned (.plain (OpenSpec.upto deriveLabelsSpec)) deriveLabelsUptoCard
end Rows
end Go.Proofs.YtildbbihjaaloaaDoor
