/-
  DERIVED. GIVEN WITH THE SEED: THE PROGRAM's TIES (one call each: nine closed facts by the kernel) AND EACH ROW's TIE, after the 31st guide's Derived/Test/Toyas{Tie, Card}.lean. No idea stands in it: it is a product of the set-up. Laid BY PROGRAM, IN A SANDBOX (cutbox-door.mjs). By AI agents, Wed Nov 11 2026. No macro, syntax, notation, axiom, sorry.
-/
import Derived.Test.YtllnbcibleeogaaDoorRows
import Derived.LaidByTextLater
import Derived.SevenTiedAt
import Derived.LaidSub
import Derived.LaidOnce
namespace Go.Proofs.YtllnbcibleeogaaDoor
open Go
set_option maxRecDepth 100000
theorem seatTie1 : Tryd.prog.laidByTextLater [("fellowship/api.ErrRange", Rows.laid_fellowship_api_ErrRange), ("fellowship/api.ErrShort", Rows.laid_fellowship_api_ErrShort), ("fellowship/api.ErrLong", Rows.laid_fellowship_api_ErrLong), ("fellowship/api.ErrForm", Rows.laid_fellowship_api_ErrForm), ("fellowship/api.ErrKey", Rows.laid_fellowship_api_ErrKey), ("fellowship/api.ErrSign", Rows.laid_fellowship_api_ErrSign), ("fellowship/api.ErrSeal", Rows.laid_fellowship_api_ErrSeal), ("fellowship/api.ErrEpoch", Rows.laid_fellowship_api_ErrEpoch), ("fellowship/api.ErrGroup", Rows.laid_fellowship_api_ErrGroup), ("fellowship/api.ErrSender", Rows.laid_fellowship_api_ErrSender), ("fellowship/api.ErrLeaf", Rows.laid_fellowship_api_ErrLeaf), ("fellowship/api.ErrOffer", Rows.laid_fellowship_api_ErrOffer), ("fellowship/api.ErrPath", Rows.laid_fellowship_api_ErrPath), ("fellowship/api.ErrTag", Rows.laid_fellowship_api_ErrTag), ("fellowship/api.ErrNone", Rows.laid_fellowship_api_ErrNone), ("fellowship/api.ErrRemoved", Rows.laid_fellowship_api_ErrRemoved), ("fellowship/api.ErrFull", Rows.laid_fellowship_api_ErrFull), ("fellowship/api.ErrState", Rows.laid_fellowship_api_ErrState), ("fellowship/api.ErrTwice", Rows.laid_fellowship_api_ErrTwice)] [.sentinel, .sentinel, .sentinel, .sentinel, .sentinel, .sentinel, .sentinel, .sentinel, .sentinel, .sentinel, .sentinel, .sentinel, .sentinel, .sentinel, .sentinel, .sentinel, .sentinel, .sentinel, .sentinel] true :=
  Program.laidByTextLater_by_one 370 8 2 (by kernel_rfl) (by kernel_rfl) (by kernel_rfl) (by kernel_rfl) (by kernel_rfl) (by kernel_rfl) (fun _ _ => by kernel_rfl)
theorem noOwnUnsafe : Tryd.pinned.checked.prog.headLifts.contains "ownunsafe" = false := by kernel_rfl
theorem tie : Tryd.prog.laidByTextLater [("fellowship/api.ErrLong", Rows.laid_fellowship_api_ErrLong)] [.sentinel] true :=
  Program.laidByTextLater.sub seatTie1 ["fellowship/api.ErrLong"] (by kernel_rfl) (by kernel_rfl)
theorem wordsPicks_row_tie : Rows.wordsPicksRow.laidByTextAt .later Tryd.pinned [.sentinel] true :=
  OpenClaim.laidByTextAt_later rfl rfl tie noOwnUnsafe
theorem wordsTurns_row_tie : Rows.wordsTurnsRow.laidByTextAt .later Tryd.pinned [.sentinel] true :=
  OpenClaim.laidByTextAt_later rfl rfl tie noOwnUnsafe
theorem wordsAgain_row_tie : Rows.wordsAgainRow.laidByTextAt .later Tryd.pinned [.sentinel] true :=
  OpenClaim.laidByTextAt_later rfl rfl tie noOwnUnsafe
theorem tie2 : Tryd.prog.laidByTextLater [("fellowship/api.ErrRange", Rows.laid_fellowship_api_ErrRange), ("fellowship/api.ErrShort", Rows.laid_fellowship_api_ErrShort), ("fellowship/api.ErrLong", Rows.laid_fellowship_api_ErrLong), ("fellowship/api.ErrForm", Rows.laid_fellowship_api_ErrForm), ("fellowship/api.ErrKey", Rows.laid_fellowship_api_ErrKey), ("fellowship/api.ErrSign", Rows.laid_fellowship_api_ErrSign), ("fellowship/api.ErrSeal", Rows.laid_fellowship_api_ErrSeal), ("fellowship/api.ErrEpoch", Rows.laid_fellowship_api_ErrEpoch), ("fellowship/api.ErrGroup", Rows.laid_fellowship_api_ErrGroup), ("fellowship/api.ErrSender", Rows.laid_fellowship_api_ErrSender), ("fellowship/api.ErrLeaf", Rows.laid_fellowship_api_ErrLeaf), ("fellowship/api.ErrOffer", Rows.laid_fellowship_api_ErrOffer), ("fellowship/api.ErrPath", Rows.laid_fellowship_api_ErrPath), ("fellowship/api.ErrTag", Rows.laid_fellowship_api_ErrTag), ("fellowship/api.ErrNone", Rows.laid_fellowship_api_ErrNone), ("fellowship/api.ErrRemoved", Rows.laid_fellowship_api_ErrRemoved), ("fellowship/api.ErrFull", Rows.laid_fellowship_api_ErrFull), ("fellowship/api.ErrState", Rows.laid_fellowship_api_ErrState), ("fellowship/api.ErrTwice", Rows.laid_fellowship_api_ErrTwice)] [.sentinel, .sentinel, .sentinel, .sentinel, .sentinel, .sentinel, .sentinel, .sentinel, .sentinel, .sentinel, .sentinel, .sentinel, .sentinel, .sentinel, .sentinel, .sentinel, .sentinel, .sentinel, .sentinel] true :=
  Program.laidByTextLater.sub seatTie1 ["fellowship/api.ErrRange", "fellowship/api.ErrShort", "fellowship/api.ErrLong", "fellowship/api.ErrForm", "fellowship/api.ErrKey", "fellowship/api.ErrSign", "fellowship/api.ErrSeal", "fellowship/api.ErrEpoch", "fellowship/api.ErrGroup", "fellowship/api.ErrSender", "fellowship/api.ErrLeaf", "fellowship/api.ErrOffer", "fellowship/api.ErrPath", "fellowship/api.ErrTag", "fellowship/api.ErrNone", "fellowship/api.ErrRemoved", "fellowship/api.ErrFull", "fellowship/api.ErrState", "fellowship/api.ErrTwice"] (by kernel_rfl) (by kernel_rfl)
theorem wordsRows_row_tie : Rows.wordsRowsRow.laidByTextAt .later Tryd.pinned [.sentinel, .sentinel, .sentinel, .sentinel, .sentinel, .sentinel, .sentinel, .sentinel, .sentinel, .sentinel, .sentinel, .sentinel, .sentinel, .sentinel, .sentinel, .sentinel, .sentinel, .sentinel, .sentinel] true :=
  OpenClaim.laidByTextAt_later rfl rfl tie2 noOwnUnsafe
theorem wordsBytes_row_tie : Rows.wordsBytesRow.laidByTextAt .later Tryd.pinned [.sentinel, .sentinel, .sentinel, .sentinel, .sentinel, .sentinel, .sentinel, .sentinel, .sentinel, .sentinel, .sentinel, .sentinel, .sentinel, .sentinel, .sentinel, .sentinel, .sentinel, .sentinel, .sentinel] true :=
  OpenClaim.laidByTextAt_later rfl rfl tie2 noOwnUnsafe
theorem placesWays_row_tie : Rows.placesWaysRow.laidByTextAt .later Tryd.pinned [.sentinel, .sentinel, .sentinel, .sentinel, .sentinel, .sentinel, .sentinel, .sentinel, .sentinel, .sentinel, .sentinel, .sentinel, .sentinel, .sentinel, .sentinel, .sentinel, .sentinel, .sentinel, .sentinel] true :=
  OpenClaim.laidByTextAt_later rfl rfl tie2 noOwnUnsafe
theorem placesNumbers_row_tie : Rows.placesNumbersRow.laidByTextAt .later Tryd.pinned [.sentinel, .sentinel, .sentinel, .sentinel, .sentinel, .sentinel, .sentinel, .sentinel, .sentinel, .sentinel, .sentinel, .sentinel, .sentinel, .sentinel, .sentinel, .sentinel, .sentinel, .sentinel, .sentinel] true :=
  OpenClaim.laidByTextAt_later rfl rfl tie2 noOwnUnsafe
theorem placesMeet_row_tie : Rows.placesMeetRow.laidByTextAt .later Tryd.pinned [.sentinel, .sentinel, .sentinel, .sentinel, .sentinel, .sentinel, .sentinel, .sentinel, .sentinel, .sentinel, .sentinel, .sentinel, .sentinel, .sentinel, .sentinel, .sentinel, .sentinel, .sentinel, .sentinel] true :=
  OpenClaim.laidByTextAt_later rfl rfl tie2 noOwnUnsafe
theorem tie3 : Tryd.prog.laidByTextLater [("fellowship/api.ErrRange", Rows.laid_fellowship_api_ErrRange), ("fellowship/api.ErrLeaf", Rows.laid_fellowship_api_ErrLeaf), ("fellowship/api.ErrNone", Rows.laid_fellowship_api_ErrNone)] [.sentinel, .sentinel, .sentinel] true :=
  Program.laidByTextLater.sub seatTie1 ["fellowship/api.ErrRange", "fellowship/api.ErrLeaf", "fellowship/api.ErrNone"] (by kernel_rfl) (by kernel_rfl)
theorem placesCover_row_tie : Rows.placesCoverRow.laidByTextAt .later Tryd.pinned [.sentinel, .sentinel, .sentinel] true :=
  OpenClaim.laidByTextAt_later rfl rfl tie3 noOwnUnsafe
theorem placesUnder_row_tie : Rows.placesUnderRow.laidByTextAt .later Tryd.pinned [.sentinel, .sentinel, .sentinel] true :=
  OpenClaim.laidByTextAt_later rfl rfl tie3 noOwnUnsafe
theorem wordsPicksUpto_row_tie : Rows.wordsPicksUptoRow.laidByTextAt .later Tryd.pinned [.sentinel] true :=
  OpenClaim.laidByTextAt_later rfl rfl tie noOwnUnsafe
theorem wordsTurnsUpto_row_tie : Rows.wordsTurnsUptoRow.laidByTextAt .later Tryd.pinned [.sentinel] true :=
  OpenClaim.laidByTextAt_later rfl rfl tie noOwnUnsafe
theorem wordsAgainUpto_row_tie : Rows.wordsAgainUptoRow.laidByTextAt .later Tryd.pinned [.sentinel] true :=
  OpenClaim.laidByTextAt_later rfl rfl tie noOwnUnsafe
theorem wordsRowsUpto_row_tie : Rows.wordsRowsUptoRow.laidByTextAt .later Tryd.pinned [.sentinel, .sentinel, .sentinel, .sentinel, .sentinel, .sentinel, .sentinel, .sentinel, .sentinel, .sentinel, .sentinel, .sentinel, .sentinel, .sentinel, .sentinel, .sentinel, .sentinel, .sentinel, .sentinel] true :=
  OpenClaim.laidByTextAt_later rfl rfl tie2 noOwnUnsafe
theorem wordsBytesUpto_row_tie : Rows.wordsBytesUptoRow.laidByTextAt .later Tryd.pinned [.sentinel, .sentinel, .sentinel, .sentinel, .sentinel, .sentinel, .sentinel, .sentinel, .sentinel, .sentinel, .sentinel, .sentinel, .sentinel, .sentinel, .sentinel, .sentinel, .sentinel, .sentinel, .sentinel] true :=
  OpenClaim.laidByTextAt_later rfl rfl tie2 noOwnUnsafe
theorem placesCoverUpto_row_tie : Rows.placesCoverUptoRow.laidByTextAt .later Tryd.pinned [.sentinel, .sentinel, .sentinel] true :=
  OpenClaim.laidByTextAt_later rfl rfl tie3 noOwnUnsafe
theorem placesUnderUpto_row_tie : Rows.placesUnderUptoRow.laidByTextAt .later Tryd.pinned [.sentinel, .sentinel, .sentinel] true :=
  OpenClaim.laidByTextAt_later rfl rfl tie3 noOwnUnsafe
theorem placesWaysUpto_row_tie : Rows.placesWaysUptoRow.laidByTextAt .later Tryd.pinned [.sentinel, .sentinel, .sentinel, .sentinel, .sentinel, .sentinel, .sentinel, .sentinel, .sentinel, .sentinel, .sentinel, .sentinel, .sentinel, .sentinel, .sentinel, .sentinel, .sentinel, .sentinel, .sentinel] true :=
  OpenClaim.laidByTextAt_later rfl rfl tie2 noOwnUnsafe
theorem placesNumbersUpto_row_tie : Rows.placesNumbersUptoRow.laidByTextAt .later Tryd.pinned [.sentinel, .sentinel, .sentinel, .sentinel, .sentinel, .sentinel, .sentinel, .sentinel, .sentinel, .sentinel, .sentinel, .sentinel, .sentinel, .sentinel, .sentinel, .sentinel, .sentinel, .sentinel, .sentinel] true :=
  OpenClaim.laidByTextAt_later rfl rfl tie2 noOwnUnsafe
theorem placesMeetUpto_row_tie : Rows.placesMeetUptoRow.laidByTextAt .later Tryd.pinned [.sentinel, .sentinel, .sentinel, .sentinel, .sentinel, .sentinel, .sentinel, .sentinel, .sentinel, .sentinel, .sentinel, .sentinel, .sentinel, .sentinel, .sentinel, .sentinel, .sentinel, .sentinel, .sentinel] true :=
  OpenClaim.laidByTextAt_later rfl rfl tie2 noOwnUnsafe
end Go.Proofs.YtllnbcibleeogaaDoor
