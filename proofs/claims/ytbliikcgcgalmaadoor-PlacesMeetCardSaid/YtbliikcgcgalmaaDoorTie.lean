/-
  DERIVED. GIVEN WITH THE SEED: THE PROGRAM's TIES (one call each: nine closed facts by the kernel) AND EACH ROW's TIE, after the 31st guide's Derived/Test/Toyas{Tie, Card}.lean. No idea stands in it: it is a product of the set-up. Laid BY PROGRAM, IN A SANDBOX (cutbox-door.mjs). By AI agents, Wed Nov 11 2026. No macro, syntax, notation, axiom, sorry.
-/
import Derived.Test.YtbliikcgcgalmaaDoorRows
import Derived.LaidByTextLater
import Derived.SevenTiedAt
import Derived.LaidSub
import Derived.LaidOnce
namespace Go.Proofs.YtbliikcgcgalmaaDoor
open Go
set_option maxRecDepth 100000
theorem seatTie1 : Tryd.prog.laidByTextLater [("fellowship/api.ErrRange", Rows.laid_fellowship_api_ErrRange), ("fellowship/api.ErrShort", Rows.laid_fellowship_api_ErrShort), ("fellowship/api.ErrLong", Rows.laid_fellowship_api_ErrLong), ("fellowship/api.ErrForm", Rows.laid_fellowship_api_ErrForm), ("fellowship/api.ErrKey", Rows.laid_fellowship_api_ErrKey), ("fellowship/api.ErrSign", Rows.laid_fellowship_api_ErrSign), ("fellowship/api.ErrSeal", Rows.laid_fellowship_api_ErrSeal), ("fellowship/api.ErrEpoch", Rows.laid_fellowship_api_ErrEpoch), ("fellowship/api.ErrGroup", Rows.laid_fellowship_api_ErrGroup), ("fellowship/api.ErrSender", Rows.laid_fellowship_api_ErrSender), ("fellowship/api.ErrLeaf", Rows.laid_fellowship_api_ErrLeaf), ("fellowship/api.ErrOffer", Rows.laid_fellowship_api_ErrOffer), ("fellowship/api.ErrPath", Rows.laid_fellowship_api_ErrPath), ("fellowship/api.ErrTag", Rows.laid_fellowship_api_ErrTag), ("fellowship/api.ErrNone", Rows.laid_fellowship_api_ErrNone), ("fellowship/api.ErrRemoved", Rows.laid_fellowship_api_ErrRemoved), ("fellowship/api.ErrFull", Rows.laid_fellowship_api_ErrFull), ("fellowship/api.ErrState", Rows.laid_fellowship_api_ErrState), ("fellowship/api.ErrTwice", Rows.laid_fellowship_api_ErrTwice)] [.sentinel, .sentinel, .sentinel, .sentinel, .sentinel, .sentinel, .sentinel, .sentinel, .sentinel, .sentinel, .sentinel, .sentinel, .sentinel, .sentinel, .sentinel, .sentinel, .sentinel, .sentinel, .sentinel] true :=
  Program.laidByTextLater_by_one 370 8 2 (by kernel_rfl) (by kernel_rfl) (by kernel_rfl) (by kernel_rfl) (by kernel_rfl) (by kernel_rfl) (fun _ _ => by kernel_rfl)
theorem noOwnUnsafe : Tryd.pinned.checked.prog.headLifts.contains "ownunsafe" = false := by kernel_rfl
theorem tie : Tryd.prog.laidByTextLater [("fellowship/api.ErrRange", Rows.laid_fellowship_api_ErrRange), ("fellowship/api.ErrShort", Rows.laid_fellowship_api_ErrShort), ("fellowship/api.ErrLong", Rows.laid_fellowship_api_ErrLong), ("fellowship/api.ErrForm", Rows.laid_fellowship_api_ErrForm)] [.sentinel, .sentinel, .sentinel, .sentinel] true :=
  Program.laidByTextLater.sub seatTie1 ["fellowship/api.ErrRange", "fellowship/api.ErrShort", "fellowship/api.ErrLong", "fellowship/api.ErrForm"] (by kernel_rfl) (by kernel_rfl)
theorem wireWithin_row_tie : Rows.wireWithinRow.laidByTextAt .later Tryd.pinned [.sentinel, .sentinel, .sentinel, .sentinel] true :=
  OpenClaim.laidByTextAt_later rfl rfl tie noOwnUnsafe
theorem tie2 : Tryd.prog.laidByTextLater [("fellowship/api.ErrRange", Rows.laid_fellowship_api_ErrRange), ("fellowship/api.ErrShort", Rows.laid_fellowship_api_ErrShort), ("fellowship/api.ErrLong", Rows.laid_fellowship_api_ErrLong), ("fellowship/api.ErrForm", Rows.laid_fellowship_api_ErrForm), ("fellowship/api.ErrKey", Rows.laid_fellowship_api_ErrKey), ("fellowship/api.ErrSign", Rows.laid_fellowship_api_ErrSign), ("fellowship/api.ErrSeal", Rows.laid_fellowship_api_ErrSeal), ("fellowship/api.ErrEpoch", Rows.laid_fellowship_api_ErrEpoch), ("fellowship/api.ErrGroup", Rows.laid_fellowship_api_ErrGroup), ("fellowship/api.ErrSender", Rows.laid_fellowship_api_ErrSender), ("fellowship/api.ErrLeaf", Rows.laid_fellowship_api_ErrLeaf), ("fellowship/api.ErrOffer", Rows.laid_fellowship_api_ErrOffer), ("fellowship/api.ErrPath", Rows.laid_fellowship_api_ErrPath), ("fellowship/api.ErrTag", Rows.laid_fellowship_api_ErrTag), ("fellowship/api.ErrNone", Rows.laid_fellowship_api_ErrNone), ("fellowship/api.ErrRemoved", Rows.laid_fellowship_api_ErrRemoved), ("fellowship/api.ErrFull", Rows.laid_fellowship_api_ErrFull), ("fellowship/api.ErrState", Rows.laid_fellowship_api_ErrState), ("fellowship/api.ErrTwice", Rows.laid_fellowship_api_ErrTwice)] [.sentinel, .sentinel, .sentinel, .sentinel, .sentinel, .sentinel, .sentinel, .sentinel, .sentinel, .sentinel, .sentinel, .sentinel, .sentinel, .sentinel, .sentinel, .sentinel, .sentinel, .sentinel, .sentinel] true :=
  Program.laidByTextLater.sub seatTie1 ["fellowship/api.ErrRange", "fellowship/api.ErrShort", "fellowship/api.ErrLong", "fellowship/api.ErrForm", "fellowship/api.ErrKey", "fellowship/api.ErrSign", "fellowship/api.ErrSeal", "fellowship/api.ErrEpoch", "fellowship/api.ErrGroup", "fellowship/api.ErrSender", "fellowship/api.ErrLeaf", "fellowship/api.ErrOffer", "fellowship/api.ErrPath", "fellowship/api.ErrTag", "fellowship/api.ErrNone", "fellowship/api.ErrRemoved", "fellowship/api.ErrFull", "fellowship/api.ErrState", "fellowship/api.ErrTwice"] (by kernel_rfl) (by kernel_rfl)
theorem wireNums_row_tie : Rows.wireNumsRow.laidByTextAt .later Tryd.pinned [.sentinel, .sentinel, .sentinel, .sentinel, .sentinel, .sentinel, .sentinel, .sentinel, .sentinel, .sentinel, .sentinel, .sentinel, .sentinel, .sentinel, .sentinel, .sentinel, .sentinel, .sentinel, .sentinel] true :=
  OpenClaim.laidByTextAt_later rfl rfl tie2 noOwnUnsafe
theorem wireUnrows_row_tie : Rows.wireUnrowsRow.laidByTextAt .later Tryd.pinned [.sentinel, .sentinel, .sentinel, .sentinel, .sentinel, .sentinel, .sentinel, .sentinel, .sentinel, .sentinel, .sentinel, .sentinel, .sentinel, .sentinel, .sentinel, .sentinel, .sentinel, .sentinel, .sentinel] true :=
  OpenClaim.laidByTextAt_later rfl rfl tie2 noOwnUnsafe
theorem wireLong_row_tie : Rows.wireLongRow.laidByTextAt .later Tryd.pinned [.sentinel, .sentinel, .sentinel, .sentinel, .sentinel, .sentinel, .sentinel, .sentinel, .sentinel, .sentinel, .sentinel, .sentinel, .sentinel, .sentinel, .sentinel, .sentinel, .sentinel, .sentinel, .sentinel] true :=
  OpenClaim.laidByTextAt_later rfl rfl tie2 noOwnUnsafe
theorem wireRows_row_tie : Rows.wireRowsRow.laidByTextAt .later Tryd.pinned [.sentinel, .sentinel, .sentinel, .sentinel, .sentinel, .sentinel, .sentinel, .sentinel, .sentinel, .sentinel, .sentinel, .sentinel, .sentinel, .sentinel, .sentinel, .sentinel, .sentinel, .sentinel, .sentinel] true :=
  OpenClaim.laidByTextAt_later rfl rfl tie2 noOwnUnsafe
theorem placesMeet_row_tie : Rows.placesMeetRow.laidByTextAt .later Tryd.pinned [.sentinel, .sentinel, .sentinel, .sentinel, .sentinel, .sentinel, .sentinel, .sentinel, .sentinel, .sentinel, .sentinel, .sentinel, .sentinel, .sentinel, .sentinel, .sentinel, .sentinel, .sentinel, .sentinel] true :=
  OpenClaim.laidByTextAt_later rfl rfl tie2 noOwnUnsafe
theorem tie3 : Tryd.prog.laidByTextLater [("fellowship/api.ErrRange", Rows.laid_fellowship_api_ErrRange), ("fellowship/api.ErrLeaf", Rows.laid_fellowship_api_ErrLeaf), ("fellowship/api.ErrNone", Rows.laid_fellowship_api_ErrNone)] [.sentinel, .sentinel, .sentinel] true :=
  Program.laidByTextLater.sub seatTie1 ["fellowship/api.ErrRange", "fellowship/api.ErrLeaf", "fellowship/api.ErrNone"] (by kernel_rfl) (by kernel_rfl)
theorem placesCover_row_tie : Rows.placesCoverRow.laidByTextAt .later Tryd.pinned [.sentinel, .sentinel, .sentinel] true :=
  OpenClaim.laidByTextAt_later rfl rfl tie3 noOwnUnsafe
theorem wireWithinUpto_row_tie : Rows.wireWithinUptoRow.laidByTextAt .later Tryd.pinned [.sentinel, .sentinel, .sentinel, .sentinel] true :=
  OpenClaim.laidByTextAt_later rfl rfl tie noOwnUnsafe
theorem wireNumsUpto_row_tie : Rows.wireNumsUptoRow.laidByTextAt .later Tryd.pinned [.sentinel, .sentinel, .sentinel, .sentinel, .sentinel, .sentinel, .sentinel, .sentinel, .sentinel, .sentinel, .sentinel, .sentinel, .sentinel, .sentinel, .sentinel, .sentinel, .sentinel, .sentinel, .sentinel] true :=
  OpenClaim.laidByTextAt_later rfl rfl tie2 noOwnUnsafe
theorem wireUnrowsUpto_row_tie : Rows.wireUnrowsUptoRow.laidByTextAt .later Tryd.pinned [.sentinel, .sentinel, .sentinel, .sentinel, .sentinel, .sentinel, .sentinel, .sentinel, .sentinel, .sentinel, .sentinel, .sentinel, .sentinel, .sentinel, .sentinel, .sentinel, .sentinel, .sentinel, .sentinel] true :=
  OpenClaim.laidByTextAt_later rfl rfl tie2 noOwnUnsafe
theorem wireLongUpto_row_tie : Rows.wireLongUptoRow.laidByTextAt .later Tryd.pinned [.sentinel, .sentinel, .sentinel, .sentinel, .sentinel, .sentinel, .sentinel, .sentinel, .sentinel, .sentinel, .sentinel, .sentinel, .sentinel, .sentinel, .sentinel, .sentinel, .sentinel, .sentinel, .sentinel] true :=
  OpenClaim.laidByTextAt_later rfl rfl tie2 noOwnUnsafe
theorem wireRowsUpto_row_tie : Rows.wireRowsUptoRow.laidByTextAt .later Tryd.pinned [.sentinel, .sentinel, .sentinel, .sentinel, .sentinel, .sentinel, .sentinel, .sentinel, .sentinel, .sentinel, .sentinel, .sentinel, .sentinel, .sentinel, .sentinel, .sentinel, .sentinel, .sentinel, .sentinel] true :=
  OpenClaim.laidByTextAt_later rfl rfl tie2 noOwnUnsafe
theorem placesCoverUpto_row_tie : Rows.placesCoverUptoRow.laidByTextAt .later Tryd.pinned [.sentinel, .sentinel, .sentinel] true :=
  OpenClaim.laidByTextAt_later rfl rfl tie3 noOwnUnsafe
theorem placesMeetUpto_row_tie : Rows.placesMeetUptoRow.laidByTextAt .later Tryd.pinned [.sentinel, .sentinel, .sentinel, .sentinel, .sentinel, .sentinel, .sentinel, .sentinel, .sentinel, .sentinel, .sentinel, .sentinel, .sentinel, .sentinel, .sentinel, .sentinel, .sentinel, .sentinel, .sentinel] true :=
  OpenClaim.laidByTextAt_later rfl rfl tie2 noOwnUnsafe
end Go.Proofs.YtbliikcgcgalmaaDoor
