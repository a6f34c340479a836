/-
  DERIVED. GIVEN WITH THE SEED: THE PROGRAM's TIES (one call each: nine closed facts by the kernel) AND EACH ROW's TIE, after the 31st guide's Derived/Test/Toyas{Tie, Card}.lean. No idea stands in it: it is a product of the set-up. Laid BY PROGRAM, IN A SANDBOX (cutbox-door.mjs). By AI agents, Wed Nov 11 2026. No macro, syntax, notation, axiom, sorry.
-/
import Derived.Test.YtildbbihjaaloaaDoorRows
import Derived.LaidByTextLater
import Derived.SevenTiedAt
import Derived.LaidSub
import Derived.LaidOnce
namespace Go.Proofs.YtildbbihjaaloaaDoor
open Go
set_option maxRecDepth 100000
theorem seatTie1 : Tryd.prog.laidByTextLater [("fellowship/api.ErrRange", Rows.laid_fellowship_api_ErrRange), ("fellowship/api.ErrLong", Rows.laid_fellowship_api_ErrLong), ("fellowship/sha.constants", Rows.laid_fellowship_sha_constants), ("fellowship/shawide.constants", Rows.laid_fellowship_shawide_constants)] [.sentinel, .sentinel, .data, .data] true :=
  Program.laidByTextLater_by_one 380 8 81 (by kernel_rfl) (by kernel_rfl) (by kernel_rfl) (by kernel_rfl) (by kernel_rfl) (by kernel_rfl) (fun _ _ => by kernel_rfl)
theorem seatTie2 : Tryd.prog.laidByTextLater [("fellowship/api.ErrRange", Rows.laid_fellowship_api_ErrRange), ("fellowship/api.ErrShort", Rows.laid_fellowship_api_ErrShort), ("fellowship/api.ErrLong", Rows.laid_fellowship_api_ErrLong), ("fellowship/api.ErrForm", Rows.laid_fellowship_api_ErrForm), ("fellowship/api.ErrKey", Rows.laid_fellowship_api_ErrKey), ("fellowship/api.ErrSign", Rows.laid_fellowship_api_ErrSign), ("fellowship/api.ErrSeal", Rows.laid_fellowship_api_ErrSeal), ("fellowship/api.ErrEpoch", Rows.laid_fellowship_api_ErrEpoch), ("fellowship/api.ErrGroup", Rows.laid_fellowship_api_ErrGroup), ("fellowship/api.ErrSender", Rows.laid_fellowship_api_ErrSender), ("fellowship/api.ErrLeaf", Rows.laid_fellowship_api_ErrLeaf), ("fellowship/api.ErrOffer", Rows.laid_fellowship_api_ErrOffer), ("fellowship/api.ErrPath", Rows.laid_fellowship_api_ErrPath), ("fellowship/api.ErrTag", Rows.laid_fellowship_api_ErrTag), ("fellowship/api.ErrNone", Rows.laid_fellowship_api_ErrNone), ("fellowship/api.ErrRemoved", Rows.laid_fellowship_api_ErrRemoved), ("fellowship/api.ErrFull", Rows.laid_fellowship_api_ErrFull), ("fellowship/api.ErrState", Rows.laid_fellowship_api_ErrState), ("fellowship/api.ErrTwice", Rows.laid_fellowship_api_ErrTwice), ("fellowship/shawide.constants", Rows.laid_fellowship_shawide_constants)] [.sentinel, .sentinel, .sentinel, .sentinel, .sentinel, .sentinel, .sentinel, .sentinel, .sentinel, .sentinel, .sentinel, .sentinel, .sentinel, .sentinel, .sentinel, .sentinel, .sentinel, .sentinel, .sentinel, .data] true :=
  Program.laidByTextLater_by_one 380 8 81 (by kernel_rfl) (by kernel_rfl) (by kernel_rfl) (by kernel_rfl) (by kernel_rfl) (by kernel_rfl) (fun _ _ => by kernel_rfl)
theorem seatTie3 : Tryd.prog.laidByTextLater [("fellowship/api.ErrRange", Rows.laid_fellowship_api_ErrRange), ("fellowship/api.ErrShort", Rows.laid_fellowship_api_ErrShort), ("fellowship/api.ErrLong", Rows.laid_fellowship_api_ErrLong), ("fellowship/api.ErrForm", Rows.laid_fellowship_api_ErrForm), ("fellowship/api.ErrKey", Rows.laid_fellowship_api_ErrKey), ("fellowship/api.ErrSign", Rows.laid_fellowship_api_ErrSign), ("fellowship/api.ErrSeal", Rows.laid_fellowship_api_ErrSeal), ("fellowship/api.ErrEpoch", Rows.laid_fellowship_api_ErrEpoch), ("fellowship/api.ErrGroup", Rows.laid_fellowship_api_ErrGroup), ("fellowship/api.ErrSender", Rows.laid_fellowship_api_ErrSender), ("fellowship/api.ErrLeaf", Rows.laid_fellowship_api_ErrLeaf), ("fellowship/api.ErrOffer", Rows.laid_fellowship_api_ErrOffer), ("fellowship/api.ErrPath", Rows.laid_fellowship_api_ErrPath), ("fellowship/api.ErrTag", Rows.laid_fellowship_api_ErrTag), ("fellowship/api.ErrNone", Rows.laid_fellowship_api_ErrNone), ("fellowship/api.ErrRemoved", Rows.laid_fellowship_api_ErrRemoved), ("fellowship/api.ErrFull", Rows.laid_fellowship_api_ErrFull), ("fellowship/api.ErrState", Rows.laid_fellowship_api_ErrState), ("fellowship/api.ErrTwice", Rows.laid_fellowship_api_ErrTwice), ("fellowship/sha.constants", Rows.laid_fellowship_sha_constants)] [.sentinel, .sentinel, .sentinel, .sentinel, .sentinel, .sentinel, .sentinel, .sentinel, .sentinel, .sentinel, .sentinel, .sentinel, .sentinel, .sentinel, .sentinel, .sentinel, .sentinel, .sentinel, .sentinel, .data] true :=
  Program.laidByTextLater_by_one 380 8 81 (by kernel_rfl) (by kernel_rfl) (by kernel_rfl) (by kernel_rfl) (by kernel_rfl) (by kernel_rfl) (fun _ _ => by kernel_rfl)
theorem noOwnUnsafe : Tryd.pinned.checked.prog.headLifts.contains "ownunsafe" = false := by kernel_rfl
theorem tie : Tryd.prog.laidByTextLater [("fellowship/api.ErrRange", Rows.laid_fellowship_api_ErrRange), ("fellowship/sha.constants", Rows.laid_fellowship_sha_constants)] [.sentinel, .data] true :=
  Program.laidByTextLater.sub seatTie1 ["fellowship/api.ErrRange", "fellowship/sha.constants"] (by kernel_rfl) (by kernel_rfl)
theorem shaSums_row_tie : Rows.shaSumsRow.laidByTextAt .later Tryd.pinned [.sentinel, .data] true :=
  OpenClaim.laidByTextAt_later rfl rfl tie noOwnUnsafe
theorem shaPieces_row_tie : Rows.shaPiecesRow.laidByTextAt .later Tryd.pinned [.sentinel, .data] true :=
  OpenClaim.laidByTextAt_later rfl rfl tie noOwnUnsafe
theorem shaEnds_row_tie : Rows.shaEndsRow.laidByTextAt .later Tryd.pinned [.sentinel, .data] true :=
  OpenClaim.laidByTextAt_later rfl rfl tie noOwnUnsafe
theorem macSums_row_tie : Rows.macSumsRow.laidByTextAt .later Tryd.pinned [.sentinel, .data] true :=
  OpenClaim.laidByTextAt_later rfl rfl tie noOwnUnsafe
theorem macKeys_row_tie : Rows.macKeysRow.laidByTextAt .later Tryd.pinned [.sentinel, .data] true :=
  OpenClaim.laidByTextAt_later rfl rfl tie noOwnUnsafe
theorem macRight_row_tie : Rows.macRightRow.laidByTextAt .later Tryd.pinned [.sentinel, .data] true :=
  OpenClaim.laidByTextAt_later rfl rfl tie noOwnUnsafe
theorem tie2 : Tryd.prog.laidByTextLater [("fellowship/shawide.constants", Rows.laid_fellowship_shawide_constants)] [.data] true :=
  Program.laidByTextLater.sub seatTie1 ["fellowship/shawide.constants"] (by kernel_rfl) (by kernel_rfl)
theorem shawideSums_row_tie : Rows.shawideSumsRow.laidByTextAt .later Tryd.pinned [.data] true :=
  OpenClaim.laidByTextAt_later rfl rfl tie2 noOwnUnsafe
theorem shawideParts_row_tie : Rows.shawidePartsRow.laidByTextAt .later Tryd.pinned [.data] true :=
  OpenClaim.laidByTextAt_later rfl rfl tie2 noOwnUnsafe
theorem tie3 : Tryd.prog.laidByTextLater [("fellowship/api.ErrRange", Rows.laid_fellowship_api_ErrRange), ("fellowship/api.ErrShort", Rows.laid_fellowship_api_ErrShort), ("fellowship/api.ErrLong", Rows.laid_fellowship_api_ErrLong), ("fellowship/api.ErrForm", Rows.laid_fellowship_api_ErrForm), ("fellowship/api.ErrKey", Rows.laid_fellowship_api_ErrKey), ("fellowship/api.ErrSign", Rows.laid_fellowship_api_ErrSign), ("fellowship/api.ErrSeal", Rows.laid_fellowship_api_ErrSeal), ("fellowship/api.ErrEpoch", Rows.laid_fellowship_api_ErrEpoch), ("fellowship/api.ErrGroup", Rows.laid_fellowship_api_ErrGroup), ("fellowship/api.ErrSender", Rows.laid_fellowship_api_ErrSender), ("fellowship/api.ErrLeaf", Rows.laid_fellowship_api_ErrLeaf), ("fellowship/api.ErrOffer", Rows.laid_fellowship_api_ErrOffer), ("fellowship/api.ErrPath", Rows.laid_fellowship_api_ErrPath), ("fellowship/api.ErrTag", Rows.laid_fellowship_api_ErrTag), ("fellowship/api.ErrNone", Rows.laid_fellowship_api_ErrNone), ("fellowship/api.ErrRemoved", Rows.laid_fellowship_api_ErrRemoved), ("fellowship/api.ErrFull", Rows.laid_fellowship_api_ErrFull), ("fellowship/api.ErrState", Rows.laid_fellowship_api_ErrState), ("fellowship/api.ErrTwice", Rows.laid_fellowship_api_ErrTwice), ("fellowship/shawide.constants", Rows.laid_fellowship_shawide_constants)] [.sentinel, .sentinel, .sentinel, .sentinel, .sentinel, .sentinel, .sentinel, .sentinel, .sentinel, .sentinel, .sentinel, .sentinel, .sentinel, .sentinel, .sentinel, .sentinel, .sentinel, .sentinel, .sentinel, .data] true :=
  Program.laidByTextLater.sub seatTie2 ["fellowship/api.ErrRange", "fellowship/api.ErrShort", "fellowship/api.ErrLong", "fellowship/api.ErrForm", "fellowship/api.ErrKey", "fellowship/api.ErrSign", "fellowship/api.ErrSeal", "fellowship/api.ErrEpoch", "fellowship/api.ErrGroup", "fellowship/api.ErrSender", "fellowship/api.ErrLeaf", "fellowship/api.ErrOffer", "fellowship/api.ErrPath", "fellowship/api.ErrTag", "fellowship/api.ErrNone", "fellowship/api.ErrRemoved", "fellowship/api.ErrFull", "fellowship/api.ErrState", "fellowship/api.ErrTwice", "fellowship/shawide.constants"] (by kernel_rfl) (by kernel_rfl)
theorem shawideBlocks_row_tie : Rows.shawideBlocksRow.laidByTextAt .later Tryd.pinned [.sentinel, .sentinel, .sentinel, .sentinel, .sentinel, .sentinel, .sentinel, .sentinel, .sentinel, .sentinel, .sentinel, .sentinel, .sentinel, .sentinel, .sentinel, .sentinel, .sentinel, .sentinel, .sentinel, .data] true :=
  OpenClaim.laidByTextAt_later rfl rfl tie3 noOwnUnsafe
theorem tie4 : Tryd.prog.laidByTextLater [("fellowship/api.ErrRange", Rows.laid_fellowship_api_ErrRange), ("fellowship/api.ErrLong", Rows.laid_fellowship_api_ErrLong), ("fellowship/sha.constants", Rows.laid_fellowship_sha_constants)] [.sentinel, .sentinel, .data] true :=
  Program.laidByTextLater.sub seatTie1 ["fellowship/api.ErrRange", "fellowship/api.ErrLong", "fellowship/sha.constants"] (by kernel_rfl) (by kernel_rfl)
theorem deriveUnlike_row_tie : Rows.deriveUnlikeRow.laidByTextAt .later Tryd.pinned [.sentinel, .sentinel, .data] true :=
  OpenClaim.laidByTextAt_later rfl rfl tie4 noOwnUnsafe
theorem tie5 : Tryd.prog.laidByTextLater [("fellowship/api.ErrRange", Rows.laid_fellowship_api_ErrRange), ("fellowship/api.ErrShort", Rows.laid_fellowship_api_ErrShort), ("fellowship/api.ErrLong", Rows.laid_fellowship_api_ErrLong), ("fellowship/api.ErrForm", Rows.laid_fellowship_api_ErrForm), ("fellowship/api.ErrKey", Rows.laid_fellowship_api_ErrKey), ("fellowship/api.ErrSign", Rows.laid_fellowship_api_ErrSign), ("fellowship/api.ErrSeal", Rows.laid_fellowship_api_ErrSeal), ("fellowship/api.ErrEpoch", Rows.laid_fellowship_api_ErrEpoch), ("fellowship/api.ErrGroup", Rows.laid_fellowship_api_ErrGroup), ("fellowship/api.ErrSender", Rows.laid_fellowship_api_ErrSender), ("fellowship/api.ErrLeaf", Rows.laid_fellowship_api_ErrLeaf), ("fellowship/api.ErrOffer", Rows.laid_fellowship_api_ErrOffer), ("fellowship/api.ErrPath", Rows.laid_fellowship_api_ErrPath), ("fellowship/api.ErrTag", Rows.laid_fellowship_api_ErrTag), ("fellowship/api.ErrNone", Rows.laid_fellowship_api_ErrNone), ("fellowship/api.ErrRemoved", Rows.laid_fellowship_api_ErrRemoved), ("fellowship/api.ErrFull", Rows.laid_fellowship_api_ErrFull), ("fellowship/api.ErrState", Rows.laid_fellowship_api_ErrState), ("fellowship/api.ErrTwice", Rows.laid_fellowship_api_ErrTwice), ("fellowship/sha.constants", Rows.laid_fellowship_sha_constants)] [.sentinel, .sentinel, .sentinel, .sentinel, .sentinel, .sentinel, .sentinel, .sentinel, .sentinel, .sentinel, .sentinel, .sentinel, .sentinel, .sentinel, .sentinel, .sentinel, .sentinel, .sentinel, .sentinel, .data] true :=
  Program.laidByTextLater.sub seatTie3 ["fellowship/api.ErrRange", "fellowship/api.ErrShort", "fellowship/api.ErrLong", "fellowship/api.ErrForm", "fellowship/api.ErrKey", "fellowship/api.ErrSign", "fellowship/api.ErrSeal", "fellowship/api.ErrEpoch", "fellowship/api.ErrGroup", "fellowship/api.ErrSender", "fellowship/api.ErrLeaf", "fellowship/api.ErrOffer", "fellowship/api.ErrPath", "fellowship/api.ErrTag", "fellowship/api.ErrNone", "fellowship/api.ErrRemoved", "fellowship/api.ErrFull", "fellowship/api.ErrState", "fellowship/api.ErrTwice", "fellowship/sha.constants"] (by kernel_rfl) (by kernel_rfl)
theorem deriveExpands_row_tie : Rows.deriveExpandsRow.laidByTextAt .later Tryd.pinned [.sentinel, .sentinel, .sentinel, .sentinel, .sentinel, .sentinel, .sentinel, .sentinel, .sentinel, .sentinel, .sentinel, .sentinel, .sentinel, .sentinel, .sentinel, .sentinel, .sentinel, .sentinel, .sentinel, .data] true :=
  OpenClaim.laidByTextAt_later rfl rfl tie5 noOwnUnsafe
theorem deriveLabels_row_tie : Rows.deriveLabelsRow.laidByTextAt .later Tryd.pinned [.sentinel, .sentinel, .sentinel, .sentinel, .sentinel, .sentinel, .sentinel, .sentinel, .sentinel, .sentinel, .sentinel, .sentinel, .sentinel, .sentinel, .sentinel, .sentinel, .sentinel, .sentinel, .sentinel, .data] true :=
  OpenClaim.laidByTextAt_later rfl rfl tie5 noOwnUnsafe
theorem shaSumsUpto_row_tie : Rows.shaSumsUptoRow.laidByTextAt .later Tryd.pinned [.sentinel, .data] true :=
  OpenClaim.laidByTextAt_later rfl rfl tie noOwnUnsafe
theorem shaPiecesUpto_row_tie : Rows.shaPiecesUptoRow.laidByTextAt .later Tryd.pinned [.sentinel, .data] true :=
  OpenClaim.laidByTextAt_later rfl rfl tie noOwnUnsafe
theorem shaEndsUpto_row_tie : Rows.shaEndsUptoRow.laidByTextAt .later Tryd.pinned [.sentinel, .data] true :=
  OpenClaim.laidByTextAt_later rfl rfl tie noOwnUnsafe
theorem shawideSumsUpto_row_tie : Rows.shawideSumsUptoRow.laidByTextAt .later Tryd.pinned [.data] true :=
  OpenClaim.laidByTextAt_later rfl rfl tie2 noOwnUnsafe
theorem shawidePartsUpto_row_tie : Rows.shawidePartsUptoRow.laidByTextAt .later Tryd.pinned [.data] true :=
  OpenClaim.laidByTextAt_later rfl rfl tie2 noOwnUnsafe
theorem shawideBlocksUpto_row_tie : Rows.shawideBlocksUptoRow.laidByTextAt .later Tryd.pinned [.sentinel, .sentinel, .sentinel, .sentinel, .sentinel, .sentinel, .sentinel, .sentinel, .sentinel, .sentinel, .sentinel, .sentinel, .sentinel, .sentinel, .sentinel, .sentinel, .sentinel, .sentinel, .sentinel, .data] true :=
  OpenClaim.laidByTextAt_later rfl rfl tie3 noOwnUnsafe
theorem macSumsUpto_row_tie : Rows.macSumsUptoRow.laidByTextAt .later Tryd.pinned [.sentinel, .data] true :=
  OpenClaim.laidByTextAt_later rfl rfl tie noOwnUnsafe
theorem macKeysUpto_row_tie : Rows.macKeysUptoRow.laidByTextAt .later Tryd.pinned [.sentinel, .data] true :=
  OpenClaim.laidByTextAt_later rfl rfl tie noOwnUnsafe
theorem macRightUpto_row_tie : Rows.macRightUptoRow.laidByTextAt .later Tryd.pinned [.sentinel, .data] true :=
  OpenClaim.laidByTextAt_later rfl rfl tie noOwnUnsafe
theorem deriveUnlikeUpto_row_tie : Rows.deriveUnlikeUptoRow.laidByTextAt .later Tryd.pinned [.sentinel, .sentinel, .data] true :=
  OpenClaim.laidByTextAt_later rfl rfl tie4 noOwnUnsafe
theorem deriveExpandsUpto_row_tie : Rows.deriveExpandsUptoRow.laidByTextAt .later Tryd.pinned [.sentinel, .sentinel, .sentinel, .sentinel, .sentinel, .sentinel, .sentinel, .sentinel, .sentinel, .sentinel, .sentinel, .sentinel, .sentinel, .sentinel, .sentinel, .sentinel, .sentinel, .sentinel, .sentinel, .data] true :=
  OpenClaim.laidByTextAt_later rfl rfl tie5 noOwnUnsafe
theorem deriveLabelsUpto_row_tie : Rows.deriveLabelsUptoRow.laidByTextAt .later Tryd.pinned [.sentinel, .sentinel, .sentinel, .sentinel, .sentinel, .sentinel, .sentinel, .sentinel, .sentinel, .sentinel, .sentinel, .sentinel, .sentinel, .sentinel, .sentinel, .sentinel, .sentinel, .sentinel, .sentinel, .data] true :=
  OpenClaim.laidByTextAt_later rfl rfl tie5 noOwnUnsafe
end Go.Proofs.YtildbbihjaaloaaDoor
