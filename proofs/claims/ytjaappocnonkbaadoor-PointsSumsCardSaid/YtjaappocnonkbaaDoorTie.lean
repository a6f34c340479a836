/-
  DERIVED. GIVEN WITH THE SEED: THE PROGRAM's TIES (one call each: nine closed facts by the kernel) AND EACH ROW's TIE, after the 31st guide's Derived/Test/Toyas{Tie, Card}.lean. No idea stands in it: it is a product of the set-up. Laid BY PROGRAM, IN A SANDBOX (cutbox-door.mjs). By AI agents, Wed Nov 11 2026. No macro, syntax, notation, axiom, sorry.
-/
import Derived.Test.YtjaappocnonkbaaDoorRows
import Derived.LaidByTextLater
import Derived.SevenTiedAt
import Derived.LaidSub
import Derived.LaidOnce
namespace Go.Proofs.YtjaappocnonkbaaDoor
open Go
set_option maxRecDepth 100000
theorem seatTie1 : Tryd.prog.laidByTextLater [("fellowship/api.ErrRange", Rows.laid_fellowship_api_ErrRange), ("fellowship/api.ErrShort", Rows.laid_fellowship_api_ErrShort), ("fellowship/api.ErrLong", Rows.laid_fellowship_api_ErrLong), ("fellowship/api.ErrForm", Rows.laid_fellowship_api_ErrForm), ("fellowship/api.ErrKey", Rows.laid_fellowship_api_ErrKey), ("fellowship/api.ErrSign", Rows.laid_fellowship_api_ErrSign), ("fellowship/api.ErrSeal", Rows.laid_fellowship_api_ErrSeal), ("fellowship/api.ErrEpoch", Rows.laid_fellowship_api_ErrEpoch), ("fellowship/api.ErrGroup", Rows.laid_fellowship_api_ErrGroup), ("fellowship/api.ErrSender", Rows.laid_fellowship_api_ErrSender), ("fellowship/api.ErrLeaf", Rows.laid_fellowship_api_ErrLeaf), ("fellowship/api.ErrOffer", Rows.laid_fellowship_api_ErrOffer), ("fellowship/api.ErrPath", Rows.laid_fellowship_api_ErrPath), ("fellowship/api.ErrTag", Rows.laid_fellowship_api_ErrTag), ("fellowship/api.ErrNone", Rows.laid_fellowship_api_ErrNone), ("fellowship/api.ErrRemoved", Rows.laid_fellowship_api_ErrRemoved), ("fellowship/api.ErrFull", Rows.laid_fellowship_api_ErrFull), ("fellowship/api.ErrState", Rows.laid_fellowship_api_ErrState), ("fellowship/api.ErrTwice", Rows.laid_fellowship_api_ErrTwice), ("fellowship/field.many", Rows.laid_fellowship_field_many), ("fellowship/field.minus", Rows.laid_fellowship_field_minus)] [.sentinel, .sentinel, .sentinel, .sentinel, .sentinel, .sentinel, .sentinel, .sentinel, .sentinel, .sentinel, .sentinel, .sentinel, .sentinel, .sentinel, .sentinel, .sentinel, .sentinel, .sentinel, .sentinel, .data, .data] true :=
  Program.laidByTextLater_by_one 380 8 11 (by kernel_rfl) (by kernel_rfl) (by kernel_rfl) (by kernel_rfl) (by kernel_rfl) (by kernel_rfl) (fun _ _ => by kernel_rfl)
theorem noOwnUnsafe : Tryd.pinned.checked.prog.headLifts.contains "ownunsafe" = false := by kernel_rfl
theorem tie : Tryd.prog.laidByTextLater [("fellowship/api.ErrRange", Rows.laid_fellowship_api_ErrRange), ("fellowship/api.ErrShort", Rows.laid_fellowship_api_ErrShort), ("fellowship/api.ErrLong", Rows.laid_fellowship_api_ErrLong), ("fellowship/api.ErrForm", Rows.laid_fellowship_api_ErrForm), ("fellowship/api.ErrKey", Rows.laid_fellowship_api_ErrKey), ("fellowship/api.ErrSign", Rows.laid_fellowship_api_ErrSign), ("fellowship/api.ErrSeal", Rows.laid_fellowship_api_ErrSeal), ("fellowship/api.ErrEpoch", Rows.laid_fellowship_api_ErrEpoch), ("fellowship/api.ErrGroup", Rows.laid_fellowship_api_ErrGroup), ("fellowship/api.ErrSender", Rows.laid_fellowship_api_ErrSender), ("fellowship/api.ErrLeaf", Rows.laid_fellowship_api_ErrLeaf), ("fellowship/api.ErrOffer", Rows.laid_fellowship_api_ErrOffer), ("fellowship/api.ErrPath", Rows.laid_fellowship_api_ErrPath), ("fellowship/api.ErrTag", Rows.laid_fellowship_api_ErrTag), ("fellowship/api.ErrNone", Rows.laid_fellowship_api_ErrNone), ("fellowship/api.ErrRemoved", Rows.laid_fellowship_api_ErrRemoved), ("fellowship/api.ErrFull", Rows.laid_fellowship_api_ErrFull), ("fellowship/api.ErrState", Rows.laid_fellowship_api_ErrState), ("fellowship/api.ErrTwice", Rows.laid_fellowship_api_ErrTwice), ("fellowship/field.many", Rows.laid_fellowship_field_many), ("fellowship/field.minus", Rows.laid_fellowship_field_minus)] [.sentinel, .sentinel, .sentinel, .sentinel, .sentinel, .sentinel, .sentinel, .sentinel, .sentinel, .sentinel, .sentinel, .sentinel, .sentinel, .sentinel, .sentinel, .sentinel, .sentinel, .sentinel, .sentinel, .data, .data] true :=
  Program.laidByTextLater.sub seatTie1 ["fellowship/api.ErrRange", "fellowship/api.ErrShort", "fellowship/api.ErrLong", "fellowship/api.ErrForm", "fellowship/api.ErrKey", "fellowship/api.ErrSign", "fellowship/api.ErrSeal", "fellowship/api.ErrEpoch", "fellowship/api.ErrGroup", "fellowship/api.ErrSender", "fellowship/api.ErrLeaf", "fellowship/api.ErrOffer", "fellowship/api.ErrPath", "fellowship/api.ErrTag", "fellowship/api.ErrNone", "fellowship/api.ErrRemoved", "fellowship/api.ErrFull", "fellowship/api.ErrState", "fellowship/api.ErrTwice", "fellowship/field.many", "fellowship/field.minus"] (by kernel_rfl) (by kernel_rfl)
theorem pointsReads_row_tie : Rows.pointsReadsRow.laidByTextAt .later Tryd.pinned [.sentinel, .sentinel, .sentinel, .sentinel, .sentinel, .sentinel, .sentinel, .sentinel, .sentinel, .sentinel, .sentinel, .sentinel, .sentinel, .sentinel, .sentinel, .sentinel, .sentinel, .sentinel, .sentinel, .data, .data] true :=
  OpenClaim.laidByTextAt_later rfl rfl tie noOwnUnsafe
theorem tie2 : Tryd.prog.laidByTextLater [("fellowship/api.ErrForm", Rows.laid_fellowship_api_ErrForm), ("fellowship/field.many", Rows.laid_fellowship_field_many), ("fellowship/field.minus", Rows.laid_fellowship_field_minus)] [.sentinel, .data, .data] true :=
  Program.laidByTextLater.sub seatTie1 ["fellowship/api.ErrForm", "fellowship/field.many", "fellowship/field.minus"] (by kernel_rfl) (by kernel_rfl)
theorem pointsTimes_row_tie : Rows.pointsTimesRow.laidByTextAt .later Tryd.pinned [.sentinel, .data, .data] true :=
  OpenClaim.laidByTextAt_later rfl rfl tie2 noOwnUnsafe
theorem pointsChains_row_tie : Rows.pointsChainsRow.laidByTextAt .later Tryd.pinned [.sentinel, .data, .data] true :=
  OpenClaim.laidByTextAt_later rfl rfl tie2 noOwnUnsafe
theorem pointsSums_row_tie : Rows.pointsSumsRow.laidByTextAt .later Tryd.pinned [.sentinel, .data, .data] true :=
  OpenClaim.laidByTextAt_later rfl rfl tie2 noOwnUnsafe
theorem pointsWith_row_tie : Rows.pointsWithRow.laidByTextAt .later Tryd.pinned [.sentinel, .data, .data] true :=
  OpenClaim.laidByTextAt_later rfl rfl tie2 noOwnUnsafe
theorem pointsReadsUpto_row_tie : Rows.pointsReadsUptoRow.laidByTextAt .later Tryd.pinned [.sentinel, .sentinel, .sentinel, .sentinel, .sentinel, .sentinel, .sentinel, .sentinel, .sentinel, .sentinel, .sentinel, .sentinel, .sentinel, .sentinel, .sentinel, .sentinel, .sentinel, .sentinel, .sentinel, .data, .data] true :=
  OpenClaim.laidByTextAt_later rfl rfl tie noOwnUnsafe
theorem pointsTimesUpto_row_tie : Rows.pointsTimesUptoRow.laidByTextAt .later Tryd.pinned [.sentinel, .data, .data] true :=
  OpenClaim.laidByTextAt_later rfl rfl tie2 noOwnUnsafe
theorem pointsChainsUpto_row_tie : Rows.pointsChainsUptoRow.laidByTextAt .later Tryd.pinned [.sentinel, .data, .data] true :=
  OpenClaim.laidByTextAt_later rfl rfl tie2 noOwnUnsafe
theorem pointsSumsUpto_row_tie : Rows.pointsSumsUptoRow.laidByTextAt .later Tryd.pinned [.sentinel, .data, .data] true :=
  OpenClaim.laidByTextAt_later rfl rfl tie2 noOwnUnsafe
theorem pointsWithUpto_row_tie : Rows.pointsWithUptoRow.laidByTextAt .later Tryd.pinned [.sentinel, .data, .data] true :=
  OpenClaim.laidByTextAt_later rfl rfl tie2 noOwnUnsafe
end Go.Proofs.YtjaappocnonkbaaDoor
