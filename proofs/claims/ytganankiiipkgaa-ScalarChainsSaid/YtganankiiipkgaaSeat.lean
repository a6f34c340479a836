/- Facts on the program's types that all laws use. -/
import Derived.Test.YtganankiiipkgaaProg
import Derived.Test.YtganankiiipkgaaEv4
import Derived.LaidLaws
import Derived.ReadAgain
namespace Go.Proofs.Ytganankiiipkgaa.seat
open Go Go.Proofs Go.Ev
theorem own : ownKnob Try.prog.godebug = none := by kernel_rfl
theorem laidOut : laidOutB Try.prog = true := by kernel_rfl
theorem rowed : mapsRowed Try.prog = true := by kernel_rfl
theorem full : ∀ t e, t < Try.prog.types.size → Try.prog.underlying t = some (.slice e) → 0 < Try.prog.cellsOf e := slices_full_of _ (by kernel_rfl)
end Go.Proofs.Ytganankiiipkgaa.seat
