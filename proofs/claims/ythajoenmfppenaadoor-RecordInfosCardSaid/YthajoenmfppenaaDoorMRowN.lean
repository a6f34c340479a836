/- Rows' bytes as natural numbers. Printed by a program. -/
import Derived.Test.YthajoenmfppenaaDoorMWireA
namespace Go.Proofs.YthajoenmfppenaaDoor.fn
open Go Go.Proofs Go.Ev Go.Dg
theorem nn_len (B : List Nat) : (nn B).length = B.length := by simp [nn]
end Go.Proofs.YthajoenmfppenaaDoor.fn
