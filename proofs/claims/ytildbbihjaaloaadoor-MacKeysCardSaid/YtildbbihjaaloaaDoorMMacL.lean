/- What the codes' laws have in common. -/
import Derived.Test.YtildbbihjaaloaaDoorFnMacL
import Derived.Test.YtildbbihjaaloaaDoorMMacA
namespace Go.Proofs.YtildbbihjaaloaaDoor.fn
open Go Go.Proofs Go.Ev Go.Dg

theorem jefe : ((hmac [74, 101, 102, 101] ([[119, 104, 97, 116, 32, 100, 111, 32, 121, 97, 32, 119, 97, 110, 116, 32, 102, 111, 114, 32, 110, 111, 116, 104, 105, 110, 103, 63]] : List (List Int)).flatten).getD 0 0 == 91) = true ∧
    ((hmac [74, 101, 102, 101] ([[119, 104, 97, 116, 32, 100, 111, 32, 121, 97, 32, 119, 97, 110, 116, 32, 102, 111, 114, 32, 110, 111, 116, 104, 105, 110, 103, 63]] : List (List Int)).flatten).getD 1 0 == 220) = true ∧
    ((hmac [74, 101, 102, 101] ([[119, 104, 97, 116, 32, 100, 111, 32, 121, 97, 32, 119, 97, 110, 116, 32, 102, 111, 114, 32, 110, 111, 116, 104, 105, 110, 103, 63]] : List (List Int)).flatten).getD 31 0 == 67) = true := by decide +kernel

theorem alive04_eq {R : Type} (N : Nat) (hN : 2000 < N) (r : Bool → Option R) : alive04.M N R r = r true := by
  show alive04.m (mSum.M N) N r = _
  unfold alive04.m
  rw [mSum_eq N hN none _ (by simp) _ (by simp) (by simp), jefe.1, cond_true, jefe.2.1, cond_true, jefe.2.2]

theorem hmac_by (k b : List Int) : isBy (hmac k b) := dgst_by _
theorem hmac_len (k b : List Int) : (hmac k b).length = 32 := rfl

end Go.Proofs.YtildbbihjaaloaaDoor.fn
