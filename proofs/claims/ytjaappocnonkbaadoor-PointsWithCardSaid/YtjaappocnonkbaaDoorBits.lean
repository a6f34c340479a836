/- Bits of rows of bytes, and the number that they are. -/
import Derived.Test.YtjaappocnonkbaaDoorMF
namespace Go.Proofs.YtjaappocnonkbaaDoor.fn
open Go Go.Proofs Go.Ev Go.Dg

def bit (k : List Nat) (i : Nat) : Nat := k.getD (i / 8) 0 / 2 ^ (i % 8) % 2

theorem getD_lt (k : List Nat) (hk : ∀ x ∈ k, x < 256) (j : Nat) : k.getD j 0 < 256 := by
  rw [List.getD_eq_getElem?_getD]
  cases h : k[j]? with
  | none => simp
  | some x => exact hk x (List.mem_of_getElem? h)

theorem bit_lt (k : List Nat) (i : Nat) : bit k i < 2 := Nat.mod_lt _ (by decide)

theorem byte_bit (k : List Nat) (hk : ∀ x ∈ k, x < 256) (j w : Nat) (hw : w < 8) : iand .u8 (ishr .u8 ((nn k).getD j 0) (w : Int)) 1 = ((k.getD j 0 / 2 ^ w % 2 : Nat) : Int) := by
  rw [nn_getD, ishr_nat .u8 _ w (by simp only [IntKind.bits]; omega), iand_one8]
  have : k.getD j 0 < 256 := by
    rw [List.getD_eq_getElem?_getD]
    cases h : k[j]? with
    | none => simp
    | some x => exact hk x (List.mem_of_getElem? h)
  exact Nat.lt_of_le_of_lt (Nat.div_le_self _ _) this

def vl (k : List Nat) : Nat → Nat → Nat
  | 0, a => a
  | n + 1, a => vl k n (2 * a + bit k n)
theorem vl_succ (k : List Nat) (n a : Nat) : vl k (n + 1) a = vl k n (2 * a + bit k n) := rfl

end Go.Proofs.YtjaappocnonkbaaDoor.fn
