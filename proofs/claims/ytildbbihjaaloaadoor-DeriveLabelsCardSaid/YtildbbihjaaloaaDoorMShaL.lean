/- What the digests' laws have in common. -/
import Derived.Test.YtildbbihjaaloaaDoorFnShaL
import Derived.Test.YtildbbihjaaloaaDoorMShaR
import Derived.Test.YtildbbihjaaloaaDoorMKept
namespace Go.Proofs.YtildbbihjaaloaaDoor.fn
open Go Go.Proofs Go.Ev Go.Dg

theorem abc0 : ((dgst ([[97, 98, 99]] : List (List Int)).flatten).getD 0 0 == 186) = true := by decide +kernel
theorem abc1 : ((dgst ([[97, 98, 99]] : List (List Int)).flatten).getD 1 0 == 120) = true := by decide +kernel
theorem abc2 : ((dgst ([[97, 98, 99]] : List (List Int)).flatten).getD 30 0 == 21) = true := by decide +kernel
theorem abc3 : ((dgst ([[97, 98, 99]] : List (List Int)).flatten).getD 31 0 == 173) = true := by decide +kernel

theorem alive02_eq {R : Type} (N : Nat) (hN : 2000 < N) (r : Bool → Option R) : alive02.M N R r = r true := by
  show alive02.m (sSum.M N) N r = _
  unfold alive02.m
  rw [sSum_eq N hN [[97, 98, 99]] (by simp) (by simp), abc0, cond_true, abc1, cond_true, abc2, cond_true, abc3]

theorem isBy.append {a b : List Int} (ha : isBy a) (hb : isBy b) : isBy (a ++ b) := fun z hz => (List.mem_append.1 hz).elim (ha z) (hb z)

theorem Copy_eq {R : Type} (N : Nat) {all st : List Int} {off : Nat} {len : Option Nat} {buf : List Int} {c : Int} (h : HS all st off len buf c) (nl : Bool) (k : List Int → Nat → Option Nat → Int → Bool → List Int → List Int → Int → Bool → List Int → Option R) :
    HS all st 0 none (buf.drop off) c ∧ Copy.M N R st off len nl buf c k = k st off len c nl buf st c (buf.drop off).isEmpty (buf.drop off) := by
  have hrl := h.rest_len
  have hbig : Clone.big (buf.drop off) = true := decide_eq_true (by rw [List.length_drop]; omega)
  refine ⟨⟨h.st, Nat.zero_le _, .inl rfl, by rw [List.drop_zero]; exact h.rest, h.cnt, h.big⟩, ?_⟩
  show Clone.M N R (cut len off buf) _ = _
  rw [h.len.cut]
  show cond (Clone.big (buf.drop off)) _ none = _
  rw [hbig]
  rfl

end Go.Proofs.YtildbbihjaaloaaDoor.fn
