/- Copies of digests under way. -/
import Derived.Test.YtjaekdcbjfgcpaaDoorMShaR
namespace Go.Proofs.YtjaekdcbjfgcpaaDoor.fn
open Go Go.Proofs Go.Ev Go.Dg

theorem isBy.append {a b : List Int} (ha : isBy a) (hb : isBy b) : isBy (a ++ b) := fun z hz => (List.mem_append.1 hz).elim (ha z) (hb z)

theorem Copy_eq {R : Type} (N : Nat) {all st : List Int} {off : Nat} {len : Option Nat} {buf : List Int} {c : Int} (h : HS all st off len buf c) (nl : Bool) (k : List Int → Nat → Option Nat → Int → Bool → List Int → List Int → Int → Bool → List Int → Option R) :
    HS all st 0 none (buf.drop off) c ∧ Copy.M N R st off len nl buf c k = k st off len c nl buf st c (buf.drop off).isEmpty (buf.drop off) := by
  have hrl := h.rest_len
  have hbig : Clone.big (buf.drop off) = true := decide_eq_true (by rw [List.length_drop]; omega)
  refine ⟨⟨h.st, Nat.zero_le _, .inl rfl, by rw [List.drop_zero]; exact h.rest, h.cnt, h.big⟩, ?_⟩
  show Clone.M N R (cut len off buf) _ = _
  rw [h.len.cut]
  show cond (Clone.big (buf.drop off)) _ none = _
  rw [hbig]
  rfl

end Go.Proofs.YtjaekdcbjfgcpaaDoor.fn
