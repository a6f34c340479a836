/- What an epoch's secrets are. -/
import Derived.Test.YtjaekdcbjfgcpaaDoorMSchedF
import Derived.Test.YtjaekdcbjfgcpaaDoorFnSched
import Derived.Test.YtjaekdcbjfgcpaaDoorFnSchedL
namespace Go.Proofs.YtjaekdcbjfgcpaaDoor.fn
open Go Go.Proofs Go.Ev Go.Dg

theorem outb_by (key info : List Int) : ∀ i, isBy (outb key info i)
  | 0 => fun z hz => by simp [outb] at hz
  | i + 1 => by
    intro z hz
    have hz : z ∈ outb key info i ++ tb key info (i + 1) := hz
    exact (List.mem_append.1 hz).elim (outb_by key info i z) (tb_by key info (i + 1) z)
theorem labelOf_by (s : List Int) (label : List UInt8) (ctx : List Int) (n : Nat) : isBy (labelOf s label ctx n) := fun z hz => outb_by _ _ _ z (List.mem_of_mem_take hz)
theorem z32_by : isBy z32 := by
  intro z hz
  have : z = 0 := by simpa [z32] using hz
  omega
theorem secF_by (s : List Int) (label : List UInt8) (ctx : List Int) : isBy (secF s label ctx) := by
  unfold secF
  split
  · exact labelOf_by _ _ _ _
  · exact z32_by
theorem secF_len (s : List Int) (label : List UInt8) (ctx : List Int) : (secF s label ctx).length = 32 := by
  unfold secF
  split
  · exact labelOf_len _ _ _ _
  · rfl
theorem hmac_by (k l : List Int) : isBy (hmac k l) := dgst_by _
theorem hmac_len (k l : List Int) : (hmac k l).length = 32 := rfl
theorem cut_le (l : List Int) : (cut (some 32) 0 l).length ≤ 32 := by
  show ((l.drop 0).take 32).length ≤ 32
  rw [List.length_take]; omega
theorem cut_by {l : List Int} (h : isBy l) : isBy (cut (some 32) 0 l) := fun z hz => h z (List.mem_of_mem_drop (List.mem_of_mem_take hz))

theorem dSec_eq {R : Type} (N : Nat) (hN : 2000 < N) (s : List Int) (label : List UInt8) (ll : List (List Int)) (hll : ll.length ≤ 1000) (hl : label.length ≤ 200) (ht : ll.flatten.length ≤ 1000000) (r : List Int → Option R) :
    dSecret.M N R s label ll r = r (secF s label ll.flatten) := by
  unfold secF
  by_cases h : ll.flatten.length ≤ 16384
  · rw [if_pos h]; exact dSecret_eq N hN s label ll hll hl h r
  · rw [if_neg h]; exact dSecret_long N hN s label ll hll ht (.inr (by omega)) r
theorem dSec_none {R : Type} (N : Nat) (hN : 2000 < N) (s : List Int) (label : List UInt8) (hl : label.length ≤ 200) (r : List Int → Option R) : dSecret.M N R s label [] r = r (secF s label []) :=
  dSec_eq N hN s label [] (Nat.zero_le _) hl (Nat.zero_le _) r
theorem dSec_one {R : Type} (N : Nat) (hN : 2000 < N) (s : List Int) (label : List UInt8) (hl : label.length ≤ 200) (ctx : List Int) (hc : ctx.length ≤ 1000000) (r : List Int → Option R) : dSecret.M N R s label [ctx] r = r (secF s label ctx) := by
  have := dSec_eq N hN s label [ctx] (by simp) hl (by rw [List.flatten_singleton]; exact hc) r
  rw [List.flatten_singleton] at this
  exact this

theorem le200 {n : Nat} (h : n ≤ 20) : n ≤ 200 := by omega

theorem sJoiner_eq {R : Type} (N : Nat) (hN : 2000 < N) (init way : List Int) (z : Option Bool) (ctx : List Int) (hc : ctx.length ≤ 1000000) (r : List Int → Option R) : sJoiner.M N R init way z ctx r = r (joinF init way ctx) := by
  show sJoiner.m (dExtract.M N) (dSecret.M N) N init way z ctx r = _
  unfold sJoiner.m
  have h1 := cut_le init
  have h2 := cut_le way
  rw [dExtract_eq N hN none none _ _ (by omega) (by omega), dSec_one N hN _ _ (le200 (by decide)) ctx hc]
  rfl

theorem sOf_eq {R : Type} (N : Nat) (hN : 2000 < N) (joiner : List Int) (z : Option Bool) (ctx : List Int) (hc : ctx.length ≤ 1000000) (r : List Int → List Int → List Int → List Int → List Int → List Int → List Int → List Int → Option R) :
    sOf.M N R joiner z ctx r = ofK r joiner ctx := by
  show sOf.m (dExtract.M N) (dSecret.M N) N joiner z ctx r = _
  unfold sOf.m
  have h1 := cut_le joiner
  rw [dExtract_eq N hN none (some true) _ [] (by omega) (Nat.zero_le _), dSec_one N hN _ _ (le200 (by decide)) ctx hc, dSec_none N hN _ _ (le200 (by decide)), dSec_none N hN _ _ (le200 (by decide)), dSec_none N hN _ _ (le200 (by decide)), dSec_none N hN _ _ (le200 (by decide)),
    dSec_none N hN _ _ (le200 (by decide)), dSec_none N hN _ _ (le200 (by decide))]
  rfl

theorem sBegin_eq {R : Type} (N : Nat) (hN : 2000 < N) (draw : List Int) (z : Option Bool) (ctx : List Int) (hc : ctx.length ≤ 1000000) (r : List Int → List Int → List Int → List Int → List Int → List Int → List Int → List Int → Option R) :
    sBegin.M N R draw z ctx r = ofK r (beginJ draw ctx) ctx := by
  show sBegin.m (dSecret.M N) (sJoiner.M N) (sOf.M N) N draw z ctx r = _
  unfold sBegin.m
  rw [dSec_none N hN _ _ (le200 (by decide)), sJoiner_eq N hN _ _ z ctx hc, sOf_eq N hN _ z ctx hc]
  rfl

theorem sTag_eq {R : Type} (N : Nat) (hN : 2000 < N) (e1 e2 e3 e4 e5 e6 e7 e8 t : List Int) (r : List Int → Option R) : sTag.M N R e1 e2 e3 e4 e5 e6 e7 e8 t r = r (hmac (cut (some 32) 0 e4) (cut (some 32) 0 t)) := by
  show sTag.m (mSum.M N) N e1 e2 e3 e4 e5 e6 e7 e8 t r = _
  unfold sTag.m
  have h1 := cut_le e4
  have h2 := cut_le t
  rw [mSum_eq N hN none _ (by omega) [cut (some 32) 0 t] (by intro p hp; rw [List.mem_singleton.1 hp]; omega) (by simp), List.flatten_singleton]

theorem dLabel_zero {R : Type} (N : Nat) (hN : 2000 < N) (s : List Int) (label : List UInt8) (x : Option Bool) (ctx : List Int) (hl : label.length ≤ 200) (hc : ctx.length ≤ 16384) (r : Option Bool → List Int → Nat → Option R) :
    dLabel.M N R s label x ctx 0 r = r (some true) [] 0 := by
  show dLabel.m (dInfo.M N) (dExpand.M N) N s label x ctx 0 r = _
  unfold dLabel.m
  rw [dInfo_eq N label x ctx 0 (by omega) (by omega) hl hc]
  have e0 : (!Nat.beq 0 0) = false := rfl
  rw [e0, cond_false]
  have hi := infoOf_len label ctx 0
  exact dExpand_zero N none none (cut (some 32) 0 s) (infoOf label ctx 0) (by omega) _ _

theorem ne_by {a b : List Int} (h : (a.getD 0 0 == b.getD 0 0 && a.getD 1 0 == b.getD 1 0 && a.getD 2 0 == b.getD 2 0) = false) : (a == b) = false := by
  rw [beq_eq_false_iff_ne]
  rintro rfl
  rw [beq_self_eq_true, beq_self_eq_true, beq_self_eq_true] at h
  exact absurd h (by decide)

theorem sExport_zero {R : Type} (N : Nat) (hN : 2000 < N) (e1 e2 e3 e4 e5 e6 e7 e8 : List Int) (r0 : Nat → Option R) (r1 : Option Bool → List Int → Nat → Option R) :
    sExport.M N R e1 e2 e3 e4 e5 e6 e7 e8 [120] (some true) [] 0 r0 r1 = r1 (some true) [] 0 := by
  show sExport.m (dSecret.M N) (sSum.M N) (dLabel.M N) N e1 e2 e3 e4 e5 e6 e7 e8 [120] (some true) [] 0 r0 r1 = _
  unfold sExport.m
  rw [decide_eq_false (by decide), cond_false, decide_eq_false (by decide), cond_false, decide_eq_false (by decide), cond_false, decide_eq_false (by decide), cond_false,
    dSec_one N hN _ _ (le200 (by decide)) _ (by decide), sSum_eq N hN [[]] (by simp) (by simp), dLabel_zero N hN _ _ _ _ (le200 (by decide)) (by have := cut_le (dgst ([[]] : List (List Int)).flatten); omega)]

theorem alive22_eq {R : Type} (N : Nat) (hN : 2000 < N) (r : Bool → Option R) : alive22.M N R r = r true := by
  show alive22.m (sBegin.M N) (sExport.M N) N r = _
  unfold alive22.m
  rw [sBegin_eq N hN _ none [99] (by decide)]
  dsimp only [ofK]
  rw [sExport_zero N hN]
  have e0 : Nat.beq 0 0 = true := rfl
  have e1 : ((([] : List Int).length : Int) == 0) = true := rfl
  rw [e0, cond_true, e1, cond_true]
  have h1 : (aliveE == z32) = false := ne_by alive_a
  have h2 : (aliveE == secF aliveE [105, 110, 105, 116] []) = false := ne_by alive_b
  show cond (!(aliveE == z32)) (r (!(aliveE == secF aliveE [105, 110, 105, 116] []))) (r false) = _
  rw [h1, h2]
  rfl

theorem eqVal8 (a b c d e f g h : List Int) : eqVal [AV.ints .u8 32 a, AV.ints .u8 32 b, AV.ints .u8 32 c, AV.ints .u8 32 d, AV.ints .u8 32 e, AV.ints .u8 32 f, AV.ints .u8 32 g, AV.ints .u8 32 h]
    [AV.ints .u8 32 a, AV.ints .u8 32 b, AV.ints .u8 32 c, AV.ints .u8 32 d, AV.ints .u8 32 e, AV.ints .u8 32 f, AV.ints .u8 32 g, AV.ints .u8 32 h] = true := by
  simp only [eqVal, beq_self_eq_true, Bool.and_true]

end Go.Proofs.YtjaekdcbjfgcpaaDoor.fn
