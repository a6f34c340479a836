/- Every epoch's secrets are the reference's. -/
import Derived.Test.YtjaekdcbjfgcpaaDoorMSched
import Derived.Test.YtjaekdcbjfgcpaaDoorFnSchedR
namespace Go.Proofs.YtjaekdcbjfgcpaaDoor.fn
open Go Go.Proofs Go.Ev Go.Dg

theorem r22sec_eq {R : Type} (N : Nat) (hN : 2000 < N) (s : List Int) (hs : isBy s) (label : List UInt8) (hl : label.length ≤ 200) (z : Option Bool) (ctx : List Int) (hx : isBy ctx) (r : List Int → Option R) : r22secret.M N R s label z ctx r = r (secF s label ctx) := by
  show r22secret.m (rdSecret.M N) N s label z ctx r = _
  unfold r22secret.m secF
  by_cases h : ctx.length ≤ 16384
  · rw [decide_eq_false (by omega), cond_false, if_pos h]
    exact rdSecret_eq N hN s hs label z ctx hx hl h r
  · rw [decide_eq_true (by omega), cond_true, if_neg h]
    rfl
theorem nil_by : isBy [] := fun z hz => by simp at hz
theorem r22sec_none {R : Type} (N : Nat) (hN : 2000 < N) (s : List Int) (hs : isBy s) (label : List UInt8) (hl : label.length ≤ 200) (r : List Int → Option R) : r22secret.M N R s label (some true) [] r = r (secF s label []) :=
  r22sec_eq N hN s hs label hl (some true) [] nil_by r

theorem r22Joiner_eq {R : Type} (N : Nat) (hN : 2000 < N) (init way : List Int) (hi : isBy init) (hw : isBy way) (z : Option Bool) (ctx : List Int) (hx : isBy ctx) (r : List Int → Option R) : r22Joiner.M N R init way z ctx r = r (joinF init way ctx) := by
  show r22Joiner.m (m4Sum.M N) (r22secret.M N) N init way z ctx r = _
  unfold r22Joiner.m
  have h1 := cut_le init
  have h2 := cut_le way
  rw [m4Sum_eq N hN none none _ _ (cut_by hi) (cut_by hw) (by omega) (by omega), r22sec_eq N hN _ (hmac_by _ _) _ (le200 (by decide)) z ctx hx]
  rfl

theorem r22Of_eq {R : Type} (N : Nat) (hN : 2000 < N) (joiner : List Int) (hj : isBy joiner) (z : Option Bool) (ctx : List Int) (hx : isBy ctx) (r : List Int → List Int → List Int → List Int → List Int → List Int → List Int → List Int → Option R) :
    r22Of.M N R joiner z ctx r = ofK r joiner ctx := by
  show r22Of.m (m4Sum.M N) (r22secret.M N) N joiner z ctx r = _
  unfold r22Of.m
  have h1 := cut_le joiner
  have q := fun l => secF_by (hmac (cut (some 32) 0 joiner) []) l ctx
  rw [m4Sum_eq N hN none (some true) _ [] (cut_by hj) nil_by (by omega) (Nat.zero_le _), r22sec_none N hN _ (hmac_by _ _) _ (le200 (by decide)), r22sec_eq N hN _ (hmac_by _ _) _ (le200 (by decide)) z ctx hx,
    r22sec_none N hN _ (q _) _ (le200 (by decide)), r22sec_none N hN _ (q _) _ (le200 (by decide)), r22sec_none N hN _ (q _) _ (le200 (by decide)), r22sec_none N hN _ (q _) _ (le200 (by decide)), r22sec_none N hN _ (q _) _ (le200 (by decide))]
  rfl

theorem r22Begin_eq {R : Type} (N : Nat) (hN : 2000 < N) (draw : List Int) (hd : isBy draw) (z : Option Bool) (ctx : List Int) (hx : isBy ctx) (r : List Int → List Int → List Int → List Int → List Int → List Int → List Int → List Int → Option R) :
    r22Begin.M N R draw z ctx r = ofK r (beginJ draw ctx) ctx := by
  show r22Begin.m (r22secret.M N) (r22Joiner.M N) (r22Of.M N) N draw z ctx r = _
  unfold r22Begin.m
  rw [r22sec_none N hN _ hd _ (le200 (by decide))]
  refine (r22Joiner_eq N hN _ z32 (secF_by _ _ _) z32_by z ctx hx _).trans ?_
  exact r22Of_eq N hN _ (secF_by _ _ _) z ctx hx _

end Go.Proofs.YtjaekdcbjfgcpaaDoor.fn
