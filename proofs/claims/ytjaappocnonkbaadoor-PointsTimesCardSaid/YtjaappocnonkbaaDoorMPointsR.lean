/- What the points' references come to. -/
import Derived.Test.YtjaappocnonkbaaDoorEd7
import Derived.Test.YtjaappocnonkbaaDoorFnPointsR
namespace Go.Proofs.YtjaappocnonkbaaDoor.fn
open Go Go.Proofs Go.Ev Go.Dg

/-- The reference's row for a point. -/
structure QP3 (p : F × F) (x y z : Nat) : Prop where
  lx : x < M256
  ly : y < M256
  lz : z < M256
  rep : Rep3 p (φ x) (φ y) (φ z)

abbrev K3 (R : Type) := List Int → List Int → List Int → Option R

theorem row_DD : ([324630691, 1978355146, 1094834347, 7342669, 2004478104, 2361868409, 728759923, 1375956206] : List Int) = U DD := by decide +kernel

theorem qSum_eq {R : Type} (N : Nat) (hN : 100 < N) {p q : F × F} (hp : On p) (hq : On q) (x y z u v w : Nat) (h : QP3 p x y z) (k : QP3 q u v w) :
    ∃ a b c, QP3 (addP p q) a b c ∧ ∀ κ : K3 R, qSum.M N R (U x) (U y) (U z) (U u) (U v) (U w) (U DD) κ = κ (U a) (U b) (U c) := by
  obtain ⟨lx, ly, lz, h⟩ := h
  obtain ⟨lu, lv, lw, k⟩ := k
  have L := PP_lt_M
  have hs : DD < M256 := by decide +kernel
  refine ⟨(((z) * (w) % PP) * ((((x) * (v) % PP) + ((u) * (y) % PP)) % PP) % PP) * (((((z) * (w) % PP) * ((z) * (w) % PP) % PP) + (PP - ((DD) * (((x) * (u) % PP) * ((y) * (v) % PP) % PP) % PP) % PP)) % PP) % PP, (((z) * (w) % PP) * ((((y) * (v) % PP) + ((x) * (u) % PP)) % PP) % PP) * (((((z) * (w) % PP) * ((z) * (w) % PP) % PP) + ((DD) * (((x) * (u) % PP) * ((y) * (v) % PP) % PP) % PP)) % PP) % PP, (((((z) * (w) % PP) * ((z) * (w) % PP) % PP) + ((DD) * (((x) * (u) % PP) * ((y) * (v) % PP) % PP) % PP)) % PP) * (((((z) * (w) % PP) * ((z) * (w) % PP) % PP) + (PP - ((DD) * (((x) * (u) % PP) * ((y) * (v) % PP) % PP) % PP) % PP)) % PP) % PP, ⟨L _, L _, L _, ?_⟩, ?_⟩
  · have g := Rep3.sum hp hq h k
    simp only [φ_mod, φ_mul, φ_add, φ_neg, addneg]
    exact g
  · intro κ
    show qSum.m _ _ _ N _ _ _ _ _ _ _ κ = _
    unfold qSum.m
    rw [rTimes_eq N hN _ _ lz lw, rTimes_eq N hN _ _ (L _) (L _), rTimes_eq N hN _ _ lx lu, rTimes_eq N hN _ _ ly lv, rTimes_eq N hN _ _ (L _) (L _), rTimes_eq N hN _ _ hs (L _), rAdd_eq N hN _ _ (L _) (L _), rSub_eq N hN _ _ (L _) (L _),
      rTimes_eq N hN _ _ lx lv, rTimes_eq N hN _ _ lu ly, rAdd_eq N hN _ _ (L _) (L _), rTimes_eq N hN _ _ (L _) (L _), rTimes_eq N hN _ _ (L _) (L _), rAdd_eq N hN _ _ (L _) (L _), rTimes_eq N hN _ _ (L _) (L _), rTimes_eq N hN _ _ (L _) (L _), rTimes_eq N hN _ _ (L _) (L _)]

end Go.Proofs.YtjaappocnonkbaaDoor.fn
