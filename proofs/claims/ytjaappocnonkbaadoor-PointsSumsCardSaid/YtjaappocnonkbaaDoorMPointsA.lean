/- What the points' functions come to. -/
import Derived.Test.YtjaappocnonkbaaDoorEd6
import Derived.Test.YtjaappocnonkbaaDoorFnPoints
namespace Go.Proofs.YtjaappocnonkbaaDoor.fn
open Go Go.Proofs Go.Ev Go.Dg

/-- The program's row for a point. -/
structure PP4 (p : F × F) (x y z t : Nat) : Prop where
  lx : x < 1852673427797059126777135760139006525652319754650249024631321344126610074238976
  ly : y < 1852673427797059126777135760139006525652319754650249024631321344126610074238976
  lz : z < 1852673427797059126777135760139006525652319754650249024631321344126610074238976
  lt : t < 1852673427797059126777135760139006525652319754650249024631321344126610074238976
  rep : Rep4 p (φ x) (φ y) (φ z) (φ t)

abbrev K4 (R : Type) := List Int → List Int → List Int → List Int → Option R

theorem plus_eq {R : Type} (N : Nat) (hN : 100 < N) {p q : F × F} (hp : On p) (hq : On q) (x y z t u v w s tw : Nat) (h : PP4 p x y z t) (k : PP4 q u v w s) (htw : tw < 1852673427797059126777135760139006525652319754650249024631321344126610074238976) (e2 : φ tw = dd + dd) :
    ∃ a b c d, PP4 (addP p q) a b c d ∧ ∀ κ : K4 R, plus.M N R (E x) (E y) (E z) (E t) (E u) (E v) (E w) (E s) (E tw) κ = κ (E a) (E b) (E c) (E d) := by
  obtain ⟨lx, ly, lz, lt, h⟩ := h
  obtain ⟨lu, lv, lw, ls, k⟩ := k
  have h1 := subE_lt (b := x) ly
  have h2 := subE_lt (b := u) lv
  have h3 := mulE_lt h1 h2
  have h4 := addE_lt ly lx
  have h5 := addE_lt lv lu
  have h6 := mulE_lt h4 h5
  have h7 := mulE_lt lt ls
  have h8 := mulE_lt h7 htw
  have h9 := mulE_lt lz lw
  have h10 := addE_lt h9 h9
  have h11 := subE_lt (b := mulE (subE y x) (subE v u)) h6
  have h12 := subE_lt (b := mulE (mulE t s) tw) h10
  have h13 := addE_lt h10 h8
  have h14 := addE_lt h6 h3
  refine ⟨_, _, _, _, ⟨mulE_lt h11 h12, mulE_lt h13 h14, mulE_lt h12 h13, mulE_lt h11 h14, ?_⟩, ?_⟩
  · have g := Rep4.plus hp hq h k
    simp only [φ_mulE, φ_addE, φ_subE lx, φ_subE lu, φ_subE h3, φ_subE h8, e2]
    exact g
  · intro κ
    show plus.m (eSub.M N) (eTimes.M N) (eAdd.M N) N _ _ _ _ _ _ _ _ _ κ = _
    unfold plus.m
    rw [eSub_eq N hN _ _ ly lx, eSub_eq N hN _ _ lv lu, eTimes_eq N hN _ _ h1 h2, eAdd_eq N hN _ _ ly lx, eAdd_eq N hN _ _ lv lu, eTimes_eq N hN _ _ h4 h5, eTimes_eq N hN _ _ lt ls, eTimes_eq N hN _ _ h7 htw, eTimes_eq N hN _ _ lz lw, eAdd_eq N hN _ _ h9 h9,
      eSub_eq N hN _ _ h6 h3, eSub_eq N hN _ _ h10 h8, eAdd_eq N hN _ _ h10 h8, eAdd_eq N hN _ _ h6 h3, eTimes_eq N hN _ _ h11 h12, eTimes_eq N hN _ _ h13 h14, eTimes_eq N hN _ _ h12 h13, eTimes_eq N hN _ _ h11 h14]

theorem double_eq {R : Type} (N : Nat) (hN : 100 < N) {p : F × F} (hp : On p) (x y z t : Nat) (h : PP4 p x y z t) :
    ∃ a b c d, PP4 (addP p p) a b c d ∧ ∀ κ : K4 R, double.M N R (E x) (E y) (E z) (E t) κ = κ (E a) (E b) (E c) (E d) := by
  obtain ⟨lx, ly, lz, lt, h⟩ := h
  have h1 := mulE_lt lx lx
  have h2 := mulE_lt ly ly
  have h3 := mulE_lt lz lz
  have h4 := addE_lt h3 h3
  have h5 := addE_lt h1 h2
  have h6 := addE_lt lx ly
  have h7 := mulE_lt h6 h6
  have h8 := subE_lt (b := mulE (addE x y) (addE x y)) h5
  have h9 := subE_lt (b := mulE y y) h1
  have h10 := addE_lt h4 h9
  refine ⟨_, _, _, _, ⟨mulE_lt h8 h10, mulE_lt h9 h5, mulE_lt h10 h9, mulE_lt h8 h5, ?_⟩, ?_⟩
  · have g := Rep4.dbl hp h
    simp only [φ_mulE, φ_addE, φ_subE h2, φ_subE h7]
    exact g
  · intro κ
    show double.m _ _ _ _ N _ _ _ _ κ = _
    unfold double.m
    rw [Square_eq N hN _ lx, Square_eq N hN _ ly, Square_eq N hN _ lz, eAdd_eq N hN _ _ h3 h3, eAdd_eq N hN _ _ h1 h2, eAdd_eq N hN _ _ lx ly, Square_eq N hN _ h6, eSub_eq N hN _ _ h5 h7, eSub_eq N hN _ _ h1 h2, eAdd_eq N hN _ _ h4 h9,
      eTimes_eq N hN _ _ h8 h10, eTimes_eq N hN _ _ h9 h5, eTimes_eq N hN _ _ h10 h9, eTimes_eq N hN _ _ h8 h5]

end Go.Proofs.YtjaappocnonkbaaDoor.fn
