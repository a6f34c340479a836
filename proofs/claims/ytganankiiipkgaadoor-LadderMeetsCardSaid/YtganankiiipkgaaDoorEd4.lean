/- The ladder goes along a point's multiples: both ways come to the same. -/
import Derived.Test.YtganankiiipkgaaDoorEd3
import Derived.Test.YtganankiiipkgaaDoorMLadderC
namespace Go.Proofs.YtganankiiipkgaaDoor.fn
open Go Go.Proofs Go.Ev Go.Dg

/-- A quotient that stands for a point's y. -/
def Rel (U Z : F) (p : F × F) : Prop := U + Z ≠ 0 ∧ U - Z = p.2 * (U + Z)

def a24 : F := φ 121665
theorem dd_a24 : dd * (1 + a24) = 0 - a24 := by
  have h : DD * (1 + 121665) % PP = (0 + (PP - 121665 % PP)) % PP := by decide +kernel
  have h2 := φ_iff.2 (h.trans (Nat.mod_mod _ _).symm)
  rw [φ_mod, φ_sub, φ_mul, φ_add] at h2
  exact h2
theorem a24_ne : 1 + a24 ≠ 0 := by decide +kernel
theorem dd_one_ne : 1 + dd ≠ 0 := by decide +kernel

section ring
variable {α : Type} [Lean.Grind.CommRing α]
theorem dbl_ring (d a x y U Z Y : α) (h : y * y - x * x = 1 + d * (x * x) * (y * y)) (hd : d * (1 + a) = 0 - a) (hU : U - Z = y * (U + Z)) (hY : Y * (1 - d * x * x * y * y) = y * y + x * x) :
    (U + Z) * (U + Z) * ((U - Z) * (U - Z)) + ((U + Z) * (U + Z) - (U - Z) * (U - Z)) * ((U + Z) * (U + Z) + ((U + Z) * (U + Z) - (U - Z) * (U - Z)) * a) = (1 + a) * (1 + d * (y * y)) * (1 - d * x * x * y * y) * ((U + Z) * (U + Z) * ((U + Z) * (U + Z))) ∧
    (U + Z) * (U + Z) * ((U - Z) * (U - Z)) - ((U + Z) * (U + Z) - (U - Z) * (U - Z)) * ((U + Z) * (U + Z) + ((U + Z) * (U + Z) - (U - Z) * (U - Z)) * a) = Y * ((U + Z) * (U + Z) * ((U - Z) * (U - Z)) + ((U + Z) * (U + Z) - (U - Z) * (U - Z)) * ((U + Z) * (U + Z) + ((U + Z) * (U + Z) - (U - Z) * (U - Z)) * a)) := by
  rw [hU]
  generalize U + Z = A
  have key : (1 + a * (1 - y * y)) * (1 + x * x) = y * y := by grind
  have k2 : (1 + a) * (1 + d * (y * y)) = 1 + a * (1 - y * y) := by grind
  rw [k2]
  generalize hw : 1 + a * (1 - y * y) = w at *
  have e1 : A * A * (y * A * (y * A)) + (A * A - y * A * (y * A)) * (A * A + (A * A - y * A * (y * A)) * a) = w * (1 - d * x * x * y * y) * (A * A * (A * A)) := by grind
  refine ⟨e1, ?_⟩
  rw [e1]
  have e2 : A * A * (y * A * (y * A)) - (A * A - y * A * (y * A)) * (A * A + (A * A - y * A * (y * A)) * a) = w * (y * y + x * x) * (A * A * (A * A)) := by grind
  rw [e2, ← hY]
  grind
theorem diff_ring (d x1 y1 x2 y2 : α) (h1 : y1 * y1 - x1 * x1 = 1 + d * (x1 * x1) * (y1 * y1)) (h2 : y2 * y2 - x2 * x2 = 1 + d * (x2 * x2) * (y2 * y2)) :
    (y1 + y2) * (y1 + y2) * (1 - d * x1 * x2 * y1 * y2 - y1 * y2 - x1 * x2) * (1 + d * x1 * x2 * y1 * y2 - y1 * y2 + x1 * x2) =
      (y2 - y1) * (y2 - y1) * (1 + d * x1 * x2 * y1 * y2 + y1 * y2 - x1 * x2) * (1 - d * x1 * x2 * y1 * y2 + y1 * y2 + x1 * x2) := by grind
theorem mm_ring (e yd a b : α) (hd : yd * (1 + e) = a - b) : (1 + e) * (1 - yd) = 1 + e - a + b := by grind
theorem uu_ring (e yd a b u : α) (hd : yd * (1 + e) = a - b) (hu : u * (1 - yd) = 1 + yd) : u * (1 + e - a + b) = 1 + e + a - b := by grind
theorem st_ring (s t1 u e a b m : α) (hi : s * (1 - e - a - b) * m = t1 * (1 + e + a - b) * (1 - e + a + b)) (hu : u * m = 1 + e + a - b) : (s * (1 - e - a - b) - t1 * u * (1 - e + a + b)) * m = 0 := by grind
theorem st2_ring (s t e c Y : α) (h : s * (1 - e - c) - t * (1 - e + c) = 0) (hY : Y * (1 - e) = c) : ((s - t) - Y * (s + t)) * (1 - e) = 0 := by grind
theorem add_ring (U2 Z2 U3 Z3 y1 y2 u : α) (h2 : U2 - Z2 = y1 * (U2 + Z2)) (h3 : U3 - Z3 = y2 * (U3 + Z3)) :
    ((U3 - Z3) * (U2 + Z2) + (U3 + Z3) * (U2 - Z2)) * ((U3 - Z3) * (U2 + Z2) + (U3 + Z3) * (U2 - Z2)) = (y1 + y2) * (y1 + y2) * (((U2 + Z2) * (U2 + Z2)) * ((U3 + Z3) * (U3 + Z3))) ∧
    ((U3 - Z3) * (U2 + Z2) - (U3 + Z3) * (U2 - Z2)) * ((U3 - Z3) * (U2 + Z2) - (U3 + Z3) * (U2 - Z2)) * u = (y2 - y1) * (y2 - y1) * u * (((U2 + Z2) * (U2 + Z2)) * ((U3 + Z3) * (U3 + Z3))) := by
  constructor <;> grind
theorem scale_ring (s t k Y : α) (h : s - t = Y * (s + t)) : s * k + t * k = (s + t) * k ∧ s * k - t * k = Y * (s * k + t * k) := by constructor <;> grind
theorem dbl_sum_ring (s t : α) (h : s - t = 0) (h2 : s + t = 0) : (1 + 1) * s = 0 ∧ (1 + 1) * t = 0 := by constructor <;> grind
theorem zero_diff_ring (s t Y : α) (h : s - t = Y * (s + t)) (h2 : s + t = 0) : s - t = 0 := by grind
theorem y_zero_ring (a b : α) (h : a + b = 0) (h2 : b - a = 0) : (1 + 1) * a = 0 := by grind
theorem neg_of_ring (a : α) (h : 1 + a = 0) : a = 0 - 1 := by grind
theorem nz_of_ring (d : α) (h : 1 + d * (0 * 0) = 0) : (1 : α) = 0 := by grind
theorem yd_form (d x1 x2 y1 y2 Y : α) (h : Y * (1 - d * x1 * (0 - x2) * y1 * y2) = y1 * y2 + x1 * (0 - x2)) : Y * (1 + d * x1 * x2 * y1 * y2) = y1 * y2 - x1 * x2 := by grind
theorem c_form (s t e a b : α) (h : s * (1 - e - a - b) - t * (1 - e + a + b) = 0) : s * (1 - e - (a + b)) - t * (1 - e + (a + b)) = 0 := by grind
theorem yd_ring (u yd : α) (hu : u = 0) (h : u * (1 - yd) = 1 + yd) : yd = 0 - 1 := by grind
end ring

theorem Rel.dbl {U Z : F} {p : F × F} (hp : On p) (h : Rel U Z p) :
    Rel ((U + Z) * (U + Z) * ((U - Z) * (U - Z))) (((U + Z) * (U + Z) - (U - Z) * (U - Z)) * ((U + Z) * (U + Z) + ((U + Z) * (U + Z) - (U - Z) * (U - Z)) * a24)) (addP p p) := by
  obtain ⟨h1, h2⟩ := complete hp hp
  obtain ⟨g1, g2⟩ := dbl_ring dd a24 p.1 p.2 U Z (addP p p).2 hp dd_a24 h.2 (mul_iv_back _ h2)
  refine ⟨?_, g2⟩
  rw [g1]
  refine mul_ne (mul_ne (mul_ne a24_ne ?_) h2) (mul_ne (mul_ne h.1 h.1) (mul_ne h.1 h.1))
  intro h0
  have h3 : dd * (p.2 * p.2) = ii * ii := by rw [ii_sq]; exact neg_of_ring _ h0
  have h4 := no_root h3
  rw [h4] at h0
  exact one_ne (nz_of_ring dd h0)

theorem Rel.diff {U2 Z2 U3 Z3 u : F} {p q : F × F} (hp : On p) (hq : On q) (h : Rel U2 Z2 p) (k : Rel U3 Z3 q) {yd : F} (hy : (addP p (negP q)).2 = yd) (hu : u * (1 - yd) = 1 + yd) (n1 : 1 - yd ≠ 0) (n2 : yd ≠ 0 - 1) (n3 : p.2 ≠ 0) :
    Rel (((U3 - Z3) * (U2 + Z2) + (U3 + Z3) * (U2 - Z2)) * ((U3 - Z3) * (U2 + Z2) + (U3 + Z3) * (U2 - Z2))) (((U3 - Z3) * (U2 + Z2) - (U3 + Z3) * (U2 - Z2)) * ((U3 - Z3) * (U2 + Z2) - (U3 + Z3) * (U2 - Z2)) * u) (addP p q) := by
  obtain ⟨h1, h2⟩ := complete hp hq
  obtain ⟨g1, g2⟩ := add_ring U2 Z2 U3 Z3 p.2 q.2 u h.2 k.2
  rw [g1, g2]
  obtain ⟨_, j2⟩ := complete hp hq.neg
  have hyd : yd * (1 + ee p q) = p.2 * q.2 - p.1 * q.1 := by
    have e0 := mul_iv_back (p.2 * (negP q).2 + p.1 * (negP q).1) j2
    rw [← hy]
    exact yd_form dd p.1 q.1 p.2 q.2 _ e0
  have hm : 1 + ee p q - p.2 * q.2 + p.1 * q.1 ≠ 0 := by
    rw [← mm_ring (ee p q) yd (p.2 * q.2) (p.1 * q.1) hyd]
    exact mul_ne h1 n1
  have e1 := (no_div (st_ring ((p.2 + q.2) * (p.2 + q.2)) ((q.2 - p.2) * (q.2 - p.2)) u (ee p q) (p.2 * q.2) (p.1 * q.1) _ (diff_ring dd p.1 p.2 q.1 q.2 hp hq) (uu_ring _ _ _ _ _ hyd hu))).resolve_right hm
  have e2 := sub_zero_ring ((no_div (st2_ring ((p.2 + q.2) * (p.2 + q.2)) ((q.2 - p.2) * (q.2 - p.2) * u) (ee p q) (p.2 * q.2 + p.1 * q.1) (addP p q).2 (c_form _ _ _ _ _ e1) (mul_iv_back _ h2))).resolve_right h2)
  obtain ⟨f1, f2⟩ := scale_ring _ _ (((U2 + Z2) * (U2 + Z2)) * ((U3 + Z3) * (U3 + Z3))) _ e2
  refine ⟨?_, f2⟩
  rw [f1]
  refine mul_ne ?_ (mul_ne (mul_ne h.1 h.1) (mul_ne k.1 k.1))
  intro h0
  obtain ⟨s0, t0⟩ := dbl_sum_ring _ _ (zero_diff_ring _ _ _ e2 h0) h0
  have s1 := (no_div s0).resolve_left two_ne
  have t1 := (no_div t0).resolve_left two_ne
  have s2 : p.2 + q.2 = 0 := (no_div s1).elim id id
  rcases no_div t1 with t2 | t2
  · have t3 : q.2 - p.2 = 0 := (no_div t2).elim id id
    exact n3 ((no_div (y_zero_ring _ _ s2 t3)).resolve_left two_ne)
  · exact n2 (yd_ring u yd t2 hu)

end Go.Proofs.YtganankiiipkgaaDoor.fn
