/- The curve -x^2 + y^2 = 1 + d x^2 y^2 modulo p: its sums are a group. No program in sight. -/
import Derived.Test.YtjaappocnonkbaaDoorMF
namespace Go.Proofs.YtjaappocnonkbaaDoor.fn
open Go Go.Proofs Go.Ev Go.Dg

/-! ### the field's quotients -/

theorem φ_val (x : F) : φ x.val = x := Fin.ext (Nat.mod_eq_of_lt x.isLt)
theorem val_mod (x : F) : x.val % PP = x.val := Nat.mod_eq_of_lt x.isLt
def iv (x : F) : F := φ (x.val ^ (PP - 2))

theorem one_val : (1 : F).val = 1 := by decide +kernel
theorem ne_val {x : F} (h : x ≠ 0) : x.val % PP ≠ 0 := by
  rw [val_mod]
  exact fun h0 => h (Fin.ext h0)

theorem mul_iv {x : F} (h : x ≠ 0) : x * iv x = 1 := by
  have h1 : x.val * x.val ^ (PP - 2) % PP = 1 := Fp.inv x.val (ne_val h)
  unfold iv
  generalize x.val ^ (PP - 2) = u at *
  refine Eq.trans (congrArg (· * φ u) (φ_val x).symm) ?_
  show φ x.val * φ u = 1
  rw [← φ_mul, ← φ_mod, h1]
  rfl

theorem no_div {a b : F} (h : a * b = 0) : a = 0 ∨ b = 0 := by
  have h1 : a.val * b.val % PP = 0 := by
    have : φ (a.val * b.val) = φ 0 := by rw [φ_mul, φ_val, φ_val, h]; rfl
    simpa using φ_iff.1 this
  rcases Fp.nzd _ _ h1 with h2 | h2
  · left; exact Fin.ext ((val_mod a).symm.trans h2)
  · right; exact Fin.ext ((val_mod b).symm.trans h2)

theorem mul_ne {a b : F} (ha : a ≠ 0) (hb : b ≠ 0) : a * b ≠ 0 := fun h => (no_div h).elim ha hb
theorem one_ne : (1 : F) ≠ 0 := by decide +kernel

section ring
variable {α : Type} [Lean.Grind.CommRing α]
theorem sub_zero_ring {a b : α} (h : a - b = 0) : a = b := by grind
theorem cancel_ring {a b c : α} (h : a * c = b * c) : (a - b) * c = 0 := by grind
theorem zero_mul_ring (a : α) : 0 * a = 0 := by grind
theorem mul_one_ring (a : α) : a * 1 = a := by grind
end ring

theorem cancel {a b c : F} (hc : c ≠ 0) (h : a * c = b * c) : a = b := by
  rcases no_div (cancel_ring h) with h1 | h1
  · exact sub_zero_ring h1
  · exact absurd h1 hc

/-! ### the curve's number is no square -/

def DD : Nat := 37095705934669439343138083508754565189542113879843219016388785533085940283555
def dd : F := φ DD
def ii : F := φ Fp.II

theorem ii_sq : ii * ii = 0 - 1 := by
  have h : Fp.II * Fp.II % PP = (0 + (PP - 1 % PP)) % PP := by decide +kernel
  unfold ii
  rw [← φ_mul, φ_iff.2 (h.trans (Nat.mod_mod _ _).symm), φ_mod, φ_sub]
  rfl

theorem pw_nonsq (e : Nat) (h : Nat.blt e (2 ^ 256) = true) (hb : Nat.beq (Prm.pwm PP 256 DD e) 1 = false) : DD ^ e % PP ≠ 1 := by
  rw [← Prm.pwm_eq PP 256 DD e (Nat.blt_eq.mp h)]
  intro hc
  rw [hc] at hb
  cases hb

theorem DD_nonsq : ¬ Fp.isSq DD := by
  obtain ⟨hf, hfe, _, hfs⟩ := the_half
  have h1 : Nat.blt ((PP - 1) / 2) (2 ^ 256) = true := by decide +kernel
  have h2 : Nat.beq (Prm.pwm PP 256 DD ((PP - 1) / 2)) 1 = false := by decide +kernel
  rw [hfe] at h1 h2
  rw [hfs]
  rintro (h | h)
  · revert h; decide +kernel
  · exact pw_nonsq hf h1 h2 h

theorem no_root {s t : F} (h : dd * (s * s) = t * t) : s = 0 := by
  refine Classical.byContradiction fun hs => ?_
  have h1 : DD * (s.val * s.val) % Fp.PP = t.val * t.val % Fp.PP := by
    refine φ_iff.1 ?_
    rw [φ_mul, φ_mul, φ_mul, φ_val, φ_val]
    exact h
  have h2 : Fp.isSq (DD * (s.val * s.val)) := by
    have h3 := Fp.sq_isSq t.val
    rw [← Fp.isSq_mod] at h3 ⊢
    rwa [h1]
  have h4 : s.val * s.val % Fp.PP ≠ 0 := fun h0 => (Fp.nzd _ _ h0).elim (ne_val hs) (ne_val hs)
  have h5 : DD % Fp.PP ≠ 0 := by decide +kernel
  exact DD_nonsq (((Fp.isSq_mul _ _ h5 h4).1 h2).2 (Fp.sq_isSq _))

/-! ### points -/

def On (p : F × F) : Prop := p.2 * p.2 - p.1 * p.1 = 1 + dd * (p.1 * p.1) * (p.2 * p.2)
def ee (p q : F × F) : F := dd * p.1 * q.1 * p.2 * q.2
def addP (p q : F × F) : F × F := ((p.1 * q.2 + q.1 * p.2) * iv (1 + ee p q), (p.2 * q.2 + p.1 * q.1) * iv (1 - ee p q))
def zeroP : F × F := (0, 1)
def negP (p : F × F) : F × F := (0 - p.1, p.2)

section ring
variable {α : Type} [Lean.Grind.CommRing α]
theorem root_ring (d i x1 y1 x2 y2 e s : α) (h1 : y1 * y1 - x1 * x1 = 1 + d * (x1 * x1) * (y1 * y1)) (h2 : y2 * y2 - x2 * x2 = 1 + d * (x2 * x2) * (y2 * y2)) (he : e = d * x1 * x2 * y1 * y2) (hi : i * i = 0 - 1) (hee : e * e = 1) (hs : s * s = 1) :
    d * ((x1 * y1 * (i * x2 + s * y2)) * (x1 * y1 * (i * x2 + s * y2))) = (i * x1 + s * e * y1) * (i * x1 + s * e * y1) := by grind
theorem both_ring (i x y : α) (h1 : i * x + 1 * y = 0) (h2 : i * x + (0 - 1) * y = 0) (hi : i * i = 0 - 1) : (1 + 1) * x = 0 := by grind
theorem e_ring (d x1 x2 y1 y2 e : α) (he : e = d * x1 * x2 * y1 * y2) (h : x1 * y1 = 0 ∨ x2 = 0) (hee : e * e = 1) : (1 : α) = 0 := by grind
theorem sq_pm_ring (e : α) (h : 1 + e = 0 ∨ 1 - e = 0) : e * e = 1 := by grind
theorem mone_ring : (0 - 1 : α) * (0 - 1) = 1 := by grind
theorem one_one_ring : (1 : α) * 1 = 1 := by grind
end ring

theorem two_ne : (1 + 1 : F) ≠ 0 := by decide +kernel

theorem complete {p q : F × F} (hp : On p) (hq : On q) : 1 + ee p q ≠ 0 ∧ 1 - ee p q ≠ 0 := by
  have key : ee p q * ee p q = 1 → False := by
    intro h
    have k1 := no_root (root_ring dd ii p.1 p.2 q.1 q.2 (ee p q) 1 hp hq rfl ii_sq h one_one_ring)
    have k2 := no_root (root_ring dd ii p.1 p.2 q.1 q.2 (ee p q) (0 - 1) hp hq rfl ii_sq h mone_ring)
    refine one_ne (e_ring dd p.1 q.1 p.2 q.2 (ee p q) rfl ?_ h)
    rcases no_div k1 with h1 | h1
    · exact .inl h1
    · rcases no_div k2 with h2 | h2
      · exact .inl h2
      · exact .inr ((no_div (both_ring ii q.1 q.2 h1 h2 ii_sq)).resolve_left two_ne)
  exact ⟨fun h => key (sq_pm_ring _ (.inl h)), fun h => key (sq_pm_ring _ (.inr h))⟩

section ring
variable {α : Type} [Lean.Grind.CommRing α]
theorem on_ring (d x1 y1 x2 y2 : α) (h1 : y1 * y1 - x1 * x1 = 1 + d * (x1 * x1) * (y1 * y1)) (h2 : y2 * y2 - x2 * x2 = 1 + d * (x2 * x2) * (y2 * y2)) :
    let e := d * x1 * x2 * y1 * y2
    let X := x1 * y2 + x2 * y1
    let Y := y1 * y2 + x1 * x2
    (Y * Y) * ((1 + e) * (1 + e)) - (X * X) * ((1 - e) * (1 - e)) = ((1 + e) * (1 - e)) * ((1 + e) * (1 - e)) + d * (X * X) * (Y * Y) := by
  intro e X Y
  grind
theorem on_scale_ring (d e f X Y x y : α) (hx : x * e = X) (hy : y * f = Y) (h : (Y * Y) * (e * e) - (X * X) * (f * f) = (e * f) * (e * f) + d * (X * X) * (Y * Y)) :
    (y * y - x * x) * ((e * e) * (f * f)) = (1 + d * (x * x) * (y * y)) * ((e * e) * (f * f)) := by grind
theorem back_iv_ring (a b c : α) (h : b * c = 1) : a * c * b = a := by grind
end ring

theorem mul_iv_back (a : F) {b : F} (hb : b ≠ 0) : a * iv b * b = a := back_iv_ring a b (iv b) (mul_iv hb)

theorem On.add {p q : F × F} (hp : On p) (hq : On q) : On (addP p q) := by
  obtain ⟨h1, h2⟩ := complete hp hq
  exact cancel (mul_ne (mul_ne h1 h1) (mul_ne h2 h2)) (on_scale_ring dd (1 + ee p q) (1 - ee p q) _ _ _ _ (mul_iv_back _ h1) (mul_iv_back _ h2) (on_ring dd p.1 p.2 q.1 q.2 hp hq))

section ring
variable {α : Type} [Lean.Grind.CommRing α]
theorem assocX_ring (d x1 y1 x2 y2 x3 y3 : α) (h1 : y1 * y1 - x1 * x1 = 1 + d * (x1 * x1) * (y1 * y1)) (h2 : y2 * y2 - x2 * x2 = 1 + d * (x2 * x2) * (y2 * y2)) (h3 : y3 * y3 - x3 * x3 = 1 + d * (x3 * x3) * (y3 * y3)) :
    let e12 := d * x1 * x2 * y1 * y2
    let N12 := x1 * y2 + x2 * y1
    let M12 := y1 * y2 + x1 * x2
    let e23 := d * x2 * x3 * y2 * y3
    let N23 := x2 * y3 + x3 * y2
    let M23 := y2 * y3 + x2 * x3
    (N12 * y3 * (1 - e12) + x3 * M12 * (1 + e12)) * ((1 + e23) * (1 - e23) + d * x1 * N23 * y1 * M23) = (x1 * M23 * (1 + e23) + N23 * y1 * (1 - e23)) * ((1 + e12) * (1 - e12) + d * N12 * x3 * M12 * y3) := by
  intro e12 N12 M12 e23 N23 M23
  grind
theorem assocY_ring (d x1 y1 x2 y2 x3 y3 : α) (h1 : y1 * y1 - x1 * x1 = 1 + d * (x1 * x1) * (y1 * y1)) (h2 : y2 * y2 - x2 * x2 = 1 + d * (x2 * x2) * (y2 * y2)) (h3 : y3 * y3 - x3 * x3 = 1 + d * (x3 * x3) * (y3 * y3)) :
    let e12 := d * x1 * x2 * y1 * y2
    let N12 := x1 * y2 + x2 * y1
    let M12 := y1 * y2 + x1 * x2
    let e23 := d * x2 * x3 * y2 * y3
    let N23 := x2 * y3 + x3 * y2
    let M23 := y2 * y3 + x2 * x3
    (M12 * y3 * (1 + e12) + N12 * x3 * (1 - e12)) * ((1 + e23) * (1 - e23) - d * x1 * N23 * y1 * M23) = (y1 * M23 * (1 + e23) + x1 * N23 * (1 - e23)) * ((1 + e12) * (1 - e12) - d * N12 * x3 * M12 * y3) := by
  intro e12 N12 M12 e23 N23 M23
  grind
theorem assocX_fit (d x1 y1 x2 y2 x3 y3 : α) (h1 : y1 * y1 - x1 * x1 = 1 + d * (x1 * x1) * (y1 * y1)) (h2 : y2 * y2 - x2 * x2 = 1 + d * (x2 * x2) * (y2 * y2)) (h3 : y3 * y3 - x3 * x3 = 1 + d * (x3 * x3) * (y3 * y3)) :
    ((x1 * y2 + x2 * y1) * y3 * (1 - d * x1 * x2 * y1 * y2) + x3 * (y1 * y2 + x1 * x2) * (1 + d * x1 * x2 * y1 * y2)) * ((1 + d * x2 * x3 * y2 * y3) * (1 - d * x2 * x3 * y2 * y3) + d * (x2 * y3 + x3 * y2) * x1 * (y2 * y3 + x2 * x3) * y1) =
      ((x2 * y3 + x3 * y2) * y1 * (1 - d * x2 * x3 * y2 * y3) + x1 * (y2 * y3 + x2 * x3) * (1 + d * x2 * x3 * y2 * y3)) * ((1 + d * x1 * x2 * y1 * y2) * (1 - d * x1 * x2 * y1 * y2) + d * (x1 * y2 + x2 * y1) * x3 * (y1 * y2 + x1 * x2) * y3) := by
  have h := assocX_ring d x1 y1 x2 y2 x3 y3 h1 h2 h3
  simp only [] at h
  generalize d * x1 * x2 * y1 * y2 = e12 at *
  generalize d * x2 * x3 * y2 * y3 = e23 at *
  generalize x1 * y2 + x2 * y1 = N12 at *
  generalize y1 * y2 + x1 * x2 = M12 at *
  generalize x2 * y3 + x3 * y2 = N23 at *
  generalize y2 * y3 + x2 * x3 = M23 at *
  clear h1 h2 h3
  grind
theorem assocY_fit (d x1 y1 x2 y2 x3 y3 : α) (h1 : y1 * y1 - x1 * x1 = 1 + d * (x1 * x1) * (y1 * y1)) (h2 : y2 * y2 - x2 * x2 = 1 + d * (x2 * x2) * (y2 * y2)) (h3 : y3 * y3 - x3 * x3 = 1 + d * (x3 * x3) * (y3 * y3)) :
    ((y1 * y2 + x1 * x2) * y3 * (1 + d * x1 * x2 * y1 * y2) + (x1 * y2 + x2 * y1) * x3 * (1 - d * x1 * x2 * y1 * y2)) * ((1 + d * x2 * x3 * y2 * y3) * (1 - d * x2 * x3 * y2 * y3) - d * (x2 * y3 + x3 * y2) * x1 * (y2 * y3 + x2 * x3) * y1) =
      ((y2 * y3 + x2 * x3) * y1 * (1 + d * x2 * x3 * y2 * y3) + (x2 * y3 + x3 * y2) * x1 * (1 - d * x2 * x3 * y2 * y3)) * ((1 + d * x1 * x2 * y1 * y2) * (1 - d * x1 * x2 * y1 * y2) - d * (x1 * y2 + x2 * y1) * x3 * (y1 * y2 + x1 * x2) * y3) := by
  have h := assocY_ring d x1 y1 x2 y2 x3 y3 h1 h2 h3
  simp only [] at h
  generalize d * x1 * x2 * y1 * y2 = e12 at *
  generalize d * x2 * x3 * y2 * y3 = e23 at *
  generalize x1 * y2 + x2 * y1 = N12 at *
  generalize y1 * y2 + x1 * x2 = M12 at *
  generalize x2 * y3 + x3 * y2 = N23 at *
  generalize y2 * y3 + x2 * x3 = M23 at *
  clear h1 h2 h3
  grind
theorem up_ring2 (d e f X Y x y u v L M : α) (hx : x * e = X) (hy : y * f = Y) (hL : L * (1 + d * x * u * y * v) = x * v + u * y) (hM : M * (1 - d * x * u * y * v) = y * v + x * u) :
    L * (e * f + d * X * u * Y * v) = X * v * f + u * Y * e ∧ M * (e * f - d * X * u * Y * v) = Y * v * e + X * u * f ∧
    (1 + d * x * u * y * v) * (e * f) = e * f + d * X * u * Y * v ∧ (1 - d * x * u * y * v) * (e * f) = e * f - d * X * u * Y * v := by grind
theorem cross_ring (L R A A' B B' : α) (h1 : L * A = B) (h2 : R * A' = B') (h3 : B * A' = B' * A) : L * (A * A') = R * (A * A') := by grind
theorem swap1_ring (d x y u v : α) : d * u * x * v * y = d * x * u * y * v := by grind
theorem swap2_ring (x y u v : α) : u * y + x * v = x * v + u * y := by grind
theorem swap3_ring (x y u v : α) : v * y + u * x = y * v + x * u := by grind
end ring

theorem addP_comm (p q : F × F) : addP p q = addP q p := by
  have e : ee p q = ee q p := swap1_ring dd _ _ _ _
  unfold addP
  rw [e]
  refine Prod.ext ?_ ?_
  · exact congrArg (· * iv (1 + ee q p)) (swap2_ring _ _ _ _).symm
  · exact congrArg (· * iv (1 - ee q p)) (swap3_ring _ _ _ _).symm

theorem addP_assoc {p q r : F × F} (hp : On p) (hq : On q) (hr : On r) : addP (addP p q) r = addP p (addP q r) := by
  obtain ⟨a1, a2⟩ := complete hp hq
  obtain ⟨b1, b2⟩ := complete hq hr
  obtain ⟨c1, c2⟩ := complete (hp.add hq) hr
  obtain ⟨d1, d2⟩ := complete (hq.add hr) hp
  rw [addP_comm p (addP q r)]
  obtain ⟨l1, l2, l3, l4⟩ := up_ring2 dd (1 + ee p q) (1 - ee p q) (p.1 * q.2 + q.1 * p.2) (p.2 * q.2 + p.1 * q.1) (addP p q).1 (addP p q).2 r.1 r.2 (addP (addP p q) r).1 (addP (addP p q) r).2 (mul_iv_back _ a1) (mul_iv_back _ a2) (mul_iv_back _ c1) (mul_iv_back _ c2)
  obtain ⟨m1, m2, m3, m4⟩ := up_ring2 dd (1 + ee q r) (1 - ee q r) (q.1 * r.2 + r.1 * q.2) (q.2 * r.2 + q.1 * r.1) (addP q r).1 (addP q r).2 p.1 p.2 (addP (addP q r) p).1 (addP (addP q r) p).2 (mul_iv_back _ b1) (mul_iv_back _ b2) (mul_iv_back _ d1) (mul_iv_back _ d2)
  have n1 := mul_ne c1 (mul_ne a1 a2)
  have n2 := mul_ne c2 (mul_ne a1 a2)
  have n3 := mul_ne d1 (mul_ne b1 b2)
  have n4 := mul_ne d2 (mul_ne b1 b2)
  refine Prod.ext ?_ ?_
  · refine cancel (mul_ne (l3 ▸ n1) (m3 ▸ n3)) (cross_ring _ _ _ _ _ _ l1 m1 ?_)
    exact assocX_fit dd p.1 p.2 q.1 q.2 r.1 r.2 hp hq hr
  · refine cancel (mul_ne (l4 ▸ n2) (m4 ▸ n4)) (cross_ring _ _ _ _ _ _ l2 m2 ?_)
    exact assocY_fit dd p.1 p.2 q.1 q.2 r.1 r.2 hp hq hr

end Go.Proofs.YtjaappocnonkbaaDoor.fn
