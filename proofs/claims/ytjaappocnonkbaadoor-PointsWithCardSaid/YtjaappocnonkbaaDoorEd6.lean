/- Points over one divisor with the product beside them: sums and doubles; which points have the same bytes. No program in sight. -/
import Derived.Test.YtjaappocnonkbaaDoorEd3
namespace Go.Proofs.YtjaappocnonkbaaDoor.fn
open Go Go.Proofs Go.Ev Go.Dg

/-- x, y over z, and t over z their product. -/
structure Rep4 (p : F × F) (x y z t : F) : Prop where
  nz : z ≠ 0
  hx : x = p.1 * z
  hy : y = p.2 * z
  ht : t = p.1 * p.2 * z

section ring
variable {α : Type} [Lean.Grind.CommRing α]
theorem plus4_ring (d x1 y1 z1 x2 y2 z2 i j : α) (hi : (1 + d * x1 * x2 * y1 * y2) * i = 1) (hj : (1 - d * x1 * x2 * y1 * y2) * j = 1) :
    let a := (y1 * z1 - x1 * z1) * (y2 * z2 - x2 * z2)
    let b := (y1 * z1 + x1 * z1) * (y2 * z2 + x2 * z2)
    let c := x1 * y1 * z1 * (x2 * y2 * z2) * (d + d)
    let w := z1 * z2 + z1 * z2
    let X := (x1 * y2 + x2 * y1) * i
    let Y := (y1 * y2 + x1 * x2) * j
    (b - a) * (w - c) = X * ((w - c) * (w + c)) ∧ (w + c) * (b + a) = Y * ((w - c) * (w + c)) ∧ (b - a) * (b + a) = X * Y * ((w - c) * (w + c)) ∧ w - c = (1 + 1) * (1 - d * x1 * x2 * y1 * y2) * (z1 * z2) ∧ w + c = (1 + 1) * (1 + d * x1 * x2 * y1 * y2) * (z1 * z2) := by
  intro a b c w X Y
  refine ⟨?_, ?_, ?_, ?_, ?_⟩ <;> grind
theorem dbl4_ring (d x y z i j : α) (h : y * y - x * x = 1 + d * (x * x) * (y * y)) (hi : (1 + d * x * x * y * y) * i = 1) (hj : (1 - d * x * x * y * y) * j = 1) :
    let a := x * z * (x * z)
    let b := y * z * (y * z)
    let c := z * z + z * z
    let H := a + b
    let E := H - (x * z + y * z) * (x * z + y * z)
    let G := a - b
    let X := (x * y + x * y) * i
    let Y := (y * y + x * x) * j
    E * (c + G) = X * ((c + G) * G) ∧ G * H = Y * ((c + G) * G) ∧ E * H = X * Y * ((c + G) * G) ∧ c + G = (1 - d * x * x * y * y) * (z * z) ∧ G = (0 - 1) * (1 + d * x * x * y * y) * (z * z) := by
  intro a b c H E G X Y
  refine ⟨?_, ?_, ?_, ?_, ?_⟩ <;> grind
end ring

theorem mone_ne : (0 - 1 : F) ≠ 0 := by decide +kernel

theorem Rep4.plus {p q : F × F} {x y z t u v w s : F} (hp : On p) (hq : On q) (h : Rep4 p x y z t) (k : Rep4 q u v w s) :
    let a := (y - x) * (v - u)
    let b := (y + x) * (v + u)
    let c := t * s * (dd + dd)
    let e := z * w + z * w
    Rep4 (addP p q) ((b - a) * (e - c)) ((e + c) * (b + a)) ((e - c) * (e + c)) ((b - a) * (b + a)) := by
  obtain ⟨h1, h2⟩ := complete hp hq
  obtain ⟨hz, rfl, rfl, rfl⟩ := h
  obtain ⟨kz, rfl, rfl, rfl⟩ := k
  obtain ⟨e1, e2, e3, e4, e5⟩ := plus4_ring dd p.1 p.2 z q.1 q.2 w (iv (1 + ee p q)) (iv (1 - ee p q)) (mul_iv h1) (mul_iv h2)
  intro a b c e
  refine ⟨?_, e1, e2, e3⟩
  have n := mul_ne hz kz
  exact mul_ne (by rw [e4]; exact mul_ne (mul_ne two_ne h2) n) (by rw [e5]; exact mul_ne (mul_ne two_ne h1) n)

theorem Rep4.dbl {p : F × F} {x y z t : F} (hp : On p) (h : Rep4 p x y z t) :
    let a := x * x
    let b := y * y
    let c := z * z + z * z
    let H := a + b
    let E := H - (x + y) * (x + y)
    let G := a - b
    Rep4 (addP p p) (E * (c + G)) (G * H) ((c + G) * G) (E * H) := by
  obtain ⟨h1, h2⟩ := complete hp hp
  obtain ⟨hz, rfl, rfl, rfl⟩ := h
  obtain ⟨e1, e2, e3, e4, e5⟩ := dbl4_ring dd p.1 p.2 z (iv (1 + ee p p)) (iv (1 - ee p p)) hp (mul_iv h1) (mul_iv h2)
  intro a b c H E G
  refine ⟨?_, e1, e2, e3⟩
  have n := mul_ne hz hz
  exact mul_ne (fun h0 => mul_ne h2 n (e4.symm.trans h0)) (fun h0 => mul_ne (mul_ne mone_ne h1) n (e5.symm.trans h0))

section ring
variable {α : Type} [Lean.Grind.CommRing α]
theorem neg4_ring (x y z : α) : 0 - x * z = (0 - x) * z ∧ 0 - x * y * z = (0 - x) * y * z := by constructor <;> grind
theorem at_ring (x y : α) : x = x * 1 ∧ x * y = x * y * 1 := by constructor <;> grind
theorem same_ring (a b z w : α) : a * z * w - b * w * z = (a - b) * (z * w) := by grind
theorem swap_ring (a z w : α) : a * z * w = a * w * z := by grind
theorem self_ring (a : α) : a - a = 0 := by grind
theorem neg_of_ring' (a : α) (h : 1 + a = 0) : a = 0 - 1 := by grind
theorem nz_of_ring' (d : α) (h : 1 + d * (0 * 0) = 0) : (1 : α) = 0 := by grind
theorem same_x_ring (d x u y : α) (h : y * y - x * x = 1 + d * (x * x) * (y * y)) (k : y * y - u * u = 1 + d * (u * u) * (y * y)) : (1 + d * (y * y)) * ((x - u) * (x + u)) = 0 := by grind
end ring

theorem Rep4.neg {p : F × F} {x y z t : F} (h : Rep4 p x y z t) : Rep4 (negP p) (0 - x) y z (0 - t) := by
  obtain ⟨hz, rfl, rfl, rfl⟩ := h
  exact ⟨hz, (neg4_ring p.1 p.2 z).1, rfl, (neg4_ring p.1 p.2 z).2⟩

theorem Rep4.at (p : F × F) : Rep4 p p.1 p.2 1 (p.1 * p.2) := ⟨one_ne, (at_ring p.1 p.2).1, (at_ring p.2 p.1).1, (at_ring p.1 p.2).2⟩

/-- The products that tell whether two points are the same. -/
theorem Rep4.same {p q : F × F} {x y z t u v w s : F} (h : Rep4 p x y z t) (k : Rep4 q u v w s) : (x * w = u * z ∧ y * w = v * z) ↔ p = q := by
  obtain ⟨hz, rfl, rfl, rfl⟩ := h
  obtain ⟨kz, rfl, rfl, rfl⟩ := k
  constructor
  · rintro ⟨e1, e2⟩
    refine Prod.ext ?_ ?_
    · have := same_ring p.1 q.1 z w
      rw [e1, self_ring] at this
      exact sub_zero_ring ((no_div this.symm).resolve_right (mul_ne hz kz))
    · have := same_ring p.2 q.2 z w
      rw [e2, self_ring] at this
      exact sub_zero_ring ((no_div this.symm).resolve_right (mul_ne hz kz))
  · rintro rfl
    exact ⟨swap_ring _ _ _, swap_ring _ _ _⟩

/-- Two points of one y: their x are the same, or each is the other's negative. -/
theorem same_y {p q : F × F} (hp : On p) (hq : On q) (hy : p.2 = q.2) : p.1 = q.1 ∨ p.1 + q.1 = 0 := by
  have hq' : p.2 * p.2 - q.1 * q.1 = 1 + dd * (q.1 * q.1) * (p.2 * p.2) := by rw [hy]; exact hq
  rcases no_div (same_x_ring dd p.1 q.1 p.2 hp hq') with h | h
  · exfalso
    have h3 : dd * (p.2 * p.2) = ii * ii := by rw [ii_sq]; exact neg_of_ring' _ h
    have h4 := no_root h3
    rw [h4] at h
    exact one_ne (nz_of_ring' dd h)
  · rcases no_div h with h1 | h1
    · exact .inl (sub_zero_ring h1)
    · exact .inr h1

/-- Points whose y and whose x's last bit are the same are the same. -/
theorem same_bits {p q : F × F} (hp : On p) (hq : On q) (hy : p.2 = q.2) (hx : p.1.val % 2 = q.1.val % 2) : p = q := by
  refine Prod.ext ?_ hy
  rcases same_y hp hq hy with h | h
  · exact h
  · have h1 : (p.1.val + q.1.val) % PP = 0 := congrArg Fin.val h
    have h2 := p.1.isLt
    have h3 := q.1.isLt
    have h4 := PP_odd
    apply Fin.ext
    by_cases h5 : p.1.val + q.1.val < PP
    · rw [Nat.mod_eq_of_lt h5] at h1; omega
    · rw [Nat.mod_eq_sub_mod (by omega), Nat.mod_eq_of_lt (by omega)] at h1; omega

end Go.Proofs.YtjaappocnonkbaaDoor.fn
