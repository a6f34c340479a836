/- Multiples of points; points over one divisor. No program in sight. -/
import Derived.Test.YtjaappocnonkbaaDoorEd
namespace Go.Proofs.YtjaappocnonkbaaDoor.fn
open Go Go.Proofs Go.Ev Go.Dg

section ring
variable {α : Type} [Lean.Grind.CommRing α]
theorem zeroe_ring (d x y v : α) : 1 + d * 0 * x * v * y = 1 ∧ 1 - d * 0 * x * v * y = 1 := by constructor <;> grind
theorem zerox_ring (x y i : α) (h : 1 * i = 1) : (0 * y + x * 1) * i = x ∧ (1 * y + 0 * x) * i = y := by constructor <;> grind
theorem on_zero_ring (d : α) : (1 : α) * 1 - 0 * 0 = 1 + d * (0 * 0) * (1 * 1) := by grind
theorem on_neg_ring (d x y : α) (h : y * y - x * x = 1 + d * (x * x) * (y * y)) : y * y - (0 - x) * (0 - x) = 1 + d * ((0 - x) * (0 - x)) * (y * y) := by grind
theorem neg_x_ring (x y i : α) : (x * y + (0 - x) * y) * i = 0 := by grind
theorem neg_y_ring (d x y i : α) (h : y * y - x * x = 1 + d * (x * x) * (y * y)) (hi : (1 - d * x * (0 - x) * y * y) * i = 1) : (y * y + x * (0 - x)) * i = 1 := by grind
end ring

theorem iv_one : iv 1 = 1 := by
  have h := mul_iv one_ne
  have e : (1 : F) * iv 1 = iv 1 := (comm_ring _ _).trans (mul_one_ring _)
  rw [← e, h]

theorem On.zero : On zeroP := on_zero_ring dd
theorem On.neg {p : F × F} (h : On p) : On (negP p) := on_neg_ring dd p.1 p.2 h

theorem zero_addP (p : F × F) : addP zeroP p = p := by
  obtain ⟨h1, h2⟩ := zeroe_ring dd p.1 p.2 1
  unfold addP ee zeroP
  rw [h1, h2, iv_one]
  obtain ⟨h3, h4⟩ := zerox_ring p.1 p.2 (1 : F) (mul_one_ring 1)
  exact Prod.ext h3 h4
theorem addP_zero (p : F × F) : addP p zeroP = p := by rw [addP_comm, zero_addP]

theorem addP_neg {p : F × F} (h : On p) : addP p (negP p) = zeroP := by
  obtain ⟨_, h2⟩ := complete h h.neg
  exact Prod.ext (neg_x_ring _ _ _) (neg_y_ring dd p.1 p.2 _ h (mul_iv h2))

theorem addP_cancel {p q r : F × F} (hp : On p) (hq : On q) (hr : On r) (h : addP p q = addP p r) : q = r := by
  have e : ∀ s, On s → addP (negP p) (addP p s) = s := fun s hs => by
    rw [← addP_assoc hp.neg hp hs, addP_comm (negP p) p, addP_neg hp, zero_addP]
  rw [← e q hq, h, e r hr]

def mulP : Nat → F × F → F × F
  | 0, _ => zeroP
  | n + 1, p => addP (mulP n p) p

theorem On.mul {p : F × F} (h : On p) : ∀ n, On (mulP n p)
  | 0 => .zero
  | n + 1 => (On.mul h n).add h

theorem mulP_one (p : F × F) : mulP 1 p = p := zero_addP p
theorem mulP_add {p : F × F} (h : On p) (m : Nat) : ∀ n, mulP (m + n) p = addP (mulP m p) (mulP n p)
  | 0 => (addP_zero _).symm
  | n + 1 => by
    show addP (mulP (m + n) p) p = addP (mulP m p) (addP (mulP n p) p)
    rw [mulP_add h m n, addP_assoc (h.mul m) (h.mul n) h]
theorem mulP_mul {p : F × F} (h : On p) (m : Nat) : ∀ n, mulP (n * m) p = mulP n (mulP m p)
  | 0 => by rw [Nat.zero_mul]; rfl
  | n + 1 => by
    rw [Nat.succ_mul, mulP_add h, mulP_mul h m n]
    rfl
theorem mulP_zero : ∀ n, mulP n zeroP = zeroP
  | 0 => rfl
  | n + 1 => by
    show addP (mulP n zeroP) zeroP = zeroP
    rw [mulP_zero n, addP_zero]

theorem mulP_left {p : F × F} (h : On p) {a b : Nat} (h1 : mulP (a + b) p = zeroP) (h2 : mulP a p = zeroP) : mulP b p = zeroP := by
  rwa [mulP_add h, h2, zero_addP] at h1
theorem mulP_times {p : F × F} (h : On p) {a : Nat} (h2 : mulP a p = zeroP) (n : Nat) : mulP (n * a) p = zeroP := by rw [mulP_mul h, h2, mulP_zero]

theorem mulP_gcd {p : F × F} (h : On p) (a b : Nat) : mulP a p = zeroP → mulP b p = zeroP → mulP (Nat.gcd a b) p = zeroP := by
  induction a, b using Nat.gcd.induction with
  | H0 n => intro _ h2; rwa [Nat.gcd_zero_left]
  | H1 m n hm ih =>
    intro h1 h2
    rw [Nat.gcd_rec]
    refine ih ?_ h1
    refine mulP_left h (a := n / m * m) ?_ (mulP_times h h1 _)
    rw [Nat.mul_comm, Nat.div_add_mod]; exact h2

/-! ### over one divisor -/

/-- x and y over z. -/
structure Rep3 (p : F × F) (x y z : F) : Prop where
  nz : z ≠ 0
  hx : x = p.1 * z
  hy : y = p.2 * z

def sumX (x y z u v w : F) : F := z * w * (x * v + u * y) * ((z * w) * (z * w) - dd * ((x * u) * (y * v)))
def sumY (x y z u v w : F) : F := z * w * (y * v + x * u) * ((z * w) * (z * w) + dd * ((x * u) * (y * v)))
def sumZ (x y z u v w : F) : F := ((z * w) * (z * w) + dd * ((x * u) * (y * v))) * ((z * w) * (z * w) - dd * ((x * u) * (y * v)))

section ring
variable {α : Type} [Lean.Grind.CommRing α]
theorem sum3_ring (d x y u v z w i j : α) (hi : (1 + d * x * u * y * v) * i = 1) (hj : (1 - d * x * u * y * v) * j = 1) :
    let X := x * z
    let Y := y * z
    let U := u * w
    let V := v * w
    let m := (z * w) * (z * w) + d * ((X * U) * (Y * V))
    let l := (z * w) * (z * w) - d * ((X * U) * (Y * V))
    z * w * (X * V + U * Y) * l = ((x * v + u * y) * i) * (m * l) ∧ z * w * (Y * V + X * U) * m = ((y * v + x * u) * j) * (m * l) ∧ m = (1 + d * x * u * y * v) * ((z * w) * (z * w)) ∧ l = (1 - d * x * u * y * v) * ((z * w) * (z * w)) := by
  intro X Y U V m l
  refine ⟨?_, ?_, ?_, ?_⟩ <;> grind
end ring

theorem Rep3.sum {p q : F × F} {x y z u v w : F} (hp : On p) (hq : On q) (h : Rep3 p x y z) (k : Rep3 q u v w) : Rep3 (addP p q) (sumX x y z u v w) (sumY x y z u v w) (sumZ x y z u v w) := by
  obtain ⟨h1, h2⟩ := complete hp hq
  obtain ⟨hz, rfl, rfl⟩ := h
  obtain ⟨kz, rfl, rfl⟩ := k
  obtain ⟨e1, e2, e3, e4⟩ := sum3_ring dd p.1 p.2 q.1 q.2 z w (iv (1 + ee p q)) (iv (1 - ee p q)) (mul_iv h1) (mul_iv h2)
  have hzz := mul_ne (mul_ne hz kz) (mul_ne hz kz)
  refine ⟨?_, e1, e2⟩
  exact mul_ne (by rw [e3]; exact mul_ne h1 hzz) (by rw [e4]; exact mul_ne h2 hzz)

end Go.Proofs.YtjaappocnonkbaaDoor.fn
