/- What the points' references come to. -/
import Derived.Test.YtjaappocnonkbaaDoorMPointsR
import Derived.Test.YtjaappocnonkbaaDoorMPointsC
namespace Go.Proofs.YtjaappocnonkbaaDoor.fn
open Go Go.Proofs Go.Ev Go.Dg

theorem rowXU : ([2401621274, 3377868128, 2502272946, 1764542304, 4258716764, 3232031281, 3446559742, 560543443] : List Int) = U BX := by decide +kernel
theorem rowYU : ([1717986904, 1717986918, 1717986918, 1717986918, 1717986918, 1717986918, 1717986918, 1717986918] : List Int) = U BY := by decide +kernel
theorem rows_M : DD < M256 ∧ BX < M256 ∧ BY < M256 := by decide +kernel
theorem zero_M : 0 < M256 := by decide +kernel
theorem one_M : 1 < M256 := by decide +kernel

theorem Rep3.at (x y : Nat) : Rep3 (φ x, φ y) (φ x) (φ y) (φ 1) := ⟨one_ne, one_rep_ring _, one_rep_ring _⟩
theorem QP3.at (x y : Nat) (hx : x < M256) (hy : y < M256) : QP3 (φ x, φ y) x y 1 := ⟨hx, hy, one_M, Rep3.at x y⟩
theorem QP3.zero : QP3 zeroP 0 1 1 := ⟨zero_M, one_M, one_M, zero_rep⟩
theorem QP3.base : QP3 baseP BX BY 1 := ⟨rows_M.2.1, rows_M.2.2, one_M, base_rep⟩

theorem qAdd_eq {R : Type} (N : Nat) (hN : 100 < N) {p q : F × F} (hp : On p) (hq : On q) (x y z u v w : Nat) (h : QP3 p x y z) (k : QP3 q u v w) :
    ∃ a b c, QP3 (addP p q) a b c ∧ ∀ κ : K3 R, qAdd.M N R (U x) (U y) (U z) (U u) (U v) (U w) κ = κ (U a) (U b) (U c) := by
  obtain ⟨a, b, c, g, e⟩ := qSum_eq (R := R) N hN hp hq x y z u v w h k
  refine ⟨a, b, c, g, fun κ => ?_⟩
  show qSum.M N R _ _ _ _ _ _ _ _ = _
  rw [row_DD, e]

theorem qNegate_eq {R : Type} (N : Nat) (hN : 100 < N) {p : F × F} (x y z : Nat) (h : QP3 p x y z) :
    ∃ a b c, QP3 (negP p) a b c ∧ ∀ κ : K3 R, qNegate.M N R (U x) (U y) (U z) κ = κ (U a) (U b) (U c) := by
  obtain ⟨lx, ly, lz, nz, hx, hy⟩ := h
  refine ⟨(0 + (PP - x % PP)) % PP, y, z, ⟨PP_lt_M _, ly, lz, nz, ?_, hy⟩, fun κ => ?_⟩
  · rw [φ_mod, φ_sub, φ_zero, hx]
    exact (neg4_ring p.1 p.2 (φ z)).1
  · show qNegate.m (rSub.M N) N _ _ _ κ = _
    unfold qNegate.m
    rw [zeros8', rSub_eq N hN _ _ zero_M lx]

theorem bit_ref (k : List Nat) (hk : ∀ x ∈ k, x < 256) (n : Nat) (hn : n < 1000) :
    (iand .u8 (ishr .u8 ((nn k).getD (IntKind.i64.wrap ((n : Int).tdiv 8)).toNat 0) (IntKind.u64.wrap ((n : Int).tmod 8))) 1 == 1) = decide (bit k n = 1) := by
  have e2 : (n : Int).tmod 8 = ((n % 8 : Nat) : Int) := tmodN n 8
  rw [show IntKind.u64.wrap ((n : Int).tmod 8) = (n : Int).tmod 8 by rw [e2]; exact wrap_u64z _ (by omega) (by omega)]
  exact bit_at k hk n hn

theorem qtimes_step {R : Type} (N : Nat) (hN : 100 < N) (k : List Nat) (hk : ∀ x ∈ k, x < 256) {p : F × F} (hp : On p) (x y z : Nat) (h : QP3 p x y z) (n acc a b c : Nat) (hn : n < 256) (g : QP3 (mulP acc p) a b c) :
    ∃ a' b' c', QP3 (mulP (2 * acc + bit k n) p) a' b' c' ∧ ∀ κ : K3 R,
      (qSum.M N R (U a) (U b) (U c) (U a) (U b) (U c) (U DD) fun v v1 v2 => cond (decide (0 ≤ IntKind.i64.wrap ((n : Int).tdiv 8))) (cond (decide (IntKind.i64.wrap ((n : Int).tdiv 8) < 32))
        (cond (iand .u8 (ishr .u8 ((nn k).getD (IntKind.i64.wrap ((n : Int).tdiv 8)).toNat 0) (IntKind.u64.wrap ((n : Int).tmod 8))) 1 == 1) (qSum.M N R v v1 v2 (U x) (U y) (U z) (U DD) κ) (κ v v1 v2)) none) none) = κ (U a') (U b') (U c') := by
  obtain ⟨a1, b1, c1, p1, e1⟩ := qSum_eq (R := R) N hN (hp.mul acc) (hp.mul acc) a b c a b c g g
  have hs := mulP_step hp acc (bit k n) (bit_lt k n)
  obtain ⟨t1, t2, _⟩ := bounds n hn
  by_cases hb : bit k n = 1
  · obtain ⟨a2, b2, c2, p2, e2⟩ := qSum_eq (R := R) N hN ((hp.mul acc).add (hp.mul acc)) hp a1 b1 c1 x y z p1 h
    rw [if_pos hb] at hs
    rw [hs] at p2
    exact ⟨a2, b2, c2, p2, fun κ => by rw [e1, t1, cond_true, t2, cond_true, bit_ref k hk n (by omega), decide_eq_true hb, cond_true, e2]⟩
  · rw [if_neg hb] at hs
    rw [hs] at p1
    exact ⟨a1, b1, c1, p1, fun κ => by rw [e1, t1, cond_true, t2, cond_true, bit_ref k hk n (by omega), decide_eq_false hb, cond_false]⟩

theorem qtimes_loop {R : Type} (N : Nat) (hN : 100 < N) (k : List Nat) (hk : ∀ x ∈ k, x < 256) {p : F × F} (hp : On p) (x y z : Nat) (h : QP3 p x y z) :
    ∀ (n m acc a b c : Nat), QP3 (mulP acc p) a b c → n < m → n ≤ 256 → ∃ a' b' c', QP3 (mulP (vl k n acc) p) a' b' c' ∧
      ∀ ke, qTimes.L4 (R := R) (rCurve.M N) (qZero.M N) (qSum.M N) N ke m ((n : Int) - 1) (U x) (U y) (U z) (nn k) (U a) (U b) (U c) = ke (-1) (U x) (U y) (U z) (nn k) (U a') (U b') (U c') := by
  intro n
  induction n with
  | zero =>
    intro m acc a b c g hm _
    obtain ⟨m, rfl⟩ : ∃ k, m = k + 1 := ⟨m - 1, by omega⟩
    refine ⟨a, b, c, g, fun ke => ?_⟩
    unfold qTimes.L4
    rw [decide_eq_false (by omega), cond_false]
    rfl
  | succ n ih =>
    intro m acc a b c g hm hn
    obtain ⟨m, rfl⟩ : ∃ k, m = k + 1 := ⟨m - 1, by omega⟩
    obtain ⟨a1, b1, c1, p1, e1⟩ := qtimes_step (R := R) N hN k hk hp x y z h n acc a b c (by omega) g
    obtain ⟨a2, b2, c2, p2, e2⟩ := ih m _ a1 b1 c1 p1 (by omega) (by omega)
    refine ⟨a2, b2, c2, p2, fun ke => ?_⟩
    unfold qTimes.L4
    have e0 : ((n + 1 : Nat) : Int) - 1 = (n : Int) := by omega
    rw [e0, show decide ((n : Int) ≥ 0) = true from decide_eq_true (by omega), cond_true, wrap_i64z ((n : Int) - 1) (by omega) (by omega), row_DD]
    exact (e1 _).trans (e2 ke)

theorem qTimes_eq {R : Type} (N : Nat) (hN : 300 < N) (k : List Nat) (hk : ∀ x ∈ k, x < 256) {p : F × F} (hp : On p) (x y z : Nat) (h : QP3 p x y z) :
    ∃ a b c, QP3 (mulP (vl k 256 0) p) a b c ∧ ∀ κ : K3 R, qTimes.M N R (U x) (U y) (U z) (nn k) κ = κ (U a) (U b) (U c) := by
  obtain ⟨a2, b2, c2, p2, e2⟩ := qtimes_loop (R := R) N (by omega) k hk hp x y z h 256 N 0 0 1 1 .zero (by omega) (by omega)
  refine ⟨a2, b2, c2, p2, fun κ => ?_⟩
  rw [show ((256 : Nat) : Int) - 1 = 255 from rfl] at e2
  show qTimes.L4 (R := R) (rCurve.M N) (qZero.M N) (qSum.M N) N _ N 255 _ _ _ _ _ _ _ = _
  rw [zeros8', one_row]
  exact e2 fun _ _ _ _ _ a b c => κ a b c

theorem qwith_step {R : Type} (N : Nat) (hN : 100 < N) (k l : List Nat) (hk : ∀ x ∈ k, x < 256) (hl : ∀ x ∈ l, x < 256) {p q : F × F} (hp : On p) (hq : On q) (x y z x2 y2 z2 x3 y3 z3 : Nat) (h : QP3 p x y z) (h2 : QP3 q x2 y2 z2) (h3 : QP3 (addP p q) x3 y3 z3)
    (n i j a b c : Nat) (hn : n < 256) (g : QP3 (two p q i j) a b c) :
    ∃ a' b' c', QP3 (two p q (2 * i + bit k n) (2 * j + bit l n)) a' b' c' ∧ ∀ κ : K3 R,
      (qSum.M N R (U a) (U b) (U c) (U a) (U b) (U c) (U DD) fun v v1 v2 => cond (decide (0 ≤ IntKind.i64.wrap ((n : Int).tdiv 8))) (cond (decide (IntKind.i64.wrap ((n : Int).tdiv 8) < 32)) (cond (decide (0 ≤ IntKind.i64.wrap ((n : Int).tdiv 8))) (cond (decide (IntKind.i64.wrap ((n : Int).tdiv 8) < 32))
        (cond (iand .u8 (ishr .u8 ((nn k).getD (IntKind.i64.wrap ((n : Int).tdiv 8)).toNat 0) (IntKind.u64.wrap ((n : Int).tmod 8))) 1 == 1)
          (cond (iand .u8 (ishr .u8 ((nn l).getD (IntKind.i64.wrap ((n : Int).tdiv 8)).toNat 0) (IntKind.u64.wrap ((n : Int).tmod 8))) 1 == 1)
            (qSum.M N R v v1 v2 (U x3) (U y3) (U z3) (U DD) κ)
            (cond (iand .u8 (ishr .u8 ((nn k).getD (IntKind.i64.wrap ((n : Int).tdiv 8)).toNat 0) (IntKind.u64.wrap ((n : Int).tmod 8))) 1 == 1)
              (qSum.M N R v v1 v2 (U x) (U y) (U z) (U DD) κ)
              (cond (iand .u8 (ishr .u8 ((nn l).getD (IntKind.i64.wrap ((n : Int).tdiv 8)).toNat 0) (IntKind.u64.wrap ((n : Int).tmod 8))) 1 == 1) (qSum.M N R v v1 v2 (U x2) (U y2) (U z2) (U DD) κ) (κ v v1 v2))))
          (cond (iand .u8 (ishr .u8 ((nn k).getD (IntKind.i64.wrap ((n : Int).tdiv 8)).toNat 0) (IntKind.u64.wrap ((n : Int).tmod 8))) 1 == 1)
            (qSum.M N R v v1 v2 (U x) (U y) (U z) (U DD) κ)
            (cond (iand .u8 (ishr .u8 ((nn l).getD (IntKind.i64.wrap ((n : Int).tdiv 8)).toNat 0) (IntKind.u64.wrap ((n : Int).tmod 8))) 1 == 1) (qSum.M N R v v1 v2 (U x2) (U y2) (U z2) (U DD) κ) (κ v v1 v2)))) none) none) none) none) = κ (U a') (U b') (U c') := by
  have ho := two_on hp hq i j
  obtain ⟨a1, b1, c1, p1, e1⟩ := qSum_eq (R := R) N hN ho ho a b c a b c g g
  have hs := two_step hp hq i j (bit k n) (bit l n) (bit_lt k n) (bit_lt l n)
  obtain ⟨t1, t2, _⟩ := bounds n hn
  have b1 := bit_ref k hk n (by omega)
  have b2 := bit_ref l hl n (by omega)
  by_cases hb : bit k n = 1
  · by_cases hc : bit l n = 1
    · obtain ⟨a2, b2', c2, p2, e2⟩ := qSum_eq (R := R) N hN (ho.add ho) (hp.add hq) a1 _ c1 x3 y3 z3 p1 h3
      rw [if_pos ⟨hb, hc⟩] at hs
      rw [hs] at p2
      exact ⟨a2, b2', c2, p2, fun κ => by rw [e1]; simp only [t1, t2, cond_true, b1, b2, decide_eq_true hb, decide_eq_true hc]; rw [e2]⟩
    · obtain ⟨a2, b2', c2, p2, e2⟩ := qSum_eq (R := R) N hN (ho.add ho) hp a1 _ c1 x y z p1 h
      rw [if_neg (fun h => hc h.2), if_pos hb] at hs
      rw [hs] at p2
      exact ⟨a2, b2', c2, p2, fun κ => by rw [e1]; simp only [t1, t2, cond_true, cond_false, b1, b2, decide_eq_true hb, decide_eq_false hc]; rw [e2]⟩
  · by_cases hc : bit l n = 1
    · obtain ⟨a2, b2', c2, p2, e2⟩ := qSum_eq (R := R) N hN (ho.add ho) hq a1 _ c1 x2 y2 z2 p1 h2
      rw [if_neg (fun h => hb h.1), if_neg hb, if_pos hc] at hs
      rw [hs] at p2
      exact ⟨a2, b2', c2, p2, fun κ => by rw [e1]; simp only [t1, t2, cond_true, cond_false, b1, b2, decide_eq_false hb, decide_eq_true hc]; rw [e2]⟩
    · rw [if_neg (fun h => hb h.1), if_neg hb, if_neg hc] at hs
      rw [hs] at p1
      exact ⟨a1, _, c1, p1, fun κ => by rw [e1]; simp only [t1, t2, cond_true, cond_false, b1, b2, decide_eq_false hb, decide_eq_false hc]⟩

theorem qwith_loop {R : Type} (N : Nat) (hN : 100 < N) (k l : List Nat) (hk : ∀ x ∈ k, x < 256) (hl : ∀ x ∈ l, x < 256) {p : F × F} (hp : On p) (x y z x3 y3 z3 : Nat) (h : QP3 p x y z) (h3 : QP3 (addP p baseP) x3 y3 z3) :
    ∀ (n m i j a b c : Nat), QP3 (two p baseP i j) a b c → n < m → n ≤ 256 → ∃ a' b' c', QP3 (two p baseP (vl k n i) (vl l n j)) a' b' c' ∧
      ∀ ke, qWith.L6 (R := R) (rCurve.M N) (qBase.M N) (qSum.M N) (qZero.M N) N ke m ((n : Int) - 1) (U x) (U y) (U z) (nn k) (nn l) (U x3) (U y3) (U z3) (U a) (U b) (U c) = ke (-1) (U x) (U y) (U z) (nn k) (nn l) (U x3) (U y3) (U z3) (U a') (U b') (U c') := by
  intro n
  induction n with
  | zero =>
    intro m i j a b c g hm _
    obtain ⟨m, rfl⟩ : ∃ k, m = k + 1 := ⟨m - 1, by omega⟩
    refine ⟨a, b, c, g, fun ke => ?_⟩
    unfold qWith.L6
    rw [decide_eq_false (by omega), cond_false]
    rfl
  | succ n ih =>
    intro m i j a b c g hm hn
    obtain ⟨m, rfl⟩ : ∃ k, m = k + 1 := ⟨m - 1, by omega⟩
    obtain ⟨a1, b1, c1, p1, e1⟩ := qwith_step (R := R) N hN k l hk hl hp base_on x y z BX BY 1 x3 y3 z3 h .base h3 n i j a b c (by omega) g
    obtain ⟨a2, b2, c2, p2, e2⟩ := ih m _ _ a1 b1 c1 p1 (by omega) (by omega)
    refine ⟨a2, b2, c2, p2, fun ke => ?_⟩
    unfold qWith.L6
    have e0 : ((n + 1 : Nat) : Int) - 1 = (n : Int) := by omega
    rw [e0, show decide ((n : Int) ≥ 0) = true from decide_eq_true (by omega), cond_true, wrap_i64z ((n : Int) - 1) (by omega) (by omega), row_DD, rowXU, rowYU, one_row]
    exact (e1 _).trans (e2 ke)

theorem qWith_eq {R : Type} (N : Nat) (hN : 300 < N) (k l : List Nat) (hk : ∀ x ∈ k, x < 256) (hl : ∀ x ∈ l, x < 256) {p : F × F} (hp : On p) (x y z : Nat) (h : QP3 p x y z) :
    ∃ a b c, QP3 (two p baseP (vl k 256 0) (vl l 256 0)) a b c ∧ ∀ κ : K3 R, qWith.M N R (U x) (U y) (U z) (nn k) (nn l) κ = κ (U a) (U b) (U c) := by
  obtain ⟨x3, y3, z3, p3, e3⟩ := qSum_eq (R := R) N (by omega) hp base_on x y z BX BY 1 h .base
  have p0 : QP3 (two p baseP 0 0) 0 1 1 := by
    unfold two
    rw [show mulP 0 p = zeroP from rfl, zero_addP]
    exact .zero
  obtain ⟨a2, b2, c2, p2, e2⟩ := qwith_loop (R := R) N (by omega) k l hk hl hp x y z x3 y3 z3 h p3 256 N 0 0 0 1 1 p0 (by omega) (by omega)
  refine ⟨a2, b2, c2, p2, fun κ => ?_⟩
  rw [show ((256 : Nat) : Int) - 1 = 255 from rfl] at e2
  show qSum.M N R _ _ _ _ _ _ _ _ = _
  rw [row_DD, rowXU, rowYU, one_row, e3]
  show qWith.L6 (R := R) (rCurve.M N) (qBase.M N) (qSum.M N) (qZero.M N) N _ N 255 _ _ _ _ _ _ _ _ _ _ _ = _
  rw [zeros8']
  exact e2 fun _ _ _ _ _ _ _ _ _ a b c => κ a b c

/-! ### bytes -/

theorem φ_pow (z : Nat) : φ (z ^ (PP - 2) % PP) = iv (φ z) := by
  unfold iv
  rw [φ_mod, φ_iff]
  show _ = (z % PP) ^ (PP - 2) % PP
  rw [← Nat.pow_mod]

theorem over_ref (u z : Nat) (a : F) (hn : φ z ≠ 0) (h : φ u = a * φ z) : u * (z ^ (PP - 2) % PP) % PP = a.val := by
  have e : φ (u * (z ^ (PP - 2) % PP)) = a := by rw [φ_mul, φ_pow, h, undo_ring a (φ z) _ (mul_iv hn)]
  exact congrArg Fin.val e

theorem qBytes_eq {R : Type} (N : Nat) (hN : 1000 < N) {p : F × F} (x y z : Nat) (h : QP3 p x y z) (r : List Int → Option R) : qBytes.M N R (U x) (U y) (U z) r = r (nn (dig 256 32 (pb p))) := by
  obtain ⟨lx, ly, lz, g⟩ := h
  have hN' : 100 < N := by omega
  have ex := over_ref x z p.1 g.nz g.hx
  have ey := over_ref y z p.2 g.nz g.hy
  show qBytes.m (rInvert.M N) (rTimes.M N) (rBytes.M N) N _ _ _ r = _
  unfold qBytes.m
  rw [rInvert_eq N hN z lz, rTimes_eq N hN' _ _ lx (PP_lt_M _), rTimes_eq N hN' _ _ ly (PP_lt_M _), ex, ey, rBytes_eq N hN', U_odd _ (Nat.lt_trans p.1.isLt PP_M.1)]
  have hT : p.2.val < 57896044618658097711785492504343953926634992332820282019728792003956564819968 := by have := p.2.isLt; have := PP_T; omega
  unfold pb
  by_cases ho : p.1.val % 2 = 1
  · obtain ⟨h1, h2⟩ := top_put _ hT
    rw [ho, show (((1 : Nat) : Int) == 1) = true from rfl, cond_true, if_pos rfl, top_get]
    have h3 : IntKind.u8.wrap (((p.2.val / 256 ^ 31 % 256 : Nat) : Int) + 128) = ((p.2.val / 256 ^ 31 % 256 + 128 : Nat) : Int) := by
      have := wrap_u8 (p.2.val / 256 ^ 31 % 256 + 128)
      rw [Nat.mod_eq_of_lt (show p.2.val / 256 ^ 31 % 256 + 128 < 256 by omega)] at this
      exact this
    rw [h3, h1]
  · have ho' : p.1.val % 2 = 0 := by omega
    rw [ho', show (((0 : Nat) : Int) == 1) = false from rfl, cond_false, if_neg (by omega), Nat.add_zero]

/-! ### which bytes are points -/

def uR (y : Nat) : Nat := ((y * y % PP) + (PP - 1 % PP)) % PP * (((DD * (y * y % PP) % PP + 1) % PP) ^ (PP - 2) % PP) % PP
theorem φ_uR (y : Nat) : φ (uR y) = uu (φ y) := by
  unfold uR uu dd
  rw [φ_mod, φ_mul, φ_pow, φ_mod, φ_sub, φ_mod, φ_mul, φ_mod, φ_add, φ_mod, φ_mul, φ_mod, φ_mul, φ_one]
theorem uR_lt (y : Nat) : uR y < PP := Nat.mod_lt _ PP_pos
theorem uR_val (y : Nat) : (uu (φ y)).val = uR y := by rw [← φ_uR y]; exact Nat.mod_eq_of_lt (uR_lt y)

open Classical in
theorem qRead_as {R : Type} (N : Nat) (hN : 1000 < N) (B : Nat) (hB : B < 256 ^ 32) (r : List Int → List Int → List Int → Int → Option R) :
    qRead.M N R (nn (dig 256 32 B)) r =
      if B % 57896044618658097711785492504343953926634992332820282019728792003956564819968 < PP then
        if Fp.isSq (uu (φ (B % 57896044618658097711785492504343953926634992332820282019728792003956564819968))).val then
          if 57896044618658097711785492504343953926634992332820282019728792003956564819968 ≤ B then (if er (uu (φ (B % 57896044618658097711785492504343953926634992332820282019728792003956564819968))) = 0 then r (U 0) (U 0) (U 0) 4 else r (U ((0 + (PP - er (uu (φ (B % 57896044618658097711785492504343953926634992332820282019728792003956564819968))) % PP)) % PP)) (U (B % 57896044618658097711785492504343953926634992332820282019728792003956564819968)) (U 1) 0)
          else r (U (er (uu (φ (B % 57896044618658097711785492504343953926634992332820282019728792003956564819968))))) (U (B % 57896044618658097711785492504343953926634992332820282019728792003956564819968)) (U 1) 0
        else r (U 0) (U 0) (U 0) 4
      else r (U 0) (U 0) (U 0) 4 := by
  have hN' : 100 < N := by omega
  have hM : B % 57896044618658097711785492504343953926634992332820282019728792003956564819968 < M256 := by have := Nat.mod_le B 57896044618658097711785492504343953926634992332820282019728792003956564819968; have := PP_256.2; omega
  show qRead.m (rRead.M N) (rLeast.M N) (rTimes.M N) (one.M N) (rSub.M N) (rCurve.M N) (rAdd.M N) (rInvert.M N) (rRoot.M N) N _ r = _
  unfold qRead.m
  have h1 : ((nn (dig 256 32 B)).getD 31 0).tmod 128 = ((B / 256 ^ 31 % 256 % 128 : Nat) : Int) := by rw [top_get]; exact tmodN _ 128
  have h2 : decide ((nn (dig 256 32 B)).getD 31 0 ≥ 128) = decide (57896044618658097711785492504343953926634992332820282019728792003956564819968 ≤ B) := by
    rw [top_get, Bool.eq_iff_iff, decide_eq_true_iff, decide_eq_true_iff, ← top_high B hB]
    omega
  rw [h1, h2, top_low, rRead_eq N hN' _ hM, rLeast_eq N hN' _ hM, U_beq (PP_lt_M _) hM, zeros8', one_row, row_DD]
  generalize B % 57896044618658097711785492504343953926634992332820282019728792003956564819968 = y at *
  by_cases c1 : y < PP
  · rw [if_pos c1, decide_eq_true (Nat.mod_eq_of_lt c1), Bool.not_true, cond_false, rTimes_eq N hN' _ _ hM hM]
    show rSub.M N R _ _ _ = _
    rw [rSub_eq N hN' _ _ (PP_lt_M _) one_M]
    show rTimes.M N R _ _ _ = _
    rw [rTimes_eq N hN' _ _ rows_M.1 (PP_lt_M _)]
    show rAdd.M N R _ _ _ = _
    rw [rAdd_eq N hN' _ _ (PP_lt_M _) one_M, rInvert_eq N hN _ (PP_lt_M _), rTimes_eq N hN' _ _ (PP_lt_M _) (PP_lt_M _)]
    show rRoot.M N R (U (uR y)) _ = _
    rw [← uR_val]
    have l6 : (uu (φ y)).val < M256 := Nat.lt_trans (uu (φ y)).isLt PP_M.1
    rw [rRoot_eq N hN _ l6]
    have l7 : er (uu (φ y)) < M256 := Nat.lt_trans (er_lt _) PP_M.1
    by_cases c2 : Fp.isSq (uu (φ y)).val
    · rw [if_pos c2, if_pos c2, Bool.not_true, cond_false]
      show cond _ (cond (U (er (uu (φ y))) == U 0) _ _) _ = _
      rw [U_beq l7 zero_M]
      by_cases c3 : 57896044618658097711785492504343953926634992332820282019728792003956564819968 ≤ B
      · rw [if_pos c3, decide_eq_true c3, cond_true]
        by_cases c4 : er (uu (φ y)) = 0
        · rw [if_pos c4, decide_eq_true c4, cond_true]
        · rw [if_neg c4, decide_eq_false c4, cond_false, cond_true]
          show rSub.M N R (U 0) (U (er (uu (φ y)))) _ = _
          rw [rSub_eq N hN' _ _ zero_M l7]
          rfl
      · rw [if_neg c3, decide_eq_false c3, cond_false, cond_false]
        rfl
    · rw [if_neg c2, if_neg c2, Bool.not_false, cond_true]
  · have hlt := Nat.mod_lt y PP_pos
    rw [if_neg c1, decide_eq_false (by omega), Bool.not_false, cond_true]

theorem qRead_none {R : Type} (N : Nat) (hN : 1000 < N) (B : Nat) (hB : B < 256 ^ 32) (h : dec B = none) (r : List Int → List Int → List Int → Int → Option R) :
    qRead.M N R (nn (dig 256 32 B)) r = r (U 0) (U 0) (U 0) 4 := by
  rw [qRead_as N hN B hB]
  unfold dec at h
  split
  · rename_i c1
    rw [if_pos c1] at h
    split
    · rename_i c2
      rw [if_pos c2] at h
      split
      · rename_i c3
        rw [if_pos c3] at h
        split
        · rfl
        · rename_i c4
          rw [if_neg c4] at h
          cases h
      · rename_i c3
        rw [if_neg c3] at h
        cases h
    · rfl
  · rfl

theorem qRead_some {R : Type} (N : Nat) (hN : 1000 < N) (B : Nat) (hB : B < 256 ^ 32) {p : F × F} (h : dec B = some p) :
    ∃ a b c, QP3 p a b c ∧ ∀ r : List Int → List Int → List Int → Int → Option R, qRead.M N R (nn (dig 256 32 B)) r = r (U a) (U b) (U c) 0 := by
  have hM : B % 57896044618658097711785492504343953926634992332820282019728792003956564819968 < M256 := by have := Nat.mod_le B 57896044618658097711785492504343953926634992332820282019728792003956564819968; have := PP_256.2; omega
  have l7 : er (uu (φ (B % 57896044618658097711785492504343953926634992332820282019728792003956564819968))) < M256 := Nat.lt_trans (er_lt _) PP_M.1
  unfold dec at h
  by_cases c1 : B % 57896044618658097711785492504343953926634992332820282019728792003956564819968 < PP
  · rw [if_pos c1] at h
    by_cases c2 : Fp.isSq (uu (φ (B % 57896044618658097711785492504343953926634992332820282019728792003956564819968))).val
    · rw [if_pos c2] at h
      by_cases c3 : 57896044618658097711785492504343953926634992332820282019728792003956564819968 ≤ B
      · rw [if_pos c3] at h
        by_cases c4 : er (uu (φ (B % 57896044618658097711785492504343953926634992332820282019728792003956564819968))) = 0
        · rw [if_pos c4] at h; cases h
        · rw [if_neg c4] at h
          cases h
          have p := QP3.at ((0 + (PP - er (uu (φ (B % 57896044618658097711785492504343953926634992332820282019728792003956564819968))) % PP)) % PP) (B % 57896044618658097711785492504343953926634992332820282019728792003956564819968) (PP_lt_M _) hM
          rw [φ_mod, φ_sub, φ_zero] at p
          exact ⟨_, _, _, p, fun r => by rw [qRead_as N hN B hB, if_pos c1, if_pos c2, if_pos c3, if_neg c4]⟩
      · rw [if_neg c3] at h
        cases h
        exact ⟨_, _, _, QP3.at _ _ l7 hM, fun r => by rw [qRead_as N hN B hB, if_pos c1, if_pos c2, if_neg c3]⟩
    · rw [if_neg c2] at h; cases h
  · rw [if_neg c1] at h; cases h

end Go.Proofs.YtjaappocnonkbaaDoor.fn
