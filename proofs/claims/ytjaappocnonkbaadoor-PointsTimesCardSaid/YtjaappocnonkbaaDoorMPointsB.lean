/- What the points' functions come to, from what a point is to its bytes and to so many times a point. -/
import Derived.Test.YtjaappocnonkbaaDoorMPointsA
import Derived.Test.YtjaappocnonkbaaDoorEd8
import Derived.Test.YtjaappocnonkbaaDoorTops
namespace Go.Proofs.YtjaappocnonkbaaDoor.fn
open Go Go.Proofs Go.Ev Go.Dg

theorem rowDE : ([56195235, 47411844, 25868126, 20251911, 28682, 31357478, 7604119, 66702899, 15608687, 1343707] : List Int) = E DD := by decide +kernel
theorem rowXE : ([52811034, 25909283, 41626773, 25318550, 6892743, 58046231, 38675231, 22018818, 47435118, 547405] : List Int) = E BX := by decide +kernel
theorem rowYE : ([40265304, 26843545, 40265318, 26843545, 40265318, 26843545, 40265318, 26843545, 40265318, 1677721] : List Int) = E BY := by decide +kernel
theorem rows_lt : DD < 1852673427797059126777135760139006525652319754650249024631321344126610074238976 ∧ BX < 1852673427797059126777135760139006525652319754650249024631321344126610074238976 ∧ BY < 1852673427797059126777135760139006525652319754650249024631321344126610074238976 := by decide +kernel
theorem zero_Q : 0 < 1852673427797059126777135760139006525652319754650249024631321344126610074238976 := by decide
theorem one_Q : 1 < 1852673427797059126777135760139006525652319754650249024631321344126610074238976 := by decide
theorem Small0 {R : Type} (N : Nat) (hN : 100 < N) (r : List Int → Option R) : Small.M N R 0 r = r (E 0) := Small_eq N hN 0 (by omega) r
theorem Small1 {R : Type} (N : Nat) (hN : 100 < N) (r : List Int → Option R) : Small.M N R 1 r = r (E 1) := Small_eq N hN 1 (by omega) r

theorem pat_eq {R : Type} (N : Nat) (hN : 100 < N) (x y : Nat) (hx : x < 1852673427797059126777135760139006525652319754650249024631321344126610074238976) (hy : y < 1852673427797059126777135760139006525652319754650249024631321344126610074238976) :
    PP4 (φ x, φ y) x y 1 (mulE x y) ∧ ∀ κ : K4 R, pat.M N R (E x) (E y) κ = κ (E x) (E y) (E 1) (E (mulE x y)) := by
  refine ⟨⟨hx, hy, one_Q, mulE_lt hx hy, ?_⟩, fun κ => ?_⟩
  · rw [φ_mulE, φ_one]
    exact Rep4.at (φ x, φ y)
  · show pat.m (Small.M N) (eTimes.M N) N _ _ κ = _
    unfold pat.m
    rw [Small1 N hN, eTimes_eq N hN _ _ hx hy]

theorem pZero_eq {R : Type} (N : Nat) (hN : 100 < N) : ∃ a b c d, PP4 zeroP a b c d ∧ ∀ κ : K4 R, pZero.M N R κ = κ (E a) (E b) (E c) (E d) := by
  obtain ⟨p, e⟩ := pat_eq (R := R) N hN 0 1 zero_Q one_Q
  refine ⟨0, 1, 1, mulE 0 1, p, fun κ => ?_⟩
  show pZero.m (Small.M N) (pat.M N) N κ = _
  unfold pZero.m
  rw [Small0 N hN, Small1 N hN, e]

theorem pBase_eq {R : Type} (N : Nat) (hN : 100 < N) : ∃ a b c d, PP4 baseP a b c d ∧ ∀ κ : K4 R, pBase.M N R κ = κ (E a) (E b) (E c) (E d) := by
  obtain ⟨_, hx, hy⟩ := rows_lt
  obtain ⟨p, e⟩ := pat_eq (R := R) N hN BX BY hx hy
  refine ⟨_, _, _, _, p, fun κ => ?_⟩
  show pat.M N R _ _ κ = _
  rw [rowXE, rowYE, e]

def twE : Nat := addE DD DD
theorem twE_lt : twE < 1852673427797059126777135760139006525652319754650249024631321344126610074238976 := addE_lt rows_lt.1 rows_lt.1
theorem φ_twE : φ twE = dd + dd := φ_addE DD DD
theorem twice_eq {R : Type} (N : Nat) (hN : 100 < N) (r : List Int → Option R) : twice.M N R r = r (E twE) := by
  show eAdd.M N R _ _ r = _
  rw [rowDE, eAdd_eq N hN _ _ rows_lt.1 rows_lt.1]
  rfl

theorem pAdd_eq {R : Type} (N : Nat) (hN : 100 < N) {p q : F × F} (hp : On p) (hq : On q) (x y z t u v w s : Nat) (h : PP4 p x y z t) (k : PP4 q u v w s) :
    ∃ a b c d, PP4 (addP p q) a b c d ∧ ∀ κ : K4 R, pAdd.M N R (E x) (E y) (E z) (E t) (E u) (E v) (E w) (E s) κ = κ (E a) (E b) (E c) (E d) := by
  obtain ⟨a, b, c, d, g, e⟩ := plus_eq (R := R) N hN hp hq x y z t u v w s twE h k twE_lt φ_twE
  refine ⟨a, b, c, d, g, fun κ => ?_⟩
  show pAdd.m (twice.M N) (plus.M N) N _ _ _ _ _ _ _ _ κ = _
  unfold pAdd.m
  rw [twice_eq N hN, e]

theorem pNegate_eq {R : Type} (N : Nat) (hN : 100 < N) {p : F × F} (x y z t : Nat) (h : PP4 p x y z t) :
    ∃ a b c d, PP4 (negP p) a b c d ∧ ∀ κ : K4 R, pNegate.M N R (E x) (E y) (E z) (E t) κ = κ (E a) (E b) (E c) (E d) := by
  obtain ⟨lx, ly, lz, lt, h⟩ := h
  refine ⟨subE 0 x, y, z, subE 0 t, ⟨subE_lt zero_Q, ly, lz, subE_lt zero_Q, ?_⟩, fun κ => ?_⟩
  · rw [φ_subE lx, φ_subE lt, φ_zero]
    exact h.neg
  · show pNegate.m (Small.M N) (eSub.M N) N _ _ _ _ κ = _
    unfold pNegate.m
    rw [Small0 N hN, eSub_eq N hN _ _ zero_Q lx, eSub_eq N hN _ _ zero_Q lt]

/-! ### bits -/

theorem bit_at (k : List Nat) (hk : ∀ x ∈ k, x < 256) (n : Nat) (hn : n < 1000) :
    (iand .u8 (ishr .u8 ((nn k).getD (IntKind.i64.wrap ((n : Int).tdiv 8)).toNat 0) ((n : Int).tmod 8)) 1 == 1) = decide (bit k n = 1) := by
  have e1 : (n : Int).tdiv 8 = ((n / 8 : Nat) : Int) := tdivN n 8
  have e2 : (n : Int).tmod 8 = ((n % 8 : Nat) : Int) := tmodN n 8
  rw [e1, e2, wrap_i64z _ (by omega) (by omega), Int.toNat_natCast, byte_bit k hk _ _ (by omega), Bool.eq_iff_iff, beq_iff_eq, decide_eq_true_iff]
  unfold bit
  omega

theorem bounds (n : Nat) (hn : n < 256) : decide (0 ≤ IntKind.i64.wrap ((n : Int).tdiv 8)) = true ∧ decide (IntKind.i64.wrap ((n : Int).tdiv 8) < 32) = true ∧ (true && decide ((n : Int).tmod 8 < 0)) = false := by
  have e1 : (n : Int).tdiv 8 = ((n / 8 : Nat) : Int) := tdivN n 8
  have e2 : (n : Int).tmod 8 = ((n % 8 : Nat) : Int) := tmodN n 8
  have w1 : IntKind.i64.wrap ((n / 8 : Nat) : Int) = ((n / 8 : Nat) : Int) := wrap_i64z _ (by omega) (by omega)
  refine ⟨by rw [e1, w1]; exact decide_eq_true (by omega), by rw [e1, w1]; exact decide_eq_true (by omega), ?_⟩
  rw [e2, decide_eq_false (by omega)]; rfl

theorem Bit_eq {R : Type} (N : Nat) (k : List Nat) (hk : ∀ x ∈ k, x < 256) (n : Nat) (hn : n < 256) (r : Bool → Option R) : Bit.M N R (nn k) (n : Int) r = r (decide (bit k n = 1)) := by
  show Bit.m N _ _ r = _
  unfold Bit.m
  obtain ⟨c1, c2, c3⟩ := bounds n hn
  rw [show decide ((n : Int) ≥ 0) = true from decide_eq_true (by omega), cond_true, show decide ((n : Int) < 256) = true from decide_eq_true (by omega), cond_true, c1, cond_true, c2, cond_true, c3, cond_false, bit_at k hk n (by omega)]

/-! ### so many times a point -/

theorem ptimes_step {R : Type} (N : Nat) (hN : 100 < N) (k : List Nat) (hk : ∀ x ∈ k, x < 256) {p : F × F} (hp : On p) (x y z t : Nat) (h : PP4 p x y z t) (n acc a b c d : Nat) (hn : n < 256) (g : PP4 (mulP acc p) a b c d) :
    ∃ a' b' c' d', PP4 (mulP (2 * acc + bit k n) p) a' b' c' d' ∧ ∀ κ : K4 R,
      (double.M N R (E a) (E b) (E c) (E d) fun v v1 v2 v3 => Bit.M N R (nn k) (n : Int) fun o => cond o (plus.M N R v v1 v2 v3 (E x) (E y) (E z) (E t) (E twE) κ) (κ v v1 v2 v3)) = κ (E a') (E b') (E c') (E d') := by
  obtain ⟨a1, b1, c1, d1, p1, e1⟩ := double_eq (R := R) N hN (hp.mul acc) a b c d g
  have hs := mulP_step hp acc (bit k n) (bit_lt k n)
  by_cases hb : bit k n = 1
  · obtain ⟨a2, b2, c2, d2, p2, e2⟩ := plus_eq (R := R) N hN ((hp.mul acc).add (hp.mul acc)) hp a1 b1 c1 d1 x y z t twE p1 h twE_lt φ_twE
    rw [if_pos hb] at hs
    rw [hs] at p2
    exact ⟨a2, b2, c2, d2, p2, fun κ => by rw [e1, Bit_eq N k hk n hn, decide_eq_true hb, cond_true, e2]⟩
  · rw [if_neg hb] at hs
    rw [hs] at p1
    exact ⟨a1, b1, c1, d1, p1, fun κ => by rw [e1, Bit_eq N k hk n hn, decide_eq_false hb, cond_false]⟩

theorem ptimes_loop {R : Type} (N : Nat) (hN : 100 < N) (k : List Nat) (hk : ∀ x ∈ k, x < 256) {p : F × F} (hp : On p) (x y z t : Nat) (h : PP4 p x y z t) :
    ∀ (n m acc a b c d : Nat), PP4 (mulP acc p) a b c d → n < m → n ≤ 256 → ∃ a' b' c' d', PP4 (mulP (vl k n acc) p) a' b' c' d' ∧
      ∀ ke, pTimes.J1_0 (R := R) (twice.M N) (pZero.M N) (double.M N) (Bit.M N) (plus.M N) N ke m ((n : Int) - 1) (E x) (E y) (E z) (E t) (nn k) (E twE) (E a) (E b) (E c) (E d) =
        ke (-1) (E x) (E y) (E z) (E t) (nn k) (E twE) (E a') (E b') (E c') (E d') := by
  intro n
  induction n with
  | zero =>
    intro m acc a b c d g hm _
    obtain ⟨m, rfl⟩ : ∃ k, m = k + 1 := ⟨m - 1, by omega⟩
    refine ⟨a, b, c, d, g, fun ke => ?_⟩
    unfold pTimes.J1_0
    rw [decide_eq_false (by omega), cond_false]
    rfl
  | succ n ih =>
    intro m acc a b c d g hm hn
    obtain ⟨m, rfl⟩ : ∃ k, m = k + 1 := ⟨m - 1, by omega⟩
    obtain ⟨a1, b1, c1, d1, p1, e1⟩ := ptimes_step (R := R) N hN k hk hp x y z t h n acc a b c d (by omega) g
    obtain ⟨a2, b2, c2, d2, p2, e2⟩ := ih m _ a1 b1 c1 d1 p1 (by omega) (by omega)
    refine ⟨a2, b2, c2, d2, p2, fun ke => ?_⟩
    unfold pTimes.J1_0
    have e0 : ((n + 1 : Nat) : Int) - 1 = (n : Int) := by omega
    rw [e0, show decide ((n : Int) ≥ 0) = true from decide_eq_true (by omega), cond_true, wrap_i64z _ (by omega) (by omega)]
    exact (e1 _).trans (e2 ke)

theorem pTimes_eq {R : Type} (N : Nat) (hN : 300 < N) (k : List Nat) (hk : ∀ x ∈ k, x < 256) {p : F × F} (hp : On p) (x y z t : Nat) (h : PP4 p x y z t) :
    ∃ a b c d, PP4 (mulP (vl k 256 0) p) a b c d ∧ ∀ κ : K4 R, pTimes.M N R (E x) (E y) (E z) (E t) (nn k) κ = κ (E a) (E b) (E c) (E d) := by
  have hN' : 100 < N := by omega
  obtain ⟨a0, b0, c0, d0, p0, e0⟩ := pZero_eq (R := R) N hN'
  obtain ⟨a1, b1, c1, d1, p1, e1⟩ := ptimes_step (R := R) N hN' k hk hp x y z t h 255 0 a0 b0 c0 d0 (by omega) p0
  obtain ⟨a2, b2, c2, d2, p2, e2⟩ := ptimes_loop (R := R) N hN' k hk hp x y z t h 255 N _ a1 b1 c1 d1 p1 (by omega) (by omega)
  rw [show vl k 256 0 = vl k 255 (2 * 0 + bit k 255) from vl_succ k 255 0]
  refine ⟨a2, b2, c2, d2, p2, fun κ => ?_⟩
  show pTimes.m (twice.M N) (pZero.M N) (double.M N) (Bit.M N) (plus.M N) N _ _ _ _ _ κ = _
  unfold pTimes.m
  rw [show ((255 : Nat) : Int) = 255 from rfl] at e1 e2
  rw [show (255 : Int) - 1 = 254 from rfl] at e2
  rw [twice_eq N hN', e0]
  exact (e1 _).trans (e2 fun _ _ _ _ _ _ _ a b c d => κ a b c d)

/-- The sum of so many times one point and so many times another one, a step further. -/
theorem pwith_step {R : Type} (N : Nat) (hN : 100 < N) (k l : List Nat) (hk : ∀ x ∈ k, x < 256) (hl : ∀ x ∈ l, x < 256) {p q : F × F} (hp : On p) (hq : On q) (x y z t x2 y2 z2 t2 x3 y3 z3 t3 : Nat) (h : PP4 p x y z t) (h2 : PP4 q x2 y2 z2 t2) (h3 : PP4 (addP p q) x3 y3 z3 t3)
    (n i j a b c d : Nat) (hn : n < 256) (g : PP4 (two p q i j) a b c d) :
    ∃ a' b' c' d', PP4 (two p q (2 * i + bit k n) (2 * j + bit l n)) a' b' c' d' ∧ ∀ κ : K4 R,
      (double.M N R (E a) (E b) (E c) (E d) fun v v1 v2 v3 => Bit.M N R (nn k) (n : Int) fun o => Bit.M N R (nn l) (n : Int) fun u =>
        cond o (cond u (plus.M N R v v1 v2 v3 (E x3) (E y3) (E z3) (E t3) (E twE) κ) (cond o (plus.M N R v v1 v2 v3 (E x) (E y) (E z) (E t) (E twE) κ) (cond u (plus.M N R v v1 v2 v3 (E x2) (E y2) (E z2) (E t2) (E twE) κ) (κ v v1 v2 v3))))
          (cond o (plus.M N R v v1 v2 v3 (E x) (E y) (E z) (E t) (E twE) κ) (cond u (plus.M N R v v1 v2 v3 (E x2) (E y2) (E z2) (E t2) (E twE) κ) (κ v v1 v2 v3)))) = κ (E a') (E b') (E c') (E d') := by
  have ho := two_on hp hq i j
  obtain ⟨a1, b1, c1, d1, p1, e1⟩ := double_eq (R := R) N hN ho a b c d g
  have hs := two_step hp hq i j (bit k n) (bit l n) (bit_lt k n) (bit_lt l n)
  by_cases hb : bit k n = 1
  · by_cases hc : bit l n = 1
    · obtain ⟨a2, b2, c2, d2, p2, e2⟩ := plus_eq (R := R) N hN (ho.add ho) (hp.add hq) a1 b1 c1 d1 x3 y3 z3 t3 twE p1 h3 twE_lt φ_twE
      rw [if_pos ⟨hb, hc⟩] at hs
      rw [hs] at p2
      exact ⟨a2, b2, c2, d2, p2, fun κ => by rw [e1, Bit_eq N k hk n hn, Bit_eq N l hl n hn, decide_eq_true hb, decide_eq_true hc, cond_true, cond_true, e2]⟩
    · obtain ⟨a2, b2, c2, d2, p2, e2⟩ := plus_eq (R := R) N hN (ho.add ho) hp a1 b1 c1 d1 x y z t twE p1 h twE_lt φ_twE
      rw [if_neg (fun h => hc h.2), if_pos hb] at hs
      rw [hs] at p2
      exact ⟨a2, b2, c2, d2, p2, fun κ => by rw [e1, Bit_eq N k hk n hn, Bit_eq N l hl n hn, decide_eq_true hb, decide_eq_false hc, cond_true, cond_false, cond_true, e2]⟩
  · by_cases hc : bit l n = 1
    · obtain ⟨a2, b2, c2, d2, p2, e2⟩ := plus_eq (R := R) N hN (ho.add ho) hq a1 b1 c1 d1 x2 y2 z2 t2 twE p1 h2 twE_lt φ_twE
      rw [if_neg (fun h => hb h.1), if_neg hb, if_pos hc] at hs
      rw [hs] at p2
      exact ⟨a2, b2, c2, d2, p2, fun κ => by rw [e1, Bit_eq N k hk n hn, Bit_eq N l hl n hn, decide_eq_false hb, decide_eq_true hc, cond_false, cond_false, cond_true, e2]⟩
    · rw [if_neg (fun h => hb h.1), if_neg hb, if_neg hc] at hs
      rw [hs] at p1
      exact ⟨a1, b1, c1, d1, p1, fun κ => by rw [e1, Bit_eq N k hk n hn, Bit_eq N l hl n hn, decide_eq_false hb, decide_eq_false hc, cond_false, cond_false, cond_false]⟩

theorem pwith_loop {R : Type} (N : Nat) (hN : 100 < N) (k l : List Nat) (hk : ∀ x ∈ k, x < 256) (hl : ∀ x ∈ l, x < 256) {p q : F × F} (hp : On p) (hq : On q) (x y z t x2 y2 z2 t2 x3 y3 z3 t3 : Nat) (h : PP4 p x y z t) (h2 : PP4 q x2 y2 z2 t2) (h3 : PP4 (addP p q) x3 y3 z3 t3) :
    ∀ (n m i j a b c d : Nat), PP4 (two p q i j) a b c d → n < m → n ≤ 256 → ∃ a' b' c' d', PP4 (two p q (vl k n i) (vl l n j)) a' b' c' d' ∧
      ∀ ke, pWith.J1_0 (R := R) (twice.M N) (pBase.M N) (plus.M N) (pZero.M N) (double.M N) (Bit.M N) N ke m ((n : Int) - 1) (E x) (E y) (E z) (E t) (nn k) (nn l) (E twE) (E x2) (E y2) (E z2) (E t2) (E x3) (E y3) (E z3) (E t3) (E a) (E b) (E c) (E d) =
        ke (-1) (E x) (E y) (E z) (E t) (nn k) (nn l) (E twE) (E x2) (E y2) (E z2) (E t2) (E x3) (E y3) (E z3) (E t3) (E a') (E b') (E c') (E d') := by
  intro n
  induction n with
  | zero =>
    intro m i j a b c d g hm _
    obtain ⟨m, rfl⟩ : ∃ k, m = k + 1 := ⟨m - 1, by omega⟩
    refine ⟨a, b, c, d, g, fun ke => ?_⟩
    unfold pWith.J1_0
    rw [decide_eq_false (by omega), cond_false]
    rfl
  | succ n ih =>
    intro m i j a b c d g hm hn
    obtain ⟨m, rfl⟩ : ∃ k, m = k + 1 := ⟨m - 1, by omega⟩
    obtain ⟨a1, b1, c1, d1, p1, e1⟩ := pwith_step (R := R) N hN k l hk hl hp hq x y z t x2 y2 z2 t2 x3 y3 z3 t3 h h2 h3 n i j a b c d (by omega) g
    obtain ⟨a2, b2, c2, d2, p2, e2⟩ := ih m _ _ a1 b1 c1 d1 p1 (by omega) (by omega)
    refine ⟨a2, b2, c2, d2, p2, fun ke => ?_⟩
    unfold pWith.J1_0
    have e0 : ((n + 1 : Nat) : Int) - 1 = (n : Int) := by omega
    rw [e0, show decide ((n : Int) ≥ 0) = true from decide_eq_true (by omega), cond_true, wrap_i64z _ (by omega) (by omega)]
    exact (e1 _).trans (e2 ke)

theorem pWith_eq {R : Type} (N : Nat) (hN : 300 < N) (k l : List Nat) (hk : ∀ x ∈ k, x < 256) (hl : ∀ x ∈ l, x < 256) {p : F × F} (hp : On p) (x y z t : Nat) (h : PP4 p x y z t) :
    ∃ a b c d, PP4 (two p baseP (vl k 256 0) (vl l 256 0)) a b c d ∧ ∀ κ : K4 R, pWith.M N R (E x) (E y) (E z) (E t) (nn k) (nn l) κ = κ (E a) (E b) (E c) (E d) := by
  have hN' : 100 < N := by omega
  obtain ⟨xb, yb, zb, tb, pb, eb⟩ := pBase_eq (R := R) N hN'
  obtain ⟨xs, ys, zs, ts, ps, es⟩ := plus_eq (R := R) N hN' hp base_on x y z t xb yb zb tb twE h pb twE_lt φ_twE
  obtain ⟨a0, b0, c0, d0, p0, e0⟩ := pZero_eq (R := R) N hN'
  have p0' : PP4 (two p baseP 0 0) a0 b0 c0 d0 := by
    unfold two
    rw [show mulP 0 p = zeroP from rfl, zero_addP]
    exact p0
  obtain ⟨a1, b1, c1, d1, p1, e1⟩ := pwith_step (R := R) N hN' k l hk hl hp base_on x y z t xb yb zb tb xs ys zs ts h pb ps 255 0 0 a0 b0 c0 d0 (by omega) p0'
  obtain ⟨a2, b2, c2, d2, p2, e2⟩ := pwith_loop (R := R) N hN' k l hk hl hp base_on x y z t xb yb zb tb xs ys zs ts h pb ps 255 N _ _ a1 b1 c1 d1 p1 (by omega) (by omega)
  rw [show vl k 256 0 = vl k 255 (2 * 0 + bit k 255) from vl_succ k 255 0, show vl l 256 0 = vl l 255 (2 * 0 + bit l 255) from vl_succ l 255 0]
  refine ⟨a2, b2, c2, d2, p2, fun κ => ?_⟩
  show pWith.m (twice.M N) (pBase.M N) (plus.M N) (pZero.M N) (double.M N) (Bit.M N) N _ _ _ _ _ _ κ = _
  unfold pWith.m
  rw [show ((255 : Nat) : Int) = 255 from rfl] at e1 e2
  rw [show (255 : Int) - 1 = 254 from rfl] at e2
  rw [twice_eq N hN', eb, es, e0]
  exact (e1 _).trans (e2 fun _ _ _ _ _ _ _ _ _ _ _ _ _ _ _ _ a b c d => κ a b c d)

/-! ### bytes -/

theorem φ_invE (z : Nat) (hz : z < 1852673427797059126777135760139006525652319754650249024631321344126610074238976) : φ (invE z) = iv (φ z) := by
  unfold iv
  rw [φ_iff, (invE_rep z hz).eq]
  show _ = (z % PP) ^ (PP - 2) % PP
  rw [← Nat.pow_mod]

section ring
variable {α : Type} [Lean.Grind.CommRing α]
theorem undo_ring (a b c : α) (h : b * c = 1) : a * b * c = a := by grind
end ring

theorem over_val (u z : Nat) (a : F) (hz : z < 1852673427797059126777135760139006525652319754650249024631321344126610074238976) (hn : φ z ≠ 0) (h : φ u = a * φ z) : mulE u (invE z) % PP = a.val := by
  have e : φ (mulE u (invE z)) = a := by rw [φ_mulE, φ_invE z hz, h, undo_ring a (φ z) _ (mul_iv hn)]
  exact congrArg Fin.val e

theorem pBytes_eq {R : Type} (N : Nat) (hN : 1000 < N) {p : F × F} (x y z t : Nat) (h : PP4 p x y z t) (r : List Int → Option R) : pBytes.M N R (E x) (E y) (E z) (E t) r = r (nn (dig 256 32 (pb p))) := by
  obtain ⟨lx, ly, lz, lt, g⟩ := h
  have hN' : 100 < N := by omega
  have li := (invE_rep z lz).lt
  have ex := over_val x z p.1 lz g.nz g.hx
  have ey := over_val y z p.2 lz g.nz g.hy
  show pBytes.m (eInvert.M N) (eTimes.M N) (eBytes.M N) (Odd.M N) N _ _ _ _ r = _
  unfold pBytes.m
  rw [eInvert_eq N hN z lz, eTimes_eq N hN' _ _ lx li, eTimes_eq N hN' _ _ ly li, eBytes_eq N hN _ (mulE_lt ly li), Odd_eq N hN' _ (mulE_lt lx li), ex, ey]
  have hT : p.2.val < 57896044618658097711785492504343953926634992332820282019728792003956564819968 := by have := p.2.isLt; have := PP_T; omega
  unfold pb
  by_cases ho : p.1.val % 2 = 1
  · obtain ⟨h1, h2⟩ := top_put _ hT
    rw [decide_eq_true ho, cond_true, if_pos ho, top_get]
    have h3 := (top_bits ⟨p.2.val / 256 ^ 31 % 256, Nat.mod_lt _ (by decide)⟩).2 h2
    simp only at h3
    rw [h3, h1]
  · rw [decide_eq_false ho, cond_false, if_neg ho, Nat.add_zero]

theorem pSame_eq {R : Type} (N : Nat) (hN : 1000 < N) {p q : F × F} (x y z t u v w s : Nat) (h : PP4 p x y z t) (k : PP4 q u v w s) (r : Bool → Option R) :
    pSame.M N R (E x) (E y) (E z) (E t) (E u) (E v) (E w) (E s) r = r (@decide (p = q) (inferInstance)) := by
  obtain ⟨lx, ly, lz, lt, g⟩ := h
  obtain ⟨lu, lv, lw, ls, g'⟩ := k
  have hN' : 100 < N := by omega
  show pSame.m (eTimes.M N) (Same.M N) N _ _ _ _ _ _ _ _ r = _
  unfold pSame.m
  have hs := g.same g'
  have e1 : mulE x w % PP = mulE u z % PP ↔ φ x * φ w = φ u * φ z := by rw [← φ_mulE, ← φ_mulE, φ_iff]
  have e2 : mulE y w % PP = mulE v z % PP ↔ φ y * φ w = φ v * φ z := by rw [← φ_mulE, ← φ_mulE, φ_iff]
  rw [eTimes_eq N hN' _ _ lx lw, eTimes_eq N hN' _ _ lu lz, Same_eq N hN _ _ (mulE_lt lx lw) (mulE_lt lu lz)]
  by_cases c1 : mulE x w % PP = mulE u z % PP
  · rw [decide_eq_true c1, cond_true, eTimes_eq N hN' _ _ ly lw, eTimes_eq N hN' _ _ lv lz, Same_eq N hN _ _ (mulE_lt ly lw) (mulE_lt lv lz)]
    congr 1
    rw [Bool.eq_iff_iff, decide_eq_true_iff, decide_eq_true_iff, ← hs, e2]
    exact ⟨fun h => ⟨e1.1 c1, h⟩, fun h => h.2⟩
  · rw [decide_eq_false c1, cond_false, decide_eq_false (fun h => c1 (e1.2 (hs.2 h).1))]

end Go.Proofs.YtjaappocnonkbaaDoor.fn
