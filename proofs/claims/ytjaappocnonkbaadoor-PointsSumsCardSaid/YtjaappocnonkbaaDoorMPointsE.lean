/- What the points' laws have in common. -/
import Derived.Test.YtjaappocnonkbaaDoorMPointsD
import Derived.Test.YtjaappocnonkbaaDoorFnPointsL
namespace Go.Proofs.YtjaappocnonkbaaDoor.fn
open Go Go.Proofs Go.Ev Go.Dg

/-! ### a key's number -/

theorem sub_bit8 (v i : Nat) : v / 256 ^ (i / 8) % 256 / 2 ^ (i % 8) % 2 = v / 2 ^ i % 2 := by
  have h1 : (256 : Nat) = 2 ^ 8 := rfl
  have h2 : i = 8 * (i / 8) + i % 8 := by omega
  have h3 : i % 8 < 8 := Nat.mod_lt _ (by decide)
  rw [h1, ← Nat.pow_mul]
  conv => rhs; rw [h2]
  rw [Nat.pow_add, ← Nat.div_div_eq_div_mul]
  generalize v / 2 ^ (8 * (i / 8)) = u
  generalize i % 8 = j at *
  have h4 : (2 : Nat) ^ 8 = 2 ^ j * 2 ^ (8 - j) := by rw [← Nat.pow_add]; congr 1; omega
  rw [h4, Nat.mod_mul_right_div_self, Nat.mod_mod_of_dvd]
  exact ⟨2 ^ (7 - j), by rw [show 8 - j = 1 + (7 - j) by omega, Nat.pow_add, Nat.pow_one]⟩

theorem bit_dig (S i : Nat) (hi : i < 256) : bit (dig 256 32 S) i = S / 2 ^ i % 2 := by
  unfold bit
  rw [dig_getD 32 S _ (by omega), sub_bit8]

theorem vl_dig (S : Nat) : ∀ (n a : Nat), n ≤ 256 → vl (dig 256 32 S) n a = a * 2 ^ n + S % 2 ^ n := by
  intro n
  induction n with
  | zero => intro a _; show a = _; rw [Nat.pow_zero, Nat.mul_one, Nat.mod_one, Nat.add_zero]
  | succ n ih =>
    intro a hn
    rw [vl_succ, ih _ (by omega), bit_dig S n (by omega), Nat.pow_succ, Nat.mod_mul, Nat.add_mul]
    have : 2 * a * 2 ^ n = a * (2 ^ n * 2) := by rw [Nat.mul_comm 2 a, Nat.mul_assoc, Nat.mul_comm 2]
    rw [this, Nat.mul_comm (S / 2 ^ n % 2)]
    omega

theorem pow_same : (2 : Nat) ^ 256 = 256 ^ 32 := by decide +kernel
theorem vl_key (S : Nat) (h : S < 256 ^ 32) : vl (dig 256 32 S) 256 0 = S := by
  rw [vl_dig S 256 0 (Nat.le_refl _), Nat.zero_mul, Nat.zero_add, pow_same, Nat.mod_eq_of_lt h]

theorem dig_small (v : Nat) (h : v < 16777216) : dig 256 32 v = [v % 256, v / 256 % 256, v / 65536 % 256] ++ List.replicate 29 0 := by
  have e : v / 256 / 256 = v / 65536 := by rw [Nat.div_div_eq_div_mul]
  have e2 : v / 256 / 256 / 256 = 0 := by omega
  show v % 256 :: v / 256 % 256 :: v / 256 / 256 % 256 :: dig 256 29 (v / 256 / 256 / 256) = _
  rw [e2, dig_zero, e]
  rfl

theorem key2 (n : Nat) (h : n < 65536) : ([IntKind.u8.wrap (n : Int), IntKind.u8.wrap (ishr IntKind.u16 (n : Int) 8), 0, 0, 0, 0, 0, 0, 0, 0, 0, 0, 0, 0, 0, 0, 0, 0, 0, 0, 0, 0, 0, 0, 0, 0, 0, 0, 0, 0, 0, 0] : List Int) = nn (dig 256 32 n) := by
  have e : ishr IntKind.u16 (n : Int) 8 = ((n / 256 : Nat) : Int) := ishr_nat .u16 n 8 (by decide)
  rw [e, wrap_u8, wrap_u8, dig_small n (by omega), show n / 65536 % 256 = 0 by omega]
  rfl

theorem plusK_eq {R : Type} (N : Nat) (n : Nat) (h : n < 65536) (r : List Int → Option R) : plusK.M N R (nn (dig 256 32 n)) r = r (nn (dig 256 32 (n + 1))) := by
  show plusK.m N _ r = _
  unfold plusK.m
  have g0 : (nn (dig 256 32 n)).getD 0 0 = ((n % 256 : Nat) : Int) := by rw [nn_getD, dig_getD 32 n 0 (by omega), Nat.pow_zero, Nat.div_one]
  have g1 : (nn (dig 256 32 n)).getD 1 0 = ((n / 256 : Nat) : Int) := by
    rw [nn_getD, dig_getD 32 n 1 (by omega), Nat.pow_one, Nat.mod_eq_of_lt (by omega)]
  have e : IntKind.i64.wrap (IntKind.i64.wrap (IntKind.i64.wrap ((n % 256 : Nat) : Int) + IntKind.i64.wrap (256 * IntKind.i64.wrap ((n / 256 : Nat) : Int))) + 1) = ((n + 1 : Nat) : Int) := by
    rw [wrap_i64z ((n % 256 : Nat) : Int) (by omega) (by omega), wrap_i64z ((n / 256 : Nat) : Int) (by omega) (by omega), wrap_i64z (256 * ((n / 256 : Nat) : Int)) (by omega) (by omega), wrap_i64z (((n % 256 : Nat) : Int) + 256 * ((n / 256 : Nat) : Int)) (by omega) (by omega), wrap_i64z _ (by omega) (by omega)]
    omega
  rw [g0, g1, e]
  have e8 : ishr IntKind.i64 ((n + 1 : Nat) : Int) 8 = (((n + 1) / 256 : Nat) : Int) := ishr_nat .i64 (n + 1) 8 (by decide)
  have e16 : ishr IntKind.i64 ((n + 1 : Nat) : Int) 16 = (((n + 1) / 65536 : Nat) : Int) := ishr_nat .i64 (n + 1) 16 (by decide)
  rw [e8, e16, wrap_u8, wrap_u8, wrap_u8, dig_small (n + 1) (by omega)]
  rfl

theorem key_one : ([1, 0, 0, 0, 0, 0, 0, 0, 0, 0, 0, 0, 0, 0, 0, 0, 0, 0, 0, 0, 0, 0, 0, 0, 0, 0, 0, 0, 0, 0, 0, 0] : List Int) = nn (dig 256 32 1) := by decide +kernel
theorem key_l : ([237, 211, 245, 92, 26, 99, 18, 88, 214, 156, 247, 162, 222, 249, 222, 20, 0, 0, 0, 0, 0, 0, 0, 0, 0, 0, 0, 0, 0, 0, 0, 16] : List Int) = nn (dig 256 32 LL) := by decide +kernel
theorem one_key : 1 < 256 ^ 32 := by decide +kernel
theorem LL_key : LL < 256 ^ 32 := by decide +kernel

/-! ### what is common to all laws -/

theorem key_lt (S : Nat) : ∀ x ∈ dig 256 32 S, x < 256 := dig_lt (by decide) 32 S

theorem pb_base : pb baseP = BY := by decide +kernel
theorem base_bytes : ((nn (dig 256 32 BY)).getD 0 0 == 88) = true ∧ ((nn (dig 256 32 BY)).getD 1 0 == 102) = true ∧ ((nn (dig 256 32 BY)).getD 31 0 == 102) = true := by decide +kernel

theorem alive12_eq {R : Type} (N : Nat) (hN : 1000 < N) (r : Bool → Option R) : alive12.M N R r = r true := by
  obtain ⟨a, b, c, d, p, e⟩ := pBase_eq (R := R) N (by omega)
  obtain ⟨a0, b0, c0, d0, p0, e0⟩ := pZero_eq (R := R) N (by omega)
  obtain ⟨h1, h2, h3⟩ := base_bytes
  show alive12.m (pBase.M N) (pBytes.M N) (pZero.M N) (pSame.M N) N r = _
  unfold alive12.m
  rw [e, pBytes_eq N hN _ _ _ _ p, pb_base, h1, cond_true, h2, cond_true, h3, cond_true, e, e0, pSame_eq N hN _ _ _ _ _ _ _ _ p p0, decide_eq_false base_ne]
  rfl

theorem some_loop {R : Type} (N : Nat) (a1 : pRead.Ty) (a2 : qRead.Ty) (a3 : pBase.Ty) (a4 : pTimes.Ty) (a5 : qBase.Ty) (a6 : qTimes.Ty) :
    ∀ (d i m : Nat) (k : List Nat), i + d = 31 → d < m → k.length = 32 → (∀ x ∈ k, x < 256) → ∃ k' : List Nat, (∀ x ∈ k', x < 256) ∧ ∀ ke, some12.L7 (R := R) a1 a2 a3 a4 a5 a6 N ke m (i : Int) (nn k) = ke 31 (nn k') := by
  intro d
  induction d with
  | zero =>
    intro i m k hi hm _ hk
    obtain ⟨m, rfl⟩ : ∃ k, m = k + 1 := ⟨m - 1, by omega⟩
    refine ⟨k, hk, fun ke => ?_⟩
    unfold some12.L7
    rw [decide_eq_false (by omega), cond_false, show i = 31 by omega]
    rfl
  | succ d ih =>
    intro i m k hi hm hl hk
    obtain ⟨m, rfl⟩ : ∃ k, m = k + 1 := ⟨m - 1, by omega⟩
    obtain ⟨k', h', e⟩ := ih (i + 1) m (k.set i 0) (by omega) (by omega) (by rw [List.length_set]; exact hl) (by
      intro x hx
      rcases List.mem_or_eq_of_mem_set hx with h | h
      · exact hk x h
      · omega)
    refine ⟨k', h', fun ke => ?_⟩
    unfold some12.L7
    rw [show decide ((i : Int) < 31) = true from decide_eq_true (by omega), cond_true, show decide (0 ≤ (i : Int)) = true from decide_eq_true (by omega), cond_true, show decide ((i : Int) < 32) = true from decide_eq_true (by omega), cond_true, Int.toNat_natCast, wrap_i64z _ (by omega) (by omega)]
    rw [show (nn k).set i 0 = nn (k.set i 0) from nn_set k i 0, show (i : Int) + 1 = ((i + 1 : Nat) : Int) by omega]
    exact e ke

theorem some12_eq {R : Type} (N : Nat) (hN : 1000 < N) (A : Nat) (hA : A < 256 ^ 32) :
    ∃ p x y z t u v w, On p ∧ PP4 p x y z t ∧ QP3 p u v w ∧ ∀ κ : List Int → List Int → List Int → List Int → List Int → List Int → List Int → Option R, some12.M N R (nn (dig 256 32 A)) κ = κ (E x) (E y) (E z) (E t) (U u) (U v) (U w) := by
  cases h : dec A with
  | some p =>
    obtain ⟨x, y, z, t, g, e⟩ := pRead_some (R := R) N hN A hA h
    obtain ⟨u, v, w, g', e'⟩ := qRead_some (R := R) N hN A hA h
    refine ⟨p, x, y, z, t, u, v, w, dec_on h, g, g', fun κ => ?_⟩
    show some12.m (pRead.M N) (qRead.M N) (pBase.M N) (pTimes.M N) (qBase.M N) (qTimes.M N) N _ κ = _
    unfold some12.m
    rw [e, show Nat.beq 0 0 = true from rfl, cond_true, e']
  | none =>
    obtain ⟨k, hk, e1⟩ := some_loop (R := R) N (pRead.M N) (qRead.M N) (pBase.M N) (pTimes.M N) (qBase.M N) (qTimes.M N) 27 4 N ((dig 256 32 A).set 31 0) (by omega) (by omega) (by rw [List.length_set, dig_length]) (by
      intro x hx
      rcases List.mem_or_eq_of_mem_set hx with h | h
      · exact key_lt A x h
      · omega)
    obtain ⟨xb, yb, zb, tb, pb, eb⟩ := pBase_eq (R := R) N (by omega)
    obtain ⟨x, y, z, t, g, e2⟩ := pTimes_eq (R := R) N (by omega) k hk base_on _ _ _ _ pb
    obtain ⟨u, v, w, g', e3⟩ := qTimes_eq (R := R) N (by omega) k hk base_on _ _ _ .base
    refine ⟨_, x, y, z, t, u, v, w, base_on.mul _, g, g', fun κ => ?_⟩
    show some12.m (pRead.M N) (qRead.M N) (pBase.M N) (pTimes.M N) (qBase.M N) (qTimes.M N) N _ κ = _
    unfold some12.m
    rw [pRead_none N hN A hA h, show Nat.beq 4 0 = false from rfl, cond_false, show (nn (dig 256 32 A)).set 31 0 = nn ((dig 256 32 A).set 31 0) from nn_set _ 31 0, show (4 : Int) = ((4 : Nat) : Int) from rfl, e1, eb, e2]
    show qTimes.M N R _ _ _ _ _ = _
    rw [rowXU, rowYU, one_row, e3]

theorem Num_0 {R : Type} (N : Nat) (hN : 30 ≤ N) (r : Int → Option R) : Num.M N R 0 r = r 0 := by
  obtain ⟨M, rfl⟩ : ∃ M, N = M + 30 := ⟨N - 30, by omega⟩
  kernel_rfl
theorem Num_4 {R : Type} (N : Nat) (hN : 30 ≤ N) (r : Int → Option R) : Num.M N R 4 r = r 4 := by
  obtain ⟨M, rfl⟩ : ∃ M, N = M + 30 := ⟨N - 30, by omega⟩
  kernel_rfl

section ring
variable {α : Type} [Lean.Grind.CommRing α]
theorem neg_neg_ring' (x : α) : 0 - (0 - x) = x := by grind
end ring
theorem negP_negP (p : F × F) : negP (negP p) = p := Prod.ext (neg_neg_ring' p.1) rfl

end Go.Proofs.YtjaappocnonkbaaDoor.fn
