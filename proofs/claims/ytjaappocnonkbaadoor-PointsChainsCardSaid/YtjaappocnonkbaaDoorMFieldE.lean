/- What the references' products, powers and bytes come to. -/
import Derived.Test.YtjaappocnonkbaaDoorMFieldD
namespace Go.Proofs.YtjaappocnonkbaaDoor.fn
open Go Go.Proofs Go.Ev Go.Dg

theorem rtm_loop {R : Type} (N : Nat) (ke : Int → Int → Int → List Int → List Int → List Int → Option R) (i c : Nat) (hi : i < 8) (hc : c < 4294967296) (a : List Int) (hac : a.getD i 0 = (c : Int)) :
    ∀ (ps ys pre pre' post : List Nat) (o m : Nat), ps.length = ys.length → pre.length = i + pre'.length → pre'.length + ys.length = 8 → pre.length + ps.length + post.length = 16 → ys.length < m → o < 4294967296 → (∀ x ∈ ps, x < 4294967296) → (∀ y ∈ ys, y < 4294967296) →
      rTimes.L7 (rfold.M N) N ke m (i : Int) (o : Int) (pre'.length : Int) a (nn (pre' ++ ys)) (nn (pre ++ (ps ++ post))) =
        ke (i : Int) ((car 4294967296 o (mulL c ps ys)).2 : Int) 8 a (nn (pre' ++ ys)) (nn (pre ++ ((car 4294967296 o (mulL c ps ys)).1 ++ post))) := by
  intro ps
  induction ps with
  | nil =>
    intro ys pre pre' post o m h1 h3 h4 h5 hm _ _ _
    obtain ⟨m, rfl⟩ : ∃ k, m = k + 1 := ⟨m - 1, by omega⟩
    have hr : ys = [] := by simpa using h1.symm
    subst hr
    have hp : (pre'.length : Int) = 8 := by simp at h4; omega
    unfold rTimes.L7
    rw [hp, decide_eq_false (by omega), cond_false]
    rfl
  | cons p ps ih =>
    intro ys pre pre' post o m h1 h3 h4 h5 hm ho hx hy
    obtain ⟨m, rfl⟩ : ∃ k, m = k + 1 := ⟨m - 1, by omega⟩
    cases ys with
    | nil => simp at h1
    | cons y ys =>
      have hp0 := hx p (by simp)
      have hy0 := hy y (by simp)
      simp only [List.length_cons] at h1 h4 h5 hm
      unfold rTimes.L7
      have e0 : IntKind.i64.wrap ((i : Int) + (pre'.length : Int)) = (pre.length : Int) := by rw [wrap_i64z _ (by omega) (by omega)]; omega
      rw [e0]
      have c1 : decide ((pre'.length : Int) < 8) = true := decide_eq_true (by omega)
      have c2 : decide (0 ≤ (pre'.length : Int)) = true := decide_eq_true (by omega)
      have c3 : decide ((pre.length : Int) < 16) = true := decide_eq_true (by omega)
      have c4 : decide (0 ≤ (pre.length : Int)) = true := decide_eq_true (by omega)
      have c5 : decide (0 ≤ (i : Int)) = true := decide_eq_true (by omega)
      have c6 : decide ((i : Int) < 8) = true := decide_eq_true (by omega)
      simp only [c1, c2, c3, c4, c5, c6, cond_true]
      rw [Int.toNat_natCast i, hac, show pre ++ (p :: ps ++ post) = pre ++ p :: (ps ++ post) by simp, app_getD pre p (ps ++ post) rfl, app_getD pre' y ys rfl]
      have hcy : c * y ≤ 4294967295 * 4294967295 := Nat.mul_le_mul (by omega) (by omega)
      have e1 : IntKind.u64.wrap (IntKind.u64.wrap (IntKind.u64.wrap (IntKind.u64.wrap (c : Int) * IntKind.u64.wrap (y : Int)) + IntKind.u64.wrap (p : Int)) + (o : Int)) = ((p + c * y + o : Nat) : Int) := by
        rw [wrap_u64 p (by omega), wrap_u64 c (by omega), wrap_u64 y (by omega), show (c : Int) * (y : Int) = ((c * y : Nat) : Int) by simp, wrap_u64 _ (by omega), wrap_u64z (((c * y : Nat) : Int) + (p : Int)) (by omega) (by omega), wrap_u64z _ (by omega) (by omega)]
        omega
      rw [e1]
      have e2 : ishr .u64 ((p + c * y + o : Nat) : Int) 32 = (((p + c * y + o) / 4294967296 : Nat) : Int) := ishr_nat .u64 _ 32 (by decide)
      have hd : (p + c * y + o) / 4294967296 < 4294967296 := by omega
      have e5 : IntKind.i64.wrap ((pre'.length : Int) + 1) = ((pre' ++ [y]).length : Int) := by rw [wrap_i64z _ (by omega) (by omega)]; simp
      rw [e2, wrap_u32, e5, app_set pre p (ps ++ post) rfl, app_next pre' y ys, ih ys _ _ post _ m (by omega) (by simp; omega) (by simp; omega) (by simp; omega) (by omega) hd (fun z hz => hx z (by simp [hz])) (fun z hz => hy z (by simp [hz]))]
      simp [mulL, car]

theorem rtm_rows {R : Type} (N : Nat) (hN : 100 < N) (ke : Int → List Int → List Int → List Int → Option R) (A B : Nat) (hB : B < M256) :
    ∀ (d i m : Nat), i + d = 8 → d < m → rTimes.L3 (rfold.M N) N ke m (i : Int) (U A) (U B) (nn (dig 4294967296 16 (A % 4294967296 ^ i * B))) = ke 8 (U A) (U B) (nn (dig 4294967296 16 (A % 4294967296 ^ 8 * B))) := by
  intro d
  induction d with
  | zero =>
    intro i m h hm
    obtain ⟨m, rfl⟩ : ∃ k, m = k + 1 := ⟨m - 1, by omega⟩
    obtain rfl : i = 8 := by omega
    unfold rTimes.L3
    rw [decide_eq_false (by omega), cond_false]
    rfl
  | succ d ih =>
    intro i m h hm
    obtain ⟨m, rfl⟩ : ∃ k, m = k + 1 := ⟨m - 1, by omega⟩
    unfold rTimes.L3
    rw [decide_eq_true (by omega), cond_true]
    generalize hP : A % 4294967296 ^ i * B = P
    generalize hc : A / 4294967296 ^ i % 4294967296 = c
    have hcW : c < 4294967296 := by rw [← hc]; exact Nat.mod_lt _ (by decide)
    have hPlt : P < 4294967296 ^ (i + 8) := by
      rw [← hP, Nat.pow_add, M256_eq]
      exact Nat.mul_lt_mul'' (Nat.mod_lt _ (Nat.pow_pos (by decide))) hB
    have e1 : dig 4294967296 16 P = dig 4294967296 i P ++ (dig 4294967296 8 (P / 4294967296 ^ i) ++ (0 :: List.replicate d 0)) := by
      have e0 : dig 4294967296 16 P = dig 4294967296 (i + (8 + (d + 1))) P := by congr 1; omega
      rw [e0, dig_append, dig_append]
      have : P / 4294967296 ^ i / 4294967296 ^ 8 = 0 := by
        rw [Nat.div_div_eq_div_mul, ← Nat.pow_add]; exact Nat.div_eq_of_lt hPlt
      rw [this, dig_zero, List.replicate_succ]
    have h1 := rtm_loop (R := R) N (fun i6_c16 over7_c17 _ h0_c19 h1_c20 h3_c21 => bif decide (0 ≤ IntKind.i64.wrap (i6_c16 + 8)) then
        bif decide (IntKind.i64.wrap (i6_c16 + 8) < 16) then rTimes.L3 (rfold.M N) N ke m (IntKind.i64.wrap (i6_c16 + 1)) h0_c19 h1_c20 (h3_c21.set (IntKind.i64.wrap (i6_c16 + 8)).toNat (IntKind.u32.wrap over7_c17)) else none else none)
      i c (by omega) hcW (U A) (by rw [U_get A i (by omega), hc]) (dig 4294967296 8 (P / 4294967296 ^ i)) (dig 4294967296 8 B) (dig 4294967296 i P) [] (0 :: List.replicate d 0) 0 N (by simp [dig_length]) (by simp [dig_length]) (by simp [dig_length])
      (by simp [dig_length]; omega) (by simp [dig_length]; omega) (by omega) (dig_lt (by decide) _ _) (dig_lt (by decide) _ _)
    simp only [List.nil_append, List.length_nil] at h1
    rw [e1]
    refine Eq.trans h1 ?_
    have hPi : P / 4294967296 ^ i < M256 := by
      apply Nat.div_lt_of_lt_mul
      rw [← M256_eq, ← Nat.pow_add]; exact hPlt
    have e2 : IntKind.i64.wrap ((i : Int) + 8) = ((i + 8 : Nat) : Int) := by rw [wrap_i64z _ (by omega) (by omega)]; omega
    rw [e2, car_dig (by decide), vl_mulL _ _ _ _ (by simp [dig_length]), mulL_length _ _ _ (by simp [dig_length]), dig_length, vl_dig, vl_dig, Nat.mod_eq_of_lt (show B < 4294967296 ^ 8 by rw [M256_eq]; exact hB), Nat.mod_eq_of_lt (show P / 4294967296 ^ i < 4294967296 ^ 8 by rw [M256_eq]; exact hPi)]
    have c3 : decide (0 ≤ ((i + 8 : Nat) : Int)) = true := decide_eq_true (by omega)
    have c4 : decide (((i + 8 : Nat) : Int) < 16) = true := decide_eq_true (by omega)
    simp only [c3, c4, cond_true, Nat.add_zero]
    rw [wrap_u32, ← List.append_assoc, app_set (dig 4294967296 i P ++ dig 4294967296 8 (P / 4294967296 ^ i + c * B)) 0 (List.replicate d 0) (by simp [dig_length])]
    rw [wrap_i64z _ (by omega) (by omega), show ((i : Int) + 1) = ((i + 1 : Nat) : Int) by omega]
    have eA : A % 4294967296 ^ (i + 1) * B = P + 4294967296 ^ i * (c * B) := by
      rw [← hP, ← hc, Nat.pow_succ, Nat.mod_mul, Nat.add_mul, Nat.mul_assoc]
    have hlt : P + 4294967296 ^ i * (c * B) < 4294967296 ^ (i + 8 + 1) := by
      rw [← eA, show i + 8 + 1 = (i + 1) + 8 by omega, Nat.pow_add _ (i + 1), M256_eq]
      exact Nat.mul_lt_mul'' (Nat.mod_lt _ (Nat.pow_pos (by decide))) hB
    have e3 := dparts (B := 4294967296) (by decide) i 8 d P (c * B) hlt
    rw [show i + (8 + (1 + d)) = 16 by omega, ← eA] at e3
    rw [e3, ih (i + 1) m (by omega) (by omega)]

theorem rTimes_eq {R : Type} (N : Nat) (hN : 100 < N) (a b : Nat) (ha : a < M256) (hb : b < M256) (r : List Int → Option R) : rTimes.M N R (U a) (U b) r = r (U (a * b % PP)) := by
  show rTimes.m (rfold.M N) N (U a) (U b) r = _
  unfold rTimes.m
  have e0 : ([0, 0, 0, 0, 0, 0, 0, 0, 0, 0, 0, 0, 0, 0, 0, 0] : List Int) = nn (dig 4294967296 16 0) := by decide +kernel
  rw [e0]
  have h := rtm_rows N hN (fun _ _ _ h3 => rfold.M N R h3 fun v => r v) a b hb 8 0 N rfl (by omega)
  rw [show a % 4294967296 ^ 0 * b = 0 by simp [Nat.mod_one], show ((0 : Nat) : Int) = 0 from rfl, M256_eq, Nat.mod_eq_of_lt ha] at h
  refine Eq.trans h ?_
  rw [rfold_eq N hN _ (Nat.mul_lt_mul'' ha hb)]

/-! ### powers -/

theorem PP_lt_M (x : Nat) : x % PP < M256 := Nat.lt_trans (Nat.mod_lt _ PP_pos) PP_M.1

theorem iand_one32 (a : Nat) (ha : a < 4294967296) : iand .u32 (a : Int) 1 = ((a % 2 : Nat) : Int) := by
  have e1 : (a : Int) = un (BitVec.ofNat 32 a) := by unfold un; rw [BitVec.toNat_ofNat, Nat.mod_eq_of_lt (by omega)]
  have e2 : (1 : Int) = un (1#32) := rfl
  rw [e1, e2, iand32]
  unfold un
  rw [BitVec.toNat_and, BitVec.toNat_ofNat, Nat.mod_eq_of_lt (show a < 2 ^ 32 by omega)]
  have := Nat.and_two_pow_sub_one_eq_mod a 1
  exact congrArg Int.ofNat this

theorem sub_bit32 (v i : Nat) : v / 4294967296 ^ (i / 32) % 4294967296 / 2 ^ (i % 32) % 2 = v / 2 ^ i % 2 := by
  have h := sub_digit v (i / 32) (i % 32) 2 32 (Nat.mod_lt _ (by decide))
  rw [show (2 : Nat) ^ 32 = 4294967296 from rfl] at h
  rw [h, Nat.div_add_mod]

theorem rpower_loop {R : Type} (N : Nat) (hN : 100 < N) (ke : Int → List Int → List Int → List Int → Option R) (a e : Nat) (ha : a < M256) :
    ∀ (i m : Nat), i ≤ 256 → i < m → rPower.L3 (rTimes.M N) N ke m ((i : Int) - 1) (U a) (U e) (U (a ^ (e / 2 ^ i) % PP)) = ke (-1) (U a) (U e) (U (a ^ e % PP)) := by
  intro i
  induction i with
  | zero =>
    intro m _ hm
    obtain ⟨m, rfl⟩ : ∃ k, m = k + 1 := ⟨m - 1, by omega⟩
    unfold rPower.L3
    rw [decide_eq_false (by omega), cond_false]
    simp
  | succ i ih =>
    intro m hi hm
    obtain ⟨m, rfl⟩ : ∃ k, m = k + 1 := ⟨m - 1, by omega⟩
    unfold rPower.L3
    rw [show (((i + 1 : Nat) : Int) - 1) = (i : Int) by omega]
    have e1 : (i : Int).tdiv 32 = ((i / 32 : Nat) : Int) := tdivN i 32
    have e2 : (i : Int).tmod 32 = ((i % 32 : Nat) : Int) := tmodN i 32
    rw [e1, e2, wrap_i64z ((i / 32 : Nat) : Int) (by omega) (by omega), wrap_u64 _ (by omega)]
    have c0 : decide ((i : Int) ≥ 0) = true := decide_eq_true (by omega)
    have c1 : decide (0 ≤ ((i / 32 : Nat) : Int)) = true := decide_eq_true (by omega)
    have c2 : decide (((i / 32 : Nat) : Int) < 8) = true := decide_eq_true (by omega)
    rw [c0, cond_true, rTimes_eq N hN _ _ (PP_lt_M _) (PP_lt_M _)]
    simp only [c1, c2, cond_true, Int.toNat_natCast]
    rw [U_get e _ (by omega), ishr_nat .u32 _ (i % 32) (by simp only [IntKind.bits]; omega), iand_one32 _ (by
      have h1 : e / 4294967296 ^ (i / 32) % 4294967296 < 4294967296 := Nat.mod_lt _ (by decide)
      have h2 := Nat.div_le_self (e / 4294967296 ^ (i / 32) % 4294967296) (2 ^ (i % 32))
      omega), sub_bit32]
    have hd : e / 2 ^ i = 2 * (e / 2 ^ (i + 1)) + e / 2 ^ i % 2 := by
      rw [Nat.pow_succ, ← Nat.div_div_eq_div_mul]; omega
    have hs : a ^ (e / 2 ^ (i + 1)) % PP * (a ^ (e / 2 ^ (i + 1)) % PP) % PP = a ^ (2 * (e / 2 ^ (i + 1))) % PP := by
      rw [← Nat.mul_mod, ← Nat.pow_add]; congr 2; omega
    have e3 : IntKind.i64.wrap ((i : Int) - 1) = (i : Int) - 1 := wrap_i64z _ (by omega) (by omega)
    rw [hs, e3]
    rcases Nat.mod_two_eq_zero_or_one (e / 2 ^ i) with hb | hb
    · rw [hb, show (((0 : Nat) : Int) == 1) = false from rfl, cond_false]
      rw [hb, Nat.add_zero] at hd
      rw [← hd]
      exact ih m (by omega) (by omega)
    · rw [hb, show (((1 : Nat) : Int) == 1) = true from rfl, cond_true, rTimes_eq N hN _ _ (PP_lt_M _) ha]
      rw [hb] at hd
      have : a ^ (2 * (e / 2 ^ (i + 1))) % PP * a % PP = a ^ (e / 2 ^ i) % PP := by
        rw [hd, show a ^ (2 * (e / 2 ^ (i + 1)) + 1) = a ^ (2 * (e / 2 ^ (i + 1))) * a from Nat.pow_succ _ _, Nat.mul_mod, Nat.mod_mod, ← Nat.mul_mod]
      rw [this]
      exact ih m (by omega) (by omega)

theorem one_row : ([1, 0, 0, 0, 0, 0, 0, 0] : List Int) = U 1 := by decide +kernel
theorem two_row : ([2, 0, 0, 0, 0, 0, 0, 0] : List Int) = U 2 := by decide +kernel
theorem five_row : ([5, 0, 0, 0, 0, 0, 0, 0] : List Int) = U 5 := by decide +kernel
theorem PP_big : 1000000 < PP := by decide +kernel

theorem rPower_eq {R : Type} (N : Nat) (hN : 1000 < N) (a e : Nat) (ha : a < M256) (he : e < M256) (r : List Int → Option R) : rPower.M N R (U a) (U e) r = r (U (a ^ e % PP)) := by
  show rPower.m (rTimes.M N) N (U a) (U e) r = _
  unfold rPower.m
  have h := rpower_loop N (by omega) (fun _ _ _ h3 => r h3) a e ha 256 N (Nat.le_refl _) (by omega)
  have hP := PP_big
  rw [show e / 2 ^ 256 = 0 from Nat.div_eq_of_lt (by rw [show (2 : Nat) ^ 256 = M256 by decide +kernel]; exact he), Nat.pow_zero, Nat.mod_eq_of_lt (show 1 < PP by omega)] at h
  rw [one_row]
  exact h

theorem rInvert_eq {R : Type} (N : Nat) (hN : 1000 < N) (a : Nat) (ha : a < M256) (r : List Int → Option R) : rInvert.M N R (U a) r = r (U (a ^ (PP - 2) % PP)) := by
  show rInvert.m (rP.M N) (rminus.M N) (rPower.M N) N (U a) r = _
  unfold rInvert.m
  have hP := PP_big
  have hM := PP_M.1
  rw [rP_eq, P_row, two_row, rminus_eq N (by omega) PP 2 hM (by omega), rPower_eq N hN a _ ha (by omega)]

/-! ### halves -/

theorem half_digit (a i : Nat) (_hi : i < 7) (_h : a < M256) : a / 4294967296 ^ i % 4294967296 / 2 + a / 4294967296 ^ (i + 1) % 4294967296 % 2 * 2147483648 = a / 2 / 4294967296 ^ i % 4294967296 := by
  have h1 : a / 2 / 4294967296 ^ i = a / 4294967296 ^ i / 2 := by rw [Nat.div_div_eq_div_mul, Nat.div_div_eq_div_mul, Nat.mul_comm]
  have h2 : a / 4294967296 ^ (i + 1) = a / 4294967296 ^ i / 4294967296 := by rw [Nat.pow_succ, Nat.div_div_eq_div_mul]
  rw [h1, h2]
  generalize a / 4294967296 ^ i = u
  omega

theorem rhalf_loop {R : Type} (N : Nat) (ke : Int → List Int → List Int → Option R) (a : Nat) (ha : a < M256) :
    ∀ (d i m : Nat), i + d = 8 → d < m → rhalf.L3 N ke m (i : Int) (U a) (nn (dig 4294967296 i (a / 2) ++ List.replicate d 0)) = ke 8 (U a) (U (a / 2)) := by
  intro d
  induction d with
  | zero =>
    intro i m h hm
    obtain ⟨m, rfl⟩ : ∃ k, m = k + 1 := ⟨m - 1, by omega⟩
    obtain rfl : i = 8 := by omega
    unfold rhalf.L3
    rw [decide_eq_false (by omega), cond_false]
    simp
  | succ d ih =>
    intro i m h hm
    obtain ⟨m, rfl⟩ : ∃ k, m = k + 1 := ⟨m - 1, by omega⟩
    unfold rhalf.L3
    have e0 : IntKind.i64.wrap ((i : Int) + 1) = ((i + 1 : Nat) : Int) := by rw [wrap_i64z _ (by omega) (by omega)]; omega
    have c1 : decide ((i : Int) < 8) = true := decide_eq_true (by omega)
    have c2 : decide (0 ≤ (i : Int)) = true := decide_eq_true (by omega)
    have c4 : decide (0 ≤ ((i + 1 : Nat) : Int)) = true := decide_eq_true (by omega)
    rw [e0]
    simp only [c1, c2, c4, cond_true, Int.toNat_natCast]
    have hx : a / 4294967296 ^ i % 4294967296 < 4294967296 := Nat.mod_lt _ (by decide)
    have hsh : ishr .u32 ((a / 4294967296 ^ i % 4294967296 : Nat) : Int) 1 = ((a / 4294967296 ^ i % 4294967296 / 2 : Nat) : Int) := ishr_nat .u32 _ 1 (by decide)
    rw [U_get a i (by omega), hsh]
    have s1 : ∀ v : Nat, (nn (dig 4294967296 i (a / 2) ++ List.replicate (d + 1) 0)).set i (v : Int) = nn (dig 4294967296 i (a / 2) ++ v :: List.replicate d 0) := by
      intro v
      have := app_set' (dig 4294967296 i (a / 2)) 0 (List.replicate d 0) (i := (i : Int)) (by simp [dig_length]) v
      rw [Int.toNat_natCast] at this
      rw [List.replicate_succ]; exact this
    by_cases h7 : i < 7
    · have c3 : decide ((i : Int) < 7) = true := decide_eq_true (by omega)
      have c5 : decide (((i + 1 : Nat) : Int) < 8) = true := decide_eq_true (by omega)
      simp only [c3, c5, cond_true]
      have hy : a / 4294967296 ^ (i + 1) % 4294967296 < 4294967296 := Nat.mod_lt _ (by decide)
      have e2 : ((a / 4294967296 ^ (i + 1) % 4294967296 : Nat) : Int).tmod 2 = ((a / 4294967296 ^ (i + 1) % 4294967296 % 2 : Nat) : Int) := tmodN _ 2
      have g1 : (nn (dig 4294967296 i (a / 2) ++ (a / 4294967296 ^ i % 4294967296 / 2) :: List.replicate d 0)).getD i 0 = ((a / 4294967296 ^ i % 4294967296 / 2 : Nat) : Int) := by
        have := app_getD (dig 4294967296 i (a / 2)) (a / 4294967296 ^ i % 4294967296 / 2) (List.replicate d 0) (i := (i : Int)) (by simp [dig_length])
        rw [Int.toNat_natCast] at this; exact this
      have e3 : IntKind.u32.wrap (((a / 4294967296 ^ (i + 1) % 4294967296 % 2 : Nat) : Int) * 2147483648) = ((a / 4294967296 ^ (i + 1) % 4294967296 % 2 * 2147483648 : Nat) : Int) := by
        rw [show ((a / 4294967296 ^ (i + 1) % 4294967296 % 2 : Nat) : Int) * 2147483648 = ((a / 4294967296 ^ (i + 1) % 4294967296 % 2 * 2147483648 : Nat) : Int) by simp, wrap_u32]; omega
      have e4 : IntKind.u32.wrap (((a / 4294967296 ^ i % 4294967296 / 2 : Nat) : Int) + ((a / 4294967296 ^ (i + 1) % 4294967296 % 2 * 2147483648 : Nat) : Int)) = ((a / 2 / 4294967296 ^ i % 4294967296 : Nat) : Int) := by
        rw [← half_digit a i h7 ha, show ((a / 4294967296 ^ i % 4294967296 / 2 : Nat) : Int) + ((a / 4294967296 ^ (i + 1) % 4294967296 % 2 * 2147483648 : Nat) : Int) = ((a / 4294967296 ^ i % 4294967296 / 2 + a / 4294967296 ^ (i + 1) % 4294967296 % 2 * 2147483648 : Nat) : Int) by simp, wrap_u32]
        omega
      have s2 : (nn (dig 4294967296 i (a / 2) ++ (a / 4294967296 ^ i % 4294967296 / 2) :: List.replicate d 0)).set i ((a / 2 / 4294967296 ^ i % 4294967296 : Nat) : Int) = nn (dig 4294967296 (i + 1) (a / 2) ++ List.replicate d 0) := by
        have := app_set (dig 4294967296 i (a / 2)) (a / 4294967296 ^ i % 4294967296 / 2) (List.replicate d 0) (i := (i : Int)) (by simp [dig_length]) (a / 2 / 4294967296 ^ i % 4294967296)
        rw [Int.toNat_natCast] at this
        rw [this, ← dig_snoc]
      rw [U_get a (i + 1) (by omega), s1, g1, e2, e3, e4, s2, ih (i + 1) m (by omega) (by omega)]
    · obtain rfl : i = 7 := by omega
      have c3 : decide (((7 : Nat) : Int) < 7) = false := by decide
      rw [c3, cond_false, s1]
      have hv : a / 4294967296 ^ 7 < 4294967296 := by
        apply Nat.div_lt_of_lt_mul
        rw [← Nat.pow_succ, M256_eq]; exact ha
      have e5 : a / 4294967296 ^ 7 % 4294967296 / 2 = a / 2 / 4294967296 ^ 7 % 4294967296 := by
        have h1 : a / 2 / 4294967296 ^ 7 = a / 4294967296 ^ 7 / 2 := by rw [Nat.div_div_eq_div_mul, Nat.div_div_eq_div_mul, Nat.mul_comm]
        rw [h1]; omega
      have e6 : dig 4294967296 7 (a / 2) ++ (a / 4294967296 ^ 7 % 4294967296 / 2) :: List.replicate d 0 = dig 4294967296 8 (a / 2) ++ List.replicate d 0 := by
        rw [e5, show dig 4294967296 8 (a / 2) = _ from dig_snoc 4294967296 7 (a / 2)]; simp
      rw [e6, ih 8 m (by omega) (by omega)]

theorem rhalf_eq {R : Type} (N : Nat) (hN : 100 < N) (a : Nat) (ha : a < M256) (r : List Int → Option R) : rhalf.M N R (U a) r = r (U (a / 2)) := by
  show rhalf.m N (U a) r = _
  unfold rhalf.m
  rw [zeros8]
  exact rhalf_loop N (fun _ _ h => r h) a ha 8 0 N rfl (by omega)

/-! ### bytes -/

theorem rread_loop {R : Type} (N : Nat) (ke : Int → List Int → List Int → Option R) (B : Nat) :
    ∀ (d i m : Nat), i + d = 32 → d < m → rRead.L3 N ke m (i : Int) (nn (dig 256 32 B)) (U (B % 256 ^ i)) = ke 32 (nn (dig 256 32 B)) (U (B % 256 ^ 32)) := by
  intro d
  induction d with
  | zero =>
    intro i m h hm
    obtain ⟨m, rfl⟩ : ∃ k, m = k + 1 := ⟨m - 1, by omega⟩
    obtain rfl : i = 32 := by omega
    unfold rRead.L3
    rw [decide_eq_false (by omega), cond_false]
    rfl
  | succ d ih =>
    intro i m h hm
    obtain ⟨m, rfl⟩ : ∃ k, m = k + 1 := ⟨m - 1, by omega⟩
    unfold rRead.L3
    have e1 : (i : Int).tdiv 4 = ((i / 4 : Nat) : Int) := tdivN i 4
    have e2 : (i : Int).tmod 4 = ((i % 4 : Nat) : Int) := tmodN i 4
    have e3 : IntKind.u64.wrap (IntKind.i64.wrap (8 * ((i % 4 : Nat) : Int))) = ((8 * (i % 4) : Nat) : Int) := by
      rw [wrap_i64z _ (by omega) (by omega), wrap_u64z _ (by omega) (by omega)]; simp
    rw [e1, e2, e3, wrap_i64z ((i / 4 : Nat) : Int) (by omega) (by omega)]
    have c0 : decide ((i : Int) < 32) = true := decide_eq_true (by omega)
    have c1 : decide (0 ≤ ((i / 4 : Nat) : Int)) = true := decide_eq_true (by omega)
    have c2 : decide (((i / 4 : Nat) : Int) < 8) = true := decide_eq_true (by omega)
    have c3 : decide (0 ≤ (i : Int)) = true := decide_eq_true (by omega)
    simp only [c0, c1, c2, c3, cond_true, Int.toNat_natCast]
    rw [nn_getD (dig 256 32 B), dig_getD 32 B i (by omega), U_get _ _ (by omega)]
    have hb : B / 256 ^ i % 256 < 256 := Nat.mod_lt _ (by decide)
    have h4 : i % 4 < 4 := Nat.mod_lt _ (by decide)
    obtain ⟨d1, d2⟩ := dig_put 256 4 8 (B % 256 ^ i) i (B / 256 ^ i % 256) (by decide) (by decide) (Nat.mod_lt _ (Nat.pow_pos (by decide))) hb
    rw [show (256 : Nat) ^ 4 = 4294967296 from rfl] at d1 d2
    generalize hx : B % 256 ^ i / 4294967296 ^ (i / 4) % 4294967296 = x at d1 d2
    generalize hy : B / 256 ^ i % 256 = y at d1 hb
    have hp : (256 : Nat) ^ (i % 4) ≤ 256 ^ 3 := Nat.pow_le_pow_right (by decide) (by omega)
    have hyp : y * 256 ^ (i % 4) ≤ 255 * 256 ^ 3 := Nat.mul_le_mul (by omega) hp
    have e4 : ishl .u32 (IntKind.u32.wrap (y : Int)) ((8 * (i % 4) : Nat) : Int) = ((y * 256 ^ (i % 4) : Nat) : Int) := by
      rw [wrap_u32, Nat.mod_eq_of_lt (show y < 4294967296 by omega)]
      unfold ishl
      rw [Int.toNat_natCast, Nat.min_eq_left (by simp only [IntKind.bits]; omega)]
      have : (y : Int) * 2 ^ (8 * (i % 4)) = ((y * 256 ^ (i % 4) : Nat) : Int) := by
        rw [show (256 : Nat) ^ (i % 4) = 2 ^ (8 * (i % 4)) by rw [Nat.pow_mul]]
        simp
      rw [this, wrap_u32, Nat.mod_eq_of_lt (by omega)]
    have hxl : x + y * 256 ^ (i % 4) < 4294967296 := by
      have h1 : (y + 1) * 256 ^ (i % 4) ≤ 256 * 256 ^ (i % 4) := Nat.mul_le_mul_right _ hb
      have h2 : 256 ^ (i % 4 + 1) ≤ 256 ^ 4 := Nat.pow_le_pow_right (by decide) (by omega)
      rw [Nat.pow_succ, Nat.mul_comm] at h2
      rw [Nat.add_mul, Nat.one_mul] at h1
      have h3 : (256 : Nat) ^ 4 = 4294967296 := rfl
      omega
    have e5 : IntKind.u32.wrap ((x : Int) + ((y * 256 ^ (i % 4) : Nat) : Int)) = ((x + y * 256 ^ (i % 4) : Nat) : Int) := by
      rw [show (x : Int) + ((y * 256 ^ (i % 4) : Nat) : Int) = ((x + y * 256 ^ (i % 4) : Nat) : Int) by simp, wrap_u32, Nat.mod_eq_of_lt hxl]
    have hs : (U (B % 256 ^ i)).set (i / 4) ((x + y * 256 ^ (i % 4) : Nat) : Int) = U (B % 256 ^ (i + 1)) := by
      show (nn (dig 4294967296 8 (B % 256 ^ i))).set (i / 4) _ = _
      rw [nn_set, ← d1, mod_put, hy]
    rw [e4, e5, hs, wrap_i64z _ (by omega) (by omega), show ((i : Int) + 1) = ((i + 1 : Nat) : Int) by omega, ih (i + 1) m (by omega) (by omega)]

theorem rRead_eq {R : Type} (N : Nat) (hN : 100 < N) (B : Nat) (hB : B < M256) (r : List Int → Option R) : rRead.M N R (nn (dig 256 32 B)) r = r (U B) := by
  show rRead.m N _ r = _
  unfold rRead.m
  rw [zeros8']
  have h := rread_loop (R := R) N (fun _ _ h => r h) B 32 0 N rfl (by omega)
  rw [show B % 256 ^ 0 = 0 by simp [Nat.mod_one], show (256 : Nat) ^ 32 = M256 by decide +kernel, Nat.mod_eq_of_lt hB] at h
  exact h

theorem T_M : 57896044618658097711785492504343953926634992332820282019728792003956564819968 * 2 = M256 := by decide +kernel

theorem rbytes_loop {R : Type} (N : Nat) (ke : Int → List Int → List Int → Option R) (v : Nat) :
    ∀ (d i m : Nat), i + d = 32 → d < m → rBytes.L3 N ke m (i : Int) (U v) (nn (dig 256 i v ++ List.replicate d 0)) = ke 32 (U v) (nn (dig 256 32 v)) := by
  intro d
  induction d with
  | zero =>
    intro i m h hm
    obtain ⟨m, rfl⟩ : ∃ k, m = k + 1 := ⟨m - 1, by omega⟩
    obtain rfl : i = 32 := by omega
    unfold rBytes.L3
    rw [decide_eq_false (by omega), cond_false]
    simp
  | succ d ih =>
    intro i m h hm
    obtain ⟨m, rfl⟩ : ∃ k, m = k + 1 := ⟨m - 1, by omega⟩
    unfold rBytes.L3
    have e1 : (i : Int).tdiv 4 = ((i / 4 : Nat) : Int) := tdivN i 4
    have e2 : (i : Int).tmod 4 = ((i % 4 : Nat) : Int) := tmodN i 4
    have e3 : IntKind.u64.wrap (IntKind.i64.wrap (8 * ((i % 4 : Nat) : Int))) = ((8 * (i % 4) : Nat) : Int) := by
      rw [wrap_i64z _ (by omega) (by omega), wrap_u64z _ (by omega) (by omega)]; simp
    rw [e1, e2, e3, wrap_i64z ((i / 4 : Nat) : Int) (by omega) (by omega)]
    have c0 : decide ((i : Int) < 32) = true := decide_eq_true (by omega)
    have c1 : decide (0 ≤ ((i / 4 : Nat) : Int)) = true := decide_eq_true (by omega)
    have c2 : decide (((i / 4 : Nat) : Int) < 8) = true := decide_eq_true (by omega)
    have c4 : decide (0 ≤ (i : Int)) = true := decide_eq_true (by omega)
    simp only [c0, c1, c2, c4, cond_true]
    rw [Int.toNat_natCast (i / 4), U_get v _ (by omega)]
    have e5 : ishr .u32 ((v / 4294967296 ^ (i / 4) % 4294967296 : Nat) : Int) ((8 * (i % 4) : Nat) : Int) = ((v / 4294967296 ^ (i / 4) % 4294967296 / 256 ^ (i % 4) : Nat) : Int) := by
      have := ishr_nat .u32 (v / 4294967296 ^ (i / 4) % 4294967296) (8 * (i % 4)) (by simp only [IntKind.bits]; omega)
      rw [Nat.pow_mul] at this
      exact this
    have e4 := sub_digit v (i / 4) (i % 4) 256 4 (Nat.mod_lt _ (by decide))
    rw [show (256 : Nat) ^ 4 = 4294967296 from rfl, Nat.div_add_mod] at e4
    rw [e5, wrap_u8, e4, replicate_set (d + 1) _ (dig 256 i v) (by simp [dig_length]) (by omega), ← dig_snoc, Nat.add_sub_cancel]
    rw [wrap_i64z _ (by omega) (by omega), show ((i : Int) + 1) = ((i + 1 : Nat) : Int) by omega, ih (i + 1) m (by omega) (by omega)]

theorem rBytes_eq {R : Type} (N : Nat) (hN : 100 < N) (v : Nat) (r : List Int → Option R) : rBytes.M N R (U v) r = r (nn (dig 256 32 v)) := by
  show rBytes.m N (U v) r = _
  unfold rBytes.m
  exact rbytes_loop N (fun _ _ h => r h) v 32 0 N rfl (by omega)

end Go.Proofs.YtjaappocnonkbaaDoor.fn
