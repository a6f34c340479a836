/- What the numbers' references come to. -/
import Derived.Test.YtjaappocnonkbaaDoorFnFieldR
import Derived.Test.YtjaappocnonkbaaDoorMFieldC
namespace Go.Proofs.YtjaappocnonkbaaDoor.fn
open Go Go.Proofs Go.Ev Go.Dg

/-- A number's words. -/
abbrev U (w : Nat) : List Int := nn (dig 4294967296 8 w)
/-- 2^256 -/
def M256 : Nat := 115792089237316195423570985008687907853269984665640564039457584007913129639936
theorem M256_eq : 4294967296 ^ 8 = M256 := by decide +kernel
theorem P_row : ([4294967277, 4294967295, 4294967295, 4294967295, 4294967295, 4294967295, 4294967295, 2147483647] : List Int) = U PP := by decide +kernel
theorem PP_M : PP < M256 ∧ M256 = 38 + PP * 2 := by decide +kernel

theorem U_get (a i : Nat) (hi : i < 8) : (U a).getD i 0 = ((a / 4294967296 ^ i % 4294967296 : Nat) : Int) := by
  show (nn (dig 4294967296 8 a)).getD i 0 = _
  rw [nn_getD, dig_getD 8 a i hi]

theorem rless_loop {R : Type} (N : Nat) (r : Bool → Option R) (a b : Nat) :
    ∀ (i m : Nat), i ≤ 8 → i < m → a / 4294967296 ^ i = b / 4294967296 ^ i →
      rless.L2 N (fun i5 h0 h1 => r (decide (h0.getD i5.toNat 0 < h1.getD i5.toNat 0))) (fun _ _ _ => r false) m ((i : Int) - 1) (U a) (U b) = r (decide (a < b)) := by
  intro i
  induction i with
  | zero =>
    intro m _ hm h
    obtain ⟨m, rfl⟩ : ∃ k, m = k + 1 := ⟨m - 1, by omega⟩
    simp only [Nat.pow_zero, Nat.div_one] at h
    unfold rless.L2
    rw [decide_eq_false (by omega), cond_false, decide_eq_false (by omega)]
  | succ i ih =>
    intro m hi hm h
    obtain ⟨m, rfl⟩ : ∃ k, m = k + 1 := ⟨m - 1, by omega⟩
    unfold rless.L2
    rw [show (((i + 1 : Nat) : Int) - 1) = (i : Int) by omega]
    have c0 : decide ((i : Int) ≥ 0) = true := decide_eq_true (by omega)
    have c1 : decide (0 ≤ (i : Int)) = true := decide_eq_true (by omega)
    have c2 : decide ((i : Int) < 8) = true := decide_eq_true (by omega)
    simp only [c0, c2, cond_true, Int.toNat_natCast, U_get a i (by omega), U_get b i (by omega)]
    by_cases hd : a / 4294967296 ^ i % 4294967296 = b / 4294967296 ^ i % 4294967296
    · rw [hd, bne_self_eq_false, cond_false, wrap_i64z _ (by omega) (by omega)]
      exact ih m (by omega) (by omega) (lt_step a b 4294967296 i h hd)
    · have hne : ((((a / 4294967296 ^ i % 4294967296 : Nat) : Int)) != ((b / 4294967296 ^ i % 4294967296 : Nat) : Int)) = true := by simp only [bne_iff_ne, ne_eq]; omega
      rw [hne, cond_true]
      congr 1
      rw [Bool.eq_iff_iff, decide_eq_true_iff, decide_eq_true_iff, ← lt_digit a b 4294967296 i (by decide) h hd]
      omega

theorem rless_eq {R : Type} (N : Nat) (hN : 100 < N) (a b : Nat) (ha : a < M256) (hb : b < M256) (r : Bool → Option R) : rless.M N R (U a) (U b) r = r (decide (a < b)) := by
  show rless.m N (U a) (U b) r = _
  unfold rless.m
  exact rless_loop N r a b 8 N (by omega) (by omega) (by rw [M256_eq, Nat.div_eq_of_lt ha, Nat.div_eq_of_lt hb])

theorem minus_loop {R : Type} (N : Nat) (ke : Int → Int → List Int → List Int → List Int → Option R) :
    ∀ (xs ys pre pre' done rest : List Nat) (o m : Nat), xs.length = ys.length → rest.length = xs.length → pre.length = pre'.length → done.length = pre.length → pre.length + xs.length = 8 → xs.length < m → o ≤ 1 →
      (∀ x ∈ xs, x < 4294967296) → (∀ y ∈ ys, y < 4294967296) →
      rminus.L4 N ke m (o : Int) (pre.length : Int) (nn (pre ++ xs)) (nn (pre' ++ ys)) (nn (done ++ rest)) = ke ((bor 4294967296 o xs ys).2 : Int) 8 (nn (pre ++ xs)) (nn (pre' ++ ys)) (nn (done ++ (bor 4294967296 o xs ys).1)) := by
  intro xs
  induction xs with
  | nil =>
    intro ys pre pre' done rest o m h1 h2 h3 h4 h5 hm ho _ _
    obtain ⟨m, rfl⟩ : ∃ k, m = k + 1 := ⟨m - 1, by simp at hm; omega⟩
    have hp : (pre.length : Int) = 8 := by simp at h5; omega
    have hr : rest = [] := by simpa using h2
    have hy : ys = [] := by simpa using h1.symm
    unfold rminus.L4
    rw [hp, hr, hy, decide_eq_false (by omega), cond_false]
    rfl
  | cons x xs ih =>
    intro ys pre pre' done rest o m h1 h2 h3 h4 h5 hm ho hx hy
    obtain ⟨m, rfl⟩ : ∃ k, m = k + 1 := ⟨m - 1, by simp at hm; omega⟩
    cases ys with
    | nil => simp at h1
    | cons y ys =>
      cases rest with
      | nil => simp at h2
      | cons r rest =>
        have hx0 := hx x (by simp)
        have hy0 := hy y (by simp)
        simp only [List.length_cons] at h1 h2 h5 hm
        unfold rminus.L4
        have c1 : decide ((pre.length : Int) < 8) = true := decide_eq_true (by omega)
        have c2 : decide (0 ≤ (pre.length : Int)) = true := decide_eq_true (by omega)
        simp only [c1, c2, cond_true]
        rw [app_getD pre x xs rfl, app_getD pre' y ys (by omega)]
        have e1 : IntKind.u64.wrap (IntKind.u64.wrap (IntKind.u64.wrap (IntKind.u64.wrap (x : Int) + 4294967296) - IntKind.u64.wrap (y : Int)) - o) = ((x + 4294967296 - y - o : Nat) : Int) := by
          rw [wrap_u64 x (by omega), wrap_u64 y (by omega), wrap_u64z ((x : Int) + 4294967296) (by omega) (by omega), wrap_u64z ((x : Int) + 4294967296 - y) (by omega) (by omega), wrap_u64z _ (by omega) (by omega)]
          omega
        rw [e1]
        have e2 : ishr .u64 ((x + 4294967296 - y - o : Nat) : Int) 32 = (((x + 4294967296 - y - o) / 4294967296 : Nat) : Int) := ishr_nat .u64 _ 32 (by decide)
        have hd : (x + 4294967296 - y - o) / 4294967296 ≤ 1 := by
          have : (x + 4294967296 - y - o) / 4294967296 < 2 := Nat.div_lt_of_lt_mul (by omega)
          omega
        have e4 : IntKind.u64.wrap (1 - (((x + 4294967296 - y - o) / 4294967296 : Nat) : Int)) = ((1 - (x + 4294967296 - y - o) / 4294967296 : Nat) : Int) := by
          rw [wrap_u64z _ (by omega) (by omega)]; omega
        have e5 : IntKind.i64.wrap ((pre.length : Int) + 1) = ((pre ++ [x]).length : Int) := by rw [wrap_i64z _ (by omega) (by omega)]; simp
        rw [e2, wrap_u32, e4, e5, app_set done r rest (by omega), app_next pre x xs, app_next pre' y ys]
        rw [ih ys (pre ++ [x]) (pre' ++ [y]) (done ++ [(x + 4294967296 - y - o) % 4294967296]) rest _ m (by omega) (by omega) (by simp; omega) (by simp; omega) (by simp; omega) (by omega) (by omega)
          (fun z hz => hx z (by simp [hz])) (fun z hz => hy z (by simp [hz]))]
        simp [bor]

theorem zeros8 : ([0, 0, 0, 0, 0, 0, 0, 0] : List Int) = nn (List.replicate 8 0) := by decide
theorem zeros8' : ([0, 0, 0, 0, 0, 0, 0, 0] : List Int) = U 0 := by decide +kernel

theorem rminus_eq {R : Type} (N : Nat) (hN : 100 < N) (a b : Nat) (ha : a < M256) (hb : b ≤ a) (r : List Int → Option R) : rminus.M N R (U a) (U b) r = r (U (a - b)) := by
  show rminus.m N (U a) (U b) r = _
  unfold rminus.m
  rw [zeros8]
  have h := minus_loop (R := R) N (fun _ _ _ _ h3 => r h3) (dig 4294967296 8 a) (dig 4294967296 8 b) [] [] [] (List.replicate 8 0) 0 N (by simp [dig_length]) (by simp [dig_length]) rfl rfl
    (by simp [dig_length]) (by simp [dig_length]; omega) (by omega) (dig_lt (by decide) 8 a) (dig_lt (by decide) 8 b)
  simp only [List.nil_append, List.length_nil] at h
  refine Eq.trans h ?_
  rw [bor_dig (by decide) 8 _ _ 0 (dig_length _ _ _) (dig_length _ _ _) (dig_lt (by decide) 8 a) (dig_lt (by decide) 8 b) (by omega), vl_dig, vl_dig, M256_eq, Nat.mod_eq_of_lt ha, Nat.mod_eq_of_lt (show b < M256 by omega)]
  simp only [Nat.sub_zero]
  congr 2
  rw [← dig_mod 8 (a + M256 - b), M256_eq, show a + M256 - b = (a - b) + M256 by omega, Nat.add_mod_right, ← M256_eq, dig_mod]

theorem rP_eq {R : Type} (N : Nat) (r : Option R) : rP.M N R r = r := rfl
theorem rleast_loop {R : Type} (N : Nat) (hN : 100 < N) (ke : List Int → Bool → Option R) :
    ∀ (q m a : Nat), a < M256 → a / PP = q → q < m → rLeast.L1 (rP.M N) (rless.M N) (rminus.M N) N ke m (U a) = ke (U (a % PP)) true := by
  intro q
  induction q with
  | zero =>
    intro m a ha hq hm
    obtain ⟨m, rfl⟩ : ∃ k, m = k + 1 := ⟨m - 1, by omega⟩
    have hlt : a < PP := by
      rcases Nat.lt_or_ge a PP with g | g
      · exact g
      · have := Nat.div_pos g PP_pos; omega
    unfold rLeast.L1
    rw [rP_eq, P_row, rless_eq N hN a PP ha PP_M.1, decide_eq_true hlt, Nat.mod_eq_of_lt hlt]
    rfl
  | succ q ih =>
    intro m a ha hq hm
    obtain ⟨m, rfl⟩ : ∃ k, m = k + 1 := ⟨m - 1, by omega⟩
    have hge : PP ≤ a := by
      rcases Nat.lt_or_ge a PP with g | g
      · rw [Nat.div_eq_of_lt g] at hq; omega
      · exact g
    unfold rLeast.L1
    rw [rP_eq, P_row, rless_eq N hN a PP ha PP_M.1, decide_eq_false (by omega)]
    simp only [Bool.not_false, cond_true]
    rw [rP_eq, rminus_eq N hN a PP ha hge]
    have h1 : (a - PP) / PP = q := by
      have := Nat.sub_mul_div_of_le a PP 1 (by omega)
      rw [Nat.mul_one] at this; omega
    rw [ih m (a - PP) (by omega) h1 (by omega), (Nat.mod_eq_sub_mod hge).symm]

theorem rLeast_eq {R : Type} (N : Nat) (hN : 100 < N) (a : Nat) (ha : a < M256) (r : List Int → Option R) : rLeast.M N R (U a) r = r (U (a % PP)) := by
  show rLeast.m (rP.M N) (rless.M N) (rminus.M N) N (U a) r = _
  unfold rLeast.m
  have hM := PP_M
  have h38 : 38 < PP := by decide +kernel
  have hq : a / PP < 3 := Nat.div_lt_of_lt_mul (by omega)
  exact rleast_loop N hN (fun h0 _ => r h0) _ N a ha rfl (by omega)

/-! ### 2^256 is 38 -/

theorem fold1_loop {R : Type} (N : Nat) (ke : Int → Int → List Int → List Int → Option R) (V : Nat) :
    ∀ (d i m o : Nat) (done : List Nat), i + d = 8 → d < m → done.length = i → o < 4294967296 →
      rfold.L4 (rLeast.M N) N ke m (o : Int) (i : Int) (nn (dig 4294967296 16 V)) (nn (done ++ List.replicate d 0)) =
        ke ((car 4294967296 o (mulL 38 ((dig 4294967296 8 V).drop i) ((dig 4294967296 8 (V / 4294967296 ^ 8)).drop i))).2 : Int) 8 (nn (dig 4294967296 16 V)) (nn (done ++ (car 4294967296 o (mulL 38 ((dig 4294967296 8 V).drop i) ((dig 4294967296 8 (V / 4294967296 ^ 8)).drop i))).1)) := by
  intro d
  induction d with
  | zero =>
    intro i m o done h hm hl ho
    obtain ⟨m, rfl⟩ : ∃ k, m = k + 1 := ⟨m - 1, by omega⟩
    obtain rfl : i = 8 := by omega
    unfold rfold.L4
    rw [decide_eq_false (by omega), cond_false, List.drop_of_length_le (by simp [dig_length])]
    simp [mulL, car]
  | succ d ih =>
    intro i m o done h hm hl ho
    obtain ⟨m, rfl⟩ : ∃ k, m = k + 1 := ⟨m - 1, by omega⟩
    unfold rfold.L4
    have e0 : IntKind.i64.wrap (8 + (i : Int)) = ((8 + i : Nat) : Int) := by rw [wrap_i64z _ (by omega) (by omega)]; omega
    have c1 : decide ((i : Int) < 8) = true := decide_eq_true (by omega)
    have c2 : decide (0 ≤ (i : Int)) = true := decide_eq_true (by omega)
    have c3 : decide ((i : Int) < 16) = true := decide_eq_true (by omega)
    have c4 : decide (0 ≤ ((8 + i : Nat) : Int)) = true := decide_eq_true (by omega)
    have c5 : decide (((8 + i : Nat) : Int) < 16) = true := decide_eq_true (by omega)
    simp only [e0, c1, c2, c3, c4, c5, cond_true, Int.toNat_natCast]
    rw [nn_getD, nn_getD, dig_getD 16 V i (by omega), dig_getD 16 V (8 + i) (by omega)]
    have hx : V / 4294967296 ^ i % 4294967296 < 4294967296 := Nat.mod_lt _ (by decide)
    have hy : V / 4294967296 ^ (8 + i) % 4294967296 < 4294967296 := Nat.mod_lt _ (by decide)
    have d1 : (dig 4294967296 8 V).drop i = (V / 4294967296 ^ i % 4294967296) :: (dig 4294967296 8 V).drop (i + 1) := by
      rw [List.drop_eq_getElem_cons (by simp [dig_length]; omega)]
      congr 1
      have := dig_get (B := 4294967296) 8 V i (by omega)
      rw [List.getElem?_eq_getElem (by simp [dig_length]; omega)] at this
      exact Option.some.inj this
    have d2 : (dig 4294967296 8 (V / 4294967296 ^ 8)).drop i = (V / 4294967296 ^ (8 + i) % 4294967296) :: (dig 4294967296 8 (V / 4294967296 ^ 8)).drop (i + 1) := by
      rw [List.drop_eq_getElem_cons (by simp [dig_length]; omega)]
      congr 1
      have := dig_get (B := 4294967296) 8 (V / 4294967296 ^ 8) i (by omega)
      rw [List.getElem?_eq_getElem (by simp [dig_length]; omega), Nat.div_div_eq_div_mul, ← Nat.pow_add] at this
      exact Option.some.inj this
    generalize V / 4294967296 ^ i % 4294967296 = x at hx d1
    generalize V / 4294967296 ^ (8 + i) % 4294967296 = y at hy d2
    have e1 : IntKind.u64.wrap (IntKind.u64.wrap (IntKind.u64.wrap (x : Int) + IntKind.u64.wrap (38 * IntKind.u64.wrap (y : Int))) + (o : Int)) = ((x + 38 * y + o : Nat) : Int) := by
      rw [wrap_u64 x (by omega), wrap_u64 y (by omega), wrap_u64z (38 * (y : Int)) (by omega) (by omega), wrap_u64z ((x : Int) + 38 * y) (by omega) (by omega), wrap_u64z _ (by omega) (by omega)]
      omega
    have e2 : ishr .u64 ((x + 38 * y + o : Nat) : Int) 32 = (((x + 38 * y + o) / 4294967296 : Nat) : Int) := ishr_nat .u64 _ 32 (by decide)
    have s1 : (nn (done ++ List.replicate (d + 1) 0)).set i (((x + 38 * y + o) % 4294967296 : Nat) : Int) = nn ((done ++ [(x + 38 * y + o) % 4294967296]) ++ List.replicate d 0) := by
      have := replicate_set (d + 1) ((x + 38 * y + o) % 4294967296) done (i := (i : Int)) (by omega) (by omega)
      rw [Int.toNat_natCast, Nat.add_sub_cancel] at this
      exact this
    rw [e1, e2, wrap_u32, s1, wrap_i64z _ (by omega) (by omega), show ((i : Int) + 1) = ((i + 1 : Nat) : Int) by omega, ih (i + 1) m _ _ (by omega) (by omega) (by simp [hl]) (by omega), d1, d2]
    simp [mulL, car]

theorem fold2_loop {R : Type} (N : Nat) (ke : Int → Int → List Int → Option R) :
    ∀ (xs pre : List Nat) (o m : Nat), pre.length + xs.length = 8 → xs.length < m → o < 4611686018427387904 → (∀ x ∈ xs, x < 4294967296) →
      rfold.L12 (rLeast.M N) N ke m (o : Int) (pre.length : Int) (nn (pre ++ xs)) = ke ((car 4294967296 o xs).2 : Int) 8 (nn (pre ++ (car 4294967296 o xs).1)) := by
  intro xs
  induction xs with
  | nil =>
    intro pre o m h5 hm _ _
    obtain ⟨m, rfl⟩ : ∃ k, m = k + 1 := ⟨m - 1, by simp at hm; omega⟩
    have hp : (pre.length : Int) = 8 := by simp at h5; omega
    unfold rfold.L12
    rw [hp, decide_eq_false (by omega), cond_false]
    rfl
  | cons x xs ih =>
    intro pre o m h5 hm ho hx
    obtain ⟨m, rfl⟩ : ∃ k, m = k + 1 := ⟨m - 1, by simp at hm; omega⟩
    have hx0 := hx x (by simp)
    simp only [List.length_cons] at h5 hm
    unfold rfold.L12
    have c1 : decide ((pre.length : Int) < 8) = true := decide_eq_true (by omega)
    have c2 : decide (0 ≤ (pre.length : Int)) = true := decide_eq_true (by omega)
    simp only [c1, c2, cond_true]
    have e1 : IntKind.u64.wrap ((o : Int) + IntKind.u64.wrap (x : Int)) = ((x + o : Nat) : Int) := by rw [wrap_u64 x (by omega), wrap_u64z _ (by omega) (by omega)]; omega
    have e2 : ishr .u64 ((x + o : Nat) : Int) 32 = (((x + o) / 4294967296 : Nat) : Int) := ishr_nat .u64 _ 32 (by decide)
    have e5 : IntKind.i64.wrap ((pre.length : Int) + 1) = ((pre ++ [(x + o) % 4294967296]).length : Int) := by rw [wrap_i64z _ (by omega) (by omega)]; simp
    rw [app_getD pre x xs rfl, e1, e2, wrap_u32, e5, app_set pre x xs rfl, ih _ _ m (by simp; omega) (by omega) (by omega) (fun z hz => hx z (by simp [hz]))]
    simp [car]

theorem fold2_round {R : Type} (N : Nat) (hN : 100 < N) (ke : Int → List Int → Option R) (m u o : Nat) (hu : u < M256) (ho : 0 < o) (ho2 : o < 1000) :
    rfold.L9 (rLeast.M N) N ke (m + 1) (o : Int) (U u) = rfold.L9 (rLeast.M N) N ke m (((u + o * 38) / M256 : Nat) : Int) (U ((u + o * 38) % M256)) := by
  rw [rfold.L9, decide_eq_true (by omega), cond_true]
  have e1 : IntKind.u64.wrap ((o : Int) * 38) = ((o * 38 : Nat) : Int) := by rw [wrap_u64z _ (by omega) (by omega)]; omega
  rw [e1]
  have h := fold2_loop (R := R) N (fun x7_c18 _ h1_c20 => rfold.L9 (rLeast.M N) N ke m x7_c18 h1_c20) (dig 4294967296 8 u) [] (o * 38) N (by simp [dig_length]) (by simp [dig_length]; omega) (by omega) (dig_lt (by decide) _ _)
  simp only [List.nil_append, List.length_nil] at h
  refine Eq.trans h ?_
  rw [car_dig (by decide), dig_length, vl_dig, M256_eq, Nat.mod_eq_of_lt hu]
  simp only
  rw [← dig_mod 8 (u + o * 38), M256_eq]

theorem fold_cong (u o : Nat) (_h : u < M256) : ((u + o * 38) / M256 * 38 + (u + o * 38) % M256) % PP = (u + o * 38) % PP := by
  have hM := PP_M.2
  have h1 := Nat.mod_add_div (u + o * 38) M256
  generalize (u + o * 38) / M256 = q at h1 ⊢
  generalize (u + o * 38) % M256 = t at h1 ⊢
  have : (38 + PP * 2) * q = 38 * q + PP * (2 * q) := by rw [Nat.add_mul, Nat.mul_assoc]
  rw [← hM] at this
  have e : u + o * 38 = (q * 38 + t) + PP * (2 * q) := by omega
  rw [e, Nat.add_mul_mod_self_left]

theorem fold2_eq {R : Type} (N : Nat) (hN : 100 < N) (r : List Int → Option R) (u o : Nat) (hu : u < M256) (ho : o < 100) :
    rfold.L9 (rLeast.M N) N (fun _ h1 => rLeast.M N R h1 fun v => r v) N (o : Int) (U u) = r (U ((u + o * 38) % PP)) := by
  obtain ⟨M, rfl⟩ : ∃ M, N = M + 4 := ⟨N - 4, by omega⟩
  have fin : ∀ (m u : Nat), u < M256 → rfold.L9 (rLeast.M (M + 4)) (M + 4) (fun _ h1 => rLeast.M (M + 4) R h1 fun v => r v) (m + 1) 0 (U u) = r (U (u % PP)) := by
    intro m u hu
    rw [rfold.L9, decide_eq_false (by decide), cond_false, rLeast_eq _ hN u hu]
  have hM := PP_M
  have hM0 : 0 < M256 := by omega
  have hbig : 100000 < M256 := by decide +kernel
  rcases Nat.eq_zero_or_pos o with h0 | h0
  · subst h0
    rw [show ((0 : Nat) : Int) = 0 from rfl, fin _ u hu]; simp
  · rw [fold2_round _ hN _ _ u o hu h0 (by omega)]
    have c1 := fold_cong u o hu
    have hm1 := Nat.mod_lt (u + o * 38) hM0
    have hq1 : (u + o * 38) / M256 < 2 := Nat.div_lt_of_lt_mul (by omega)
    have hdm := Nat.mod_add_div (u + o * 38) M256
    generalize (u + o * 38) / M256 = q at c1 hq1 hdm ⊢
    generalize (u + o * 38) % M256 = t at c1 hm1 hdm ⊢
    rcases Nat.eq_zero_or_pos q with h1 | h1
    · subst h1
      rw [show ((0 : Nat) : Int) = 0 from rfl, fin _ t hm1, ← c1]; simp
    · obtain rfl : q = 1 := by omega
      have ht : t < 4000 := by omega
      rw [fold2_round _ hN _ _ t 1 hm1 (by omega) (by omega), Nat.div_eq_of_lt (by omega), Nat.mod_eq_of_lt (show t + 1 * 38 < M256 by omega), show ((0 : Nat) : Int) = 0 from rfl, fin _ _ (by omega), ← c1, Nat.add_comm t]

theorem rfold_eq {R : Type} (N : Nat) (hN : 100 < N) (V : Nat) (hV : V < M256 * M256) (r : List Int → Option R) : rfold.M N R (nn (dig 4294967296 16 V)) r = r (U (V % PP)) := by
  show rfold.m (rLeast.M N) N _ r = _
  unfold rfold.m
  rw [zeros8]
  have h := fold1_loop (R := R) N (fun over4_c15 _ _ h2_c17 => rfold.L9 (rLeast.M N) N (fun _ h1_c22 => rLeast.M N R h1_c22 fun v => r v) N over4_c15 h2_c17) V 8 0 N 0 [] rfl (by omega) rfl (by decide)
  rw [List.nil_append, List.drop_zero, List.drop_zero, car_dig (by decide), mulL_length _ _ _ (by simp [dig_length]), vl_mulL _ _ _ _ (by simp [dig_length]), dig_length, vl_dig, vl_dig, M256_eq, Nat.mod_eq_of_lt (show V / M256 < M256 from Nat.div_lt_of_lt_mul hV)] at h
  simp only [Nat.add_zero, List.nil_append] at h
  refine Eq.trans h ?_
  have hM := PP_M
  have hM0 : 0 < M256 := by omega
  have h1 := Nat.mod_lt V hM0
  have h2 : V / M256 < M256 := Nat.div_lt_of_lt_mul hV
  have hov : (V % M256 + 38 * (V / M256)) / M256 < 39 := Nat.div_lt_of_lt_mul (by omega)
  have e : nn (dig 4294967296 8 (V % M256 + 38 * (V / M256))) = U ((V % M256 + 38 * (V / M256)) % M256) := by
    show _ = nn (dig 4294967296 8 _)
    rw [← M256_eq, dig_mod]
  rw [e, fold2_eq N hN r _ _ (Nat.mod_lt _ hM0) (by omega)]
  suffices hs : ((V % M256 + 38 * (V / M256)) % M256 + (V % M256 + 38 * (V / M256)) / M256 * 38) % PP = V % PP by rw [hs]
  have hdm := Nat.mod_add_div (V % M256 + 38 * (V / M256)) M256
  have hdv := Nat.mod_add_div V M256
  generalize (V % M256 + 38 * (V / M256)) / M256 = q at hdm ⊢
  generalize (V % M256 + 38 * (V / M256)) % M256 = t at hdm ⊢
  generalize V % M256 = lo at hdm hdv
  generalize V / M256 = hi at hdm hdv
  have p1 : M256 * q = 38 * q + PP * (2 * q) := by rw [hM.2, Nat.add_mul, Nat.mul_assoc]
  have p2 : M256 * hi = 38 * hi + PP * (2 * hi) := by rw [hM.2, Nat.add_mul, Nat.mul_assoc]
  have e2 : V = (t + q * 38) + PP * (2 * q + 2 * hi) := by rw [Nat.mul_add]; omega
  rw [e2, Nat.add_mul_mod_self_left]

/-! ### sums -/

theorem radd_loop {R : Type} (N : Nat) (ke : Int → Int → List Int → List Int → List Int → Option R) (post : List Nat) :
    ∀ (xs ys pre pre' done rest : List Nat) (o m : Nat), xs.length = ys.length → rest.length = xs.length → pre.length = pre'.length → done.length = pre.length → pre.length + xs.length = 8 → post.length = 8 → xs.length < m → o ≤ 1 →
      (∀ x ∈ xs, x < 4294967296) → (∀ y ∈ ys, y < 4294967296) →
      rAdd.L4 (rfold.M N) N ke m (o : Int) (pre.length : Int) (nn (pre ++ xs)) (nn (pre' ++ ys)) (nn (done ++ (rest ++ post))) = ke ((car 4294967296 o (addL xs ys)).2 : Int) 8 (nn (pre ++ xs)) (nn (pre' ++ ys)) (nn (done ++ ((car 4294967296 o (addL xs ys)).1 ++ post))) := by
  intro xs
  induction xs with
  | nil =>
    intro ys pre pre' done rest o m h1 h2 h3 h4 h5 h6 hm ho _ _
    obtain ⟨m, rfl⟩ : ∃ k, m = k + 1 := ⟨m - 1, by simp at hm; omega⟩
    have hp : (pre.length : Int) = 8 := by simp at h5; omega
    have hr : rest = [] := by simpa using h2
    have hy : ys = [] := by simpa using h1.symm
    unfold rAdd.L4
    rw [hp, hr, hy, decide_eq_false (by omega), cond_false]
    rfl
  | cons x xs ih =>
    intro ys pre pre' done rest o m h1 h2 h3 h4 h5 h6 hm ho hx hy
    obtain ⟨m, rfl⟩ : ∃ k, m = k + 1 := ⟨m - 1, by simp at hm; omega⟩
    cases ys with
    | nil => simp at h1
    | cons y ys =>
      cases rest with
      | nil => simp at h2
      | cons r rest =>
        have hx0 := hx x (by simp)
        have hy0 := hy y (by simp)
        simp only [List.length_cons] at h1 h2 h5 hm
        unfold rAdd.L4
        have c1 : decide ((pre.length : Int) < 8) = true := decide_eq_true (by omega)
        have c2 : decide (0 ≤ (pre.length : Int)) = true := decide_eq_true (by omega)
        have c3 : decide ((pre.length : Int) < 16) = true := decide_eq_true (by omega)
        simp only [c1, c2, c3, cond_true]
        rw [app_getD pre x xs rfl, app_getD pre' y ys (by omega)]
        have e1 : IntKind.u64.wrap (IntKind.u64.wrap (IntKind.u64.wrap (x : Int) + IntKind.u64.wrap (y : Int)) + o) = ((x + y + o : Nat) : Int) := by
          rw [wrap_u64 x (by omega), wrap_u64 y (by omega), wrap_u64z ((x : Int) + y) (by omega) (by omega), wrap_u64z _ (by omega) (by omega)]
          omega
        have e2 : ishr .u64 ((x + y + o : Nat) : Int) 32 = (((x + y + o) / 4294967296 : Nat) : Int) := ishr_nat .u64 _ 32 (by decide)
        have e5 : IntKind.i64.wrap ((pre.length : Int) + 1) = ((pre ++ [x]).length : Int) := by rw [wrap_i64z _ (by omega) (by omega)]; simp
        rw [e1, e2, wrap_u32, e5, show done ++ (r :: rest ++ post) = done ++ r :: (rest ++ post) by simp, app_set done r (rest ++ post) (by omega), app_next pre x xs, app_next pre' y ys]
        rw [ih ys (pre ++ [x]) (pre' ++ [y]) (done ++ [(x + y + o) % 4294967296]) rest _ m (by omega) (by omega) (by simp; omega) (by simp; omega) (by simp; omega) h6 (by omega) (by omega)
          (fun z hz => hx z (by simp [hz])) (fun z hz => hy z (by simp [hz]))]
        simp [car, addL]

theorem rAdd_eq {R : Type} (N : Nat) (hN : 100 < N) (a b : Nat) (ha : a < M256) (hb : b < M256) (r : List Int → Option R) : rAdd.M N R (U a) (U b) r = r (U ((a + b) % PP)) := by
  show rAdd.m (rfold.M N) N (U a) (U b) r = _
  unfold rAdd.m
  have e0 : ([0, 0, 0, 0, 0, 0, 0, 0, 0, 0, 0, 0, 0, 0, 0, 0] : List Int) = nn (List.replicate 8 0 ++ List.replicate 8 0) := by decide
  rw [e0]
  have h := radd_loop (R := R) N (fun over6_c6 _ _ _ h3_c10 => rfold.M N R (h3_c10.set 8 (IntKind.u32.wrap over6_c6)) fun v => r v) (List.replicate 8 0) (dig 4294967296 8 a) (dig 4294967296 8 b) [] [] [] (List.replicate 8 0) 0 N (by simp [dig_length]) (by simp [dig_length]) rfl rfl
    (by simp [dig_length]) (by simp) (by simp [dig_length]; omega) (by omega) (dig_lt (by decide) 8 a) (dig_lt (by decide) 8 b)
  simp only [List.nil_append, List.length_nil] at h
  refine Eq.trans h ?_
  have hM := PP_M
  rw [car_dig (by decide), addL_length _ _ (by simp [dig_length]), vl_addL _ _ _ (by simp [dig_length]), dig_length, vl_dig, vl_dig, M256_eq, Nat.mod_eq_of_lt ha, Nat.mod_eq_of_lt hb]
  simp only [Nat.add_zero]
  have hov : (a + b) / M256 < 2 := Nat.div_lt_of_lt_mul (by omega)
  have e1 : (nn (dig 4294967296 8 (a + b) ++ List.replicate 8 0)).set 8 (IntKind.u32.wrap (((a + b) / M256 : Nat) : Int)) = nn (dig 4294967296 16 (a + b)) := by
    rw [wrap_u32, nn_set, List.set_append_right _ _ (by simp [dig_length]), dig_length, Nat.sub_self]
    have hd : dig 4294967296 16 (a + b) = dig 4294967296 8 (a + b) ++ (dig 4294967296 1 ((a + b) / M256) ++ dig 4294967296 7 ((a + b) / M256 / 4294967296)) := by
      have := dig_append (B := 4294967296) 8 8 (a + b)
      rw [M256_eq] at this
      rw [this, show (8 : Nat) = 1 + 7 from rfl, dig_append (B := 4294967296) 1 7]
      rfl
    have h0 : (a + b) / M256 / 4294967296 = 0 := Nat.div_eq_of_lt (by omega)
    rw [hd, h0, dig_zero]
    rfl
  rw [e1, rfold_eq N hN _ (by
    have h1 : a + b < M256 * 2 := by omega
    have h2 : M256 * 2 ≤ M256 * M256 := Nat.mul_le_mul_left _ (by omega)
    omega)]

theorem rSub_eq {R : Type} (N : Nat) (hN : 100 < N) (a b : Nat) (ha : a < M256) (hb : b < M256) (r : List Int → Option R) : rSub.M N R (U a) (U b) r = r (U ((a + (PP - b % PP)) % PP)) := by
  show rSub.m (rP.M N) (rLeast.M N) (rminus.M N) (rAdd.M N) N (U a) (U b) r = _
  unfold rSub.m
  rw [rP_eq]
  have h1 := Nat.mod_lt b PP_pos
  have hM := PP_M
  rw [rLeast_eq N hN b hb, P_row, rminus_eq N hN PP _ hM.1 (by omega), rAdd_eq N hN a _ ha (by omega)]
end Go.Proofs.YtjaappocnonkbaaDoor.fn
