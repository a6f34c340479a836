/- What the scalars' sums and products come to. -/
import Derived.Test.YtganankiiipkgaaMScalarB
namespace Go.Proofs.Ytganankiiipkgaa.fn
open Go Go.Proofs Go.Ev Go.Dg

theorem sAdd_loop {R : Type} (N : Nat) (ke : Int → Int → List Int → List Int → Option R) :
    ∀ (xs ys pre pre' : List Nat) (o m : Nat), xs.length = ys.length → pre.length = pre'.length → pre.length + xs.length = 8 → xs.length < m → o ≤ 1 → (∀ x ∈ xs, x < 4294967296) → (∀ y ∈ ys, y < 4294967296) →
      sAdd.L4 (smod.M N) (sleast.M N) (sbytes.M N) N ke m (o : Int) (pre.length : Int) (nn (pre ++ xs)) (nn (pre' ++ ys)) = ke ((car 4294967296 o (addL xs ys)).2 : Int) 8 (nn (pre ++ (car 4294967296 o (addL xs ys)).1)) (nn (pre' ++ ys)) := by
  intro xs
  induction xs with
  | nil =>
    intro ys pre pre' o m h1 h3 h5 hm _ _ _
    obtain ⟨m, rfl⟩ : ∃ k, m = k + 1 := ⟨m - 1, by simp at hm; omega⟩
    have hp : (pre.length : Int) = 8 := by simp at h5; omega
    have hr : ys = [] := by simpa using h1.symm
    unfold sAdd.L4
    rw [hp, hr, decide_eq_false (by omega), cond_false]
    rfl
  | cons x xs ih =>
    intro ys pre pre' o m h1 h3 h5 hm ho hx hy
    obtain ⟨m, rfl⟩ : ∃ k, m = k + 1 := ⟨m - 1, by simp at hm; omega⟩
    cases ys with
    | nil => simp at h1
    | cons y ys =>
      have hx0 := hx x (by simp)
      have hy0 := hy y (by simp)
      simp only [List.length_cons] at h1 h5 hm
      unfold sAdd.L4
      have c1 : decide ((pre.length : Int) < 8) = true := decide_eq_true (by omega)
      have c2 : decide (0 ≤ (pre.length : Int)) = true := decide_eq_true (by omega)
      simp only [c1, c2, cond_true]
      rw [app_getD pre x xs rfl, app_getD pre' y ys (by omega)]
      have e1 : IntKind.u64.wrap ((o : Int) + IntKind.u64.wrap ((x : Int) + y)) = ((x + y + o : Nat) : Int) := by
        rw [wrap_u64z ((x : Int) + y) (by omega) (by omega), wrap_u64z _ (by omega) (by omega)]; omega
      rw [e1]
      have e2 : ishr .u64 ((x + y + o : Nat) : Int) 32 = (((x + y + o) / 4294967296 : Nat) : Int) := ishr_nat .u64 _ 32 (by decide)
      have e3 : iand .u64 ((x + y + o : Nat) : Int) 4294967295 = (((x + y + o) % 4294967296 : Nat) : Int) := iand_mask _ 32 (by omega) (by omega)
      have e5 : IntKind.i64.wrap ((pre.length : Int) + 1) = ((pre ++ [(x + y + o) % 4294967296]).length : Int) := by rw [wrap_i64z _ (by omega) (by omega)]; simp
      rw [e2, e3, e5, app_set pre x xs rfl, app_next pre' y ys, ih ys _ _ _ m (by omega) (by simp; omega) (by simp; omega) (by omega) (by omega) (fun z hz => hx z (by simp [hz])) (fun z hz => hy z (by simp [hz]))]
      simp [addL, car]

theorem sAdd_eq {R : Type} (N : Nat) (hN : 1000 < N) (A B : Nat) (hA : A < 256 ^ 32) (hB : B < 256 ^ 32) (r : List Int → Option R) :
    sAdd.M N R (nn (dig 256 32 A)) (nn (dig 256 32 B)) r = r (nn (dig 256 32 ((A + B) % l))) := by
  show sAdd.m (smod.M N) (sleast.M N) (sbytes.M N) N _ _ r = _
  unfold sAdd.m
  rw [cut_all 32 _ (dig_length _ _ _), cut_all 32 _ (dig_length _ _ _), smod_eq N hN none 32 A (by omega) hA, smod_eq N hN none 32 B (by omega) hB]
  have h := sAdd_loop N (fun _ _ h1 _ => sleast.M N R h1 fun v => sbytes.M N R v fun v => r v) (dig 4294967296 8 (A % l)) (dig 4294967296 8 (B % l)) [] [] 0 N (by simp [dig_length]) rfl (by simp [dig_length]) (by simp [dig_length]; omega) (by omega)
    (dig_lt (by decide) 8 _) (dig_lt (by decide) 8 _)
  simp only [List.nil_append, List.length_nil] at h
  rw [show ((0 : Nat) : Int) = 0 from rfl] at h
  have hAl := Nat.mod_lt A l_pos
  have hBl := Nat.mod_lt B l_pos
  rw [h, car_dig (by decide), vl_addL _ _ _ (by simp [dig_length]), addL_length _ _ (by simp [dig_length]), dig_length, vl_dig, vl_dig, Nat.mod_eq_of_lt (Nat.lt_trans hAl l_lt), Nat.mod_eq_of_lt (Nat.lt_trans hBl l_lt)]
  simp only [Nat.add_zero]
  rw [sleast_eq N (by omega) _ (by omega), sbytes_eq N (by omega), ← Nat.add_mod]

/-- A row of the product. -/
theorem mul_loop {R : Type} (N : Nat) (ke : Int → Int → Int → List Int → Int → List Int → Int → List Int → List Int → Option R) (i c : Nat) (hi : i < 32) (hc : c < 256) (t11 : List Int) (t12 : Int) (h0 : List Int) :
    ∀ (ps ys pre pre' post : List Nat) (o m : Nat), ps.length = ys.length → pre.length = i + pre'.length → pre'.length + ys.length = 32 → pre.length + ps.length + post.length = 64 → ys.length < m → o < 256 → (∀ x ∈ ps, x < 256) → (∀ y ∈ ys, y < 256) →
      sTimes.L7 (Reduce.M N) N ke m (i : Int) (c : Int) (o : Int) t11 t12 (nn (pre' ++ ys)) (pre'.length : Int) h0 (nn (pre ++ (ps ++ post))) =
        ke (i : Int) (c : Int) ((car 256 o (mulL c ps ys)).2 : Int) t11 t12 (nn (pre' ++ ys)) 32 h0 (nn (pre ++ ((car 256 o (mulL c ps ys)).1 ++ post))) := by
  intro ps
  induction ps with
  | nil =>
    intro ys pre pre' post o m h1 h3 h4 h5 hm _ _ _
    obtain ⟨m, rfl⟩ : ∃ k, m = k + 1 := ⟨m - 1, by omega⟩
    have hr : ys = [] := by simpa using h1.symm
    subst hr
    have hp : (pre'.length : Int) = 32 := by simp at h4; omega
    unfold sTimes.L7
    rw [hp, decide_eq_false (by omega), cond_false]
    rfl
  | cons p ps ih =>
    intro ys pre pre' post o m h1 h3 h4 h5 hm ho hx hy
    obtain ⟨m, rfl⟩ : ∃ k, m = k + 1 := ⟨m - 1, by omega⟩
    cases ys with
    | nil => simp at h1
    | cons y ys =>
      have hp0 := hx p (by simp)
      have hy0 := hy y (by simp)
      simp only [List.length_cons] at h1 h4 h5 hm
      unfold sTimes.L7
      have e0 : IntKind.i64.wrap ((i : Int) + (pre'.length : Int)) = (pre.length : Int) := by rw [wrap_i64z _ (by omega) (by omega)]; omega
      rw [e0]
      have c1 : decide ((pre'.length : Int) < 32) = true := decide_eq_true (by omega)
      have c2 : decide (0 ≤ (pre'.length : Int)) = true := decide_eq_true (by omega)
      have c3 : decide ((pre.length : Int) < 64) = true := decide_eq_true (by omega)
      have c4 : decide (0 ≤ (pre.length : Int)) = true := decide_eq_true (by omega)
      simp only [c1, c2, c3, c4, cond_true]
      rw [show pre ++ (p :: ps ++ post) = pre ++ p :: (ps ++ post) by simp, app_getD pre p (ps ++ post) rfl, app_getD pre' y ys rfl]
      have hcy : c * y < 65536 := by
        have : c * y ≤ 255 * 255 := Nat.mul_le_mul (by omega) (by omega)
        omega
      have e1 : IntKind.u64.wrap ((o : Int) + IntKind.u64.wrap (IntKind.u64.wrap (p : Int) + IntKind.u64.wrap (IntKind.u64.wrap (c : Int) * IntKind.u64.wrap (y : Int)))) = ((p + c * y + o : Nat) : Int) := by
        rw [wrap_u64 p (by omega), wrap_u64 c (by omega), wrap_u64 y (by omega), show (c : Int) * (y : Int) = ((c * y : Nat) : Int) by simp, wrap_u64 _ (by omega), wrap_u64z ((p : Int) + ((c * y : Nat) : Int)) (by omega) (by omega), wrap_u64z _ (by omega) (by omega)]
        omega
      rw [e1]
      have e2 : ishr .u64 ((p + c * y + o : Nat) : Int) 8 = (((p + c * y + o) / 256 : Nat) : Int) := ishr_nat .u64 _ 8 (by decide)
      have hd : (p + c * y + o) / 256 < 256 := by
        have : c * y ≤ 255 * 255 := Nat.mul_le_mul (by omega) (by omega)
        omega
      have e5 : IntKind.i64.wrap ((pre'.length : Int) + 1) = ((pre' ++ [y]).length : Int) := by rw [wrap_i64z _ (by omega) (by omega)]; simp
      rw [e2, wrap_u8, e5, app_set pre p (ps ++ post) rfl, app_next pre' y ys, ih ys _ _ post _ m (by omega) (by simp; omega) (by simp; omega) (by simp; omega) (by omega) hd (fun z hz => hx z (by simp [hz])) (fun z hz => hy z (by simp [hz]))]
      simp [mulL, car]

theorem parts {B : Nat} (hB : 0 < B) (i n d P q : Nat) (h : P + B ^ i * q < B ^ (i + n + 1)) :
    dig B i P ++ dig B n (P / B ^ i + q) ++ [(P / B ^ i + q) / B ^ n % B] ++ List.replicate d 0 = dig B (i + (n + (1 + d))) (P + B ^ i * q) := by
  rw [dig_append, dig_append, dig_append, Nat.add_mul_div_left _ _ (Nat.pow_pos hB)]
  have e4 : dig B i (P + B ^ i * q) = dig B i P := by rw [← dig_mod i (P + _), Nat.add_mul_mod_self_left, dig_mod]
  have e5 : (P / B ^ i + q) / B ^ n / B ^ 1 = 0 := by
    rw [← Nat.add_mul_div_left _ _ (Nat.pow_pos hB), Nat.div_div_eq_div_mul, Nat.div_div_eq_div_mul, ← Nat.pow_add, ← Nat.pow_add]
    exact Nat.div_eq_of_lt h
  rw [e4, e5, dig_zero, show dig B 1 ((P / B ^ i + q) / B ^ n) = [(P / B ^ i + q) / B ^ n % B] from rfl]
  simp only [List.append_assoc]

theorem mul_rows {R : Type} (N : Nat) (hN : 100 < N) (ke : List Int → Int → List Int → List Int → Option R) (A B : Nat) (hB : B < 256 ^ 32) :
    ∀ (d i m : Nat), i + d = 32 → d < m → sTimes.L3 (Reduce.M N) N ke m (nn (dig 256 32 A)) (i : Int) (nn (dig 256 32 B)) (nn (dig 256 64 (A % 256 ^ i * B))) = ke (nn (dig 256 32 A)) 32 (nn (dig 256 32 B)) (nn (dig 256 64 (A % 256 ^ 32 * B))) := by
  intro d
  induction d with
  | zero =>
    intro i m h hm
    obtain ⟨m, rfl⟩ : ∃ k, m = k + 1 := ⟨m - 1, by omega⟩
    obtain rfl : i = 32 := by omega
    unfold sTimes.L3
    rw [decide_eq_false (by omega), cond_false]
    rfl
  | succ d ih =>
    intro i m h hm
    obtain ⟨m, rfl⟩ : ∃ k, m = k + 1 := ⟨m - 1, by omega⟩
    unfold sTimes.L3
    have c1 : decide ((i : Int) < 32) = true := decide_eq_true (by omega)
    have c2 : decide (0 ≤ (i : Int)) = true := decide_eq_true (by omega)
    simp only [c1, c2, cond_true]
    rw [Int.toNat_natCast, nn_getD, dig_getD 32 A i (by omega)]
    -- the product so far, in three parts
    generalize hP : A % 256 ^ i * B = P
    generalize hc : A / 256 ^ i % 256 = c
    have hc256 : c < 256 := by rw [← hc]; exact Nat.mod_lt _ (by decide)
    have hPlt : P < 256 ^ (i + 32) := by
      rw [← hP, Nat.pow_add]
      exact Nat.mul_lt_mul'' (Nat.mod_lt _ (Nat.pow_pos (by decide))) hB
    have e1 : dig 256 64 P = dig 256 i P ++ (dig 256 32 (P / 256 ^ i) ++ (0 :: List.replicate d 0)) := by
      have e0 : dig 256 64 P = dig 256 (i + (32 + (d + 1))) P := by congr 1; omega
      rw [e0, dig_append, dig_append]
      have : P / 256 ^ i / 256 ^ 32 = 0 := by
        rw [Nat.div_div_eq_div_mul, ← Nat.pow_add]; exact Nat.div_eq_of_lt hPlt
      rw [this, dig_zero, List.replicate_succ]
    have h1 := mul_loop (R := R) N (fun i6 _ over8 t11 t12 _ _ h0 h2 => bif decide (0 ≤ IntKind.i64.wrap (i6 + 32)) then
        bif decide (IntKind.i64.wrap (i6 + 32) < 64) then sTimes.L3 (Reduce.M N) N ke m t11 (IntKind.i64.wrap (t12 + 1)) h0 (h2.set (IntKind.i64.wrap (i6 + 32)).toNat (IntKind.u8.wrap over8)) else none else none)
      i c (by omega) hc256 (nn (dig 256 32 A)) (i : Int) (nn (dig 256 32 B)) (dig 256 32 (P / 256 ^ i)) (dig 256 32 B) (dig 256 i P) [] (0 :: List.replicate d 0) 0 N (by simp [dig_length]) (by simp [dig_length]) (by simp [dig_length])
      (by simp [dig_length]; omega) (by simp [dig_length]; omega) (by omega) (dig_lt (by decide) _ _) (dig_lt (by decide) _ _)
    simp only [List.nil_append, List.length_nil] at h1
    rw [e1]
    refine Eq.trans h1 ?_
    have hPi : P / 256 ^ i < 256 ^ 32 := by
      apply Nat.div_lt_of_lt_mul
      rw [← Nat.pow_add]; exact hPlt
    have e2 : IntKind.i64.wrap ((i : Int) + 32) = ((i + 32 : Nat) : Int) := by rw [wrap_i64z _ (by omega) (by omega)]; omega
    rw [e2, car_dig (by decide), vl_mulL _ _ _ _ (by simp [dig_length]), mulL_length _ _ _ (by simp [dig_length]), dig_length, vl_dig, vl_dig, Nat.mod_eq_of_lt hB, Nat.mod_eq_of_lt hPi]
    have c3 : decide (0 ≤ ((i + 32 : Nat) : Int)) = true := decide_eq_true (by omega)
    have c4 : decide (((i + 32 : Nat) : Int) < 64) = true := decide_eq_true (by omega)
    simp only [c3, c4, cond_true, Nat.add_zero]
    rw [wrap_u8, ← List.append_assoc, app_set (dig 256 i P ++ dig 256 32 (P / 256 ^ i + c * B)) 0 (List.replicate d 0) (by simp [dig_length])]
    rw [wrap_i64z _ (by omega) (by omega), show ((i : Int) + 1) = ((i + 1 : Nat) : Int) by omega]
    have eA : A % 256 ^ (i + 1) * B = P + 256 ^ i * (c * B) := by
      rw [← hP, ← hc, Nat.pow_succ, Nat.mod_mul, Nat.add_mul, Nat.mul_assoc]
    have hlt : P + 256 ^ i * (c * B) < 256 ^ (i + 32 + 1) := by
      rw [← eA, show i + 32 + 1 = (i + 1) + 32 by omega, Nat.pow_add _ (i + 1)]
      exact Nat.mul_lt_mul'' (Nat.mod_lt _ (Nat.pow_pos (by decide))) hB
    have e3 := parts (B := 256) (by decide) i 32 d P (c * B) hlt
    rw [show i + (32 + (1 + d)) = 64 by omega, ← eA] at e3
    rw [e3, ih (i + 1) m (by omega) (by omega)]

theorem zeros64 : ([0, 0, 0, 0, 0, 0, 0, 0, 0, 0, 0, 0, 0, 0, 0, 0, 0, 0, 0, 0, 0, 0, 0, 0, 0, 0, 0, 0, 0, 0, 0, 0, 0, 0, 0, 0, 0, 0, 0, 0, 0, 0, 0, 0, 0, 0, 0, 0, 0, 0, 0, 0, 0, 0, 0, 0, 0, 0, 0, 0, 0, 0, 0, 0] : List Int) = nn (dig 256 64 0) := by decide +kernel

theorem sTimes_eq {R : Type} (N : Nat) (hN : 1000 < N) (A B : Nat) (hA : A < 256 ^ 32) (hB : B < 256 ^ 32) (r : List Int → Option R) :
    sTimes.M N R (nn (dig 256 32 A)) (nn (dig 256 32 B)) r = r (nn (dig 256 32 (A * B % l))) := by
  show sTimes.m (Reduce.M N) N _ _ r = _
  unfold sTimes.m
  rw [zeros64]
  have h := mul_rows N (by omega) (fun _ _ _ h2 => Reduce.M N R h2 fun v => r v) A B hB 32 0 N rfl (by omega)
  rw [show A % 256 ^ 0 * B = 0 by simp [Nat.mod_one], show ((0 : Nat) : Int) = 0 from rfl, Nat.mod_eq_of_lt hA] at h
  rw [h]
  rw [Reduce_eq N hN _ (by rw [show 64 = 32 + 32 from rfl, Nat.pow_add]; exact Nat.mul_lt_mul'' hA hB)]

theorem sNegate_eq {R : Type} (N : Nat) (hN : 1000 < N) (A : Nat) (hA : A < 256 ^ 32) (r : List Int → Option R) : sNegate.M N R (nn (dig 256 32 A)) r = r (nn (dig 256 32 (A * (l - 1) % l))) := by
  show sNegate.m (smodulus.M N) (sbytes.M N) (sTimes.M N) N _ r = _
  unfold sNegate.m
  show sbytes.M N R _ _ = _
  have e : ([1559614444, 1477600026, 2734136534, 350157278, 0, 0, 0, 268435456] : List Int) = nn (dig 4294967296 8 (l - 1)) := by decide +kernel
  rw [e, sbytes_eq N (by omega), sTimes_eq N hN A (l - 1) hA (by decide +kernel)]
end Go.Proofs.Ytganankiiipkgaa.fn
