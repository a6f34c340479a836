/- What the field's products come to. -/
import Derived.Test.YtjaappocnonkbaaDoorMFieldA
namespace Go.Proofs.YtjaappocnonkbaaDoor.fn
open Go Go.Proofs Go.Ev Go.Dg

theorem tm_loop {R : Type} (N : Nat) (ke : Int → Int → List Int → Int → List Int → Int → List Int → List Int → Option R) (i c : Nat) (hi : i < 10) (hc : c < 67108864) (t14 : List Int) (t15 : Int) (h0 : List Int) :
    ∀ (ps ys pre pre' post : List Nat) (m : Nat), ps.length = ys.length → pre.length = i + pre'.length → pre'.length + ys.length = 10 → pre.length + ps.length + post.length = 20 → ys.length < m → (∀ x ∈ ps, x < 1000000000000000000) → (∀ y ∈ ys, y < 67108864) →
      eTimes.L6 (carry.M N) N ke m (i : Int) (c : Int) t14 t15 (nn (pre' ++ ys)) (pre'.length : Int) h0 (nn (pre ++ (ps ++ post))) = ke (i : Int) (c : Int) t14 t15 (nn (pre' ++ ys)) 10 h0 (nn (pre ++ (mulL c ps ys ++ post))) := by
  intro ps
  induction ps with
  | nil =>
    intro ys pre pre' post m h1 h3 h4 h5 hm _ _
    obtain ⟨m, rfl⟩ : ∃ k, m = k + 1 := ⟨m - 1, by omega⟩
    have hr : ys = [] := by simpa using h1.symm
    subst hr
    have hp : (pre'.length : Int) = 10 := by simp at h4; omega
    unfold eTimes.L6
    rw [hp, decide_eq_false (by omega), cond_false]
    rfl
  | cons p ps ih =>
    intro ys pre pre' post m h1 h3 h4 h5 hm hx hy
    obtain ⟨m, rfl⟩ : ∃ k, m = k + 1 := ⟨m - 1, by omega⟩
    cases ys with
    | nil => simp at h1
    | cons y ys =>
      have hp0 := hx p (by simp)
      have hy0 := hy y (by simp)
      simp only [List.length_cons] at h1 h4 h5 hm
      unfold eTimes.L6
      have e0 : IntKind.i64.wrap ((i : Int) + (pre'.length : Int)) = (pre.length : Int) := by rw [wrap_i64z _ (by omega) (by omega)]; omega
      rw [e0]
      have c1 : decide ((pre'.length : Int) < 10) = true := decide_eq_true (by omega)
      have c2 : decide (0 ≤ (pre'.length : Int)) = true := decide_eq_true (by omega)
      have c3 : decide ((pre.length : Int) < 20) = true := decide_eq_true (by omega)
      have c4 : decide (0 ≤ (pre.length : Int)) = true := decide_eq_true (by omega)
      simp only [c1, c2, c3, c4, cond_true]
      rw [show pre ++ (p :: ps ++ post) = pre ++ p :: (ps ++ post) by simp, app_getD pre p (ps ++ post) rfl, app_getD pre' y ys rfl]
      have hcy : c * y < 4503599627370496 := Nat.mul_lt_mul'' hc hy0
      have e1 : IntKind.u64.wrap ((p : Int) + IntKind.u64.wrap ((c : Int) * (y : Int))) = ((p + c * y : Nat) : Int) := by
        rw [show (c : Int) * (y : Int) = ((c * y : Nat) : Int) by simp, wrap_u64 _ (by omega), wrap_u64z _ (by omega) (by omega)]
        omega
      have e5 : IntKind.i64.wrap ((pre'.length : Int) + 1) = ((pre' ++ [y]).length : Int) := by rw [wrap_i64z _ (by omega) (by omega)]; simp
      rw [e1, e5, app_set pre p (ps ++ post) rfl, app_next pre' y ys, ih ys _ _ post m (by omega) (by simp; omega) (by simp; omega) (by simp; omega) (by omega) (fun z hz => hx z (by simp [hz])) (fun z hz => hy z (by simp [hz]))]
      simp [mulL]

theorem mulL_lt (c M K : Nat) (hK : c < 67108864) : ∀ (xs ys : List Nat), (∀ x ∈ xs, x < M) → (∀ y ∈ ys, y < 67108864) → M + 4503599627370496 ≤ K → ∀ z ∈ mulL c xs ys, z < K
  | [], _, _, _, _, z, hz => by simp [mulL] at hz
  | x :: xs, [], _, _, _, z, hz => by simp [mulL] at hz
  | x :: xs, y :: ys, hx, hy, hM, z, hz => by
    simp only [mulL, List.mem_cons] at hz
    have h1 := hx x (by simp)
    have h2 := hy y (by simp)
    rcases hz with rfl | hz
    · have : c * y < 4503599627370496 := Nat.mul_lt_mul'' hK h2
      omega
    · exact mulL_lt c M K hK xs ys (fun w hw => hx w (by simp [hw])) (fun w hw => hy w (by simp [hw])) hM z hz

theorem tm_rows {R : Type} (N : Nat) (hN : 100 < N) (ke : List Int → Int → List Int → List Int → Option R) (A B : Nat) (hB : B < 1852673427797059126777135760139006525652319754650249024631321344126610074238976) :
    ∀ (d i m : Nat) (D : List Nat), i + d = 10 → d < m → D.length = 20 → vl 67108864 D = A % 67108864 ^ i * B → (∀ x ∈ D, x < 4503599627370496 * i + 1) →
      ∃ F : List Nat, F.length = 20 ∧ vl 67108864 F = A % 67108864 ^ 10 * B ∧ (∀ x ∈ F, x < 100000000000000000) ∧
        eTimes.L3 (carry.M N) N ke m (E A) (i : Int) (E B) (nn D) = ke (E A) 10 (E B) (nn F) := by
  intro d
  induction d with
  | zero =>
    intro i m D h hm hD hV hb
    obtain ⟨m, rfl⟩ : ∃ k, m = k + 1 := ⟨m - 1, by omega⟩
    obtain rfl : i = 10 := by omega
    refine ⟨D, hD, hV, fun x hx => by have := hb x hx; omega, ?_⟩
    unfold eTimes.L3
    rw [decide_eq_false (by omega), cond_false]
    rfl
  | succ d ih =>
    intro i m D h hm hD hV hb
    obtain ⟨m, rfl⟩ : ∃ k, m = k + 1 := ⟨m - 1, by omega⟩
    unfold eTimes.L3
    have c1 : decide ((i : Int) < 10) = true := decide_eq_true (by omega)
    have c2 : decide (0 ≤ (i : Int)) = true := decide_eq_true (by omega)
    simp only [c1, c2, cond_true]
    rw [Int.toNat_natCast, nn_getD, dig_getD 10 A i (by omega)]
    generalize hc : A / 67108864 ^ i % 67108864 = c
    have hcL : c < 67108864 := by rw [← hc]; exact Nat.mod_lt _ (by decide)
    have hpre : (D.take i).length = i := by simp; omega
    have hps : ((D.drop i).take 10).length = 10 := by simp; omega
    have hpost : ((D.drop i).drop 10).length = d + 1 := by simp; omega
    have hsplit : D = D.take i ++ ((D.drop i).take 10 ++ (D.drop i).drop 10) := by rw [List.take_append_drop, List.take_append_drop]
    have h1 := tm_loop (R := R) N (fun _ _ t14 t15 _ _ h0 h2 => eTimes.L3 (carry.M N) N ke m t14 (IntKind.i64.wrap (t15 + 1)) h0 h2) i c (by omega) hcL (E A) (i : Int) (E B)
      ((D.drop i).take 10) (dig 67108864 10 B) (D.take i) [] ((D.drop i).drop 10) N (by simp [dig_length]; omega) (by simp; omega) (by simp [dig_length]) (by omega) (by simp [dig_length]; omega)
      (fun x hx => by have := hb x (List.mem_of_mem_drop (List.mem_of_mem_take hx)); omega) (dig_lt (by decide) _ _)
    simp only [List.nil_append, List.length_nil] at h1
    rw [← hsplit] at h1
    have h1' := h1
    rw [show ((0 : Nat) : Int) = 0 from rfl] at h1'
    rw [h1', wrap_i64z _ (by omega) (by omega), show ((i : Int) + 1) = ((i + 1 : Nat) : Int) by omega]
    have hml : (mulL c ((D.drop i).take 10) (dig 67108864 10 B)).length = 10 := by rw [mulL_length _ _ _ (by simp [dig_length]; omega)]; exact hps
    refine ih (i + 1) m _ (by omega) (by omega) (by simp only [List.length_append]; omega) ?_ ?_
    · have hv := hV
      rw [hsplit, vl_append, vl_append, hpre, hps] at hv
      rw [vl_append, vl_append, hpre, hml, vl_mulL _ _ _ _ (by simp [dig_length]; omega), vl_dig, Nat.mod_eq_of_lt (show B < 67108864 ^ 10 by rw [Q260_eq]; exact hB)]
      have e2 : A % 67108864 ^ (i + 1) * B = A % 67108864 ^ i * B + 67108864 ^ i * (c * B) := by rw [← hc, Nat.pow_succ, Nat.mod_mul, Nat.add_mul, Nat.mul_assoc]
      rw [e2, ← hv]
      simp only [Nat.mul_add]
      omega
    · intro x hx
      simp only [List.mem_append] at hx
      rcases hx with hx | hx | hx
      · have := hb x (List.mem_of_mem_take hx); omega
      · exact mulL_lt c (4503599627370496 * i + 1) _ hcL _ _ (fun z hz => hb z (List.mem_of_mem_drop (List.mem_of_mem_take hz))) (dig_lt (by decide) _ _) (by omega) x hx
      · have := hb x (List.mem_of_mem_drop (List.mem_of_mem_drop hx)); omega

/-- What digits have too much goes on. -/
theorem tm_next {R : Type} (N : Nat) (ke : Int → List Int → Option R) :
    ∀ (xs : List Nat) (x : Nat) (pre : List Nat) (m : Nat), pre.length + xs.length = 19 → xs.length < m → x < 1000000000000000000 → (∀ z ∈ xs, z < 100000000000000000) →
      eTimes.L12 (carry.M N) N ke m (pre.length : Int) (nn (pre ++ x :: xs)) = ke 19 (nn (pre ++ cnx 67108864 (x :: xs))) := by
  intro xs
  induction xs with
  | nil =>
    intro x pre m h5 hm _ _
    obtain ⟨m, rfl⟩ : ∃ k, m = k + 1 := ⟨m - 1, by simp at hm; omega⟩
    have hp : (pre.length : Int) = 19 := by simp at h5; omega
    unfold eTimes.L12
    rw [hp, decide_eq_false (by omega), cond_false, cnx_one]
  | cons y ys ih =>
    intro x pre m h5 hm hx hys
    obtain ⟨m, rfl⟩ : ∃ k, m = k + 1 := ⟨m - 1, by simp at hm; omega⟩
    have hy0 := hys y (by simp)
    simp only [List.length_cons] at h5 hm
    unfold eTimes.L12
    have e0 : IntKind.i64.wrap ((pre.length : Int) + 1) = ((pre.length + 1 : Nat) : Int) := by rw [wrap_i64z _ (by omega) (by omega)]; omega
    have c1 : decide ((pre.length : Int) < 19) = true := decide_eq_true (by omega)
    have c2 : decide (0 ≤ (pre.length : Int)) = true := decide_eq_true (by omega)
    have c3 : decide (((pre.length + 1 : Nat) : Int) < 20) = true := decide_eq_true (by omega)
    have c4 : decide (0 ≤ ((pre.length + 1 : Nat) : Int)) = true := decide_eq_true (by omega)
    have c5 : decide ((pre.length : Int) < 20) = true := decide_eq_true (by omega)
    simp only [e0, c1, c2, c3, c4, c5, cond_true]
    have g1 : (nn (pre ++ x :: y :: ys)).getD (pre.length : Int).toNat 0 = (x : Int) := app_getD pre x (y :: ys) rfl
    have g2 : (nn (pre ++ x :: y :: ys)).getD ((pre.length + 1 : Nat) : Int).toNat 0 = (y : Int) := by
      rw [app_next pre x (y :: ys)]; exact app_getD (pre ++ [x]) y ys (by simp)
    have e2 : ishr .u64 (x : Int) 26 = ((x / 67108864 : Nat) : Int) := ishr_nat .u64 _ 26 (by decide)
    have e1 : IntKind.u64.wrap ((y : Int) + ((x / 67108864 : Nat) : Int)) = ((y + x / 67108864 : Nat) : Int) := by rw [wrap_u64z _ (by omega) (by omega)]; omega
    have s1 : (nn (pre ++ x :: y :: ys)).set ((pre.length + 1 : Nat) : Int).toNat ((y + x / 67108864 : Nat) : Int) = nn (pre ++ x :: (y + x / 67108864) :: ys) := by
      rw [app_next pre x (y :: ys), app_set' (pre ++ [x]) y ys (by simp)]; simp
    rw [g1, g2, e2, e1, s1]
    have g3 : (nn (pre ++ x :: (y + x / 67108864) :: ys)).getD (pre.length : Int).toNat 0 = (x : Int) := app_getD pre x _ rfl
    have e3 : iand .u64 (x : Int) 67108863 = ((x % 67108864 : Nat) : Int) := iand_mask _ 26 (by omega) (by omega)
    rw [g3, e3, app_set pre x _ rfl]
    have e5 : ((pre.length + 1 : Nat) : Int) = ((pre ++ [x % 67108864]).length : Int) := by simp
    rw [e5, ih (y + x / 67108864) (pre ++ [x % 67108864]) m (by simp; omega) (by omega) (by omega) (fun z hz => hys z (by simp [hz])), cnx_cons]
    simp

/-- The low limbs, and 608 times the high ones. -/
theorem tm_fold {R : Type} (N : Nat) (ke : Int → List Int → List Int → Option R) (V : Nat) :
    ∀ (d i m : Nat) (done : List Nat), i + d = 10 → d < m → done.length = i →
      (∀ (j : Nat), j < i → done[j]? = some (V / 67108864 ^ j % 67108864 + 608 * (V / 67108864 ^ (10 + j) % 67108864))) →
      ∃ F : List Nat, F.length = 10 ∧ (∀ (j : Nat), j < 10 → F[j]? = some (V / 67108864 ^ j % 67108864 + 608 * (V / 67108864 ^ (10 + j) % 67108864))) ∧
        eTimes.L19 (carry.M N) N ke m (i : Int) (nn (dig 67108864 20 V)) (nn (done ++ List.replicate d 0)) = ke 10 (nn (dig 67108864 20 V)) (nn F) := by
  intro d
  induction d with
  | zero =>
    intro i m done h hm hl hd
    obtain ⟨m, rfl⟩ : ∃ k, m = k + 1 := ⟨m - 1, by omega⟩
    obtain rfl : i = 10 := by omega
    refine ⟨done, hl, hd, ?_⟩
    unfold eTimes.L19
    rw [decide_eq_false (by omega), cond_false]
    simp
  | succ d ih =>
    intro i m done h hm hl hd
    obtain ⟨m, rfl⟩ : ∃ k, m = k + 1 := ⟨m - 1, by omega⟩
    generalize hv : V / 67108864 ^ i % 67108864 + 608 * (V / 67108864 ^ (10 + i) % 67108864) = v
    obtain ⟨F, f1, f2, f3⟩ := ih (i + 1) m (done ++ [v]) (by omega) (by omega) (by simp [hl]) (fun j hj => by
      by_cases hji : j = i
      · subst hji
        rw [List.getElem?_append_right (by omega), hl, Nat.sub_self, hv]; rfl
      · rw [List.getElem?_append_left (by omega)]; exact hd j (by omega))
    refine ⟨F, f1, f2, ?_⟩
    unfold eTimes.L19
    have e0 : IntKind.i64.wrap (10 + (i : Int)) = ((10 + i : Nat) : Int) := by rw [wrap_i64z _ (by omega) (by omega)]; omega
    have c1 : decide ((i : Int) < 10) = true := decide_eq_true (by omega)
    have c2 : decide (0 ≤ (i : Int)) = true := decide_eq_true (by omega)
    have c3 : decide ((i : Int) < 20) = true := decide_eq_true (by omega)
    have c4 : decide (0 ≤ ((10 + i : Nat) : Int)) = true := decide_eq_true (by omega)
    have c5 : decide (((10 + i : Nat) : Int) < 20) = true := decide_eq_true (by omega)
    simp only [e0, c1, c2, c3, c4, c5, cond_true]
    rw [Int.toNat_natCast i, Int.toNat_natCast (10 + i), nn_getD, nn_getD, dig_getD 20 V i (by omega), dig_getD 20 V (10 + i) (by omega)]
    have hb1 : V / 67108864 ^ i % 67108864 < 67108864 := Nat.mod_lt _ (by decide)
    have hb2 : V / 67108864 ^ (10 + i) % 67108864 < 67108864 := Nat.mod_lt _ (by decide)
    have e1 : IntKind.u64.wrap (((V / 67108864 ^ i % 67108864 : Nat) : Int) + IntKind.u64.wrap (608 * ((V / 67108864 ^ (10 + i) % 67108864 : Nat) : Int))) = (v : Int) := by
      rw [wrap_u64z (608 * _) (by omega) (by omega), wrap_u64z _ (by omega) (by omega)]; omega
    have s1 : (nn (done ++ List.replicate (d + 1) 0)).set i (v : Int) = nn ((done ++ [v]) ++ List.replicate d 0) := by
      have := replicate_set (d + 1) v done (i := (i : Int)) (by omega) (by omega)
      rw [Int.toNat_natCast, Nat.add_sub_cancel] at this
      exact this
    rw [e1, s1, wrap_i64z _ (by omega) (by omega), show ((i : Int) + 1) = ((i + 1 : Nat) : Int) by omega, f3]

def mulE (a b : Nat) : Nat := gg (a * b % 1852673427797059126777135760139006525652319754650249024631321344126610074238976 + 608 * (a * b / 1852673427797059126777135760139006525652319754650249024631321344126610074238976))

theorem fold_val (V : Nat) (hV : V < 1852673427797059126777135760139006525652319754650249024631321344126610074238976 * 1852673427797059126777135760139006525652319754650249024631321344126610074238976) (F : List Nat) (hl : F.length = 10) (hF : ∀ (j : Nat), j < 10 → F[j]? = some (V / 67108864 ^ j % 67108864 + 608 * (V / 67108864 ^ (10 + j) % 67108864))) :
    vl 67108864 F = V % 1852673427797059126777135760139006525652319754650249024631321344126610074238976 + 608 * (V / 1852673427797059126777135760139006525652319754650249024631321344126610074238976) ∧ ∀ x ∈ F, x < 4611686018427387904 := by
  have e : F = mulL 608 (dig 67108864 10 V) (dig 67108864 10 (V / 67108864 ^ 10)) := by
    apply List.ext_getElem?
    intro j
    by_cases hj : j < 10
    · rw [hF j hj]
      have key : ∀ (xs ys : List Nat) (j : Nat) x y, xs[j]? = some x → ys[j]? = some y → (mulL 608 xs ys)[j]? = some (x + 608 * y) := by
        intro xs
        induction xs with
        | nil => intro ys j x y h; simp at h
        | cons a xs ih =>
          intro ys j x y h1 h2
          cases ys with
          | nil => simp at h2
          | cons b ys =>
            cases j with
            | zero => simp at h1 h2; subst h1; subst h2; rfl
            | succ j => exact ih ys j x y (by simpa using h1) (by simpa using h2)
      rw [key _ _ j _ _ (dig_get 10 V j hj) (dig_get 10 (V / 67108864 ^ 10) j hj), Nat.div_div_eq_div_mul, ← Nat.pow_add]
    · rw [List.getElem?_eq_none (by omega), List.getElem?_eq_none (by rw [mulL_length _ _ _ (by simp [dig_length]), dig_length]; omega)]
  constructor
  · rw [e, vl_mulL _ _ _ _ (by simp [dig_length]), vl_dig, vl_dig, Q260_eq, Nat.mod_eq_of_lt (show V / 1852673427797059126777135760139006525652319754650249024631321344126610074238976 < 1852673427797059126777135760139006525652319754650249024631321344126610074238976 from Nat.div_lt_of_lt_mul hV)]
  · intro x hx
    obtain ⟨j, hj, rfl⟩ := List.mem_iff_getElem.1 hx
    have h1 := hF j (by omega)
    rw [List.getElem?_eq_getElem hj, Option.some.injEq] at h1
    rw [h1]
    have hb1 : V / 67108864 ^ j % 67108864 < 67108864 := Nat.mod_lt _ (by decide)
    have hb2 : V / 67108864 ^ (10 + j) % 67108864 < 67108864 := Nat.mod_lt _ (by decide)
    omega

theorem mul_fold_lt {a b : Nat} (ha : a < 1852673427797059126777135760139006525652319754650249024631321344126610074238976) (hb : b < 1852673427797059126777135760139006525652319754650249024631321344126610074238976) : a * b % 1852673427797059126777135760139006525652319754650249024631321344126610074238976 + 608 * (a * b / 1852673427797059126777135760139006525652319754650249024631321344126610074238976) < 1852673427797059126777135760139006525652319754650249024631321344126610074238976 * 1000000000000000000 := by
  have h1 : a * b < 1852673427797059126777135760139006525652319754650249024631321344126610074238976 * 1852673427797059126777135760139006525652319754650249024631321344126610074238976 := Nat.mul_lt_mul'' ha hb
  have h2 : a * b / 1852673427797059126777135760139006525652319754650249024631321344126610074238976 < 1852673427797059126777135760139006525652319754650249024631321344126610074238976 := Nat.div_lt_of_lt_mul h1
  have h3 := Nat.mod_lt (a * b) (show 0 < 1852673427797059126777135760139006525652319754650249024631321344126610074238976 by decide)
  omega

theorem mulE_mod (a b : Nat) : mulE a b % PP = a * b % PP := by
  unfold mulE
  rw [gg_mod]
  exact g1_mod (a * b)
theorem mulE_lt {a b : Nat} (ha : a < 1852673427797059126777135760139006525652319754650249024631321344126610074238976) (hb : b < 1852673427797059126777135760139006525652319754650249024631321344126610074238976) : mulE a b < 1852673427797059126777135760139006525652319754650249024631321344126610074238976 := (gg_lt (mul_fold_lt ha hb)).1

theorem eTimes_eq {R : Type} (N : Nat) (hN : 100 < N) (a b : Nat) (ha : a < 1852673427797059126777135760139006525652319754650249024631321344126610074238976) (hb : b < 1852673427797059126777135760139006525652319754650249024631321344126610074238976) (r : List Int → Option R) : eTimes.M N R (E a) (E b) r = r (E (mulE a b)) := by
  show eTimes.m (carry.M N) N (E a) (E b) r = _
  unfold eTimes.m
  have e0 : ([0, 0, 0, 0, 0, 0, 0, 0, 0, 0, 0, 0, 0, 0, 0, 0, 0, 0, 0, 0] : List Int) = nn (dig 67108864 20 0) := by decide +kernel
  have e10 : ([0, 0, 0, 0, 0, 0, 0, 0, 0, 0] : List Int) = nn (List.replicate 10 0) := by decide +kernel
  rw [e0, e10]
  obtain ⟨F, h1, h2, h3, h4⟩ := tm_rows (R := R) N hN (fun _ _ _ h2_c61 => eTimes.L12 (carry.M N) N (fun _ h1_c63 => eTimes.L19 (carry.M N) N (fun _ _ h2_c66 => carry.M N R h2_c66 fun b => r b) N 0 h1_c63 (nn (List.replicate 10 0))) N 0 h2_c61) a b hb 10 0 N (dig 67108864 20 0) rfl (by omega) (dig_length _ _ _)
    (by rw [vl_dig]; simp [Nat.mod_one]) (fun x hx => by rw [dig_zero] at hx; have := List.eq_of_mem_replicate hx; omega)
  rw [Q260_eq, Nat.mod_eq_of_lt ha] at h2
  refine Eq.trans h4 ?_
  have hab : a * b < 1852673427797059126777135760139006525652319754650249024631321344126610074238976 * 1852673427797059126777135760139006525652319754650249024631321344126610074238976 := Nat.mul_lt_mul'' ha hb
  have hQ20 : 67108864 ^ 20 = 1852673427797059126777135760139006525652319754650249024631321344126610074238976 * 1852673427797059126777135760139006525652319754650249024631321344126610074238976 := by decide +kernel
  match F, h1, h2, h3 with
  | x :: xs, h1, h2, h3 =>
    have h5 := tm_next (R := R) N (fun _ h1_c63 => eTimes.L19 (carry.M N) N (fun _ _ h2_c66 => carry.M N R h2_c66 fun b => r b) N 0 h1_c63 (nn (List.replicate 10 0))) xs x [] N (by simpa using h1) (by simp at h1; omega) (by have := h3 x (by simp); omega) (fun z hz => h3 z (by simp [hz]))
    simp only [List.nil_append, List.length_nil] at h5
    refine Eq.trans h5 ?_
    rw [cnx_full (n := 19) (by decide) h1 (by rw [h2, hQ20]; exact hab), h2]
    obtain ⟨G, g1, g2, g3⟩ := tm_fold (R := R) N (fun _ _ h2_c66 => carry.M N R h2_c66 fun b => r b) (a * b) 10 0 N [] rfl (by omega) rfl (fun j hj => by omega)
    refine Eq.trans g3 ?_
    obtain ⟨v1, v2⟩ := fold_val (a * b) hab G g1 g2
    rw [carry_eq N hN G g1 v2, v1]
    rfl

theorem Square_eq {R : Type} (N : Nat) (hN : 100 < N) (a : Nat) (ha : a < 1852673427797059126777135760139006525652319754650249024631321344126610074238976) (r : List Int → Option R) : Square.M N R (E a) r = r (E (mulE a a)) := by
  show Square.m (eTimes.M N) N (E a) r = _
  unfold Square.m
  rw [eTimes_eq N hN a a ha ha]
end Go.Proofs.YtjaappocnonkbaaDoor.fn
