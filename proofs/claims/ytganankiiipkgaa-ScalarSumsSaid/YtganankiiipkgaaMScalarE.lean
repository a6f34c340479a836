/- What the scalars' reference sums come to, and the laws. -/
import Derived.Test.YtganankiiipkgaaMScalarD
namespace Go.Proofs.Ytganankiiipkgaa.fn
open Go Go.Proofs Go.Ev Go.Dg

theorem rAdd_loop {R : Type} (N : Nat) (ke : Int → Int → List Int → List Int → List Int → Option R) :
    ∀ (xs ys pre pre' out : List Nat) (o m : Nat), xs.length = ys.length → pre.length = pre'.length → pre.length + xs.length = 32 → out.length = pre.length → xs.length < m → o ≤ 1 → (∀ x ∈ xs, x < 256) → (∀ y ∈ ys, y < 256) →
      rAdd.L4 (rMod.M N) N ke m (o : Int) (pre.length : Int) (nn (pre ++ xs)) (nn (pre' ++ ys)) (nn out) = ke ((car 256 o (addL xs ys)).2 : Int) 32 (nn (pre ++ xs)) (nn (pre' ++ ys)) (nn (out ++ (car 256 o (addL xs ys)).1)) := by
  intro xs
  induction xs with
  | nil =>
    intro ys pre pre' out o m h1 h3 h5 h6 hm _ _ _
    obtain ⟨m, rfl⟩ : ∃ k, m = k + 1 := ⟨m - 1, by simp at hm; omega⟩
    have hp : (pre.length : Int) = 32 := by simp at h5; omega
    have hr : ys = [] := by simpa using h1.symm
    unfold rAdd.L4
    rw [hp, hr, decide_eq_false (by omega), cond_false]
    simp [car, addL]
  | cons x xs ih =>
    intro ys pre pre' out o m h1 h3 h5 h6 hm ho hx hy
    obtain ⟨m, rfl⟩ : ∃ k, m = k + 1 := ⟨m - 1, by simp at hm; omega⟩
    cases ys with
    | nil => simp at h1
    | cons y ys =>
      have hx0 := hx x (by simp)
      have hy0 := hy y (by simp)
      simp only [List.length_cons] at h1 h5 hm
      unfold rAdd.L4
      have c1 : decide ((pre.length : Int) < 32) = true := decide_eq_true (by omega)
      have c2 : decide (0 ≤ (pre.length : Int)) = true := decide_eq_true (by omega)
      have c3 : decide (((nn out).length + 1) * 1 ≤ 140737488355328) = true := decide_eq_true (by simp; omega)
      have c4 : decide ((nn out).length + 1 ≤ 140737488355328) = true := decide_eq_true (by simp; omega)
      have e1 : IntKind.i64.wrap ((o : Int) + IntKind.i64.wrap (IntKind.i64.wrap (x : Int) + IntKind.i64.wrap (y : Int))) = ((x + y + o : Nat) : Int) := by
        rw [wrap_i64z (x : Int) (by omega) (by omega), wrap_i64z (y : Int) (by omega) (by omega), wrap_i64z ((x : Int) + y) (by omega) (by omega), wrap_i64z _ (by omega) (by omega)]; omega
      have e2 : (((x + y + o : Nat) : Int)).tdiv 256 = (((x + y + o) / 256 : Nat) : Int) := tdiv_nat _ 256
      have e3 : (((x + y + o : Nat) : Int)).tmod 256 = (((x + y + o) % 256 : Nat) : Int) := tmod_nat _ 256
      have e5 : IntKind.i64.wrap ((pre.length : Int) + 1) = ((pre ++ [x]).length : Int) := by rw [wrap_i64z _ (by omega) (by omega)]; simp
      have e6 : nn out ++ [(((x + y + o) % 256 : Nat) : Int)] = nn (out ++ [(x + y + o) % 256]) := by simp [nn]
      have g1 : (nn (pre ++ x :: xs)).getD (pre.length : Int).toNat 0 = (x : Int) := app_getD pre x xs rfl
      have g2 : (nn (pre' ++ y :: ys)).getD (pre.length : Int).toNat 0 = (y : Int) := app_getD pre' y ys (by omega)
      simp only [c1, c2, c3, c4, cond_true, g1, g2, e1, e2, e3]
      rw [wrap_u8, Nat.mod_mod, wrap_i64z (((x + y + o) / 256 : Nat) : Int) (by omega) (by omega), e5, e6, app_next pre x xs, app_next pre' y ys,
        ih ys _ _ _ _ m (by omega) (by simp; omega) (by simp; omega) (by simp; omega) (by omega) (by omega) (fun z hz => hx z (by simp [hz])) (fun z hz => hy z (by simp [hz]))]
      simp [addL, car]

theorem rAdd_eq {R : Type} (N : Nat) (hN : 1000 < N) (A B : Nat) (hA : A < 256 ^ 32) (hB : B < 256 ^ 32) (r : List Int → Option R) :
    rAdd.M N R (nn (dig 256 32 A)) (nn (dig 256 32 B)) r = r (nn (dig 256 32 ((A + B) % l))) := by
  show rAdd.m (rMod.M N) N _ _ r = _
  unfold rAdd.m
  have h := rAdd_loop N (fun over6_c6 _ _ _ h3_c10 => bif decide ((h3_c10.length + 1) * 1 ≤ 140737488355328) then
      bif decide (h3_c10.length + 1 ≤ 140737488355328) then rMod.M N R none (cut none 0 (h3_c10 ++ [IntKind.u8.wrap over6_c6])) fun v => r v else none else none)
    (dig 256 32 A) (dig 256 32 B) [] [] [] 0 N (by simp [dig_length]) rfl (by simp [dig_length]) rfl (by simp [dig_length]; omega) (by omega) (dig_lt (by decide) _ _) (dig_lt (by decide) _ _)
  simp only [List.nil_append, List.length_nil] at h
  refine Eq.trans h ?_
  have hAB : A + B < 256 ^ 33 := by
    have : (256 : Nat) ^ 33 = 256 * 256 ^ 32 := by rw [Nat.pow_succ, Nat.mul_comm]
    omega
  rw [car_dig (by decide), vl_addL _ _ _ (by simp [dig_length]), addL_length _ _ (by simp [dig_length]), dig_length, vl_dig, vl_dig, Nat.mod_eq_of_lt hA, Nat.mod_eq_of_lt hB]
  simp only [Nat.add_zero, List.length_map, dig_length]
  have e1 : cut none 0 (nn (dig 256 32 (A + B)) ++ [IntKind.u8.wrap (((A + B) / 256 ^ 32 : Nat) : Int)]) = nn (dig 256 33 (A + B)) := by
    rw [wrap_u8, show dig 256 33 (A + B) = _ from dig_snoc 256 32 (A + B)]
    simp only [cut, List.drop_zero, nn, List.map_append, List.map_cons, List.map_nil]
    rfl
  rw [e1]
  show rMod.M N R none _ _ = _
  rw [rMod_eq N hN none 33 _ (by omega) hAB]

/-- A row of the reference's product. -/
theorem rmul_loop {R : Type} (N : Nat) (ke : Int → Int → List Int → List Int → List Int → Option R) (i : Nat) (hi : i < 32) (a : List Int) (c : Nat) (hc : c < 256) (hac : a.getD i 0 = (c : Int)) :
    ∀ (ps ys pre pre' post : List Nat) (m : Nat), ps.length = ys.length → pre.length = i + pre'.length → pre'.length + ys.length = 32 → pre.length + ps.length + post.length = 65 → ys.length < m → (∀ x ∈ ps, x < 4000000) → (∀ y ∈ ys, y < 256) →
      rTimes.L6 (rMod.M N) N ke m (i : Int) (pre'.length : Int) a (nn (pre' ++ ys)) (nn (pre ++ (ps ++ post))) = ke (i : Int) 32 a (nn (pre' ++ ys)) (nn (pre ++ (mulL c ps ys ++ post))) := by
  intro ps
  induction ps with
  | nil =>
    intro ys pre pre' post m h1 h3 h4 h5 hm _ _
    obtain ⟨m, rfl⟩ : ∃ k, m = k + 1 := ⟨m - 1, by omega⟩
    have hr : ys = [] := by simpa using h1.symm
    subst hr
    have hp : (pre'.length : Int) = 32 := by simp at h4; omega
    unfold rTimes.L6
    rw [hp, decide_eq_false (by omega), cond_false]
    rfl
  | cons p ps ih =>
    intro ys pre pre' post m h1 h3 h4 h5 hm hx hy
    obtain ⟨m, rfl⟩ : ∃ k, m = k + 1 := ⟨m - 1, by omega⟩
    cases ys with
    | nil => simp at h1
    | cons y ys =>
      have hp0 := hx p (by simp)
      have hy0 := hy y (by simp)
      simp only [List.length_cons] at h1 h4 h5 hm
      unfold rTimes.L6
      have e0 : IntKind.i64.wrap ((i : Int) + (pre'.length : Int)) = (pre.length : Int) := by rw [wrap_i64z _ (by omega) (by omega)]; omega
      rw [e0]
      have c1 : decide ((pre'.length : Int) < 32) = true := decide_eq_true (by omega)
      have c2 : decide (0 ≤ (pre'.length : Int)) = true := decide_eq_true (by omega)
      have c3 : decide ((pre.length : Int) < ((olen none (nn (pre ++ (p :: ps ++ post))).length 0 : Nat) : Int)) = true := decide_eq_true (by simp [olen]; omega)
      have c4 : decide (0 ≤ (pre.length : Int)) = true := decide_eq_true (by omega)
      have c5 : decide (0 ≤ (i : Int)) = true := decide_eq_true (by omega)
      have c6 : decide ((i : Int) < 32) = true := decide_eq_true (by omega)
      simp only [c1, c2, c3, c4, c5, c6, cond_true]
      rw [Nat.zero_add, show pre ++ (p :: ps ++ post) = pre ++ p :: (ps ++ post) by simp, app_getD pre p (ps ++ post) rfl, app_getD pre' y ys rfl, Int.toNat_natCast i, hac]
      have hcy : c * y < 65536 := by
        have : c * y ≤ 255 * 255 := Nat.mul_le_mul (by omega) (by omega)
        omega
      have e1 : IntKind.i64.wrap ((p : Int) + IntKind.i64.wrap (IntKind.i64.wrap (c : Int) * IntKind.i64.wrap (y : Int))) = ((p + c * y : Nat) : Int) := by
        rw [wrap_i64z (c : Int) (by omega) (by omega), wrap_i64z (y : Int) (by omega) (by omega), show (c : Int) * (y : Int) = ((c * y : Nat) : Int) by simp, wrap_i64z ((c * y : Nat) : Int) (by omega) (by omega), wrap_i64z _ (by omega) (by omega)]
        omega
      have e5 : IntKind.i64.wrap ((pre'.length : Int) + 1) = ((pre' ++ [y]).length : Int) := by rw [wrap_i64z _ (by omega) (by omega)]; simp
      rw [e1, e5, app_set pre p (ps ++ post) rfl, app_next pre' y ys, ih ys _ _ post m (by omega) (by simp; omega) (by simp; omega) (by simp; omega) (by omega) (fun z hz => hx z (by simp [hz])) (fun z hz => hy z (by simp [hz]))]
      simp [mulL]

theorem mulL_le (c M K : Nat) (hK : c < 256) : ∀ (xs ys : List Nat), (∀ x ∈ xs, x < M) → (∀ y ∈ ys, y < 256) → M + 65536 ≤ K → ∀ z ∈ mulL c xs ys, z < K
  | [], _, _, _, _, z, hz => by simp [mulL] at hz
  | x :: xs, [], _, _, _, z, hz => by simp [mulL] at hz
  | x :: xs, y :: ys, hx, hy, hM, z, hz => by
    simp only [mulL, List.mem_cons] at hz
    have h1 := hx x (by simp)
    have h2 := hy y (by simp)
    rcases hz with rfl | hz
    · have : c * y ≤ 255 * 255 := Nat.mul_le_mul (by omega) (by omega)
      omega
    · exact mulL_le c M K hK xs ys (fun w hw => hx w (by simp [hw])) (fun w hw => hy w (by simp [hw])) hM z hz

/-- The rows of the reference's product: what the digits come to. -/
theorem rmul_rows {R : Type} (N : Nat) (hN : 100 < N) (ke : Int → List Int → List Int → List Int → Option R) (A B : Nat) (hB : B < 256 ^ 32) :
    ∀ (d i m : Nat) (D : List Nat), i + d = 32 → d < m → D.length = 65 → vl 256 D = A % 256 ^ i * B → (∀ x ∈ D, x < 65536 * i + 1) →
      ∃ E : List Nat, E.length = 65 ∧ vl 256 E = A % 256 ^ 32 * B ∧ (∀ x ∈ E, x < 4000000) ∧
        rTimes.L3 (rMod.M N) N ke m (i : Int) (nn (dig 256 32 A)) (nn (dig 256 32 B)) (nn D) = ke 32 (nn (dig 256 32 A)) (nn (dig 256 32 B)) (nn E) := by
  intro d
  induction d with
  | zero =>
    intro i m D h hm hD hV hb
    obtain ⟨m, rfl⟩ : ∃ k, m = k + 1 := ⟨m - 1, by omega⟩
    obtain rfl : i = 32 := by omega
    refine ⟨D, hD, hV, fun x hx => by have := hb x hx; omega, ?_⟩
    unfold rTimes.L3
    rw [decide_eq_false (by omega), cond_false]
    rfl
  | succ d ih =>
    intro i m D h hm hD hV hb
    obtain ⟨m, rfl⟩ : ∃ k, m = k + 1 := ⟨m - 1, by omega⟩
    unfold rTimes.L3
    have c1 : decide ((i : Int) < 32) = true := decide_eq_true (by omega)
    simp only [c1, cond_true]
    generalize hc : A / 256 ^ i % 256 = c
    have hc256 : c < 256 := by rw [← hc]; exact Nat.mod_lt _ (by decide)
    have hpre : (D.take i).length = i := by simp; omega
    have hps : ((D.drop i).take 32).length = 32 := by simp; omega
    have hpost : ((D.drop i).drop 32).length = d + 2 := by simp; omega
    have hsplit : D = D.take i ++ ((D.drop i).take 32 ++ (D.drop i).drop 32) := by rw [List.take_append_drop, List.take_append_drop]
    have h1 := rmul_loop (R := R) N (fun i6 _ h0 h1 h3 => rTimes.L3 (rMod.M N) N ke m (IntKind.i64.wrap (i6 + 1)) h0 h1 h3) i (by omega) (nn (dig 256 32 A)) c hc256 (by rw [nn_getD, dig_getD 32 A i (by omega), hc])
      ((D.drop i).take 32) (dig 256 32 B) (D.take i) [] ((D.drop i).drop 32) N (by simp [dig_length]; omega) (by simp; omega) (by simp [dig_length]) (by omega) (by simp [dig_length]; omega)
      (fun x hx => by have := hb x (List.mem_of_mem_drop (List.mem_of_mem_take hx)); omega) (dig_lt (by decide) _ _)
    simp only [List.nil_append, List.length_nil] at h1
    rw [← hsplit] at h1
    have h1' := h1
    rw [show ((0 : Nat) : Int) = 0 from rfl] at h1'
    rw [h1', wrap_i64z _ (by omega) (by omega), show ((i : Int) + 1) = ((i + 1 : Nat) : Int) by omega]
    have hml : (mulL c ((D.drop i).take 32) (dig 256 32 B)).length = 32 := by rw [mulL_length _ _ _ (by simp [dig_length]; omega)]; exact hps
    refine ih (i + 1) m _ (by omega) (by omega) (by simp only [List.length_append]; omega) ?_ ?_
    · have hv := hV
      rw [hsplit, vl_append, vl_append, hpre, hps] at hv
      rw [vl_append, vl_append, hpre, hml, vl_mulL _ _ _ _ (by simp [dig_length]; omega), vl_dig, Nat.mod_eq_of_lt hB]
      have e2 : A % 256 ^ (i + 1) * B = A % 256 ^ i * B + 256 ^ i * (c * B) := by rw [← hc, Nat.pow_succ, Nat.mod_mul, Nat.add_mul, Nat.mul_assoc]
      rw [e2, ← hv]
      simp only [Nat.mul_add]
      omega
    · intro x hx
      simp only [List.mem_append] at hx
      rcases hx with hx | hx | hx
      · have := hb x (List.mem_of_mem_take hx); omega
      · exact mulL_le c (65536 * i + 1) _ hc256 _ _ (fun z hz => hb z (List.mem_of_mem_drop (List.mem_of_mem_take hz))) (dig_lt (by decide) _ _) (by omega) x hx
      · have := hb x (List.mem_of_mem_drop (List.mem_of_mem_drop hx)); omega

theorem even_loop {R : Type} (N : Nat) (ke : Int → Int → Int → List Int → List Int → Option R) :
    ∀ (xs pre out : List Nat) (o m : Nat), pre.length + xs.length = 65 → out.length = pre.length → xs.length < m → o < 40000000 → (∀ x ∈ xs, x < 4000000) →
      rTimes.L12 (rMod.M N) N ke m (o : Int) 65 (pre.length : Int) (nn out) (nn (pre ++ xs)) = ke ((car 256 o xs).2 : Int) 65 65 (nn (out ++ (car 256 o xs).1)) (nn (pre ++ xs)) := by
  intro xs
  induction xs with
  | nil =>
    intro pre out o m h5 h6 hm _ _
    obtain ⟨m, rfl⟩ : ∃ k, m = k + 1 := ⟨m - 1, by simp at hm; omega⟩
    have hp : (pre.length : Int) = 65 := by simp at h5; omega
    unfold rTimes.L12
    rw [hp, decide_eq_false (by omega), cond_false]
    simp [car]
  | cons x xs ih =>
    intro pre out o m h5 h6 hm ho hx
    obtain ⟨m, rfl⟩ : ∃ k, m = k + 1 := ⟨m - 1, by simp at hm; omega⟩
    have hx0 := hx x (by simp)
    simp only [List.length_cons] at h5 hm
    unfold rTimes.L12
    have c1 : decide ((pre.length : Int) < 65) = true := decide_eq_true (by omega)
    have c2 : decide (0 ≤ (pre.length : Int)) = true := decide_eq_true (by omega)
    have c0 : decide ((pre.length : Int) < ((olen none (nn (pre ++ x :: xs)).length 0 : Nat) : Int)) = true := decide_eq_true (by simp [olen]; omega)
    have c3 : decide (((nn out).length + 1) * 1 ≤ 140737488355328) = true := decide_eq_true (by simp; omega)
    have c4 : decide ((nn out).length + 1 ≤ 140737488355328) = true := decide_eq_true (by simp; omega)
    have g1 : (nn (pre ++ x :: xs)).getD (0 + (pre.length : Int).toNat) 0 = (x : Int) := by rw [Nat.zero_add]; exact app_getD pre x xs rfl
    have e1 : IntKind.i64.wrap ((o : Int) + (x : Int)) = ((x + o : Nat) : Int) := by rw [wrap_i64z _ (by omega) (by omega)]; omega
    have e2 : (((x + o : Nat) : Int)).tdiv 256 = (((x + o) / 256 : Nat) : Int) := tdiv_nat _ 256
    have e3 : (((x + o : Nat) : Int)).tmod 256 = (((x + o) % 256 : Nat) : Int) := tmod_nat _ 256
    have e5 : IntKind.i64.wrap ((pre.length : Int) + 1) = ((pre ++ [x]).length : Int) := by rw [wrap_i64z _ (by omega) (by omega)]; simp
    have e6 : nn out ++ [(((x + o) % 256 : Nat) : Int)] = nn (out ++ [(x + o) % 256]) := by simp [nn]
    simp only [c0, c1, c2, c3, c4, cond_true, g1, e1, e2, e3]
    rw [wrap_u8, Nat.mod_mod, wrap_i64z (((x + o) / 256 : Nat) : Int) (by omega) (by omega), e5, e6, app_next pre x xs,
      ih _ _ _ m (by simp; omega) (by simp; omega) (by omega) (by omega) (fun z hz => hx z (by simp [hz]))]
    simp [car]

theorem rTimes_eq {R : Type} (N : Nat) (hN : 1000 < N) (A B : Nat) (hA : A < 256 ^ 32) (hB : B < 256 ^ 32) (r : List Int → Option R) :
    rTimes.M N R (nn (dig 256 32 A)) (nn (dig 256 32 B)) r = r (nn (dig 256 32 (A * B % l))) := by
  show rTimes.m (rMod.M N) N _ _ r = _
  unfold rTimes.m
  have e0 : ([0, 0, 0, 0, 0, 0, 0, 0, 0, 0, 0, 0, 0, 0, 0, 0, 0, 0, 0, 0, 0, 0, 0, 0, 0, 0, 0, 0, 0, 0, 0, 0, 0, 0, 0, 0, 0, 0, 0, 0, 0, 0, 0, 0, 0, 0, 0, 0, 0, 0, 0, 0, 0, 0, 0, 0, 0, 0, 0, 0, 0, 0, 0, 0, 0] : List Int) = nn (dig 256 65 0) := by decide +kernel
  rw [e0]
  obtain ⟨E, h1, h2, h3, h4⟩ := rmul_rows (R := R) N (by omega) (fun _ _ _ h3_c36 => rTimes.L12 (rMod.M N) N (fun _ _ _ h1_c40 _ => rMod.M N R none h1_c40 fun v => r v) N 0 ((olen none h3_c36.length 0 : Nat) : Int) 0 [] h3_c36) A B hB 32 0 N (dig 256 65 0) rfl (by omega) (dig_length _ _ _)
    (by rw [vl_dig]; simp [Nat.mod_one]) (fun x hx => by rw [dig_zero] at hx; have := List.eq_of_mem_replicate hx; omega)
  refine Eq.trans h4 ?_
  have e1 : ((olen none (nn E).length 0 : Nat) : Int) = 65 := by simp [olen, h1]
  rw [e1]
  have h5 := even_loop (R := R) N (fun _ _ _ h1_c40 _ => rMod.M N R none h1_c40 fun v => r v) E [] [] 0 N (by simp [h1]) rfl (by omega) (by omega) h3
  simp only [List.nil_append, List.length_nil] at h5
  refine Eq.trans h5 ?_
  have hlt : A * B < 256 ^ 65 := by
    have h := Nat.mul_lt_mul'' hA hB
    rw [← Nat.pow_add] at h
    exact Nat.lt_of_lt_of_le h (Nat.pow_le_pow_right (by decide) (by decide))
  rw [car_dig (by decide), h1, h2, Nat.mod_eq_of_lt hA]
  simp only [Nat.add_zero]
  rw [rMod_eq N hN none 65 _ (by omega) hlt]

abbrev lrow32 : List Int := [16, 0, 0, 0, 0, 0, 0, 0, 0, 0, 0, 0, 0, 0, 0, 0, 20, 222, 249, 222, 162, 247, 156, 214, 88, 18, 99, 26, 92, 245, 211, 237]
theorem lrow32_eq : lrow32 = nn (dig 256 32 l).reverse := by decide +kernel

theorem neg_loop {R : Type} (N : Nat) (ke : Int → Int → List Int → List Int → Option R) :
    ∀ (xs ys pre pre' out : List Nat) (o m : Nat), dig 256 32 l = pre' ++ ys → xs.length = ys.length → pre.length = pre'.length → pre.length + xs.length = 32 → out.length = pre.length → xs.length < m → o ≤ 1 → (∀ x ∈ xs, x < 256) → (∀ y ∈ ys, y < 256) →
      rNegate.L6 (rMod.M N) (rmodulus.M N) N ke m (o : Int) (pre.length : Int) (nn (pre ++ xs)) (nn out) = ke ((bor 256 o ys xs).2 : Int) 32 (nn (pre ++ xs)) (nn (out ++ (bor 256 o ys xs).1)) := by
  intro xs
  induction xs with
  | nil =>
    intro ys pre pre' out o m h0 h1 h3 h5 h6 hm _ _ _
    obtain ⟨m, rfl⟩ : ∃ k, m = k + 1 := ⟨m - 1, by simp at hm; omega⟩
    have hp : (pre.length : Int) = 32 := by simp at h5; omega
    have hr : ys = [] := by simpa using h1.symm
    unfold rNegate.L6
    rw [hp, hr, decide_eq_false (by omega), cond_false]
    simp [bor]
  | cons x xs ih =>
    intro ys pre pre' out o m h0 h1 h3 h5 h6 hm ho hx hy
    obtain ⟨m, rfl⟩ : ∃ k, m = k + 1 := ⟨m - 1, by simp at hm; omega⟩
    cases ys with
    | nil => simp at h1
    | cons y ys =>
      have hx0 := hx x (by simp)
      have hy0 := hy y (by simp)
      simp only [List.length_cons] at h1 h5 hm
      unfold rNegate.L6
      have ek : IntKind.i64.wrap (31 - (pre.length : Int)) = (ys.length : Int) := by rw [wrap_i64z _ (by omega) (by omega)]; omega
      have eL : ([16, 0, 0, 0, 0, 0, 0, 0, 0, 0, 0, 0, 0, 0, 0, 0, 20, 222, 249, 222, 162, 247, 156, 214, 88, 18, 99, 26, 92, 245, 211, 237] : List Int) = nn (ys.reverse ++ y :: pre'.reverse) := by
        have := lrow32_eq
        rw [h0, show lrow32 = ([16, 0, 0, 0, 0, 0, 0, 0, 0, 0, 0, 0, 0, 0, 0, 0, 20, 222, 249, 222, 162, 247, 156, 214, 88, 18, 99, 26, 92, 245, 211, 237] : List Int) from rfl] at this
        rw [this]; simp
      rw [ek, eL]
      have g2 : (nn (ys.reverse ++ y :: pre'.reverse)).getD (0 + (ys.length : Int).toNat) 0 = (y : Int) := by rw [Nat.zero_add]; exact app_getD _ y _ (by simp)
      have g1 : (nn (pre ++ x :: xs)).getD (pre.length : Int).toNat 0 = (x : Int) := app_getD pre x xs rfl
      have c1 : decide ((pre.length : Int) < 32) = true := decide_eq_true (by omega)
      have c2 : decide (0 ≤ (pre.length : Int)) = true := decide_eq_true (by omega)
      have c3 : decide (((nn out).length + 1) * 1 ≤ 140737488355328) = true := decide_eq_true (by simp; omega)
      have c4 : decide ((nn out).length + 1 ≤ 140737488355328) = true := decide_eq_true (by simp; omega)
      have c5 : decide ((ys.length : Int) < 32) = true := decide_eq_true (by omega)
      have c6 : decide (0 ≤ (ys.length : Int)) = true := decide_eq_true (by omega)
      have e1 : IntKind.i64.wrap (IntKind.i64.wrap ((y : Int) - IntKind.i64.wrap (x : Int)) - o) = (y : Int) - x - o := by
        rw [wrap_i64z (x : Int) (by omega) (by omega), wrap_i64z ((y : Int) - x) (by omega) (by omega), wrap_i64z _ (by omega) (by omega)]
      have e5 : IntKind.i64.wrap ((pre.length : Int) + 1) = ((pre ++ [x]).length : Int) := by rw [wrap_i64z _ (by omega) (by omega)]; simp
      have e6 : ∀ v : Nat, nn out ++ [(v : Int)] = nn (out ++ [v]) := fun v => by simp [nn]
      have hz : (y + 256 - x - o) / 256 = if y < x + o then 0 else 1 := by split <;> omega
      simp only [c1, c2, c3, c4, c5, c6, cond_true, g1, g2, e1, e5]
      have ih' := fun v o' (ho' : o' ≤ 1) => ih ys (pre ++ [x]) (pre' ++ [y]) (out ++ [v]) o' m (by rw [h0]; simp) (by omega) (by simp; omega) (by simp; omega) (by simp; omega) (by omega) ho' (fun z hz => hx z (by simp [hz])) (fun z hz => hy z (by simp [hz]))
      by_cases hc : y < x + o
      · have e7 : IntKind.u8.wrap (IntKind.i64.wrap ((y : Int) - x - o + 256)) = (((y + 256 - x - o) % 256 : Nat) : Int) := by
          rw [wrap_i64z _ (by omega) (by omega), show (y : Int) - x - o + 256 = ((y + 256 - x - o : Nat) : Int) by omega, wrap_u8]
        rw [decide_eq_true (show (y : Int) - x - o < 0 by omega), cond_true, e7, e6]
        have := ih' ((y + 256 - x - o) % 256) 1 (by omega)
        rw [show ((1 : Nat) : Int) = 1 from rfl] at this
        rw [app_next pre x xs, this]
        simp only [bor, hz, if_pos hc]
        simp
      · have e7 : IntKind.u8.wrap ((y : Int) - x - o) = (((y + 256 - x - o) % 256 : Nat) : Int) := by
          rw [show (y : Int) - x - o = ((y - x - o : Nat) : Int) by omega, wrap_u8]; omega
        rw [decide_eq_false (show ¬ (y : Int) - x - o < 0 by omega), cond_false, e7, e6]
        have := ih' ((y + 256 - x - o) % 256) 0 (by omega)
        rw [show ((0 : Nat) : Int) = 0 from rfl] at this
        rw [app_next pre x xs, this]
        simp only [bor, hz, if_neg hc]
        simp

theorem rNegate_eq {R : Type} (N : Nat) (hN : 1000 < N) (A : Nat) (hA : A < 256 ^ 32) (r : List Int → Option R) : rNegate.M N R (nn (dig 256 32 A)) r = r (nn (dig 256 32 ((l - A % l) % l))) := by
  show rNegate.m (rMod.M N) (rmodulus.M N) N _ r = _
  unfold rNegate.m
  have hl32 : l < 256 ^ 32 := by decide +kernel
  have hAl := Nat.mod_lt A l_pos
  rw [cut_all 32 _ (dig_length _ _ _), rMod_eq N hN none 32 A (by omega) hA]
  show rNegate.L6 (rMod.M N) (rmodulus.M N) N _ N 0 0 _ _ = _
  have h := neg_loop (R := R) N (fun _ _ _ h3_c11 => rMod.M N R none h3_c11 fun v => r v) (dig 256 32 (A % l)) (dig 256 32 l) [] [] [] 0 N rfl (by simp [dig_length]) rfl (by simp [dig_length]) rfl (by simp [dig_length]; omega) (by omega) (dig_lt (by decide) _ _) (dig_lt (by decide) _ _)
  simp only [List.nil_append, List.length_nil] at h
  refine Eq.trans h ?_
  rw [bor_dig (by decide) 32 _ _ 0 (dig_length _ _ _) (dig_length _ _ _) (dig_lt (by decide) _ _) (dig_lt (by decide) _ _) (by omega), vl_dig, vl_dig, Nat.mod_eq_of_lt hl32, Nat.mod_eq_of_lt (show A % l < 256 ^ 32 by omega)]
  simp only [Nat.sub_zero]
  rw [show dig 256 32 (l + 256 ^ 32 - A % l) = dig 256 32 (l - A % l) by rw [← dig_mod 32 (l + _ - _), show l + 256 ^ 32 - A % l = (l - A % l) + 256 ^ 32 by omega, Nat.add_mod_right, dig_mod]]
  rw [rMod_eq N hN none 32 _ (by omega) (by omega)]
end Go.Proofs.Ytganankiiipkgaa.fn
