/- What the field's functions come to: numbers modulo 2^255 - 19. -/
import Derived.Test.YtjaappocnonkbaaDoorFnField
import Derived.Test.YtjaappocnonkbaaDoorNum
namespace Go.Proofs.YtjaappocnonkbaaDoor.fn
open Go Go.Proofs Go.Ev Go.Dg

/-- The prime. -/
def PP : Nat := 57896044618658097711785492504343953926634992332820282019728792003956564819949
theorem Q260_eq : 67108864 ^ 10 = 1852673427797059126777135760139006525652319754650249024631321344126610074238976 := by decide +kernel
theorem PP_pos : 0 < PP := by decide +kernel
/-- An element's limbs. -/
abbrev E (w : Nat) : List Int := nn (dig 67108864 10 w)

def g1 (v : Nat) : Nat := v % 1852673427797059126777135760139006525652319754650249024631321344126610074238976 + 608 * (v / 1852673427797059126777135760139006525652319754650249024631321344126610074238976)
theorem g1_mod (v : Nat) : g1 v % PP = v % PP := by
  have h : v = v % 1852673427797059126777135760139006525652319754650249024631321344126610074238976 + 1852673427797059126777135760139006525652319754650249024631321344126610074238976 * (v / 1852673427797059126777135760139006525652319754650249024631321344126610074238976) := (Nat.mod_add_div v 1852673427797059126777135760139006525652319754650249024631321344126610074238976).symm
  have e : v = g1 v + PP * (32 * (v / 1852673427797059126777135760139006525652319754650249024631321344126610074238976)) := by
    unfold g1
    have : 1852673427797059126777135760139006525652319754650249024631321344126610074238976 = 608 + PP * 32 := by decide +kernel
    rw [← Nat.mul_assoc]
    have h2 : (608 + PP * 32) * (v / 1852673427797059126777135760139006525652319754650249024631321344126610074238976) = 608 * (v / 1852673427797059126777135760139006525652319754650249024631321344126610074238976) + PP * 32 * (v / 1852673427797059126777135760139006525652319754650249024631321344126610074238976) := Nat.add_mul _ _ _
    rw [← this] at h2
    omega
  conv => rhs; rw [e]
  rw [Nat.add_mul_mod_self_left]
/-- What a carry makes of a number. -/
def gg (v : Nat) : Nat := g1 (g1 v)
theorem gg_mod (v : Nat) : gg v % PP = v % PP := by unfold gg; rw [g1_mod, g1_mod]
theorem gg_lt {v : Nat} (h : v < 1852673427797059126777135760139006525652319754650249024631321344126610074238976 * 1000000000000000000) : gg v < 1852673427797059126777135760139006525652319754650249024631321344126610074238976 ∧ gg v / 1852673427797059126777135760139006525652319754650249024631321344126610074238976 = 0 := by
  have h1 : v / 1852673427797059126777135760139006525652319754650249024631321344126610074238976 < 1000000000000000000 := Nat.div_lt_of_lt_mul h
  have h2 := Nat.mod_lt v (show 0 < 1852673427797059126777135760139006525652319754650249024631321344126610074238976 by decide)
  have h3 : g1 v < 1852673427797059126777135760139006525652319754650249024631321344126610074238976 + 608000000000000000000 := by unfold g1; omega
  have h4 : gg v < 1852673427797059126777135760139006525652319754650249024631321344126610074238976 := by
    unfold gg
    generalize g1 v = u at h3
    unfold g1
    rcases Nat.lt_or_ge u 1852673427797059126777135760139006525652319754650249024631321344126610074238976 with q | q
    · rw [Nat.div_eq_of_lt q, Nat.mod_eq_of_lt q]; omega
    · have : u / 1852673427797059126777135760139006525652319754650249024631321344126610074238976 = 1 := Nat.div_eq_of_lt_le (by omega) (by omega)
      rw [this, Nat.mod_eq_sub_mod q, Nat.mod_eq_of_lt (by omega)]
      omega
  exact ⟨h4, Nat.div_eq_of_lt h4⟩

theorem carry_loop {R : Type} (N : Nat) (ke : Int → Int → Int → List Int → Option R) (t : Int) :
    ∀ (xs pre : List Nat) (o m : Nat), pre.length + xs.length = 10 → xs.length < m → o < 4611686018427387904 → (∀ x ∈ xs, x < 4611686018427387904) →
      carry.L4 N ke m (o : Int) t (pre.length : Int) (nn (pre ++ xs)) = ke ((car 67108864 o xs).2 : Int) t 10 (nn (pre ++ (car 67108864 o xs).1)) := by
  intro xs
  induction xs with
  | nil =>
    intro pre o m h5 hm _ _
    obtain ⟨m, rfl⟩ : ∃ k, m = k + 1 := ⟨m - 1, by simp at hm; omega⟩
    have hp : (pre.length : Int) = 10 := by simp at h5; omega
    unfold carry.L4
    rw [hp, decide_eq_false (by omega), cond_false]
    rfl
  | cons x xs ih =>
    intro pre o m h5 hm ho hx
    obtain ⟨m, rfl⟩ : ∃ k, m = k + 1 := ⟨m - 1, by simp at hm; omega⟩
    have hx0 := hx x (by simp)
    simp only [List.length_cons] at h5 hm
    unfold carry.L4
    have c1 : decide ((pre.length : Int) < 10) = true := decide_eq_true (by omega)
    have c2 : decide (0 ≤ (pre.length : Int)) = true := decide_eq_true (by omega)
    simp only [c1, c2, cond_true]
    have e1 : IntKind.u64.wrap ((x : Int) + (o : Int)) = ((x + o : Nat) : Int) := by rw [wrap_u64z _ (by omega) (by omega)]; omega
    rw [app_getD pre x xs rfl, e1, app_set' pre x xs rfl, app_getD pre (x + o) xs rfl]
    have e2 : ishr .u64 ((x + o : Nat) : Int) 26 = (((x + o) / 67108864 : Nat) : Int) := ishr_nat .u64 _ 26 (by decide)
    have e3 : iand .u64 ((x + o : Nat) : Int) 67108863 = (((x + o) % 67108864 : Nat) : Int) := iand_mask _ 26 (by omega) (by omega)
    have e5 : IntKind.i64.wrap ((pre.length : Int) + 1) = ((pre ++ [(x + o) % 67108864]).length : Int) := by rw [wrap_i64z _ (by omega) (by omega)]; simp
    rw [e2, e3, e5, app_set pre _ xs rfl, ih _ _ m (by simp; omega) (by omega) (by omega) (fun z hz => hx z (by simp [hz]))]
    simp [car]

theorem ten (xs : List Nat) (h : xs.length = 10) : ∃ x0 x1 x2 x3 x4 x5 x6 x7 x8 x9, xs = [x0, x1, x2, x3, x4, x5, x6, x7, x8, x9] := by
  match xs, h with
  | [x0, x1, x2, x3, x4, x5, x6, x7, x8, x9], _ => exact ⟨x0, x1, x2, x3, x4, x5, x6, x7, x8, x9, rfl⟩

theorem vl_le (B M : Nat) : ∀ (l : List Nat), (∀ x ∈ l, x ≤ M) → vl B l ≤ M * vl B (List.replicate l.length 1)
  | [], _ => by simp [vl]
  | x :: l, h => by
    have h1 := h x (by simp)
    have h2 := Nat.mul_le_mul_left B (vl_le B M l fun y hy => h y (by simp [hy]))
    simp only [List.length_cons, List.replicate_succ, vl, Nat.mul_add, Nat.mul_one]
    rw [Nat.mul_left_comm M B]
    omega

theorem ten_lt (xs : List Nat) (h : xs.length = 10) (hx : ∀ x ∈ xs, x < 4611686018427387904) : vl 67108864 xs < 1852673427797059126777135760139006525652319754650249024631321344126610074238976 * 137438953472 := by
  have h1 := vl_le 67108864 4611686018427387904 xs fun x h => Nat.le_of_lt (hx x h)
  rw [h] at h1
  exact Nat.lt_of_le_of_lt h1 (by decide +kernel)

/-- One round of a carry. -/
theorem carry_round {R : Type} (N : Nat) (hN : 100 < N) (ke : Int → List Int → Option R) (t m : Nat) (ht : t < 3) (xs : List Nat) (hl : xs.length = 10) (hx : ∀ x ∈ xs, x < 4611686018427387904) :
    ∃ ys : List Nat, ys.length = 10 ∧ vl 67108864 ys = g1 (vl 67108864 xs) ∧ (∀ y ∈ ys, y < 4611686018427387904) ∧ (vl 67108864 xs < 1852673427797059126777135760139006525652319754650249024631321344126610074238976 → ys = dig 67108864 10 (vl 67108864 xs)) ∧
      carry.L1 N ke (m + 1) (t : Int) (nn xs) = carry.L1 N ke m ((t + 1 : Nat) : Int) (nn ys) := by
  have h := carry_loop (R := R) N (fun over2_c9 t4_c10 _ h0_c12 => carry.L1 N ke m (IntKind.i64.wrap (t4_c10 + 1)) (h0_c12.set 0 (IntKind.u64.wrap (h0_c12.getD 0 0 + IntKind.u64.wrap (608 * over2_c9))))) (t : Int) xs [] 0 N (by simp [hl]) (by omega) (by omega) hx
  simp only [List.nil_append, List.length_nil] at h
  rw [car_dig (by decide), hl] at h
  simp only [Nat.add_zero, Q260_eq] at h
  have hlt := ten_lt xs hl hx
  generalize hv : vl 67108864 xs = v at h hlt ⊢
  have hov : v / 1852673427797059126777135760139006525652319754650249024631321344126610074238976 < 137438953472 := Nat.div_lt_of_lt_mul hlt
  have hd : dig 67108864 10 v = (v % 67108864) :: dig 67108864 9 (v / 67108864) := rfl
  have hd0 : v % 67108864 < 67108864 := Nat.mod_lt _ (by decide)
  refine ⟨(v % 67108864 + 608 * (v / 1852673427797059126777135760139006525652319754650249024631321344126610074238976)) :: dig 67108864 9 (v / 67108864), by simp [dig_length], ?_, ?_, ?_, ?_⟩
  · have := vl_dig (B := 67108864) 10 v
    rw [hd, Q260_eq] at this
    simp only [vl] at this ⊢
    unfold g1
    omega
  · intro y hy
    simp only [List.mem_cons] at hy
    rcases hy with rfl | hy
    · omega
    · have := dig_lt (B := 67108864) (by decide) 9 _ y hy; omega
  · intro hq
    rw [hd, Nat.div_eq_of_lt hq, Nat.mul_zero, Nat.add_zero]
  · rw [carry.L1]
    rw [decide_eq_true (by omega), cond_true]
    refine Eq.trans h ?_
    have e1 : (nn (dig 67108864 10 v)).getD 0 0 = ((v % 67108864 : Nat) : Int) := by rw [hd]; rfl
    have e2 : IntKind.u64.wrap (((v % 67108864 : Nat) : Int) + IntKind.u64.wrap (608 * ((v / 1852673427797059126777135760139006525652319754650249024631321344126610074238976 : Nat) : Int))) = ((v % 67108864 + 608 * (v / 1852673427797059126777135760139006525652319754650249024631321344126610074238976) : Nat) : Int) := by
      rw [wrap_u64z (608 * ((v / 1852673427797059126777135760139006525652319754650249024631321344126610074238976 : Nat) : Int)) (by omega) (by omega), wrap_u64z _ (by omega) (by omega)]; omega
    rw [e1, e2, wrap_i64z _ (by omega) (by omega), hd]
    rw [show ((t : Int) + 1) = ((t + 1 : Nat) : Int) by omega]
    rfl

theorem carry_eq {R : Type} (N : Nat) (hN : 100 < N) (xs : List Nat) (hl : xs.length = 10) (hx : ∀ x ∈ xs, x < 4611686018427387904) (r : List Int → Option R) : carry.M N R (nn xs) r = r (E (gg (vl 67108864 xs))) := by
  show carry.m N (nn xs) r = _
  unfold carry.m
  obtain ⟨M, rfl⟩ : ∃ M, N = M + 4 := ⟨N - 4, by omega⟩
  obtain ⟨ys, a1, a2, a3, _, a5⟩ := carry_round (M + 4) hN (fun _ h0 => r h0) 0 (M + 3) (by omega) xs hl hx
  obtain ⟨zs, b1, b2, b3, _, b5⟩ := carry_round (M + 4) hN (fun _ h0 => r h0) 1 (M + 2) (by omega) ys a1 a3
  obtain ⟨us, c1, c2, c3, c4, c5⟩ := carry_round (M + 4) hN (fun _ h0 => r h0) 2 (M + 1) (by omega) zs b1 b3
  have hz : vl 67108864 zs = gg (vl 67108864 xs) := by rw [b2, a2]; rfl
  have hlt : gg (vl 67108864 xs) < 1852673427797059126777135760139006525652319754650249024631321344126610074238976 := (gg_lt (Nat.lt_trans (ten_lt xs hl hx) (by decide))).1
  have hu := c4 (by rw [hz]; exact hlt)
  refine Eq.trans a5 (Eq.trans b5 (Eq.trans c5 ?_))
  rw [carry.L1, decide_eq_false (by decide), cond_false, hu, hz]

/-! ### sums -/

theorem add_loop {R : Type} (N : Nat) (ke : Int → List Int → List Int → Option R) :
    ∀ (xs ys pre pre' : List Nat) (m : Nat), xs.length = ys.length → pre.length = pre'.length → pre.length + xs.length = 10 → xs.length < m → (∀ x ∈ xs, x < 67108864) → (∀ y ∈ ys, y < 67108864) →
      eAdd.L2 (carry.M N) N ke m (pre.length : Int) (nn (pre ++ xs)) (nn (pre' ++ ys)) = ke 10 (nn (pre ++ addL xs ys)) (nn (pre' ++ ys)) := by
  intro xs
  induction xs with
  | nil =>
    intro ys pre pre' m h1 h3 h5 hm _ _
    obtain ⟨m, rfl⟩ : ∃ k, m = k + 1 := ⟨m - 1, by simp at hm; omega⟩
    have hp : (pre.length : Int) = 10 := by simp at h5; omega
    have hr : ys = [] := by simpa using h1.symm
    unfold eAdd.L2
    rw [hp, hr, decide_eq_false (by omega), cond_false]
    rfl
  | cons x xs ih =>
    intro ys pre pre' m h1 h3 h5 hm hx hy
    obtain ⟨m, rfl⟩ : ∃ k, m = k + 1 := ⟨m - 1, by simp at hm; omega⟩
    cases ys with
    | nil => simp at h1
    | cons y ys =>
      have hx0 := hx x (by simp)
      have hy0 := hy y (by simp)
      simp only [List.length_cons] at h1 h5 hm
      unfold eAdd.L2
      have c1 : decide ((pre.length : Int) < 10) = true := decide_eq_true (by omega)
      have c2 : decide (0 ≤ (pre.length : Int)) = true := decide_eq_true (by omega)
      simp only [c1, c2, cond_true]
      have e1 : IntKind.u64.wrap ((x : Int) + (y : Int)) = ((x + y : Nat) : Int) := by rw [wrap_u64z _ (by omega) (by omega)]; omega
      have e5 : IntKind.i64.wrap ((pre.length : Int) + 1) = ((pre ++ [x + y]).length : Int) := by rw [wrap_i64z _ (by omega) (by omega)]; simp
      rw [app_getD pre x xs rfl, app_getD pre' y ys (by omega), e1, e5, app_set pre x xs rfl, app_next pre' y ys, ih ys _ _ m (by omega) (by simp; omega) (by simp; omega) (by omega) (fun z hz => hx z (by simp [hz])) (fun z hz => hy z (by simp [hz]))]
      simp [addL]

theorem addL_lt {M K : Nat} : ∀ (xs ys : List Nat), (∀ x ∈ xs, x < M) → (∀ y ∈ ys, y < K) → ∀ z ∈ addL xs ys, z < M + K
  | [], _, _, _, z, hz => by simp [addL] at hz
  | x :: xs, [], _, _, z, hz => by simp [addL] at hz
  | x :: xs, y :: ys, hx, hy, z, hz => by
    simp only [addL, List.mem_cons] at hz
    have h1 := hx x (by simp)
    have h2 := hy y (by simp)
    rcases hz with rfl | hz
    · omega
    · exact addL_lt xs ys (fun w hw => hx w (by simp [hw])) (fun w hw => hy w (by simp [hw])) z hz

def addE (a b : Nat) : Nat := gg (a + b)
theorem addE_mod (a b : Nat) : addE a b % PP = (a + b) % PP := gg_mod _
theorem addE_lt {a b : Nat} (ha : a < 1852673427797059126777135760139006525652319754650249024631321344126610074238976) (hb : b < 1852673427797059126777135760139006525652319754650249024631321344126610074238976) : addE a b < 1852673427797059126777135760139006525652319754650249024631321344126610074238976 := (gg_lt (by omega)).1

theorem eAdd_eq {R : Type} (N : Nat) (hN : 100 < N) (a b : Nat) (ha : a < 1852673427797059126777135760139006525652319754650249024631321344126610074238976) (hb : b < 1852673427797059126777135760139006525652319754650249024631321344126610074238976) (r : List Int → Option R) : eAdd.M N R (E a) (E b) r = r (E (addE a b)) := by
  show eAdd.m (carry.M N) N (E a) (E b) r = _
  unfold eAdd.m
  have hda := dig_lt (B := 67108864) (by decide) 10 a
  have hdb := dig_lt (B := 67108864) (by decide) 10 b
  have h := add_loop N (fun _ h0 _ => carry.M N R h0 fun b => r b) (dig 67108864 10 a) (dig 67108864 10 b) [] [] N (by simp [dig_length]) rfl (by simp [dig_length]) (by simp [dig_length]; omega) hda hdb
  simp only [List.nil_append, List.length_nil] at h
  refine Eq.trans h ?_
  rw [carry_eq N hN _ (by rw [addL_length _ _ (by simp [dig_length]), dig_length]) (fun x hx => by have := addL_lt _ _ hda hdb x hx; omega), vl_addL _ _ _ (by simp [dig_length]), vl_dig, vl_dig, Q260_eq, Nat.mod_eq_of_lt ha, Nat.mod_eq_of_lt hb]
  rfl

/-! ### differences -/

def many : List Nat := [134216512, 134217726, 134217726, 134217726, 134217726, 134217726, 134217726, 134217726, 134217726, 134217726]
/-- A row less another one, above 64 times the prime. -/
def subL : List Nat → List Nat → List Nat → List Nat
  | x :: xs, z :: zs, y :: ys => (x + (z - y)) :: subL xs zs ys
  | _, _, _ => []

theorem subL_length : ∀ (xs zs ys : List Nat), xs.length = ys.length → zs.length = ys.length → (subL xs zs ys).length = xs.length
  | [], _, _, _, _ => rfl
  | x :: xs, [], [], h, _ => by simp at h
  | x :: xs, [], y :: ys, _, h => by simp at h
  | x :: xs, z :: zs, [], h, _ => by simp at h
  | x :: xs, z :: zs, y :: ys, h, h' => by simp only [subL, List.length_cons]; rw [subL_length xs zs ys (by simpa using h) (by simpa using h')]

theorem vl_subL (B : Nat) : ∀ (xs zs ys : List Nat), xs.length = ys.length → zs.length = ys.length → (∀ (i : Nat) z y, zs[i]? = some z → ys[i]? = some y → y ≤ z) → vl B (subL xs zs ys) + vl B ys = vl B xs + vl B zs
  | [], [], [], _, _, _ => rfl
  | [], _ :: _, [], _, h, _ => by simp at h
  | [], _, y :: ys, h, _, _ => by simp at h
  | x :: xs, _, [], h, _, _ => by simp at h
  | x :: xs, [], y :: ys, _, h, _ => by simp at h
  | x :: xs, z :: zs, y :: ys, h, h', hle => by
    have h0 := hle 0 z y rfl rfl
    have ih := vl_subL B xs zs ys (by simpa using h) (by simpa using h') fun i z' y' a b => hle (i + 1) z' y' (by simpa using a) (by simpa using b)
    have h2 : B * (vl B (subL xs zs ys) + vl B ys) = B * (vl B xs + vl B zs) := by rw [ih]
    rw [Nat.mul_add, Nat.mul_add] at h2
    simp only [subL, vl]
    omega

theorem sub_loop {R : Type} (N : Nat) (ke : Int → List Int → List Int → Option R) :
    ∀ (xs zs ys pre prez pre' : List Nat) (m : Nat), many = prez ++ zs → xs.length = ys.length → zs.length = ys.length → pre.length = pre'.length → prez.length = pre.length → pre.length + xs.length = 10 → xs.length < m → (∀ x ∈ xs, x < 67108864) → (∀ y ∈ ys, y < 67108864) →
      eSub.L2 (carry.M N) N ke m (pre.length : Int) (nn (pre ++ xs)) (nn (pre' ++ ys)) = ke 10 (nn (pre ++ subL xs zs ys)) (nn (pre' ++ ys)) := by
  intro xs
  induction xs with
  | nil =>
    intro zs ys pre prez pre' m h0 h1 h2 h3 h4 h5 hm _ _
    obtain ⟨m, rfl⟩ : ∃ k, m = k + 1 := ⟨m - 1, by simp at hm; omega⟩
    have hp : (pre.length : Int) = 10 := by simp at h5; omega
    have hr : ys = [] := by simpa using h1.symm
    unfold eSub.L2
    rw [hp, hr, decide_eq_false (by omega), cond_false]
    rfl
  | cons x xs ih =>
    intro zs ys pre prez pre' m h0 h1 h2 h3 h4 h5 hm hx hy
    obtain ⟨m, rfl⟩ : ∃ k, m = k + 1 := ⟨m - 1, by simp at hm; omega⟩
    match ys, zs, h0, h1, h2, hy with
    | [], _, _, h1, _, _ => simp at h1
    | y :: ys, [], _, _, h2, _ => simp at h2
    | y :: ys, z :: zs, h0, h1, h2, hy =>
      have hx0 := hx x (by simp)
      have hy0 := hy y (by simp)
      have hz0 : z < 134217728 ∧ 134216511 < z := by
        have hm : z ∈ many := by rw [h0]; simp
        simp only [many, List.mem_cons, List.not_mem_nil, or_false] at hm
        omega
      simp only [List.length_cons] at h1 h2 h5 hm
      unfold eSub.L2
      have c1 : decide ((pre.length : Int) < 10) = true := decide_eq_true (by omega)
      have c2 : decide (0 ≤ (pre.length : Int)) = true := decide_eq_true (by omega)
      simp only [c1, c2, cond_true]
      have eM : ([134216512, 134217726, 134217726, 134217726, 134217726, 134217726, 134217726, 134217726, 134217726, 134217726] : List Int) = nn (prez ++ z :: zs) := by rw [← h0]; rfl
      have e1 : IntKind.u64.wrap ((x : Int) + IntKind.u64.wrap ((z : Int) - (y : Int))) = ((x + (z - y) : Nat) : Int) := by
        rw [wrap_u64z ((z : Int) - (y : Int)) (by omega) (by omega), wrap_u64z _ (by omega) (by omega)]; omega
      have e5 : IntKind.i64.wrap ((pre.length : Int) + 1) = ((pre ++ [x + (z - y)]).length : Int) := by rw [wrap_i64z _ (by omega) (by omega)]; simp
      rw [eM, app_getD pre x xs rfl, app_getD prez z zs (by omega), app_getD pre' y ys (by omega), e1, e5, app_set pre x xs rfl, app_next pre' y ys,
        ih zs ys _ (prez ++ [z]) _ m (by rw [h0]; simp) (by omega) (by omega) (by simp; omega) (by simp; omega) (by simp; omega) (by omega) (fun z hz => hx z (by simp [hz])) (fun z hz => hy z (by simp [hz]))]
      simp [subL]

def subE (a b : Nat) : Nat := gg (a + 64 * PP - b)
theorem many_val : vl 67108864 many = 64 * PP := by decide +kernel
theorem PP64 : 1852673427797059126777135760139006525652319754650249024631321344126610074238976 < 64 * PP ∧ 64 * PP < 3 * 1852673427797059126777135760139006525652319754650249024631321344126610074238976 := by decide +kernel
theorem subE_mod {a b : Nat} (hb : b < 1852673427797059126777135760139006525652319754650249024631321344126610074238976) : subE a b % PP = (a + (PP - b % PP)) % PP := by
  unfold subE
  rw [gg_mod]
  have h1 := Nat.mod_lt b PP_pos
  have h2 := Nat.mod_add_div b PP
  have h3 : PP * (b / PP) ≤ b := by omega
  have h4 := PP64
  have h5 : b / PP < 64 := Nat.div_lt_of_lt_mul (by omega)
  have h6 : PP * (b / PP) + PP * (63 - b / PP) = PP * 63 := by rw [← Nat.mul_add]; congr 1; omega
  have e : a + 64 * PP - b = (a + (PP - b % PP)) + PP * (63 - b / PP) := by omega
  rw [e, Nat.add_mul_mod_self_left]
theorem subE_lt {a b : Nat} (ha : a < 1852673427797059126777135760139006525652319754650249024631321344126610074238976) : subE a b < 1852673427797059126777135760139006525652319754650249024631321344126610074238976 := (gg_lt (by have := PP64; omega)).1

theorem subL_lt : ∀ (xs zs ys : List Nat), (∀ x ∈ xs, x < 67108864) → (∀ z ∈ zs, z < 134217728) → ∀ u ∈ subL xs zs ys, u < 4611686018427387904
  | [], _, _, _, _, z, hz => by simp [subL] at hz
  | x :: xs, [], _, _, _, z, hz => by simp [subL] at hz
  | x :: xs, _ :: _, [], _, _, z, hz => by simp [subL] at hz
  | x :: xs, z :: zs, y :: ys, hx, hz, u, hu => by
    simp only [subL, List.mem_cons] at hu
    have h1 := hx x (by simp)
    have h2 := hz z (by simp)
    rcases hu with rfl | hu
    · omega
    · exact subL_lt xs zs ys (fun w hw => hx w (by simp [hw])) (fun w hw => hz w (by simp [hw])) u hu

theorem eSub_eq {R : Type} (N : Nat) (hN : 100 < N) (a b : Nat) (ha : a < 1852673427797059126777135760139006525652319754650249024631321344126610074238976) (hb : b < 1852673427797059126777135760139006525652319754650249024631321344126610074238976) (r : List Int → Option R) : eSub.M N R (E a) (E b) r = r (E (subE a b)) := by
  show eSub.m (carry.M N) N (E a) (E b) r = _
  unfold eSub.m
  have hda := dig_lt (B := 67108864) (by decide) 10 a
  have hdb := dig_lt (B := 67108864) (by decide) 10 b
  have h := sub_loop N (fun _ h0 _ => carry.M N R h0 fun b => r b) (dig 67108864 10 a) many (dig 67108864 10 b) [] [] [] N rfl (by simp [dig_length]) (by simp [dig_length, many]) rfl rfl (by simp [dig_length]) (by simp [dig_length]; omega) hda hdb
  simp only [List.nil_append, List.length_nil] at h
  refine Eq.trans h ?_
  have hv := vl_subL 67108864 (dig 67108864 10 a) many (dig 67108864 10 b) (by simp [dig_length]) (by simp [dig_length, many]) (fun i z y hz hy => by
    have h1 := hdb y (List.mem_of_getElem? hy)
    have h2 : z ∈ many := List.mem_of_getElem? hz
    simp only [many, List.mem_cons, List.not_mem_nil, or_false] at h2
    omega)
  rw [vl_dig, vl_dig, Q260_eq, Nat.mod_eq_of_lt ha, Nat.mod_eq_of_lt hb, many_val] at hv
  rw [carry_eq N hN _ (by rw [subL_length _ _ _ (by simp [dig_length]) (by simp [dig_length, many]), dig_length]) (subL_lt _ _ _ hda (fun z hz => by
    simp only [many, List.mem_cons, List.not_mem_nil, or_false] at hz
    omega))]
  unfold subE
  rw [show vl 67108864 (subL (dig 67108864 10 a) many (dig 67108864 10 b)) = a + 64 * PP - b by omega]
end Go.Proofs.YtjaappocnonkbaaDoor.fn
