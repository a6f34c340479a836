/- What the field's least numbers and bytes come to. -/
import Derived.Test.YtjaappocnonkbaaDoorMFieldB
namespace Go.Proofs.YtjaappocnonkbaaDoor.fn
open Go Go.Proofs Go.Ev Go.Dg

theorem T255 : 67108864 ^ 9 * 2097152 = 57896044618658097711785492504343953926634992332820282019728792003956564819968 := by decide +kernel
theorem Q_T : 57896044618658097711785492504343953926634992332820282019728792003956564819968 * 32 = 1852673427797059126777135760139006525652319754650249024631321344126610074238976 := by decide +kernel
theorem PP_T : PP + 19 = 57896044618658097711785492504343953926634992332820282019728792003956564819968 := by decide +kernel

theorem fold_next {R : Type} (N : Nat) (ke : Int → List Int → Option R) :
    ∀ (xs : List Nat) (x : Nat) (pre : List Nat) (m : Nat), pre.length + xs.length = 9 → xs.length < m → x < 1000000000000000000 → (∀ z ∈ xs, z < 100000000000000000) →
      fold.L4 N ke m (pre.length : Int) (nn (pre ++ x :: xs)) = ke 9 (nn (pre ++ cnx 67108864 (x :: xs))) := by
  intro xs
  induction xs with
  | nil =>
    intro x pre m h5 hm _ _
    obtain ⟨m, rfl⟩ : ∃ k, m = k + 1 := ⟨m - 1, by simp at hm; omega⟩
    have hp : (pre.length : Int) = 9 := by simp at h5; omega
    unfold fold.L4
    rw [hp, decide_eq_false (by omega), cond_false, cnx_one]
  | cons y ys ih =>
    intro x pre m h5 hm hx hys
    obtain ⟨m, rfl⟩ : ∃ k, m = k + 1 := ⟨m - 1, by simp at hm; omega⟩
    have hy0 := hys y (by simp)
    simp only [List.length_cons] at h5 hm
    unfold fold.L4
    have e0 : IntKind.i64.wrap ((pre.length : Int) + 1) = ((pre.length + 1 : Nat) : Int) := by rw [wrap_i64z _ (by omega) (by omega)]; omega
    have c1 : decide ((pre.length : Int) < 9) = true := decide_eq_true (by omega)
    have c2 : decide (0 ≤ (pre.length : Int)) = true := decide_eq_true (by omega)
    have c3 : decide (((pre.length + 1 : Nat) : Int) < 10) = true := decide_eq_true (by omega)
    have c4 : decide (0 ≤ ((pre.length + 1 : Nat) : Int)) = true := decide_eq_true (by omega)
    have c5 : decide ((pre.length : Int) < 10) = true := decide_eq_true (by omega)
    simp only [e0, c1, c2, c3, c4, c5, cond_true]
    have g1 : (nn (pre ++ x :: y :: ys)).getD (pre.length : Int).toNat 0 = (x : Int) := app_getD pre x (y :: ys) rfl
    have g2 : (nn (pre ++ x :: y :: ys)).getD ((pre.length + 1 : Nat) : Int).toNat 0 = (y : Int) := by
      rw [app_next pre x (y :: ys)]; exact app_getD (pre ++ [x]) y ys (by simp)
    have e2 : ishr .u64 (x : Int) 26 = ((x / 67108864 : Nat) : Int) := ishr_nat .u64 _ 26 (by decide)
    have e1 : IntKind.u64.wrap ((y : Int) + ((x / 67108864 : Nat) : Int)) = ((y + x / 67108864 : Nat) : Int) := by rw [wrap_u64z _ (by omega) (by omega)]; omega
    have s1 : (nn (pre ++ x :: y :: ys)).set ((pre.length + 1 : Nat) : Int).toNat ((y + x / 67108864 : Nat) : Int) = nn (pre ++ x :: (y + x / 67108864) :: ys) := by
      rw [app_next pre x (y :: ys), app_set' (pre ++ [x]) y ys (by simp)]; simp
    rw [g1, g2, e2, e1, s1]
    have g3 : (nn (pre ++ x :: (y + x / 67108864) :: ys)).getD (pre.length : Int).toNat 0 = (x : Int) := app_getD pre x _ rfl
    have e3 : iand .u64 (x : Int) 67108863 = ((x % 67108864 : Nat) : Int) := iand_mask _ 26 (by omega) (by omega)
    rw [g3, e3, app_set pre x _ rfl]
    have e5 : ((pre.length + 1 : Nat) : Int) = ((pre ++ [x % 67108864]).length : Int) := by simp
    rw [e5, ih (y + x / 67108864) (pre ++ [x % 67108864]) m (by simp; omega) (by omega) (by omega) (fun z hz => hys z (by simp [hz])), cnx_cons]
    simp

theorem least_next {R : Type} (N : Nat) (ke : Int → List Int → List Int → Option R) (h0 : List Int) :
    ∀ (xs : List Nat) (x : Nat) (pre : List Nat) (m : Nat), pre.length + xs.length = 9 → xs.length < m → x < 1000000000000000000 → (∀ z ∈ xs, z < 100000000000000000) →
      least.L7 (carry.M N) (fold.M N) (ePick.M N) N ke m (pre.length : Int) h0 (nn (pre ++ x :: xs)) = ke 9 h0 (nn (pre ++ cnx 67108864 (x :: xs))) := by
  intro xs
  induction xs with
  | nil =>
    intro x pre m h5 hm _ _
    obtain ⟨m, rfl⟩ : ∃ k, m = k + 1 := ⟨m - 1, by simp at hm; omega⟩
    have hp : (pre.length : Int) = 9 := by simp at h5; omega
    unfold least.L7
    rw [hp, decide_eq_false (by omega), cond_false, cnx_one]
  | cons y ys ih =>
    intro x pre m h5 hm hx hys
    obtain ⟨m, rfl⟩ : ∃ k, m = k + 1 := ⟨m - 1, by simp at hm; omega⟩
    have hy0 := hys y (by simp)
    simp only [List.length_cons] at h5 hm
    unfold least.L7
    have e0 : IntKind.i64.wrap ((pre.length : Int) + 1) = ((pre.length + 1 : Nat) : Int) := by rw [wrap_i64z _ (by omega) (by omega)]; omega
    have c1 : decide ((pre.length : Int) < 9) = true := decide_eq_true (by omega)
    have c2 : decide (0 ≤ (pre.length : Int)) = true := decide_eq_true (by omega)
    have c3 : decide (((pre.length + 1 : Nat) : Int) < 10) = true := decide_eq_true (by omega)
    have c4 : decide (0 ≤ ((pre.length + 1 : Nat) : Int)) = true := decide_eq_true (by omega)
    have c5 : decide ((pre.length : Int) < 10) = true := decide_eq_true (by omega)
    simp only [e0, c1, c2, c3, c4, c5, cond_true]
    have g1 : (nn (pre ++ x :: y :: ys)).getD (pre.length : Int).toNat 0 = (x : Int) := app_getD pre x (y :: ys) rfl
    have g2 : (nn (pre ++ x :: y :: ys)).getD ((pre.length + 1 : Nat) : Int).toNat 0 = (y : Int) := by
      rw [app_next pre x (y :: ys)]; exact app_getD (pre ++ [x]) y ys (by simp)
    have e2 : ishr .u64 (x : Int) 26 = ((x / 67108864 : Nat) : Int) := ishr_nat .u64 _ 26 (by decide)
    have e1 : IntKind.u64.wrap ((y : Int) + ((x / 67108864 : Nat) : Int)) = ((y + x / 67108864 : Nat) : Int) := by rw [wrap_u64z _ (by omega) (by omega)]; omega
    have s1 : (nn (pre ++ x :: y :: ys)).set ((pre.length + 1 : Nat) : Int).toNat ((y + x / 67108864 : Nat) : Int) = nn (pre ++ x :: (y + x / 67108864) :: ys) := by
      rw [app_next pre x (y :: ys), app_set' (pre ++ [x]) y ys (by simp)]; simp
    rw [g1, g2, e2, e1, s1]
    have g3 : (nn (pre ++ x :: (y + x / 67108864) :: ys)).getD (pre.length : Int).toNat 0 = (x : Int) := app_getD pre x _ rfl
    have e3 : iand .u64 (x : Int) 67108863 = ((x % 67108864 : Nat) : Int) := iand_mask _ 26 (by omega) (by omega)
    rw [g3, e3, app_set pre x _ rfl]
    have e5 : ((pre.length + 1 : Nat) : Int) = ((pre ++ [x % 67108864]).length : Int) := by simp
    rw [e5, ih (y + x / 67108864) (pre ++ [x % 67108864]) m (by simp; omega) (by omega) (by omega) (fun z hz => hys z (by simp [hz])), cnx_cons]
    simp

/-- What is at 2^255 and above comes down. -/
def ff (v : Nat) : Nat := v % 57896044618658097711785492504343953926634992332820282019728792003956564819968 + 19 * (v / 57896044618658097711785492504343953926634992332820282019728792003956564819968)
theorem ff_mod (v : Nat) : ff v % PP = v % PP := by
  have h := Nat.mod_add_div v 57896044618658097711785492504343953926634992332820282019728792003956564819968
  have h2 := PP_T
  have e : v = ff v + PP * (v / 57896044618658097711785492504343953926634992332820282019728792003956564819968) := by
    unfold ff
    have h3 : (PP + 19) * (v / 57896044618658097711785492504343953926634992332820282019728792003956564819968) = PP * (v / 57896044618658097711785492504343953926634992332820282019728792003956564819968) + 19 * (v / 57896044618658097711785492504343953926634992332820282019728792003956564819968) := Nat.add_mul _ _ _
    rw [h2] at h3
    omega
  conv => rhs; rw [e]
  rw [Nat.add_mul_mod_self_left]
theorem ff_lt {v : Nat} (h : v < 1852673427797059126777135760139006525652319754650249024631321344126610074238976) : ff v < 57896044618658097711785492504343953926634992332820282019728792003956564819968 + 608 := by
  have h1 : v / 57896044618658097711785492504343953926634992332820282019728792003956564819968 < 32 := Nat.div_lt_of_lt_mul (by rw [Q_T]; exact h)
  have h2 := Nat.mod_lt v (show 0 < 57896044618658097711785492504343953926634992332820282019728792003956564819968 by decide)
  unfold ff; omega
theorem ff_lt2 {v : Nat} (h : v < 57896044618658097711785492504343953926634992332820282019728792003956564819968 + 608) : ff v < 57896044618658097711785492504343953926634992332820282019728792003956564819968 := by
  unfold ff
  rcases Nat.lt_or_ge v 57896044618658097711785492504343953926634992332820282019728792003956564819968 with q | q
  · rw [Nat.div_eq_of_lt q, Nat.mod_eq_of_lt q]; omega
  · have : v / 57896044618658097711785492504343953926634992332820282019728792003956564819968 = 1 := Nat.div_eq_of_lt_le (by omega) (by omega)
    rw [this, Nat.mod_eq_sub_mod q, Nat.mod_eq_of_lt (by omega)]
    omega

theorem set9 (v x : Nat) : (E v).set 9 (x : Int) = nn (dig 67108864 9 v ++ [x]) := by
  have h : dig 67108864 10 v = dig 67108864 9 v ++ [v / 67108864 ^ 9 % 67108864] := dig_snoc 67108864 9 v
  show (nn (dig 67108864 10 v)).set 9 (x : Int) = _
  rw [h, nn_set, List.set_append_right _ _ (by simp [dig_length])]
  simp [dig_length]

theorem get9 (v : Nat) (hv : v < 1852673427797059126777135760139006525652319754650249024631321344126610074238976) : (E v).getD 9 0 = ((v / 67108864 ^ 9 : Nat) : Int) ∧ v / 67108864 ^ 9 < 67108864 := by
  have hlt : v / 67108864 ^ 9 < 67108864 := Nat.div_lt_of_lt_mul (by rw [← Nat.pow_succ, Q260_eq]; exact hv)
  show (nn (dig 67108864 10 v)).getD 9 0 = _ ∧ _
  rw [nn_getD, dig_getD 10 v 9 (by omega), Nat.mod_eq_of_lt hlt]
  exact ⟨rfl, hlt⟩

theorem top_div (v : Nat) : v / 67108864 ^ 9 / 2097152 = v / 57896044618658097711785492504343953926634992332820282019728792003956564819968 := by rw [Nat.div_div_eq_div_mul, T255]

theorem fold_eq {R : Type} (N : Nat) (hN : 100 < N) (v : Nat) (hv : v < 1852673427797059126777135760139006525652319754650249024631321344126610074238976) (r : List Int → Option R) : fold.M N R (E v) r = r (E (ff v)) := by
  show fold.m N (E v) r = _
  unfold fold.m
  obtain ⟨h9, h9lt⟩ := get9 v hv
  have e1 : iand .u64 ((v / 67108864 ^ 9 : Nat) : Int) 2097151 = ((v / 67108864 ^ 9 % 2097152 : Nat) : Int) := iand_mask _ 21 (by omega) (by omega)
  have e2 : ishr .u64 ((v / 67108864 ^ 9 : Nat) : Int) 21 = ((v / 67108864 ^ 9 / 2097152 : Nat) : Int) := ishr_nat .u64 _ 21 (by decide)
  rw [h9, e1, e2, set9]
  have h0 : dig 67108864 9 v ++ [v / 67108864 ^ 9 % 2097152] = (v % 67108864) :: (dig 67108864 8 (v / 67108864) ++ [v / 67108864 ^ 9 % 2097152]) := rfl
  have hd0 : v % 67108864 < 67108864 := Nat.mod_lt _ (by decide)
  have hov : v / 67108864 ^ 9 / 2097152 < 32 := by omega
  rw [h0]
  have e3 : (nn ((v % 67108864) :: (dig 67108864 8 (v / 67108864) ++ [v / 67108864 ^ 9 % 2097152]))).getD 0 0 = ((v % 67108864 : Nat) : Int) := rfl
  have e4 : IntKind.u64.wrap (((v % 67108864 : Nat) : Int) + IntKind.u64.wrap (19 * ((v / 67108864 ^ 9 / 2097152 : Nat) : Int))) = ((v % 67108864 + 19 * (v / 67108864 ^ 9 / 2097152) : Nat) : Int) := by
    rw [wrap_u64z (19 * _) (by omega) (by omega), wrap_u64z _ (by omega) (by omega)]; omega
  rw [e3, e4]
  have e5 : (nn ((v % 67108864) :: (dig 67108864 8 (v / 67108864) ++ [v / 67108864 ^ 9 % 2097152]))).set 0 ((v % 67108864 + 19 * (v / 67108864 ^ 9 / 2097152) : Nat) : Int) = nn ((v % 67108864 + 19 * (v / 67108864 ^ 9 / 2097152)) :: (dig 67108864 8 (v / 67108864) ++ [v / 67108864 ^ 9 % 2097152])) := rfl
  rw [e5]
  have h := fold_next (R := R) N (fun _ h0 => r h0) (dig 67108864 8 (v / 67108864) ++ [v / 67108864 ^ 9 % 2097152]) (v % 67108864 + 19 * (v / 67108864 ^ 9 / 2097152)) [] N (by simp [dig_length]) (by simp [dig_length]; omega) (by omega) (fun z hz => by
    simp only [List.mem_append, List.mem_singleton] at hz
    rcases hz with hz | rfl
    · have := dig_lt (B := 67108864) (by decide) 8 _ z hz; omega
    · omega)
  simp only [List.nil_append, List.length_nil] at h
  refine Eq.trans h ?_
  have hval : vl 67108864 ((v % 67108864 + 19 * (v / 67108864 ^ 9 / 2097152)) :: (dig 67108864 8 (v / 67108864) ++ [v / 67108864 ^ 9 % 2097152])) = ff v := by
    have hv0 : vl 67108864 (dig 67108864 9 v ++ [v / 67108864 ^ 9 % 2097152]) = v % 57896044618658097711785492504343953926634992332820282019728792003956564819968 := by
      rw [dig_top 67108864 9 v 2097152 (by decide) (by decide) (by decide), vl_dig, T255, Q260_eq, Nat.mod_eq_of_lt]
      exact Nat.lt_of_lt_of_le (Nat.mod_lt _ (by decide)) (by decide)
    rw [h0] at hv0
    simp only [vl] at hv0 ⊢
    unfold ff
    rw [top_div]
    omega
  rw [cnx_full (n := 9) (by decide) (by simp [dig_length]) (by rw [hval, Q260_eq]; exact Nat.lt_trans (ff_lt hv) (by decide)), hval]

/-! ### the least number -/

theorem Pick_eq {R : Type} (N : Nat) (b : Bool) (x y : Nat) (hx : x < 18446744073709551616) (hy : y < 18446744073709551616) (r : Int → Option R) : Pick.M N R b (x : Int) (y : Int) r = r ((if b then x else y : Nat) : Int) := by
  show Pick.m N b (x : Int) (y : Int) r = _
  have e1 : (x : Int) = un (BitVec.ofNat 64 x) := by unfold un; rw [BitVec.toNat_ofNat, Nat.mod_eq_of_lt hx]
  have e2 : (y : Int) = un (BitVec.ofNat 64 y) := by unfold un; rw [BitVec.toNat_ofNat, Nat.mod_eq_of_lt hy]
  have m1 : (18446744073709551615 : Int) = un (BitVec.allOnes 64) := by decide
  have m0 : (0 : Int) = un (0#64) := rfl
  unfold Pick.m
  cases b with
  | true =>
    simp only [cond_true, if_true]
    rw [e1, e2, m1, iand64, iandn64, ior64]
    congr 2
    apply BitVec.eq_of_getLsbD_eq
    intro i hi
    rw [BitVec.getLsbD_or, BitVec.getLsbD_and, BitVec.getLsbD_and, BitVec.getLsbD_not, BitVec.getLsbD_allOnes]
    simp [hi]
  | false =>
    simp only [cond_false, Bool.false_eq_true, if_false]
    rw [e1, e2, m0, iand64, iandn64, ior64]
    congr 2
    apply BitVec.eq_of_getLsbD_eq
    intro i hi
    rw [BitVec.getLsbD_or, BitVec.getLsbD_and, BitVec.getLsbD_and, BitVec.getLsbD_not, BitVec.getLsbD_zero]
    simp [hi]

theorem pick_loop {R : Type} (N : Nat) (ke : Bool → Int → List Int → List Int → Option R) (b : Bool) :
    ∀ (xs ys pre pre' : List Nat) (m : Nat), xs.length = ys.length → pre.length = pre'.length → pre.length + xs.length = 10 → xs.length < m → (∀ x ∈ xs, x < 67108864) → (∀ y ∈ ys, y < 67108864) →
      ePick.L2 (Pick.M N) N ke m b (pre.length : Int) (nn (pre ++ xs)) (nn (pre' ++ ys)) = ke b 10 (nn (pre ++ (if b then xs else ys))) (nn (pre' ++ ys)) := by
  intro xs
  induction xs with
  | nil =>
    intro ys pre pre' m h1 h3 h5 hm _ _
    obtain ⟨m, rfl⟩ : ∃ k, m = k + 1 := ⟨m - 1, by simp at hm; omega⟩
    have hp : (pre.length : Int) = 10 := by simp at h5; omega
    have hr : ys = [] := by simpa using h1.symm
    unfold ePick.L2
    rw [hp, hr, decide_eq_false (by omega), cond_false]
    simp
  | cons x xs ih =>
    intro ys pre pre' m h1 h3 h5 hm hx hy
    obtain ⟨m, rfl⟩ : ∃ k, m = k + 1 := ⟨m - 1, by simp at hm; omega⟩
    cases ys with
    | nil => simp at h1
    | cons y ys =>
      have hx0 := hx x (by simp)
      have hy0 := hy y (by simp)
      simp only [List.length_cons] at h1 h5 hm
      unfold ePick.L2
      have c1 : decide ((pre.length : Int) < 10) = true := decide_eq_true (by omega)
      have c2 : decide (0 ≤ (pre.length : Int)) = true := decide_eq_true (by omega)
      simp only [c1, c2, cond_true]
      rw [app_getD pre x xs rfl, app_getD pre' y ys (by omega), Pick_eq N b x y (by omega) (by omega)]
      have e5 : IntKind.i64.wrap ((pre.length : Int) + 1) = ((pre ++ [if b then x else y]).length : Int) := by rw [wrap_i64z _ (by omega) (by omega)]; simp
      rw [e5, app_set pre x xs rfl, app_next pre' y ys, ih ys _ _ m (by omega) (by simp; omega) (by simp; omega) (by omega) (fun z hz => hx z (by simp [hz])) (fun z hz => hy z (by simp [hz]))]
      cases b <;> simp

theorem ePick_eq {R : Type} (N : Nat) (hN : 100 < N) (b : Bool) (v w : Nat) (r : List Int → Option R) : ePick.M N R b (E v) (E w) r = r (E (if b then v else w)) := by
  show ePick.m (Pick.M N) N b (E v) (E w) r = _
  unfold ePick.m
  have h := pick_loop N (fun _ _ h0 _ => r h0) b (dig 67108864 10 v) (dig 67108864 10 w) [] [] N (by simp [dig_length]) rfl (by simp [dig_length]) (by simp [dig_length]; omega) (dig_lt (by decide) 10 _) (dig_lt (by decide) 10 _)
  simp only [List.nil_append, List.length_nil] at h
  refine Eq.trans h ?_
  cases b <;> rfl

/-- The number with 19 more tells whether it is as great as the prime. -/
theorem least_pick {R : Type} (N : Nat) (hN : 100 < N) (u : Nat) (h3 : u < 57896044618658097711785492504343953926634992332820282019728792003956564819968) (r : List Int → Option R) :
    ePick.M N R (ishr IntKind.u64 ((E (u + 19)).getD 9 0) 21 != 0) ((E (u + 19)).set 9 (iand IntKind.u64 ((E (u + 19)).getD 9 0) 2097151)) (E u) r = r (E (u % PP)) := by
  have hPT := PP_T
  have hu19 : u + 19 < 1852673427797059126777135760139006525652319754650249024631321344126610074238976 := by omega
  obtain ⟨h9, h9lt⟩ := get9 (u + 19) hu19
  have e1 : iand .u64 (((u + 19) / 67108864 ^ 9 : Nat) : Int) 2097151 = (((u + 19) / 67108864 ^ 9 % 2097152 : Nat) : Int) := iand_mask _ 21 (by omega) (by omega)
  have e2 : ishr .u64 (((u + 19) / 67108864 ^ 9 : Nat) : Int) 21 = (((u + 19) / 57896044618658097711785492504343953926634992332820282019728792003956564819968 : Nat) : Int) := by rw [← top_div]; exact ishr_nat .u64 _ 21 (by decide)
  have e3 : nn (dig 67108864 9 (u + 19) ++ [(u + 19) / 67108864 ^ 9 % 2097152]) = E ((u + 19) % 57896044618658097711785492504343953926634992332820282019728792003956564819968) := by rw [dig_top 67108864 9 (u + 19) 2097152 (by decide) (by decide) (by decide), T255]
  rw [h9, e1, e2, set9, e3, ePick_eq N hN]
  congr 2
  rcases Nat.lt_or_ge u PP with q | q
  · have : (u + 19) / 57896044618658097711785492504343953926634992332820282019728792003956564819968 = 0 := Nat.div_eq_of_lt (by omega)
    rw [this, Nat.mod_eq_of_lt q]; rfl
  · have : (u + 19) / 57896044618658097711785492504343953926634992332820282019728792003956564819968 = 1 := Nat.div_eq_of_lt_le (by omega) (by omega)
    rw [this]
    have e : (((1 : Nat) : Int) != 0) = true := rfl
    rw [e, if_pos rfl, Nat.mod_eq_sub_mod (show 57896044618658097711785492504343953926634992332820282019728792003956564819968 ≤ u + 19 by omega), Nat.mod_eq_of_lt (show u + 19 - 57896044618658097711785492504343953926634992332820282019728792003956564819968 < 57896044618658097711785492504343953926634992332820282019728792003956564819968 by omega), Nat.mod_eq_sub_mod q, Nat.mod_eq_of_lt (show u - PP < PP by omega)]
    omega

theorem least_mid {R : Type} (N : Nat) (hN : 100 < N) (u : Nat) (h3 : u < 57896044618658097711785492504343953926634992332820282019728792003956564819968) (ke : Int → List Int → List Int → Option R) :
    least.L7 (carry.M N) (fold.M N) (ePick.M N) N ke N 0 (E u) ((E u).set 0 (IntKind.u64.wrap ((E u).getD 0 0 + 19))) = ke 9 (E u) (E (u + 19)) := by
  have h0 : dig 67108864 10 u = (u % 67108864) :: dig 67108864 9 (u / 67108864) := rfl
  have hd0 : u % 67108864 < 67108864 := Nat.mod_lt _ (by decide)
  have e3 : (E u).getD 0 0 = ((u % 67108864 : Nat) : Int) := rfl
  have e4 : IntKind.u64.wrap (((u % 67108864 : Nat) : Int) + 19) = ((u % 67108864 + 19 : Nat) : Int) := by rw [wrap_u64z _ (by omega) (by omega)]; omega
  have e5 : (E u).set 0 ((u % 67108864 + 19 : Nat) : Int) = nn ((u % 67108864 + 19) :: dig 67108864 9 (u / 67108864)) := rfl
  rw [e3, e4, e5]
  have h := least_next (R := R) N ke (E u) (dig 67108864 9 (u / 67108864)) (u % 67108864 + 19) [] N
    (by simp [dig_length]) (by simp [dig_length]; omega) (by omega) (fun z hz => by have := dig_lt (B := 67108864) (by decide) 9 _ z hz; omega)
  simp only [List.nil_append, List.length_nil] at h
  refine Eq.trans h ?_
  have hval : vl 67108864 ((u % 67108864 + 19) :: dig 67108864 9 (u / 67108864)) = u + 19 := by
    have hv0 := vl_dig (B := 67108864) 10 u
    rw [h0, Q260_eq, Nat.mod_eq_of_lt (show u < 1852673427797059126777135760139006525652319754650249024631321344126610074238976 by omega)] at hv0
    simp only [vl] at hv0 ⊢
    omega
  have hu19 : u + 19 < 1852673427797059126777135760139006525652319754650249024631321344126610074238976 := by omega
  rw [cnx_full (n := 9) (by decide) (by simp [dig_length]) (by rw [hval, Q260_eq]; exact hu19), hval]

theorem least_eq {R : Type} (N : Nat) (hN : 100 < N) (v : Nat) (hv : v < 1852673427797059126777135760139006525652319754650249024631321344126610074238976) (r : List Int → Option R) : least.M N R (E v) r = r (E (v % PP)) := by
  show least.m (carry.M N) (fold.M N) (ePick.M N) N (E v) r = _
  unfold least.m
  have hd := dig_lt (B := 67108864) (by decide) 10 v
  rw [carry_eq N hN _ (dig_length _ _ _) (fun x hx => by have := hd x hx; omega), vl_dig, Q260_eq, Nat.mod_eq_of_lt hv]
  have h1 := (gg_lt (v := v) (by omega)).1
  have h2 := ff_lt h1
  have h3 := ff_lt2 h2
  have hum : ff (ff (gg v)) % PP = v % PP := by rw [ff_mod, ff_mod, gg_mod]
  rw [fold_eq N hN _ h1, fold_eq N hN _ (Nat.lt_trans h2 (by decide)), least_mid N hN _ h3, least_pick N hN _ h3, hum]

theorem Odd_eq {R : Type} (N : Nat) (hN : 100 < N) (v : Nat) (hv : v < 1852673427797059126777135760139006525652319754650249024631321344126610074238976) (r : Bool → Option R) : Odd.M N R (E v) r = r (decide (v % PP % 2 = 1)) := by
  show Odd.m (least.M N) N (E v) r = _
  unfold Odd.m
  rw [least_eq N hN v hv]
  have e3 : (E (v % PP)).getD 0 0 = ((v % PP % 67108864 : Nat) : Int) := rfl
  have hb : v % PP % 67108864 < 67108864 := Nat.mod_lt _ (by decide)
  rw [e3, iand_one64 _ (by omega), Nat.mod_mod_of_dvd _ (by decide)]
  congr 1
  rw [Bool.eq_iff_iff, beq_iff_eq, decide_eq_true_iff]
  omega

/-! ### bytes -/

theorem ebytes_loop {R : Type} (N : Nat) (ke : Int → List Int → List Int → Option R) (v : Nat) :
    ∀ (d i m : Nat), i + d = 255 → d < m → eBytes.L4 (least.M N) N ke m (i : Int) (E v) (nn (dig 256 32 (v % 2 ^ i))) = ke 255 (E v) (nn (dig 256 32 (v % 2 ^ 255))) := by
  intro d
  induction d with
  | zero =>
    intro i m h hm
    obtain ⟨m, rfl⟩ : ∃ k, m = k + 1 := ⟨m - 1, by omega⟩
    obtain rfl : i = 255 := by omega
    unfold eBytes.L4
    rw [decide_eq_false (by omega), cond_false]
    rfl
  | succ d ih =>
    intro i m h hm
    obtain ⟨m, rfl⟩ : ∃ k, m = k + 1 := ⟨m - 1, by omega⟩
    unfold eBytes.L4
    have e1 : (i : Int).tdiv 8 = ((i / 8 : Nat) : Int) := tdivN i 8
    have e2 : (i : Int).tmod 8 = ((i % 8 : Nat) : Int) := tmodN i 8
    have e3 : (i : Int).tdiv 26 = ((i / 26 : Nat) : Int) := tdivN i 26
    have e4 : (i : Int).tmod 26 = ((i % 26 : Nat) : Int) := tmodN i 26
    rw [e1, e2, e3, e4, wrap_i64z ((i / 8 : Nat) : Int) (by omega) (by omega), wrap_i64z ((i / 26 : Nat) : Int) (by omega) (by omega)]
    have c0 : decide ((i : Int) < 255) = true := decide_eq_true (by omega)
    have c1 : decide (0 ≤ ((i / 8 : Nat) : Int)) = true := decide_eq_true (by omega)
    have c2 : decide (((i / 8 : Nat) : Int) < 32) = true := decide_eq_true (by omega)
    have c3 : decide (0 ≤ ((i / 26 : Nat) : Int)) = true := decide_eq_true (by omega)
    have c4 : decide (((i / 26 : Nat) : Int) < 10) = true := decide_eq_true (by omega)
    have c5 : decide (((i % 8 : Nat) : Int) < 0) = false := decide_eq_false (by omega)
    have c6 : decide (((i % 26 : Nat) : Int) < 0) = false := decide_eq_false (by omega)
    simp only [c0, c1, c2, c3, c4, c5, c6, cond_true, cond_false, Bool.and_false]
    rw [Int.toNat_natCast (i / 8), Int.toNat_natCast (i / 26)]
    have g1 : (E v).getD (i / 26) 0 = ((v / 67108864 ^ (i / 26) % 67108864 : Nat) : Int) := by
      show (nn (dig 67108864 10 v)).getD (i / 26) 0 = _
      rw [nn_getD, dig_getD 10 v _ (by omega)]
    have hb1 : v / 67108864 ^ (i / 26) % 67108864 < 67108864 := Nat.mod_lt _ (by decide)
    have hb2 : v / 67108864 ^ (i / 26) % 67108864 / 2 ^ (i % 26) ≤ v / 67108864 ^ (i / 26) % 67108864 := Nat.div_le_self _ _
    have hbit : v / 2 ^ i % 2 ≤ 1 := by have := Nat.mod_lt (v / 2 ^ i) (show 0 < 2 by decide); omega
    have h8 : i % 8 < 8 := Nat.mod_lt _ (by decide)
    obtain ⟨d1, d2⟩ := dig_bit 8 32 (v % 2 ^ i) i (v / 2 ^ i % 2) (by decide) (Nat.mod_lt _ (Nat.pow_pos (by decide))) hbit (by omega)
    rw [show (2 : Nat) ^ 8 = 256 from rfl] at d1 d2
    rw [g1, ishr_nat .u64 _ (i % 26) (by simp only [IntKind.bits]; omega), iand_one64 _ (by omega), sub_bit26, wrap_u8, Nat.mod_eq_of_lt (show v / 2 ^ i % 2 < 256 by omega), ishl_bit .u8 rfl _ _ hbit (by simp only [IntKind.bits]; exact h8),
      nn_getD, dig_getD 32 _ _ (by omega), ior_put .u8 rfl _ _ _ d2 hbit (by simp only [IntKind.bits]; exact h8), nn_set, ← d1, ← mod_bit]
    rw [wrap_i64z _ (by omega) (by omega), show ((i : Int) + 1) = ((i + 1 : Nat) : Int) by omega, ih (i + 1) m (by omega) (by omega)]

theorem zeros32 : ([0, 0, 0, 0, 0, 0, 0, 0, 0, 0, 0, 0, 0, 0, 0, 0, 0, 0, 0, 0, 0, 0, 0, 0, 0, 0, 0, 0, 0, 0, 0, 0] : List Int) = nn (dig 256 32 0) := by decide +kernel

theorem eBytes_eq {R : Type} (N : Nat) (hN : 1000 < N) (v : Nat) (hv : v < 1852673427797059126777135760139006525652319754650249024631321344126610074238976) (r : List Int → Option R) : eBytes.M N R (E v) r = r (nn (dig 256 32 (v % PP))) := by
  show eBytes.m (least.M N) N (E v) r = _
  unfold eBytes.m
  rw [least_eq N (by omega) v hv, zeros32]
  have h := ebytes_loop (R := R) N (fun _ _ h2 => r h2) (v % PP) 255 0 N rfl (by omega)
  rw [show v % PP % 2 ^ 0 = 0 by simp [Nat.mod_one]] at h
  refine Eq.trans h ?_
  have hPT := PP_T
  have := Nat.mod_lt v PP_pos
  rw [show (2 : Nat) ^ 255 = 57896044618658097711785492504343953926634992332820282019728792003956564819968 by decide +kernel, Nat.mod_eq_of_lt (by omega)]

theorem read_loop {R : Type} (N : Nat) (ke : Int → List Int → List Int → Option R) (B : Nat) :
    ∀ (d i m : Nat), i + d = 255 → d < m → fRead.L3 N ke m (i : Int) (nn (dig 256 32 B)) (E (B % 2 ^ i)) = ke 255 (nn (dig 256 32 B)) (E (B % 2 ^ 255)) := by
  intro d
  induction d with
  | zero =>
    intro i m h hm
    obtain ⟨m, rfl⟩ : ∃ k, m = k + 1 := ⟨m - 1, by omega⟩
    obtain rfl : i = 255 := by omega
    unfold fRead.L3
    rw [decide_eq_false (by omega), cond_false]
    rfl
  | succ d ih =>
    intro i m h hm
    obtain ⟨m, rfl⟩ : ∃ k, m = k + 1 := ⟨m - 1, by omega⟩
    unfold fRead.L3
    have e1 : (i : Int).tdiv 8 = ((i / 8 : Nat) : Int) := tdivN i 8
    have e2 : (i : Int).tmod 8 = ((i % 8 : Nat) : Int) := tmodN i 8
    have e3 : (i : Int).tdiv 26 = ((i / 26 : Nat) : Int) := tdivN i 26
    have e4 : (i : Int).tmod 26 = ((i % 26 : Nat) : Int) := tmodN i 26
    rw [e1, e2, e3, e4, wrap_i64z ((i / 8 : Nat) : Int) (by omega) (by omega), wrap_i64z ((i / 26 : Nat) : Int) (by omega) (by omega)]
    have c0 : decide ((i : Int) < 255) = true := decide_eq_true (by omega)
    have c1 : decide (0 ≤ ((i / 8 : Nat) : Int)) = true := decide_eq_true (by omega)
    have c2 : decide (((i / 8 : Nat) : Int) < 32) = true := decide_eq_true (by omega)
    have c3 : decide (0 ≤ ((i / 26 : Nat) : Int)) = true := decide_eq_true (by omega)
    have c4 : decide (((i / 26 : Nat) : Int) < 10) = true := decide_eq_true (by omega)
    have c5 : decide (((i % 8 : Nat) : Int) < 0) = false := decide_eq_false (by omega)
    have c6 : decide (((i % 26 : Nat) : Int) < 0) = false := decide_eq_false (by omega)
    simp only [c0, c1, c2, c3, c4, c5, c6, cond_true, cond_false, Bool.and_false]
    rw [Int.toNat_natCast (i / 8), Int.toNat_natCast (i / 26)]
    have g1 : (E (B % 2 ^ i)).getD (i / 26) 0 = ((B % 2 ^ i / 67108864 ^ (i / 26) % 67108864 : Nat) : Int) := by
      show (nn (dig 67108864 10 (B % 2 ^ i))).getD (i / 26) 0 = _
      rw [nn_getD, dig_getD 10 _ _ (by omega)]
    have hbit : B / 2 ^ i % 2 ≤ 1 := by have := Nat.mod_lt (B / 2 ^ i) (show 0 < 2 by decide); omega
    have h26 : i % 26 < 26 := Nat.mod_lt _ (by decide)
    obtain ⟨d1, d2⟩ := dig_bit 26 10 (B % 2 ^ i) i (B / 2 ^ i % 2) (by decide) (Nat.mod_lt _ (Nat.pow_pos (by decide))) hbit (by omega)
    rw [show (2 : Nat) ^ 26 = 67108864 from rfl] at d1 d2
    rw [g1, nn_getD (dig 256 32 B), dig_getD 32 B _ (by omega), bit8 _ i (Nat.mod_lt _ (by decide)), bit_digit, wrap_u64 _ (by omega), ishl_bit .u64 rfl _ _ hbit (by simp only [IntKind.bits]; omega), ior_put .u64 rfl _ _ _ d2 hbit (by simp only [IntKind.bits]; omega)]
    have hs : (E (B % 2 ^ i)).set (i / 26) ((B % 2 ^ i / 67108864 ^ (i / 26) % 67108864 + B / 2 ^ i % 2 * 2 ^ (i % 26) : Nat) : Int) = E (B % 2 ^ (i + 1)) := by
      show (nn (dig 67108864 10 (B % 2 ^ i))).set (i / 26) _ = _
      rw [nn_set, ← d1, ← mod_bit]
    rw [hs, wrap_i64z _ (by omega) (by omega), show ((i : Int) + 1) = ((i + 1 : Nat) : Int) by omega, ih (i + 1) m (by omega) (by omega)]

theorem zeros10 : ([0, 0, 0, 0, 0, 0, 0, 0, 0, 0] : List Int) = E 0 := by decide +kernel

theorem fRead_eq {R : Type} (N : Nat) (hN : 1000 < N) (B : Nat) (r : List Int → Option R) : fRead.M N R (nn (dig 256 32 B)) r = r (E (B % 57896044618658097711785492504343953926634992332820282019728792003956564819968)) := by
  show fRead.m N (nn (dig 256 32 B)) r = _
  unfold fRead.m
  rw [zeros10]
  have h := read_loop (R := R) N (fun _ _ h2 => r h2) B 255 0 N rfl (by omega)
  rw [show B % 2 ^ 0 = 0 by simp [Nat.mod_one]] at h
  refine Eq.trans h ?_
  rw [show (2 : Nat) ^ 255 = 57896044618658097711785492504343953926634992332820282019728792003956564819968 by decide +kernel]
end Go.Proofs.YtjaappocnonkbaaDoor.fn
