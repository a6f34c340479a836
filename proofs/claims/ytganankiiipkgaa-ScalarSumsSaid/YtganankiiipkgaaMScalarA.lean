/- What the scalars' functions come to: numbers modulo the order of the base point. -/
import Derived.Test.YtganankiiipkgaaFnScalarB
import Derived.Test.YtganankiiipkgaaNum
namespace Go.Proofs.Ytganankiiipkgaa.fn
open Go Go.Proofs Go.Ev Go.Dg

/-- The order of the base point. -/
def l : Nat := 7237005577332262213973186563042994240857116359379907606001950938285454250989
theorem l_words : ([1559614445, 1477600026, 2734136534, 350157278, 0, 0, 0, 268435456] : List Int) = nn (dig 4294967296 8 l) := by decide +kernel
theorem l_lt : l < 4294967296 ^ 8 := by decide +kernel
theorem l_pos : 0 < l := by decide +kernel
theorem l2_lt : 2 * l < 4294967296 ^ 8 := by decide +kernel

theorem less_loop {R : Type} (N : Nat) (ke : Int → Int → List Int → List Int → Option R) (ys0 : List Nat) (hM : ([1559614445, 1477600026, 2734136534, 350157278, 0, 0, 0, 268435456] : List Int) = nn ys0) :
    ∀ (xs ys pre pre' done rest : List Nat) (o m : Nat), pre' ++ ys = ys0 → xs.length = ys.length → rest.length = xs.length → pre.length = pre'.length → done.length = pre.length → pre.length + xs.length = 8 → xs.length < m → o ≤ 1 →
      (∀ x ∈ xs, x < 4294967296) → (∀ y ∈ ys, y < 4294967296) →
      sless.L5 (smodulus.M N) N ke m (o : Int) (pre.length : Int) (nn (pre ++ xs)) (nn (done ++ rest)) = ke ((bor 4294967296 o xs ys).2 : Int) 8 (nn (pre ++ xs)) (nn (done ++ (bor 4294967296 o xs ys).1)) := by
  intro xs
  induction xs with
  | nil =>
    intro ys pre pre' done rest o m h0 h1 h2 h3 h4 h5 hm ho _ _
    obtain ⟨m, rfl⟩ : ∃ k, m = k + 1 := ⟨m - 1, by simp at hm; omega⟩
    have hp : (pre.length : Int) = 8 := by simp at h5; omega
    have hr : rest = [] := by simpa using h2
    unfold sless.L5
    rw [hp, hr, decide_eq_false (by omega), cond_false]
    rfl
  | cons x xs ih =>
    intro ys pre pre' done rest o m h0 h1 h2 h3 h4 h5 hm ho hx hy
    obtain ⟨m, rfl⟩ : ∃ k, m = k + 1 := ⟨m - 1, by simp at hm; omega⟩
    cases ys with
    | nil => simp at h1
    | cons y ys =>
      cases rest with
      | nil => simp at h2
      | cons r rest =>
        have hx0 := hx x (by simp)
        have hy0 := hy y (by simp)
        simp only [List.length_cons] at h1 h2 h5 hm
        unfold sless.L5
        have c1 : decide ((pre.length : Int) < 8) = true := decide_eq_true (by omega)
        have c2 : decide (0 ≤ (pre.length : Int)) = true := decide_eq_true (by omega)
        simp only [c1, c2, cond_true]
        rw [hM, ← h0, app_getD pre x xs rfl, app_getD pre' y ys (by omega)]
        have e1 : IntKind.u64.wrap (IntKind.u64.wrap (IntKind.u64.wrap ((x : Int) + 4294967296) - y) - o) = ((x + 4294967296 - y - o : Nat) : Int) := by
          rw [wrap_u64z ((x : Int) + 4294967296) (by omega) (by omega), wrap_u64z ((x : Int) + 4294967296 - y) (by omega) (by omega), wrap_u64z _ (by omega) (by omega)]
          omega
        rw [e1]
        have e2 : ishr .u64 ((x + 4294967296 - y - o : Nat) : Int) 32 = (((x + 4294967296 - y - o) / 4294967296 : Nat) : Int) := ishr_nat .u64 _ 32 (by decide)
        have e3 : iand .u64 ((x + 4294967296 - y - o : Nat) : Int) 4294967295 = (((x + 4294967296 - y - o) % 4294967296 : Nat) : Int) := iand_mask _ 32 (by omega) (by omega)
        have hd : (x + 4294967296 - y - o) / 4294967296 ≤ 1 := by
          have : (x + 4294967296 - y - o) / 4294967296 < 2 := Nat.div_lt_of_lt_mul (by omega)
          omega
        have e4 : IntKind.u64.wrap (1 - (((x + 4294967296 - y - o) / 4294967296 : Nat) : Int)) = ((1 - (x + 4294967296 - y - o) / 4294967296 : Nat) : Int) := by
          rw [wrap_u64z _ (by omega) (by omega)]; omega
        have e5 : IntKind.i64.wrap ((pre.length : Int) + 1) = ((pre ++ [x]).length : Int) := by rw [wrap_i64z _ (by omega) (by omega)]; simp
        rw [e2, e3, e4, e5, app_set done r rest (by omega), app_next pre x xs]
        rw [ih ys (pre ++ [x]) (pre' ++ [y]) (done ++ [(x + 4294967296 - y - o) % 4294967296]) rest _ m (by rw [← h0]; simp) (by omega) (by omega) (by simp; omega) (by simp; omega) (by simp; omega) (by omega) (by omega)
          (fun z hz => hx z (by simp [hz])) (fun z hz => hy z (by simp [hz]))]
        simp [bor]

theorem zeros8 : ([0, 0, 0, 0, 0, 0, 0, 0] : List Int) = nn (List.replicate 8 0) := by decide

theorem sless_eq {R : Type} (N : Nat) (hN : 100 < N) (v : Nat) (hv : v < 4294967296 ^ 8) (r : List Int → Bool → Option R) :
    sless.M N R (nn (dig 4294967296 8 v)) r = r (nn (dig 4294967296 8 (v + 4294967296 ^ 8 - l))) (decide (v < l)) := by
  show sless.m (smodulus.M N) N (nn (dig 4294967296 8 v)) r = _
  unfold sless.m
  show sless.L5 (smodulus.M N) N _ N 0 0 (nn (dig 4294967296 8 v)) ([0, 0, 0, 0, 0, 0, 0, 0] : List Int) = _
  rw [zeros8]
  have h := less_loop N (fun owe6 _ _ h3 => r h3 (owe6 == 1)) (dig 4294967296 8 l) l_words (dig 4294967296 8 v) (dig 4294967296 8 l) [] [] [] (List.replicate 8 0) 0 N rfl (by simp [dig_length]) (by simp [dig_length]) rfl rfl
    (by simp [dig_length]) (by simp [dig_length]; omega) (by omega) (dig_lt (by decide) 8 v) (dig_lt (by decide) 8 l)
  simp only [List.nil_append, List.length_nil] at h
  rw [show ((0 : Nat) : Int) = 0 from rfl] at h
  rw [h, bor_dig (by decide) 8 _ _ 0 (dig_length _ _ _) (dig_length _ _ _) (dig_lt (by decide) 8 v) (dig_lt (by decide) 8 l) (by omega), vl_dig, vl_dig, Nat.mod_eq_of_lt hv, Nat.mod_eq_of_lt l_lt]
  simp only [Nat.sub_zero, Nat.add_zero]
  congr 1
  rcases Nat.lt_or_ge v l with g | g
  · rw [lt01_yes g, decide_eq_true g]; rfl
  · rw [lt01_no g, decide_eq_false (by omega)]; rfl

theorem Pick_eq {R : Type} (N : Nat) (b : Bool) (x y : Nat) (hx : x < 18446744073709551616) (hy : y < 18446744073709551616) (r : Int → Option R) : Pick.M N R b (x : Int) (y : Int) r = r ((if b then x else y : Nat) : Int) := by
  show Pick.m N b (x : Int) (y : Int) r = _
  have e1 : (x : Int) = un (BitVec.ofNat 64 x) := by unfold un; rw [BitVec.toNat_ofNat, Nat.mod_eq_of_lt hx]
  have e2 : (y : Int) = un (BitVec.ofNat 64 y) := by unfold un; rw [BitVec.toNat_ofNat, Nat.mod_eq_of_lt hy]
  have m1 : (18446744073709551615 : Int) = un (BitVec.allOnes 64) := by decide
  have m0 : (0 : Int) = un (0#64) := rfl
  unfold Pick.m
  cases b with
  | true =>
    simp only [cond_true, if_true]
    rw [e1, e2, m1, iand64, iandn64, ior64]
    congr 2
    apply BitVec.eq_of_getLsbD_eq
    intro i hi
    rw [BitVec.getLsbD_or, BitVec.getLsbD_and, BitVec.getLsbD_and, BitVec.getLsbD_not, BitVec.getLsbD_allOnes]
    simp [hi]
  | false =>
    simp only [cond_false, Bool.false_eq_true, if_false]
    rw [e1, e2, m0, iand64, iandn64, ior64]
    congr 2
    apply BitVec.eq_of_getLsbD_eq
    intro i hi
    rw [BitVec.getLsbD_or, BitVec.getLsbD_and, BitVec.getLsbD_and, BitVec.getLsbD_not, BitVec.getLsbD_zero]
    simp [hi]

theorem pick_loop {R : Type} (N : Nat) (ke : Bool → Int → List Int → List Int → Option R) (b : Bool) :
    ∀ (xs ys pre pre' : List Nat) (m : Nat), xs.length = ys.length → pre.length = pre'.length → pre.length + xs.length = 8 → xs.length < m → (∀ x ∈ xs, x < 4294967296) → (∀ y ∈ ys, y < 4294967296) →
      sleast.L3 (sless.M N) (Pick.M N) N ke m b (pre.length : Int) (nn (pre ++ xs)) (nn (pre' ++ ys)) = ke b 8 (nn (pre ++ (if b then xs else ys))) (nn (pre' ++ ys)) := by
  intro xs
  induction xs with
  | nil =>
    intro ys pre pre' m h1 h3 h5 hm _ _
    obtain ⟨m, rfl⟩ : ∃ k, m = k + 1 := ⟨m - 1, by simp at hm; omega⟩
    have hp : (pre.length : Int) = 8 := by simp at h5; omega
    have hr : ys = [] := by simpa using h1.symm
    unfold sleast.L3
    rw [hp, hr, decide_eq_false (by omega), cond_false]
    simp
  | cons x xs ih =>
    intro ys pre pre' m h1 h3 h5 hm hx hy
    obtain ⟨m, rfl⟩ : ∃ k, m = k + 1 := ⟨m - 1, by simp at hm; omega⟩
    cases ys with
    | nil => simp at h1
    | cons y ys =>
      have hx0 := hx x (by simp)
      have hy0 := hy y (by simp)
      simp only [List.length_cons] at h1 h5 hm
      unfold sleast.L3
      have c1 : decide ((pre.length : Int) < 8) = true := decide_eq_true (by omega)
      have c2 : decide (0 ≤ (pre.length : Int)) = true := decide_eq_true (by omega)
      simp only [c1, c2, cond_true]
      rw [app_getD pre x xs rfl, app_getD pre' y ys (by omega), Pick_eq N b x y (by omega) (by omega)]
      have e5 : IntKind.i64.wrap ((pre.length : Int) + 1) = ((pre ++ [if b then x else y]).length : Int) := by rw [wrap_i64z _ (by omega) (by omega)]; simp
      rw [e5, app_set pre x xs rfl, app_next pre' y ys, ih ys _ _ m (by omega) (by simp; omega) (by simp; omega) (by omega) (fun z hz => hx z (by simp [hz])) (fun z hz => hy z (by simp [hz]))]
      cases b <;> simp

theorem sleast_eq {R : Type} (N : Nat) (hN : 100 < N) (v : Nat) (hv : v < 2 * l) (r : List Int → Option R) : sleast.M N R (nn (dig 4294967296 8 v)) r = r (nn (dig 4294967296 8 (v % l))) := by
  show sleast.m (sless.M N) (Pick.M N) N (nn (dig 4294967296 8 v)) r = _
  have hv8 : v < 4294967296 ^ 8 := Nat.lt_trans hv l2_lt
  unfold sleast.m
  rw [sless_eq N hN v hv8]
  have h := pick_loop N (fun _ _ h0 _ => r h0) (decide (v < l)) (dig 4294967296 8 v) (dig 4294967296 8 (v + 4294967296 ^ 8 - l)) [] [] N (by simp [dig_length]) rfl (by simp [dig_length]) (by simp [dig_length]; omega) (dig_lt (by decide) 8 _) (dig_lt (by decide) 8 _)
  simp only [List.nil_append, List.length_nil] at h
  rw [show ((0 : Nat) : Int) = 0 from rfl] at h
  rw [h]
  congr 2
  rcases Nat.lt_or_ge v l with g | g
  · rw [decide_eq_true g, Nat.mod_eq_of_lt g]; rfl
  · rw [decide_eq_false (by omega)]
    simp only [Bool.false_eq_true, if_false]
    have e : v % l = v - l := by
      rw [Nat.mod_eq_sub_mod g, Nat.mod_eq_of_lt (by omega)]
    rw [e, ← dig_mod 8 (v + 4294967296 ^ 8 - l), show v + 4294967296 ^ 8 - l = (v - l) + 4294967296 ^ 8 by omega, Nat.add_mod_right, dig_mod]
end Go.Proofs.Ytganankiiipkgaa.fn
