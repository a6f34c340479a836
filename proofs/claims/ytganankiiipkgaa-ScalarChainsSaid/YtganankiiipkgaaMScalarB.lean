/- What the scalars' functions come to, further. -/
import Derived.Test.YtganankiiipkgaaMScalarA
namespace Go.Proofs.Ytganankiiipkgaa.fn
open Go Go.Proofs Go.Ev Go.Dg

theorem grown_loop {R : Type} (N : Nat) (ke : Int → Int → List Int → Option R) :
    ∀ (xs pre : List Nat) (o m : Nat), pre.length + xs.length = 8 → xs.length < m → o ≤ 1 → (∀ x ∈ xs, x < 4294967296) →
      grown.L3 (sleast.M N) N ke m (o : Int) (pre.length : Int) (nn (pre ++ xs)) = ke ((car 4294967296 o (mulL 1 xs xs)).2 : Int) 8 (nn (pre ++ (car 4294967296 o (mulL 1 xs xs)).1)) := by
  intro xs
  induction xs with
  | nil =>
    intro pre o m h5 hm ho _
    obtain ⟨m, rfl⟩ : ∃ k, m = k + 1 := ⟨m - 1, by simp at hm; omega⟩
    have hp : (pre.length : Int) = 8 := by simp at h5; omega
    unfold grown.L3
    rw [hp, decide_eq_false (by omega), cond_false]
    rfl
  | cons x xs ih =>
    intro pre o m h5 hm ho hx
    obtain ⟨m, rfl⟩ : ∃ k, m = k + 1 := ⟨m - 1, by simp at hm; omega⟩
    have hx0 := hx x (by simp)
    simp only [List.length_cons] at h5 hm
    unfold grown.L3
    have c1 : decide ((pre.length : Int) < 8) = true := decide_eq_true (by omega)
    have c2 : decide (0 ≤ (pre.length : Int)) = true := decide_eq_true (by omega)
    simp only [c1, c2, cond_true]
    rw [app_getD pre x xs rfl, ishl_one x (by omega), ior_bit x o (by omega) ho]
    have e2 : ishr .u64 ((2 * x + o : Nat) : Int) 32 = (((2 * x + o) / 4294967296 : Nat) : Int) := ishr_nat .u64 _ 32 (by decide)
    have e3 : iand .u64 ((2 * x + o : Nat) : Int) 4294967295 = (((2 * x + o) % 4294967296 : Nat) : Int) := iand_mask _ 32 (by omega) (by omega)
    have e5 : IntKind.i64.wrap ((pre.length : Int) + 1) = ((pre ++ [(2 * x + o) % 4294967296]).length : Int) := by rw [wrap_i64z _ (by omega) (by omega)]; simp
    rw [e2, e3, e5, app_set pre x xs rfl, ih _ _ m (by simp; omega) (by omega) (by omega) (fun z hz => hx z (by simp [hz]))]
    simp only [mulL, car, Nat.one_mul]
    rw [show x + x = 2 * x by omega]
    simp

theorem grown_eq {R : Type} (N : Nat) (hN : 100 < N) (v o : Nat) (hv : v < l) (ho : o ≤ 1) (r : List Int → Option R) : grown.M N R (nn (dig 4294967296 8 v)) (o : Int) r = r (nn (dig 4294967296 8 ((2 * v + o) % l))) := by
  show grown.m (sleast.M N) N (nn (dig 4294967296 8 v)) (o : Int) r = _
  unfold grown.m
  have h := grown_loop N (fun _ _ h0 => sleast.M N R h0 fun v => r v) (dig 4294967296 8 v) [] o N (by simp [dig_length]) (by simp [dig_length]; omega) ho (dig_lt (by decide) 8 v)
  simp only [List.nil_append, List.length_nil] at h
  rw [show ((0 : Nat) : Int) = 0 from rfl] at h
  rw [h, car_dig (by decide), vl_mulL _ _ _ _ rfl, mulL_length _ _ _ rfl, dig_length, vl_dig, Nat.mod_eq_of_lt (Nat.lt_trans hv l_lt)]
  simp only
  rw [sleast_eq N hN _ (by omega), Nat.one_mul, show v + v + o = 2 * v + o by omega]

theorem tdiv_nat (a b : Nat) : (a : Int).tdiv (b : Int) = ((a / b : Nat) : Int) := by
  rw [Int.tdiv_eq_ediv_of_nonneg (by omega)]; rfl
theorem tmod_nat (a b : Nat) : (a : Int).tmod (b : Int) = ((a % b : Nat) : Int) := by
  rw [Int.tmod_eq_emod_of_nonneg (by omega)]; rfl

theorem mod_loop {R : Type} (N : Nat) (hN : 100 < N) (ke : Option Bool → List Int → Int → List Int → Option R) (z : Option Bool) (n V : Nat) (hn : n ≤ 1000) (hV : V < 256 ^ n) :
    ∀ (i m : Nat), i ≤ 8 * n → i < m → smod.J1_0 (grown.M N) N ke m z (nn (dig 256 n V)) ((i : Int) - 1) (nn (dig 4294967296 8 (V / 2 ^ i % l))) = ke z (nn (dig 256 n V)) (-1) (nn (dig 4294967296 8 (V % l))) := by
  intro i
  induction i with
  | zero =>
    intro m _ hm
    obtain ⟨m, rfl⟩ : ∃ k, m = k + 1 := ⟨m - 1, by omega⟩
    unfold smod.J1_0
    rw [decide_eq_false (by omega), cond_false]
    simp
  | succ i ih =>
    intro m hi hm
    obtain ⟨m, rfl⟩ : ∃ k, m = k + 1 := ⟨m - 1, by omega⟩
    unfold smod.J1_0
    rw [show (((i + 1 : Nat) : Int) - 1) = (i : Int) by omega]
    have e1 : (i : Int).tdiv 8 = ((i / 8 : Nat) : Int) := tdiv_nat i 8
    have e2 : (i : Int).tmod 8 = ((i % 8 : Nat) : Int) := tmod_nat i 8
    rw [e1, e2, wrap_i64z ((i / 8 : Nat) : Int) (by omega) (by omega)]
    have c0 : decide ((i : Int) ≥ 0) = true := decide_eq_true (by omega)
    have c1 : decide (0 ≤ ((i / 8 : Nat) : Int)) = true := decide_eq_true (by omega)
    have c2 : decide (((i / 8 : Nat) : Int) < ((nn (dig 256 n V)).length : Int)) = true := decide_eq_true (by simp [dig_length]; omega)
    have c3 : decide (((i % 8 : Nat) : Int) < 0) = false := decide_eq_false (by omega)
    simp only [c0, c1, c2, c3, cond_true, cond_false, Bool.and_false]
    rw [Int.toNat_natCast, nn_getD, dig_getD n V _ (by omega), bit8 _ i (Nat.mod_lt _ (by decide)), bit_digit, wrap_u64 _ (by have := Nat.mod_lt (V / 2 ^ i) (show 0 < 2 by decide); omega)]
    rw [grown_eq N hN _ _ (Nat.mod_lt _ l_pos) (by have := Nat.mod_lt (V / 2 ^ i) (show 0 < 2 by decide); omega)]
    have e3 : (2 * (V / 2 ^ (i + 1) % l) + V / 2 ^ i % 2) % l = V / 2 ^ i % l := by
      have : V / 2 ^ i = 2 * (V / 2 ^ (i + 1)) + V / 2 ^ i % 2 := by
        rw [Nat.pow_succ, ← Nat.div_div_eq_div_mul]; omega
      rw [Nat.add_mod, Nat.mul_mod, Nat.mod_mod, ← Nat.mul_mod, ← Nat.add_mod, ← this]
    rw [e3, wrap_i64z _ (by omega) (by omega), ih m (by omega) (by omega)]

theorem smod_eq {R : Type} (N : Nat) (hN : 1000 < N) (z : Option Bool) (n V : Nat) (hn : n ≤ 100) (hV : V < 256 ^ n) (r : List Int → Option R) : smod.M N R z (nn (dig 256 n V)) r = r (nn (dig 4294967296 8 (V % l))) := by
  show smod.m (grown.M N) N z (nn (dig 256 n V)) r = _
  have h0 : smod.m (grown.M N) N z (nn (dig 256 n V)) r = smod.J1_0 (grown.M N) N (fun _ _ _ h => r h) (N + 1) z (nn (dig 256 n V)) (IntKind.i64.wrap (IntKind.i64.wrap (8 * ((nn (dig 256 n V)).length : Int)) - 1)) [0, 0, 0, 0, 0, 0, 0, 0] := by
    unfold smod.m
    rw [smod.J1_0]
  rw [h0]
  have e0 : ((nn (dig 256 n V)).length : Int) = (n : Int) := by simp [dig_length]
  have e1 : IntKind.i64.wrap (IntKind.i64.wrap (8 * ((nn (dig 256 n V)).length : Int)) - 1) = ((8 * n : Nat) : Int) - 1 := by
    rw [e0, wrap_i64z (8 * (n : Int)) (by omega) (by omega), wrap_i64z _ (by omega) (by omega)]; omega
  have e2 : ([0, 0, 0, 0, 0, 0, 0, 0] : List Int) = nn (dig 4294967296 8 (V / 2 ^ (8 * n) % l)) := by
    have : V / 2 ^ (8 * n) = 0 := Nat.div_eq_of_lt (by rw [Nat.pow_mul]; exact hV)
    rw [this, Nat.zero_mod, dig_zero]; rfl
  rw [e1, e2, mod_loop N (by omega) _ z n V (by omega) hV (8 * n) (N + 1) (Nat.le_refl _) (by omega)]

theorem bytes_loop {R : Type} (N : Nat) (ke : Int → List Int → List Int → Option R) (v : Nat) :
    ∀ (d i m : Nat), i + d = 32 → d < m → sbytes.L3 N ke m (i : Int) (nn (dig 4294967296 8 v)) (nn (dig 256 i v ++ List.replicate d 0)) = ke 32 (nn (dig 4294967296 8 v)) (nn (dig 256 32 v)) := by
  intro d
  induction d with
  | zero =>
    intro i m h hm
    obtain ⟨m, rfl⟩ : ∃ k, m = k + 1 := ⟨m - 1, by omega⟩
    obtain rfl : i = 32 := by omega
    unfold sbytes.L3
    rw [decide_eq_false (by omega), cond_false]
    simp
  | succ d ih =>
    intro i m h hm
    obtain ⟨m, rfl⟩ : ∃ k, m = k + 1 := ⟨m - 1, by omega⟩
    unfold sbytes.L3
    have e1 : (i : Int).tdiv 4 = ((i / 4 : Nat) : Int) := tdiv_nat i 4
    have e2 : (i : Int).tmod 4 = ((i % 4 : Nat) : Int) := tmod_nat i 4
    rw [e1, e2, wrap_i64z ((i / 4 : Nat) : Int) (by omega) (by omega), wrap_i64z (8 * ((i % 4 : Nat) : Int)) (by omega) (by omega)]
    have c0 : decide ((i : Int) < 32) = true := decide_eq_true (by omega)
    have c1 : decide (0 ≤ ((i / 4 : Nat) : Int)) = true := decide_eq_true (by omega)
    have c2 : decide (((i / 4 : Nat) : Int) < 8) = true := decide_eq_true (by omega)
    have c3 : decide (8 * ((i % 4 : Nat) : Int) < 0) = false := decide_eq_false (by omega)
    have c4 : decide (0 ≤ (i : Int)) = true := decide_eq_true (by omega)
    simp only [c0, c1, c2, c3, c4, cond_true, cond_false, Bool.and_false]
    rw [Int.toNat_natCast (i / 4), nn_getD, dig_getD 8 v _ (by omega)]
    have e3 : ishr .u64 ((v / 4294967296 ^ (i / 4) % 4294967296 : Nat) : Int) (8 * ((i % 4 : Nat) : Int)) = ((v / 4294967296 ^ (i / 4) % 4294967296 / 256 ^ (i % 4) : Nat) : Int) := by
      have := ishr_nat .u64 (v / 4294967296 ^ (i / 4) % 4294967296) (8 * (i % 4)) (by simp only [IntKind.bits]; omega)
      rw [Nat.pow_mul] at this
      rw [← this]; simp
    have e4 := sub_digit v (i / 4) (i % 4) 256 4 (Nat.mod_lt _ (by decide))
    rw [show (256 : Nat) ^ 4 = 4294967296 from rfl, Nat.div_add_mod] at e4
    rw [e3, wrap_u8, e4, replicate_set (d + 1) _ (dig 256 i v) (by simp [dig_length]) (by omega), ← dig_snoc, Nat.add_sub_cancel]
    rw [wrap_i64z _ (by omega) (by omega), show ((i : Int) + 1) = ((i + 1 : Nat) : Int) by omega, ih (i + 1) m (by omega) (by omega)]

theorem sbytes_eq {R : Type} (N : Nat) (hN : 100 < N) (v : Nat) (r : List Int → Option R) : sbytes.M N R (nn (dig 4294967296 8 v)) r = r (nn (dig 256 32 v)) := by
  show sbytes.m N (nn (dig 4294967296 8 v)) r = _
  unfold sbytes.m
  exact bytes_loop N (fun _ _ h => r h) v 32 0 N rfl (by omega)

theorem cut_all (n : Nat) (L : List Nat) (h : L.length = n) : cut (some n) 0 (nn L) = nn L := by
  simp only [cut, List.drop_zero]
  exact List.take_of_length_le (by simp [h])

theorem Reduce_eq {R : Type} (N : Nat) (hN : 1000 < N) (V : Nat) (hV : V < 256 ^ 64) (r : List Int → Option R) : Reduce.M N R (nn (dig 256 64 V)) r = r (nn (dig 256 32 (V % l))) := by
  show Reduce.m (smod.M N) (sbytes.M N) N _ r = _
  unfold Reduce.m
  rw [cut_all 64 _ (dig_length _ _ _), smod_eq N hN none 64 V (by omega) hV, sbytes_eq N (by omega)]
end Go.Proofs.Ytganankiiipkgaa.fn
