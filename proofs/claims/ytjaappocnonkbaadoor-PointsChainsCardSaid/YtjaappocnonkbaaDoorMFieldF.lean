/- What the field's inverses and roots come to. -/
import Derived.Test.YtjaappocnonkbaaDoorMFieldE
import Derived.Test.YtjaappocnonkbaaDoorFp
namespace Go.Proofs.YtjaappocnonkbaaDoor.fn
open Go Go.Proofs Go.Ev Go.Dg

theorem PP_Q : PP < 1852673427797059126777135760139006525652319754650249024631321344126610074238976 := by decide +kernel
theorem PP_256 : PP < 256 ^ 32 ∧ 256 ^ 32 = M256 := by decide +kernel

/-! ### rows of bytes -/

theorem nn_inj : ∀ {a b : List Nat}, nn a = nn b → a = b
  | [], [], _ => rfl
  | [], y :: b, h => by simp [nn] at h
  | x :: a, [], h => by simp [nn] at h
  | x :: a, y :: b, h => by
    simp only [nn, List.map_cons, List.cons.injEq] at h
    have h1 : (x : Int) = (y : Int) := h.1
    rw [nn_inj h.2, show x = y by omega]

theorem beq_row {B n u v : Nat} (hu : u < B ^ n) (hv : v < B ^ n) : (nn (dig B n u) == nn (dig B n v)) = decide (u = v) := by
  rw [Bool.eq_iff_iff, beq_iff_eq, decide_eq_true_iff]
  exact ⟨fun h => dig_inj hu hv (nn_inj h), fun h => by rw [h]⟩

theorem cut_all (n : Nat) (L : List Nat) (h : L.length = n) : cut (some n) 0 (nn L) = nn L := by
  simp only [cut, List.drop_zero]
  exact List.take_of_length_le (by simp [h])

theorem xor_zero (x y : Nat) (hx : x < 256) (hy : y < 256) : ∃ z : Nat, ixor .u8 (x : Int) (y : Int) = (z : Int) ∧ z < 256 ∧ (z = 0 ↔ x = y) := by
  have e1 : (x : Int) = un (BitVec.ofNat 8 x) := by unfold un; rw [BitVec.toNat_ofNat, Nat.mod_eq_of_lt (by omega)]
  have e2 : (y : Int) = un (BitVec.ofNat 8 y) := by unfold un; rw [BitVec.toNat_ofNat, Nat.mod_eq_of_lt (by omega)]
  refine ⟨x ^^^ y, ?_, Nat.xor_lt_two_pow (n := 8) hx hy, ?_⟩
  · rw [e1, e2, ixor8]
    unfold un
    rw [BitVec.toNat_xor, BitVec.toNat_ofNat, BitVec.toNat_ofNat, Nat.mod_eq_of_lt (show x < 2 ^ 8 by omega), Nat.mod_eq_of_lt (show y < 2 ^ 8 by omega)]
  · exact ⟨fun h => by have := congrArg (· ^^^ y) h; simpa [Nat.xor_assoc] using this, fun h => by subst h; exact Nat.xor_self x⟩

theorem or_zero2 (x y : Nat) (hx : x < 256) (hy : y < 256) : ∃ z : Nat, ior .u8 (x : Int) (y : Int) = (z : Int) ∧ z < 256 ∧ (z = 0 ↔ x = 0 ∧ y = 0) := by
  have e1 : (x : Int) = un (BitVec.ofNat 8 x) := by unfold un; rw [BitVec.toNat_ofNat, Nat.mod_eq_of_lt (by omega)]
  have e2 : (y : Int) = un (BitVec.ofNat 8 y) := by unfold un; rw [BitVec.toNat_ofNat, Nat.mod_eq_of_lt (by omega)]
  refine ⟨x ||| y, ?_, Nat.or_lt_two_pow (n := 8) hx hy, ?_⟩
  · rw [e1, e2, ior8]
    unfold un
    rw [BitVec.toNat_or, BitVec.toNat_ofNat, BitVec.toNat_ofNat, Nat.mod_eq_of_lt (show x < 2 ^ 8 by omega), Nat.mod_eq_of_lt (show y < 2 ^ 8 by omega)]
  · exact Nat.or_eq_zero_iff

theorem equal_loop {R : Type} (N : Nat) (r : Bool → Option R) (z z' : Option Bool) (n : Nat) (hn : n ≤ 1000) :
    ∀ (xs ys pre pre' : List Nat) (p m : Nat), xs.length = ys.length → pre.length = pre'.length → pre.length + xs.length = n → xs.length < m → p < 256 → (∀ x ∈ xs, x < 256) → (∀ y ∈ ys, y < 256) →
      wEqual.L5 N (fun _ _ _ _ parts _ _ => r (parts == 0)) m z (nn (pre ++ xs)) z' (nn (pre' ++ ys)) (p : Int) (n : Int) (pre.length : Int) = r (decide (p = 0) && decide (xs = ys)) := by
  intro xs
  induction xs with
  | nil =>
    intro ys pre pre' p m h1 h3 h5 hm _ _ _
    obtain ⟨m, rfl⟩ : ∃ k, m = k + 1 := ⟨m - 1, by simp at hm; omega⟩
    have hr : ys = [] := by simpa using h1.symm
    subst hr
    unfold wEqual.L5
    rw [decide_eq_false (by simp at h5; omega), cond_false]
    congr 1
    rw [Bool.eq_iff_iff]
    simp
  | cons x xs ih =>
    intro ys pre pre' p m h1 h3 h5 hm hp hx hy
    obtain ⟨m, rfl⟩ : ∃ k, m = k + 1 := ⟨m - 1, by simp at hm; omega⟩
    cases ys with
    | nil => simp at h1
    | cons y ys =>
      have hx0 := hx x (by simp)
      have hy0 := hy y (by simp)
      simp only [List.length_cons] at h1 h5 hm
      obtain ⟨u, hu, hu1, hu2⟩ := xor_zero x y hx0 hy0
      obtain ⟨w, hw, hw1, hw2⟩ := or_zero2 p u hp hu1
      unfold wEqual.L5
      have c1 : decide ((pre.length : Int) < (n : Int)) = true := decide_eq_true (by omega)
      have c2 : decide (0 ≤ (pre.length : Int)) = true := decide_eq_true (by omega)
      have c3 : decide ((pre.length : Int) < ((nn (pre ++ x :: xs)).length : Int)) = true := decide_eq_true (by simp; omega)
      have c4 : decide ((pre.length : Int) < ((nn (pre' ++ y :: ys)).length : Int)) = true := decide_eq_true (by simp; omega)
      have g1 : (nn (pre ++ x :: xs)).getD (pre.length : Int).toNat 0 = (x : Int) := app_getD pre x xs rfl
      have g2 : (nn (pre' ++ y :: ys)).getD (pre.length : Int).toNat 0 = (y : Int) := app_getD pre' y ys (by omega)
      have e5 : IntKind.i64.wrap ((pre.length : Int) + 1) = ((pre ++ [x]).length : Int) := by rw [wrap_i64z _ (by omega) (by omega)]; simp
      simp only [c1, c2, c3, c4, cond_true, g1, g2, hu, hw, e5]
      rw [app_next pre x xs, app_next pre' y ys, ih ys _ _ w m (by omega) (by simp; omega) (by simp; omega) (by omega) hw1 (fun z hz => hx z (by simp [hz])) (fun z hz => hy z (by simp [hz]))]
      congr 1
      rw [Bool.eq_iff_iff]
      simp only [Bool.and_eq_true, decide_eq_true_eq, hw2, hu2, List.cons.injEq]
      constructor <;> (rintro ⟨⟨a, b⟩, c⟩ <;> simp_all)

theorem equal_eq {R : Type} (N : Nat) (hN : 1000 < N) (z z' : Option Bool) (xs ys : List Nat) (hl : xs.length = ys.length) (hb : xs.length ≤ 1000) (hx : ∀ x ∈ xs, x < 256) (hy : ∀ y ∈ ys, y < 256) (r : Bool → Option R) :
    wEqual.M N R z (nn xs) z' (nn ys) r = r (decide (xs = ys)) := by
  show wEqual.m N z (nn xs) z' (nn ys) r = _
  unfold wEqual.m
  have e : (((nn xs).length : Int) != ((nn ys).length : Int)) = false := by simp [hl]
  rw [e, cond_false]
  have h := equal_loop N r z z' xs.length hb xs ys [] [] 0 N hl rfl (by simp) (by omega) (by omega) hx hy
  simp only [List.nil_append, List.length_nil] at h
  have e2 : ((nn xs).length : Int) = (xs.length : Int) := by simp
  rw [e2]
  refine Eq.trans h ?_
  simp

theorem zero_loop {R : Type} (N : Nat) (r : Bool → Option R) (z : Option Bool) (n : Nat) (hn : n ≤ 1000) :
    ∀ (xs pre : List Nat) (p m : Nat), pre.length + xs.length = n → xs.length < m → p < 256 → (∀ x ∈ xs, x < 256) →
      wZero.L3 N (fun all _ _ _ _ => r (all == 0)) m (p : Int) z (nn (pre ++ xs)) (n : Int) (pre.length : Int) = r (decide (p = 0) && decide (∀ x ∈ xs, x = 0)) := by
  intro xs
  induction xs with
  | nil =>
    intro pre p m h5 hm _ _
    obtain ⟨m, rfl⟩ : ∃ k, m = k + 1 := ⟨m - 1, by simp at hm; omega⟩
    unfold wZero.L3
    rw [decide_eq_false (by simp at h5; omega), cond_false]
    congr 1
    rw [Bool.eq_iff_iff]
    simp
  | cons x xs ih =>
    intro pre p m h5 hm hp hx
    obtain ⟨m, rfl⟩ : ∃ k, m = k + 1 := ⟨m - 1, by simp at hm; omega⟩
    have hx0 := hx x (by simp)
    simp only [List.length_cons] at h5 hm
    obtain ⟨w, hw, hw1, hw2⟩ := or_zero2 p x hp hx0
    unfold wZero.L3
    have c1 : decide ((pre.length : Int) < (n : Int)) = true := decide_eq_true (by omega)
    have c2 : decide (0 ≤ (pre.length : Int)) = true := decide_eq_true (by omega)
    have c3 : decide ((pre.length : Int) < ((nn (pre ++ x :: xs)).length : Int)) = true := decide_eq_true (by simp; omega)
    have g1 : (nn (pre ++ x :: xs)).getD (pre.length : Int).toNat 0 = (x : Int) := app_getD pre x xs rfl
    have e5 : IntKind.i64.wrap ((pre.length : Int) + 1) = ((pre ++ [x]).length : Int) := by rw [wrap_i64z _ (by omega) (by omega)]; simp
    simp only [c1, c2, c3, cond_true, g1, hw, e5]
    rw [app_next pre x xs, ih _ w m (by simp; omega) (by omega) hw1 (fun z hz => hx z (by simp [hz]))]
    congr 1
    rw [Bool.eq_iff_iff]
    simp only [Bool.and_eq_true, decide_eq_true_eq, hw2, List.mem_cons, forall_eq_or_imp, and_assoc]

theorem wZero_eq {R : Type} (N : Nat) (hN : 1000 < N) (z : Option Bool) (n v : Nat) (hn : n ≤ 1000) (hv : v < 256 ^ n) (r : Bool → Option R) : wZero.M N R z (nn (dig 256 n v)) r = r (decide (v = 0)) := by
  show wZero.m N z (nn (dig 256 n v)) r = _
  unfold wZero.m
  have h := zero_loop N r z n hn (dig 256 n v) [] 0 N (by simp [dig_length]) (by simp [dig_length]; omega) (by omega) (dig_lt (by decide) _ _)
  simp only [List.nil_append, List.length_nil] at h
  have e2 : ((nn (dig 256 n v)).length : Int) = (n : Int) := by simp [dig_length]
  rw [e2]
  refine Eq.trans h ?_
  congr 1
  rw [Bool.eq_iff_iff]
  simp only [Bool.and_eq_true, decide_eq_true_eq, true_and]
  constructor
  · intro h
    have h1 : dig 256 n v = List.replicate n 0 := List.eq_replicate_iff.2 ⟨dig_length _ _ _, h⟩
    rw [← dig_zero 256 n] at h1
    exact dig_inj hv (Nat.lt_of_le_of_lt (Nat.zero_le _) hv) h1
  · rintro rfl x hx
    rw [dig_zero] at hx
    exact List.eq_of_mem_replicate hx

/-! ### elements that are the same -/

theorem lt256 (x : Nat) : x % PP < 256 ^ 32 := Nat.lt_trans (Nat.mod_lt _ PP_pos) PP_256.1

theorem Same_eq {R : Type} (N : Nat) (hN : 1000 < N) (a b : Nat) (ha : a < 1852673427797059126777135760139006525652319754650249024631321344126610074238976) (hb : b < 1852673427797059126777135760139006525652319754650249024631321344126610074238976) (r : Bool → Option R) : Same.M N R (E a) (E b) r = r (decide (a % PP = b % PP)) := by
  show Same.m (eBytes.M N) (wEqual.M N) N (E a) (E b) r = _
  unfold Same.m
  rw [eBytes_eq N hN a ha, eBytes_eq N hN b hb, cut_all 32 _ (dig_length _ _ _), cut_all 32 _ (dig_length _ _ _), equal_eq N hN none none _ _ (by simp [dig_length]) (by simp [dig_length]) (dig_lt (by decide) _ _) (dig_lt (by decide) _ _)]
  congr 1
  rw [Bool.eq_iff_iff, decide_eq_true_iff, decide_eq_true_iff]
  exact ⟨fun h => dig_inj (lt256 _) (lt256 _) h, fun h => by rw [h]⟩

theorem eZero_eq {R : Type} (N : Nat) (hN : 1000 < N) (a : Nat) (ha : a < 1852673427797059126777135760139006525652319754650249024631321344126610074238976) (r : Bool → Option R) : eZero.M N R (E a) r = r (decide (a % PP = 0)) := by
  show eZero.m (eBytes.M N) (wZero.M N) N (E a) r = _
  unfold eZero.m
  rw [eBytes_eq N hN a ha, cut_all 32 _ (dig_length _ _ _), wZero_eq N hN none 32 _ (by omega) (lt256 _)]

theorem Strict_eq {R : Type} (N : Nat) (hN : 1000 < N) (B : Nat) (hB : B < 256 ^ 32) (r : List Int → Nat → Option R) :
    Strict.M N R (nn (dig 256 32 B)) r = if B < PP then r (E B) 0 else r (E 0) 4 := by
  show Strict.m (fRead.M N) (eBytes.M N) N _ r = _
  unfold Strict.m
  have hT : B % 57896044618658097711785492504343953926634992332820282019728792003956564819968 < 1852673427797059126777135760139006525652319754650249024631321344126610074238976 := Nat.lt_trans (Nat.mod_lt _ (by decide)) (by decide)
  have hPT := PP_T
  rw [fRead_eq N hN B, eBytes_eq N hN _ hT, beq_row (lt256 _) hB, zeros10]
  by_cases h : B < PP
  · have e : B % 57896044618658097711785492504343953926634992332820282019728792003956564819968 = B := Nat.mod_eq_of_lt (by omega)
    rw [if_pos h, e, Nat.mod_eq_of_lt h, decide_eq_true rfl]
    rfl
  · have hlt := Nat.mod_lt (B % 57896044618658097711785492504343953926634992332820282019728792003956564819968) PP_pos
    rw [if_neg h, decide_eq_false (by omega)]
    rfl

/-! ### small numbers -/

theorem small_loop {R : Type} (N : Nat) (ke : Int → Int → Int → List Int → Option R) (n : Int) (S : Nat) (hS : S < 18446744073709551616) :
    ∀ (d i m : Nat), i + d = 3 → d < m → Small.L6 (eSub.M N) N ke m n (S : Int) (i : Int) (nn (dig 67108864 i S ++ List.replicate (7 + d) 0)) = ke n (S : Int) 3 (E S) := by
  intro d
  induction d with
  | zero =>
    intro i m h hm
    obtain ⟨m, rfl⟩ : ∃ k, m = k + 1 := ⟨m - 1, by omega⟩
    obtain rfl : i = 3 := by omega
    unfold Small.L6
    rw [decide_eq_false (by omega), cond_false]
    have e : dig 67108864 10 S = dig 67108864 3 S ++ dig 67108864 7 (S / 67108864 ^ 3) := dig_append 3 7 S
    have h3 : 67108864 ^ 3 = 302231454903657293676544 := by decide
    have h0 : S / 67108864 ^ 3 = 0 := Nat.div_eq_of_lt (by rw [h3]; omega)
    show ke n (S : Int) 3 (nn (dig 67108864 3 S ++ List.replicate 7 0)) = ke n (S : Int) 3 (nn (dig 67108864 10 S))
    rw [e, h0, dig_zero]
  | succ d ih =>
    intro i m h hm
    obtain ⟨m, rfl⟩ : ∃ k, m = k + 1 := ⟨m - 1, by omega⟩
    unfold Small.L6
    have e0 : IntKind.i64.wrap (26 * (i : Int)) = ((26 * i : Nat) : Int) := by rw [wrap_i64z _ (by omega) (by omega)]; simp
    rw [e0]
    have c0 : decide ((i : Int) < 3) = true := decide_eq_true (by omega)
    have c1 : decide (((26 * i : Nat) : Int) < 0) = false := decide_eq_false (by omega)
    have c2 : decide (0 ≤ (i : Int)) = true := decide_eq_true (by omega)
    have c3 : decide ((i : Int) < 10) = true := decide_eq_true (by omega)
    simp only [c0, c1, c2, c3, cond_true, cond_false, Bool.and_false]
    have e1 : ishr .u64 (S : Int) ((26 * i : Nat) : Int) = ((S / 67108864 ^ i : Nat) : Int) := by
      have := ishr_nat .u64 S (26 * i) (by simp only [IntKind.bits]; omega)
      rw [Nat.pow_mul] at this
      exact this
    have h2 : S / 67108864 ^ i < 18446744073709551616 := Nat.lt_of_le_of_lt (Nat.div_le_self _ _) hS
    have e3 : iand .u64 ((S / 67108864 ^ i : Nat) : Int) 67108863 = ((S / 67108864 ^ i % 67108864 : Nat) : Int) := iand_mask _ 26 h2 (by omega)
    rw [e1, e3, show 7 + (d + 1) = 7 + d + 1 by omega, replicate_set (7 + d + 1) _ (dig 67108864 i S) (by simp [dig_length]) (by omega), ← dig_snoc, Nat.add_sub_cancel]
    rw [wrap_i64z _ (by omega) (by omega), show ((i : Int) + 1) = ((i + 1 : Nat) : Int) by omega, ih (i + 1) m (by omega) (by omega)]

def smallE (n : Int) : Nat := if n < 0 then subE 0 (-n).toNat else n.toNat
theorem Small_eq {R : Type} (N : Nat) (hN : 100 < N) (n : Int) (hn : -9223372036854775808 ≤ n ∧ n < 9223372036854775808) (r : List Int → Option R) : Small.M N R n r = r (E (smallE n)) := by
  show Small.m (eSub.M N) N n r = _
  unfold Small.m smallE
  have z : ([0, 0, 0, 0, 0, 0, 0, 0, 0, 0] : List Int) = nn (dig 67108864 0 0 ++ List.replicate (7 + 3) 0) := by decide
  by_cases h : n < 0
  · obtain ⟨k, hk⟩ := Int.eq_ofNat_of_zero_le (show 0 ≤ -n by omega)
    have hn' : n = -(k : Int) := by omega
    have e1 : IntKind.u64.wrap (0 - IntKind.u64.wrap n) = (k : Int) := by
      rw [hn', wrap_u (k := .u64) rfl, wrap_u (k := .u64) rfl]
      unfold un
      simp only [IntKind.bits, BitVec.toNat_ofInt]
      omega
    rw [decide_eq_true h, cond_true, e1]
    have hl := small_loop (R := R) N (fun n0_c5 _ _ h1_c8 => bif decide (n0_c5 < 0) then eSub.M N R [0, 0, 0, 0, 0, 0, 0, 0, 0, 0] h1_c8 fun v => r v else r h1_c8) n k (by omega) 3 0 N rfl (by omega)
    have e0 : (nn (dig 67108864 0 k ++ List.replicate (7 + 3) 0)) = ([0, 0, 0, 0, 0, 0, 0, 0, 0, 0] : List Int) := z.symm
    rw [e0] at hl
    refine Eq.trans hl ?_
    rw [decide_eq_true h, cond_true, zeros10, eSub_eq N hN 0 k (by decide) (by omega), if_pos h]
    congr 3
    omega
  · obtain ⟨k, rfl⟩ := Int.eq_ofNat_of_zero_le (show 0 ≤ n by omega)
    rw [decide_eq_false h, cond_false, wrap_u64 k (by omega)]
    have hl := small_loop (R := R) N (fun n0_c5 _ _ h1_c8 => bif decide (n0_c5 < 0) then eSub.M N R [0, 0, 0, 0, 0, 0, 0, 0, 0, 0] h1_c8 fun v => r v else r h1_c8) (k : Int) k (by omega) 3 0 N rfl (by omega)
    have e0 : (nn (dig 67108864 0 k ++ List.replicate (7 + 3) 0)) = ([0, 0, 0, 0, 0, 0, 0, 0, 0, 0] : List Int) := z.symm
    rw [e0] at hl
    refine Eq.trans hl ?_
    rw [decide_eq_false h, cond_false, if_neg h]
    rfl

theorem smallE_lt (n : Int) (hn : -9223372036854775808 ≤ n ∧ n < 9223372036854775808) : smallE n < 1852673427797059126777135760139006525652319754650249024631321344126610074238976 := by
  unfold smallE
  split
  · exact subE_lt (by decide)
  · omega

theorem smallE_mod (n : Int) (hn : -9223372036854775808 ≤ n ∧ n < 9223372036854775808) : smallE n % PP = if n < 0 then PP - (-n).toNat else n.toNat := by
  have hP : 100000000000000000000 < PP := by decide +kernel
  unfold smallE
  split
  · rename_i h
    rw [subE_mod (by omega), Nat.zero_add, Nat.mod_eq_of_lt (show (-n).toNat < PP by omega), Nat.mod_eq_of_lt (by omega)]
  · rw [Nat.mod_eq_of_lt (by omega)]

/-! ### powers -/

/-- w is a to the power e. -/
structure Rep (a w e : Nat) : Prop where
  lt : w < 1852673427797059126777135760139006525652319754650249024631321344126610074238976
  eq : w % PP = a ^ e % PP

theorem Rep.one {a : Nat} (h : a < 1852673427797059126777135760139006525652319754650249024631321344126610074238976) : Rep a a 1 := ⟨h, by rw [Nat.pow_one]⟩
theorem Rep.mul {a u v e f : Nat} (h : Rep a u e) (k : Rep a v f) : Rep a (mulE u v) (e + f) :=
  ⟨mulE_lt h.lt k.lt, by rw [mulE_mod, Nat.mul_mod, h.eq, k.eq, ← Nat.mul_mod, Nat.pow_add]⟩

def sqE : Nat → Nat → Nat
  | 0, a => a
  | k + 1, a => sqE k (mulE a a)

theorem Rep.sq {a : Nat} : ∀ (k : Nat) {u e : Nat}, Rep a u e → Rep a (sqE k u) (e * 2 ^ k)
  | 0, u, e, h => by simpa [sqE] using h
  | k + 1, u, e, h => by
    have := Rep.sq k (h.mul h)
    rw [show e * 2 ^ (k + 1) = (e + e) * 2 ^ k by rw [Nat.pow_succ, ← Nat.two_mul, Nat.mul_comm 2 e, Nat.mul_assoc, Nat.mul_comm 2]]
    exact this

theorem sqE_lt : ∀ (k : Nat) {u : Nat}, u < 1852673427797059126777135760139006525652319754650249024631321344126610074238976 → sqE k u < 1852673427797059126777135760139006525652319754650249024631321344126610074238976
  | 0, _, h => h
  | k + 1, _, h => sqE_lt k (mulE_lt h h)

theorem squares_loop {R : Type} (N : Nat) (hN : 100 < N) (ke : Int → List Int → Option R) : ∀ (k m u : Nat), u < 1852673427797059126777135760139006525652319754650249024631321344126610074238976 → k < m → k ≤ 1000 → squares.J1000000_0 (Square.M N) N ke m (k : Int) (E u) = ke 0 (E (sqE k u)) := by
  intro k
  induction k with
  | zero =>
    intro m u hu hm _
    obtain ⟨m, rfl⟩ : ∃ k, m = k + 1 := ⟨m - 1, by omega⟩
    unfold squares.J1000000_0
    rw [decide_eq_false (by omega), cond_false]
    rfl
  | succ k ih =>
    intro m u hu hm hk
    obtain ⟨m, rfl⟩ : ∃ k, m = k + 1 := ⟨m - 1, by omega⟩
    unfold squares.J1000000_0
    rw [decide_eq_true (by omega), cond_true, Square_eq N hN u hu, wrap_i64z _ (by omega) (by omega), show ((k + 1 : Nat) : Int) - 1 = (k : Int) by omega, ih m _ (mulE_lt hu hu) (by omega) (by omega)]
    rfl

theorem squares_eq {R : Type} (N : Nat) (hN : 1000 < N) (k u : Nat) (hu : u < 1852673427797059126777135760139006525652319754650249024631321344126610074238976) (hk : k ≤ 1000) (r : List Int → Option R) : squares.M N R (E u) (k : Int) r = r (E (sqE k u)) := by
  show squares.m (Square.M N) N (E u) (k : Int) r = _
  have h0 : squares.m (Square.M N) N (E u) (k : Int) r = squares.J1000000_0 (Square.M N) N (fun _ h => r h) (N + 1) (k : Int) (E u) := by
    unfold squares.m
    rw [squares.J1000000_0]
  rw [h0, squares_loop N (by omega) _ k (N + 1) u hu (by omega) hk]

def powE (a : Nat) : Nat × Nat :=
  let two := mulE a a
  let nine := mulE (sqE 2 two) a
  let eleven := mulE nine two
  let x5 := mulE (mulE eleven eleven) nine
  let x10 := mulE (sqE 5 x5) x5
  let x20 := mulE (sqE 10 x10) x10
  let x40 := mulE (sqE 20 x20) x20
  let x50 := mulE (sqE 10 x40) x10
  let x100 := mulE (sqE 50 x50) x50
  let x200 := mulE (sqE 100 x100) x100
  (mulE (sqE 50 x200) x50, eleven)

theorem powE_rep (a : Nat) (h : a < 1852673427797059126777135760139006525652319754650249024631321344126610074238976) : Rep a (powE a).1 1809251394333065553493296640760748560207343510400633813116524750123642650623 ∧ Rep a (powE a).2 11 := by
  have r1 := Rep.one h
  have two := r1.mul r1
  have nine := (two.sq 2).mul r1
  have eleven := nine.mul two
  have x5 := (eleven.mul eleven).mul nine
  have x10 := (x5.sq 5).mul x5
  have x20 := (x10.sq 10).mul x10
  have x40 := (x20.sq 20).mul x20
  have x50 := (x40.sq 10).mul x10
  have x100 := (x50.sq 50).mul x50
  have x200 := (x100.sq 100).mul x100
  have x250 := (x200.sq 50).mul x50
  exact ⟨x250, eleven⟩

theorem power_eq {R : Type} (N : Nat) (hN : 1000 < N) (a : Nat) (h : a < 1852673427797059126777135760139006525652319754650249024631321344126610074238976) (r : List Int → List Int → Option R) : power.M N R (E a) r = r (E (powE a).1) (E (powE a).2) := by
  show power.m (Square.M N) (squares.M N) (eTimes.M N) N (E a) r = _
  unfold power.m
  have hN' : 100 < N := by omega
  have s2 := fun (u : Nat) (hu : u < 1852673427797059126777135760139006525652319754650249024631321344126610074238976) (r : List Int → Option R) => squares_eq N hN 2 u hu (by omega) r
  have s5 := fun (u : Nat) (hu : u < 1852673427797059126777135760139006525652319754650249024631321344126610074238976) (r : List Int → Option R) => squares_eq N hN 5 u hu (by omega) r
  have s10 := fun (u : Nat) (hu : u < 1852673427797059126777135760139006525652319754650249024631321344126610074238976) (r : List Int → Option R) => squares_eq N hN 10 u hu (by omega) r
  have s20 := fun (u : Nat) (hu : u < 1852673427797059126777135760139006525652319754650249024631321344126610074238976) (r : List Int → Option R) => squares_eq N hN 20 u hu (by omega) r
  have s50 := fun (u : Nat) (hu : u < 1852673427797059126777135760139006525652319754650249024631321344126610074238976) (r : List Int → Option R) => squares_eq N hN 50 u hu (by omega) r
  have s100 := fun (u : Nat) (hu : u < 1852673427797059126777135760139006525652319754650249024631321344126610074238976) (r : List Int → Option R) => squares_eq N hN 100 u hu (by omega) r
  have two := mulE_lt h h
  have n4 := sqE_lt 2 two
  have nine := mulE_lt n4 h
  have eleven := mulE_lt nine two
  have e22 := mulE_lt eleven eleven
  have x5 := mulE_lt e22 nine
  have y5 := sqE_lt 5 x5
  have x10 := mulE_lt y5 x5
  have y10 := sqE_lt 10 x10
  have x20 := mulE_lt y10 x10
  have y20 := sqE_lt 20 x20
  have x40 := mulE_lt y20 x20
  have y40 := sqE_lt 10 x40
  have x50 := mulE_lt y40 x10
  have y50 := sqE_lt 50 x50
  have x100 := mulE_lt y50 x50
  have y100 := sqE_lt 100 x100
  have x200 := mulE_lt y100 x100
  have y200 := sqE_lt 50 x200
  rw [Square_eq N hN' a h]
  refine Eq.trans (s2 _ two _) ?_
  rw [eTimes_eq N hN' _ _ n4 h, eTimes_eq N hN' _ _ nine two, Square_eq N hN' _ eleven, eTimes_eq N hN' _ _ e22 nine]
  refine Eq.trans (s5 _ x5 _) ?_
  rw [eTimes_eq N hN' _ _ y5 x5]
  refine Eq.trans (s10 _ x10 _) ?_
  rw [eTimes_eq N hN' _ _ y10 x10]
  refine Eq.trans (s20 _ x20 _) ?_
  rw [eTimes_eq N hN' _ _ y20 x20]
  refine Eq.trans (s10 _ x40 _) ?_
  rw [eTimes_eq N hN' _ _ y40 x10]
  refine Eq.trans (s50 _ x50 _) ?_
  rw [eTimes_eq N hN' _ _ y50 x50]
  refine Eq.trans (s100 _ x100 _) ?_
  rw [eTimes_eq N hN' _ _ y100 x100]
  refine Eq.trans (s50 _ x200 _) ?_
  rw [eTimes_eq N hN' _ _ y200 x50]
  rfl

def invE (a : Nat) : Nat := mulE (sqE 5 (powE a).1) (powE a).2
theorem invE_rep (a : Nat) (h : a < 1852673427797059126777135760139006525652319754650249024631321344126610074238976) : Rep a (invE a) (PP - 2) := by
  obtain ⟨h1, h2⟩ := powE_rep a h
  have := (h1.sq 5).mul h2
  rwa [show 1809251394333065553493296640760748560207343510400633813116524750123642650623 * 2 ^ 5 + 11 = PP - 2 by decide +kernel] at this

theorem eInvert_eq {R : Type} (N : Nat) (hN : 1000 < N) (a : Nat) (h : a < 1852673427797059126777135760139006525652319754650249024631321344126610074238976) (r : List Int → Option R) : eInvert.M N R (E a) r = r (E (invE a)) := by
  show eInvert.m (power.M N) (squares.M N) (eTimes.M N) N (E a) r = _
  unfold eInvert.m
  obtain ⟨h1, h2⟩ := powE_rep a h
  rw [power_eq N hN a h]
  refine Eq.trans (squares_eq N hN 5 _ h1.lt (by omega) _) ?_
  rw [eTimes_eq N (by omega) _ _ (sqE_lt 5 h1.lt) h2.lt]
  rfl

/-! ### roots -/

theorem PP_eq : PP = Fp.PP := rfl
theorem II_row : ([34513072, 59165138, 38243406, 1750207, 53429016, 58652137, 13633939, 58469549, 8409025, 712905] : List Int) = E Fp.II := by decide +kernel

def raE (a : Nat) : Nat := mulE (mulE (mulE (powE a).1 (powE a).1) a) (mulE (mulE (powE a).1 (powE a).1) a)
theorem raE_rep (a : Nat) (h : a < 1852673427797059126777135760139006525652319754650249024631321344126610074238976) : Rep a (raE a) Fp.e8 := by
  obtain ⟨h1, _⟩ := powE_rep a h
  have := ((h1.mul h1).mul (Rep.one h))
  have := this.mul this
  rwa [show 1809251394333065553493296640760748560207343510400633813116524750123642650623 + 1809251394333065553493296640760748560207343510400633813116524750123642650623 + 1 + (1809251394333065553493296640760748560207343510400633813116524750123642650623 + 1809251394333065553493296640760748560207343510400633813116524750123642650623 + 1) = Fp.e8 by decide +kernel] at this

/-- The program's root, ahead of its sign. -/
def rtE (a : Nat) : Nat := if mulE (raE a) (raE a) % PP = a % PP then raE a else mulE (raE a) Fp.II

theorem rtE_lt (a : Nat) (h : a < 1852673427797059126777135760139006525652319754650249024631321344126610074238976) : rtE a < 1852673427797059126777135760139006525652319754650249024631321344126610074238976 := by
  have h1 := (raE_rep a h).lt
  unfold rtE
  split
  · exact h1
  · exact mulE_lt h1 (by decide +kernel)

theorem rtE_mod (a : Nat) (h : a < 1852673427797059126777135760139006525652319754650249024631321344126610074238976) : rtE a % PP = Fp.rt a := by
  have h1 := raE_rep a h
  have e : mulE (raE a) (raE a) % PP = a ^ Fp.e8 * a ^ Fp.e8 % PP := by rw [mulE_mod, Nat.mul_mod, h1.eq, ← Nat.mul_mod]
  unfold rtE Fp.rt
  rw [e]
  by_cases hc : a ^ Fp.e8 * a ^ Fp.e8 % PP = a % PP
  · rw [if_pos hc, if_pos (show a ^ Fp.e8 * a ^ Fp.e8 % Fp.PP = a % Fp.PP from hc), h1.eq, PP_eq]
  · rw [if_neg hc, if_neg (show ¬ a ^ Fp.e8 * a ^ Fp.e8 % Fp.PP = a % Fp.PP from hc), mulE_mod, Nat.mul_mod, h1.eq, Nat.mod_mul_mod, Nat.mul_mod_mod, PP_eq]

def rootE (a : Nat) : Nat := if rtE a % PP % 2 = 1 then subE 0 (rtE a) else rtE a
theorem rootE_lt (a : Nat) (h : a < 1852673427797059126777135760139006525652319754650249024631321344126610074238976) : rootE a < 1852673427797059126777135760139006525652319754650249024631321344126610074238976 := by
  unfold rootE
  split
  · exact subE_lt (by decide)
  · exact rtE_lt a h
theorem rootE_mod (a : Nat) (h : a < 1852673427797059126777135760139006525652319754650249024631321344126610074238976) : rootE a % PP = Fp.even (Fp.rt a) := by
  have h1 := rtE_mod a h
  have h2 := Fp.rt_lt a
  unfold rootE Fp.even
  rw [h1]
  by_cases hc : Fp.rt a % 2 = 1
  · rw [if_pos hc, if_pos hc, subE_mod (rtE_lt a h), h1, Nat.zero_add, Nat.mod_eq_of_lt (by rw [PP_eq]; omega), PP_eq]
  · rw [if_neg hc, if_neg hc, h1]

theorem rtE_ok (a : Nat) (h : a < 1852673427797059126777135760139006525652319754650249024631321344126610074238976) : mulE (rtE a) (rtE a) % PP = a % PP ↔ Fp.isSq a := by
  rw [← Fp.rt_ok, mulE_mod, Nat.mul_mod, rtE_mod a h, PP_eq]

open Classical in
theorem eRoot_eq {R : Type} (N : Nat) (hN : 1000 < N) (a : Nat) (h : a < 1852673427797059126777135760139006525652319754650249024631321344126610074238976) (r : List Int → Bool → Option R) : eRoot.M N R (E a) r = if Fp.isSq a then r (E (rootE a)) true else r (E 0) false := by
  show eRoot.m (power.M N) (Square.M N) (eTimes.M N) (Same.M N) (Odd.M N) (eSub.M N) N (E a) r = _
  unfold eRoot.m
  have hN' : 100 < N := by omega
  obtain ⟨h1, _⟩ := powE_rep a h
  have x2 := mulE_lt h1.lt h1.lt
  have x2a := mulE_lt x2 h
  have hra := (raE_rep a h).lt
  have hra2 := mulE_lt hra hra
  have hII : Fp.II < 1852673427797059126777135760139006525652319754650249024631321344126610074238976 := by decide +kernel
  have hriI := mulE_lt hra hII
  have hok := rtE_ok a h
  rw [power_eq N hN a h, Square_eq N hN' _ h1.lt, eTimes_eq N hN' _ _ x2 h, Square_eq N hN' _ x2a]
  rw [show mulE (mulE (mulE (powE a).1 (powE a).1) a) (mulE (mulE (powE a).1 (powE a).1) a) = raE a from rfl]
  rw [Square_eq N hN' _ hra, Same_eq N hN _ _ hra2 h]
  have fin : ∀ (u : Nat), u = rtE a → Square.M N R (E u) (fun v_c30 => Same.M N R v_c30 (E a) fun v_c31 => bif !v_c31 then r [0, 0, 0, 0, 0, 0, 0, 0, 0, 0] false else Odd.M N R (E u) fun v_c32 => bif v_c32 then eSub.M N R [0, 0, 0, 0, 0, 0, 0, 0, 0, 0] (E u) fun v_c33 => r v_c33 true else r (E u) true) =
      if Fp.isSq a then r (E (rootE a)) true else r (E 0) false := by
    rintro u rfl
    have hu := rtE_lt a h
    rw [Square_eq N hN' _ hu, Same_eq N hN _ _ (mulE_lt hu hu) h, zeros10]
    by_cases hc : Fp.isSq a
    · rw [decide_eq_true (hok.2 hc), if_pos hc]
      simp only [Bool.not_true, cond_false]
      rw [Odd_eq N hN' _ hu]
      unfold rootE
      by_cases ho : rtE a % PP % 2 = 1
      · rw [decide_eq_true ho, cond_true, if_pos ho, eSub_eq N hN' 0 _ (by decide) hu]
      · rw [decide_eq_false ho, cond_false, if_neg ho]
    · rw [decide_eq_false (fun q => hc (hok.1 q)), if_neg hc]
      rfl
  by_cases hc : mulE (raE a) (raE a) % PP = a % PP
  · rw [decide_eq_true hc]
    simp only [Bool.not_true, cond_false]
    exact fin _ (by unfold rtE; rw [if_pos hc])
  · rw [decide_eq_false hc]
    simp only [Bool.not_false, cond_true]
    rw [II_row, eTimes_eq N hN' _ _ hra hII]
    exact fin _ (by unfold rtE; rw [if_neg hc])

end Go.Proofs.YtjaappocnonkbaaDoor.fn
