/- What the scalars' laws come to. -/
import Derived.Test.YtganankiiipkgaaMScalarE
namespace Go.Proofs.Ytganankiiipkgaa.fn
open Go Go.Proofs Go.Ev Go.Dg

theorem nn_inj {a b : List Nat} (h : nn a = nn b) : a = b := by
  have : ∀ (a b : List Nat), nn a = nn b → a = b := by
    intro a
    induction a with
    | nil => intro b h; cases b with | nil => rfl | cons y b => simp [nn] at h
    | cons x a ih =>
      intro b h
      cases b with
      | nil => simp [nn] at h
      | cons y b =>
        simp only [nn, List.map_cons, List.cons.injEq] at h
        have h1 : (x : Int) = (y : Int) := h.1
        rw [ih b h.2, show x = y by omega]
  exact this a b h

theorem beq_dig (n u v : Nat) (hu : u < 256 ^ n) (hv : v < 256 ^ n) : (nn (dig 256 n u) == nn (dig 256 n v)) = decide (u = v) := by
  rw [Bool.eq_iff_iff, beq_iff_eq, decide_eq_true_iff]
  exact ⟨fun h => dig_inj hu hv (nn_inj h), fun h => by rw [h]⟩

/-! ### rows of bytes that are the same -/

theorem xor_zero (x y : Nat) (hx : x < 256) (hy : y < 256) : ∃ z : Nat, ixor .u8 (x : Int) (y : Int) = (z : Int) ∧ z < 256 ∧ (z = 0 ↔ x = y) := by
  have e1 : (x : Int) = un (BitVec.ofNat 8 x) := by unfold un; rw [BitVec.toNat_ofNat, Nat.mod_eq_of_lt (by omega)]
  have e2 : (y : Int) = un (BitVec.ofNat 8 y) := by unfold un; rw [BitVec.toNat_ofNat, Nat.mod_eq_of_lt (by omega)]
  refine ⟨x ^^^ y, ?_, Nat.xor_lt_two_pow (n := 8) hx hy, ?_⟩
  · rw [e1, e2, ixor8]
    unfold un
    rw [BitVec.toNat_xor, BitVec.toNat_ofNat, BitVec.toNat_ofNat, Nat.mod_eq_of_lt (show x < 2 ^ 8 by omega), Nat.mod_eq_of_lt (show y < 2 ^ 8 by omega)]
  · exact ⟨fun h => by have := congrArg (· ^^^ y) h; simpa [Nat.xor_assoc] using this, fun h => by subst h; exact Nat.xor_self x⟩

theorem or_zero2 (x y : Nat) (hx : x < 256) (hy : y < 256) : ∃ z : Nat, ior .u8 (x : Int) (y : Int) = (z : Int) ∧ z < 256 ∧ (z = 0 ↔ x = 0 ∧ y = 0) := by
  have e1 : (x : Int) = un (BitVec.ofNat 8 x) := by unfold un; rw [BitVec.toNat_ofNat, Nat.mod_eq_of_lt (by omega)]
  have e2 : (y : Int) = un (BitVec.ofNat 8 y) := by unfold un; rw [BitVec.toNat_ofNat, Nat.mod_eq_of_lt (by omega)]
  refine ⟨x ||| y, ?_, Nat.or_lt_two_pow (n := 8) hx hy, ?_⟩
  · rw [e1, e2, ior8]
    unfold un
    rw [BitVec.toNat_or, BitVec.toNat_ofNat, BitVec.toNat_ofNat, Nat.mod_eq_of_lt (show x < 2 ^ 8 by omega), Nat.mod_eq_of_lt (show y < 2 ^ 8 by omega)]
  · exact Nat.or_eq_zero_iff

theorem equal_loop {R : Type} (N : Nat) (r : Bool → Option R) (z z' : Option Bool) (n : Nat) (hn : n ≤ 1000) :
    ∀ (xs ys pre pre' : List Nat) (p m : Nat), xs.length = ys.length → pre.length = pre'.length → pre.length + xs.length = n → xs.length < m → p < 256 → (∀ x ∈ xs, x < 256) → (∀ y ∈ ys, y < 256) →
      wEqual.L5 N (fun _ _ _ _ parts _ _ => r (parts == 0)) m z (nn (pre ++ xs)) z' (nn (pre' ++ ys)) (p : Int) (n : Int) (pre.length : Int) = r (decide (p = 0) && decide (xs = ys)) := by
  intro xs
  induction xs with
  | nil =>
    intro ys pre pre' p m h1 h3 h5 hm _ _ _
    obtain ⟨m, rfl⟩ : ∃ k, m = k + 1 := ⟨m - 1, by simp at hm; omega⟩
    have hr : ys = [] := by simpa using h1.symm
    subst hr
    unfold wEqual.L5
    rw [decide_eq_false (by simp at h5; omega), cond_false]
    congr 1
    rw [Bool.eq_iff_iff]
    simp
  | cons x xs ih =>
    intro ys pre pre' p m h1 h3 h5 hm hp hx hy
    obtain ⟨m, rfl⟩ : ∃ k, m = k + 1 := ⟨m - 1, by simp at hm; omega⟩
    cases ys with
    | nil => simp at h1
    | cons y ys =>
      have hx0 := hx x (by simp)
      have hy0 := hy y (by simp)
      simp only [List.length_cons] at h1 h5 hm
      obtain ⟨u, hu, hu1, hu2⟩ := xor_zero x y hx0 hy0
      obtain ⟨w, hw, hw1, hw2⟩ := or_zero2 p u hp hu1
      unfold wEqual.L5
      have c1 : decide ((pre.length : Int) < (n : Int)) = true := decide_eq_true (by omega)
      have c2 : decide (0 ≤ (pre.length : Int)) = true := decide_eq_true (by omega)
      have c3 : decide ((pre.length : Int) < ((nn (pre ++ x :: xs)).length : Int)) = true := decide_eq_true (by simp; omega)
      have c4 : decide ((pre.length : Int) < ((nn (pre' ++ y :: ys)).length : Int)) = true := decide_eq_true (by simp; omega)
      have g1 : (nn (pre ++ x :: xs)).getD (pre.length : Int).toNat 0 = (x : Int) := app_getD pre x xs rfl
      have g2 : (nn (pre' ++ y :: ys)).getD (pre.length : Int).toNat 0 = (y : Int) := app_getD pre' y ys (by omega)
      have e5 : IntKind.i64.wrap ((pre.length : Int) + 1) = ((pre ++ [x]).length : Int) := by rw [wrap_i64z _ (by omega) (by omega)]; simp
      simp only [c1, c2, c3, c4, cond_true, g1, g2, hu, hw, e5]
      rw [app_next pre x xs, app_next pre' y ys, ih ys _ _ w m (by omega) (by simp; omega) (by simp; omega) (by omega) hw1 (fun z hz => hx z (by simp [hz])) (fun z hz => hy z (by simp [hz]))]
      congr 1
      rw [Bool.eq_iff_iff]
      simp only [Bool.and_eq_true, decide_eq_true_eq, hw2, hu2, List.cons.injEq]
      constructor <;> (rintro ⟨⟨a, b⟩, c⟩ <;> simp_all)

theorem equal_eq {R : Type} (N : Nat) (hN : 1000 < N) (z z' : Option Bool) (xs ys : List Nat) (hl : xs.length = ys.length) (hb : xs.length ≤ 1000) (hx : ∀ x ∈ xs, x < 256) (hy : ∀ y ∈ ys, y < 256) (r : Bool → Option R) :
    wEqual.M N R z (nn xs) z' (nn ys) r = r (decide (xs = ys)) := by
  show wEqual.m N z (nn xs) z' (nn ys) r = _
  unfold wEqual.m
  have e : (((nn xs).length : Int) != ((nn ys).length : Int)) = false := by simp [hl]
  rw [e, cond_false]
  have h := equal_loop N r z z' xs.length hb xs ys [] [] 0 N hl rfl (by simp) (by omega) (by omega) hx hy
  simp only [List.nil_append, List.length_nil] at h
  have e2 : ((nn xs).length : Int) = (xs.length : Int) := by simp
  rw [e2]
  refine Eq.trans h ?_
  simp

theorem sRight_eq {R : Type} (N : Nat) (hN : 1000 < N) (A : Nat) (hA : A < 256 ^ 32) (r : Bool → Option R) : sRight.M N R (nn (dig 256 32 A)) r = r (decide (A < l)) := by
  show sRight.m (smod.M N) (sbytes.M N) (wEqual.M N) N _ r = _
  unfold sRight.m
  have hl32 : l < 256 ^ 32 := by decide +kernel
  have hAl := Nat.mod_lt A l_pos
  rw [cut_all 32 _ (dig_length _ _ _), smod_eq N hN none 32 A (by omega) hA, sbytes_eq N (by omega), cut_all 32 _ (dig_length _ _ _),
    equal_eq N hN none none _ _ (by simp [dig_length]) (by simp [dig_length]) (dig_lt (by decide) _ _) (dig_lt (by decide) _ _)]
  congr 1
  rw [Bool.eq_iff_iff, decide_eq_true_iff, decide_eq_true_iff]
  constructor
  · intro h
    have := dig_inj (by omega) hA h
    omega
  · intro h
    rw [Nat.mod_eq_of_lt h]

theorem alive11_eq {R : Type} (N : Nat) (hN : 1000 < N) (r : Bool → Option R) : alive11.M N R r = r true := by
  show alive11.m (sNegate.M N) (sRight.M N) N r = _
  unfold alive11.m
  have e1 : ([1, 0, 0, 0, 0, 0, 0, 0, 0, 0, 0, 0, 0, 0, 0, 0, 0, 0, 0, 0, 0, 0, 0, 0, 0, 0, 0, 0, 0, 0, 0, 0] : List Int) = nn (dig 256 32 1) := by decide +kernel
  have hl32 : l < 256 ^ 32 := by decide +kernel
  rw [e1, sNegate_eq N hN 1 (by decide +kernel), Nat.one_mul, Nat.mod_eq_of_lt (show l - 1 < l by decide +kernel)]
  have c1 : ((nn (dig 256 32 (l - 1))).getD 0 0 != 236) = false := by decide +kernel
  have c2 : ((nn (dig 256 32 (l - 1))).getD 31 0 != 16) = false := by decide +kernel
  have c3 : (nn (dig 256 32 (l - 1))).set 0 (IntKind.u8.wrap ((nn (dig 256 32 (l - 1))).getD 0 0 + 1)) = nn (dig 256 32 l) := by decide +kernel
  rw [c1, c2, c3, cond_false, cond_false, sRight_eq N hN (l - 1) (by decide +kernel), decide_eq_true (by decide +kernel)]
  simp only [Bool.not_true, cond_false]
  rw [sRight_eq N hN l hl32, decide_eq_false (by omega)]
  rfl

theorem ScalarReduces_true {R : Type} (N : Nat) (hN : 1000 < N) (V A : Nat) (i : Int) (hV : V < 256 ^ 64) (hA : A < 256 ^ 32) (hi : -9223372036854775808 ≤ i ∧ i < 9223372036854775808) (r : Bool → Option R) :
    ScalarReduces.M N R (nn (dig 256 64 V)) (nn (dig 256 32 A)) i r = r true := by
  show ScalarReduces.m (alive11.M N) (Reduce.M N) (rMod.M N) (sRight.M N) (Bit.M N) N _ _ _ r = _
  have hl32 : l < 256 ^ 32 := by decide +kernel
  have hAl := Nat.mod_lt A l_pos
  unfold ScalarReduces.m
  rw [alive11_eq N hN]
  simp only [Bool.not_true, cond_false]
  rw [Reduce_eq N hN V hV, cut_all 64 _ (dig_length _ _ _), rMod_eq N hN none 64 V (by omega) hV, beq_self_eq_true]
  simp only [Bool.not_true, cond_false]
  rw [sRight_eq N hN A hA, cut_all 32 _ (dig_length _ _ _), rMod_eq N hN none 32 A (by omega) hA, beq_dig 32 _ _ (by omega) hA]
  have e1 : (decide (A < l) == decide (A % l = A)) = true := by
    have : (A < l) ↔ (A % l = A) := ⟨fun h => Nat.mod_eq_of_lt h, fun h => by omega⟩
    simp [this]
  rw [e1]
  simp only [Bool.not_true, cond_false]
  have hbit : ∀ i : Int, Bit.M N R (nn (dig 256 32 A)) i r = Bit.m N (nn (dig 256 32 A)) i r := fun _ => rfl
  have hb2 : ∀ (f : Bool → Option R), Bit.M N R (nn (dig 256 32 A)) i f = Bit.m N (nn (dig 256 32 A)) i f := fun _ => rfl
  by_cases h0 : i ≥ 0
  · by_cases h1 : i < 256
    · obtain ⟨k, rfl⟩ := Int.eq_ofNat_of_zero_le h0
      have e2 : (k : Int).tdiv 8 = ((k / 8 : Nat) : Int) := tdiv_nat k 8
      have e3 : (k : Int).tmod 8 = ((k % 8 : Nat) : Int) := tmod_nat k 8
      have e4 : IntKind.i64.wrap ((k / 8 : Nat) : Int) = ((k / 8 : Nat) : Int) := wrap_i64z _ (by omega) (by omega)
      have e5 : IntKind.u64.wrap ((k % 8 : Nat) : Int) = ((k % 8 : Nat) : Int) := wrap_u64 _ (by omega)
      have d0 : decide ((k : Int) ≥ 0) = true := decide_eq_true h0
      have d1 : decide ((k : Int) < 256) = true := decide_eq_true h1
      have d2 : decide (0 ≤ ((k / 8 : Nat) : Int)) = true := decide_eq_true (by omega)
      have d3 : decide (((k / 8 : Nat) : Int) < 32) = true := decide_eq_true (by omega)
      have d4 : decide (((k % 8 : Nat) : Int) < 0) = false := decide_eq_false (by omega)
      simp only [hb2]
      unfold Bit.m
      simp only [e2, e3, e4, e5, d0, d1, d2, d3, d4, cond_true, cond_false, Bool.and_false, beq_self_eq_true]
    · have d0 : decide (i ≥ 0) = true := decide_eq_true h0
      have d1 : decide (i < 256) = false := decide_eq_false h1
      simp only [hb2]
      unfold Bit.m
      simp only [d0, d1, cond_true, cond_false, beq_self_eq_true]
  · have d0 : decide (i ≥ 0) = false := decide_eq_false h0
    simp only [hb2]
    unfold Bit.m
    simp only [d0, cond_false, beq_self_eq_true]

theorem neg_mod (A : Nat) : A * (l - 1) % l = (l - A % l) % l := by
  have hAl := Nat.mod_lt A l_pos
  have h1 : (A * (l - 1) + A) % l = 0 := by
    rw [show A * (l - 1) + A = A * l by rw [← Nat.mul_succ]; congr 1]
    exact Nat.mul_mod_left A l
  have h2 : ((l - A % l) + A) % l = 0 := by
    rw [Nat.add_mod, ← Nat.add_mod, ← Nat.add_mod_mod, show l - A % l + A % l = l by omega, Nat.mod_self]
  -- both are what A lacks
  have key : ∀ x, (x + A) % l = 0 → x % l = (l - A % l) % l := by
    intro x hx
    rw [← Nat.add_mod_mod] at hx
    have : (x + A % l + (l - A % l)) % l = (l - A % l) % l := by rw [Nat.add_mod, hx, Nat.zero_add, Nat.mod_mod]
    rw [← this, Nat.add_assoc, show A % l + (l - A % l) = l by omega, Nat.add_mod_right]
  exact key _ h1

theorem ScalarSums_true {R : Type} (N : Nat) (hN : 1000 < N) (A B : Nat) (hA : A < 256 ^ 32) (hB : B < 256 ^ 32) (r : Bool → Option R) : ScalarSums.M N R (nn (dig 256 32 A)) (nn (dig 256 32 B)) r = r true := by
  show ScalarSums.m (alive11.M N) (sAdd.M N) (rAdd.M N) (sTimes.M N) (rTimes.M N) (sNegate.M N) (rNegate.M N) N _ _ r = _
  unfold ScalarSums.m
  rw [alive11_eq N hN]
  simp only [Bool.not_true, cond_false]
  rw [sAdd_eq N hN A B hA hB, rAdd_eq N hN A B hA hB, beq_self_eq_true, cond_true, sTimes_eq N hN A B hA hB, rTimes_eq N hN A B hA hB, beq_self_eq_true, cond_true, sNegate_eq N hN A hA, rNegate_eq N hN A hA, neg_mod, beq_self_eq_true]

theorem ScalarChains_true {R : Type} (N : Nat) (hN : 1000 < N) (A B C : Nat) (hA : A < 256 ^ 32) (hB : B < 256 ^ 32) (hC : C < 256 ^ 32) (r : Bool → Option R) :
    ScalarChains.M N R (nn (dig 256 32 A)) (nn (dig 256 32 B)) (nn (dig 256 32 C)) r = r true := by
  show ScalarChains.m (alive11.M N) (sAdd.M N) (sTimes.M N) (sNegate.M N) (sRight.M N) N _ _ _ r = _
  have hl32 : l < 256 ^ 32 := by decide +kernel
  have lt : ∀ x, x % l < 256 ^ 32 := fun x => Nat.lt_trans (Nat.mod_lt x l_pos) hl32
  unfold ScalarChains.m
  rw [alive11_eq N hN]
  simp only [Bool.not_true, cond_false]
  rw [sAdd_eq N hN A B hA hB, sTimes_eq N hN _ C (lt _) hC, sTimes_eq N hN A C hA hC, sTimes_eq N hN B C hB hC, sAdd_eq N hN _ _ (lt _) (lt _), sNegate_eq N hN A hA, sAdd_eq N hN A _ hA (lt _)]
  have e1 : (A + B) % l * C % l = (A * C % l + B * C % l) % l := by
    rw [Nat.mul_mod, Nat.mod_mod, ← Nat.mul_mod, Nat.add_mul, ← Nat.add_mod]
  have e2 : (A + A * (l - 1) % l) % l = 0 := by
    rw [Nat.add_mod_mod, Nat.add_comm, show A * (l - 1) + A = A * l by rw [← Nat.mul_succ]; congr 1]
    exact Nat.mul_mod_left A l
  have e3 : ([0, 0, 0, 0, 0, 0, 0, 0, 0, 0, 0, 0, 0, 0, 0, 0, 0, 0, 0, 0, 0, 0, 0, 0, 0, 0, 0, 0, 0, 0, 0, 0] : List Int) = nn (dig 256 32 0) := by decide +kernel
  rw [e1, e2, e3, beq_self_eq_true, cond_true, beq_self_eq_true, cond_true, sRight_eq N hN _ (lt _), decide_eq_true (Nat.mod_lt _ l_pos), cond_true, sTimes_eq N hN A B hA hB, sTimes_eq N hN B A hB hA, Nat.mul_comm B A, beq_self_eq_true, cond_true,
    sNegate_eq N hN A hA, sTimes_eq N hN _ B (lt _) hB, sTimes_eq N hN A B hA hB, sNegate_eq N hN _ (lt _)]
  have e4 : A * (l - 1) % l * B % l = A * B % l * (l - 1) % l := by
    rw [Nat.mul_mod, Nat.mod_mod, ← Nat.mul_mod, Nat.mul_mod (A * B % l), Nat.mod_mod, ← Nat.mul_mod, Nat.mul_right_comm]
  rw [e4, beq_self_eq_true]
end Go.Proofs.Ytganankiiipkgaa.fn
