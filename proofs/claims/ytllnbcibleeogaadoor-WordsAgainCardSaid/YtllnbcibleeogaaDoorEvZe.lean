/- Words turned: what turning by shifts is, bit by bit. -/
import Derived.Test.YtllnbcibleeogaaDoorEvZd
namespace Go.Ev

theorem u64_mod32 (y : Int) : (IntKind.u64.wrap y).tmod 32 = y % 32 ∧ IntKind.u64.wrap (32 - (IntKind.u64.wrap y).tmod 32) = 32 - y % 32 := by
  have h : IntKind.u64.wrap y = y % 18446744073709551616 := rfl
  have h1 : (IntKind.u64.wrap y).tmod 32 = y % 32 := by
    rw [h, Int.tmod_eq_emod_of_nonneg (by omega)]; omega
  refine ⟨h1, ?_⟩
  rw [h1]
  have h2 : ∀ z : Int, IntKind.u64.wrap z = z % 18446744073709551616 := fun _ => rfl
  rw [h2]; omega

theorem u64_mod64 (y : Int) : (IntKind.u64.wrap y).tmod 64 = y % 64 ∧ IntKind.u64.wrap (64 - (IntKind.u64.wrap y).tmod 64) = 64 - y % 64 := by
  have h : IntKind.u64.wrap y = y % 18446744073709551616 := rfl
  have h1 : (IntKind.u64.wrap y).tmod 64 = y % 64 := by
    rw [h, Int.tmod_eq_emod_of_nonneg (by omega)]; omega
  refine ⟨h1, ?_⟩
  rw [h1]
  have h2 : ∀ z : Int, IntKind.u64.wrap z = z % 18446744073709551616 := fun _ => rfl
  rw [h2]; omega

theorem i64_mod32 (z : Int) : IntKind.i64.wrap z % 32 = z % 32 := by
  unfold IntKind.wrap
  simp only [IntKind.bits, IntKind.signed, Bool.true_and]
  split <;> omega

theorem i64_mod64 (z : Int) : IntKind.i64.wrap z % 64 = z % 64 := by
  unfold IntKind.wrap
  simp only [IntKind.bits, IntKind.signed, Bool.true_and]
  split <;> omega

theorem left32 (x : BitVec 32) (y : Int) : ior .u32 (ishl .u32 (un x) ((IntKind.u64.wrap y).tmod 32)) (ishr .u32 (un x) (IntKind.u64.wrap (32 - (IntKind.u64.wrap y).tmod 32))) = un (x.rotateLeft (y % 32).toNat) := by
  obtain ⟨h1, h2⟩ := u64_mod32 y
  rw [h2, h1, ishl32, ishr32, ior32, un_inj, BitVec.rotateLeft_def]
  have e1 : min (y % 32).toNat 32 = (y % 32).toNat % 32 := by omega
  have e2 : min (32 - y % 32).toNat 32 = 32 - (y % 32).toNat % 32 := by omega
  rw [e1, e2]

theorem right32 (x : BitVec 32) (y : Int) : ior .u32 (ishr .u32 (un x) ((IntKind.u64.wrap y).tmod 32)) (ishl .u32 (un x) (IntKind.u64.wrap (32 - (IntKind.u64.wrap y).tmod 32))) = un (x.rotateRight (y % 32).toNat) := by
  obtain ⟨h1, h2⟩ := u64_mod32 y
  rw [h2, h1, ishl32, ishr32, ior32, un_inj, BitVec.rotateRight_def]
  have e1 : min (y % 32).toNat 32 = (y % 32).toNat % 32 := by omega
  have e2 : min (32 - y % 32).toNat 32 = 32 - (y % 32).toNat % 32 := by omega
  rw [e1, e2]

theorem right64 (x : BitVec 64) (y : Int) : ior .u64 (ishr .u64 (un x) ((IntKind.u64.wrap y).tmod 64)) (ishl .u64 (un x) (IntKind.u64.wrap (64 - (IntKind.u64.wrap y).tmod 64))) = un (x.rotateRight (y % 64).toNat) := by
  obtain ⟨h1, h2⟩ := u64_mod64 y
  rw [h2, h1, ishl64, ishr64, ior64, un_inj, BitVec.rotateRight_def]
  have e1 : min (y % 64).toNat 64 = (y % 64).toNat % 64 := by omega
  have e2 : min (64 - y % 64).toNat 64 = 64 - (y % 64).toNat % 64 := by omega
  rw [e1, e2]

theorem bit_left32 (x : BitVec 32) (k i : Nat) (hi : i < 32) : (x.rotateLeft k).getLsbD i = x.getLsbD ((i + 32 - k % 32) % 32) := by
  rw [BitVec.getLsbD_rotateLeft]
  by_cases h : i < k % 32
  · simp only [h, decide_true, cond_true]; congr 1; omega
  · simp only [h, decide_false, cond_false, hi, decide_true, Bool.true_and]; congr 1; omega

theorem bit_right32 (x : BitVec 32) (k i : Nat) (hi : i < 32) : (x.rotateRight k).getLsbD i = x.getLsbD ((i + k % 32) % 32) := by
  rw [BitVec.getLsbD_rotateRight]
  by_cases h : i < 32 - k % 32
  · simp only [h, decide_true, cond_true]; congr 1; omega
  · simp only [h, decide_false, cond_false, hi, decide_true, Bool.true_and]; congr 1; omega

theorem bit_right64 (x : BitVec 64) (k i : Nat) (hi : i < 64) : (x.rotateRight k).getLsbD i = x.getLsbD ((i + k % 64) % 64) := by
  rw [BitVec.getLsbD_rotateRight]
  by_cases h : i < 64 - k % 64
  · simp only [h, decide_true, cond_true]; congr 1; omega
  · simp only [h, decide_false, cond_false, hi, decide_true, Bool.true_and]; congr 1; omega

theorem left_left32 (x : BitVec 32) (a b : Int) : (x.rotateLeft (a % 32).toNat).rotateLeft (b % 32).toNat = x.rotateLeft ((a + b) % 32).toNat := by
  apply BitVec.eq_of_getLsbD_eq
  intro i hi
  rw [bit_left32 _ _ _ hi, bit_left32 _ _ _ (by omega), bit_left32 _ _ _ hi]
  congr 1; omega

theorem right_right64 (x : BitVec 64) (a b : Int) : (x.rotateRight (a % 64).toNat).rotateRight (b % 64).toNat = x.rotateRight ((a + b) % 64).toNat := by
  apply BitVec.eq_of_getLsbD_eq
  intro i hi
  rw [bit_right64 _ _ _ hi, bit_right64 _ _ _ (by omega), bit_right64 _ _ _ hi]
  congr 1; omega

theorem right_left32 (x : BitVec 32) (a : Int) : x.rotateRight (a % 32).toNat = x.rotateLeft ((0 - a) % 32).toNat := by
  apply BitVec.eq_of_getLsbD_eq
  intro i hi
  rw [bit_right32 _ _ _ hi, bit_left32 _ _ _ hi]
  congr 1; omega

theorem left0 (x : BitVec 32) : x.rotateLeft 0 = x := by
  apply BitVec.eq_of_getLsbD_eq
  intro i hi
  rw [bit_left32 _ _ _ hi]
  congr 1; omega

theorem right0 (x : BitVec 64) : x.rotateRight 0 = x := by
  apply BitVec.eq_of_getLsbD_eq
  intro i hi
  rw [bit_right64 _ _ _ hi]
  congr 1; omega

end Go.Ev
