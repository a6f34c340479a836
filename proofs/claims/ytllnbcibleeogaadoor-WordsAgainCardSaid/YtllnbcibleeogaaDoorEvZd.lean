/- Words as bit vectors: what the evaluator's operations on unsigned kinds are. -/
import Derived.Test.YtllnbcibleeogaaDoorEvZc
namespace Go.Ev

/-- A bit vector as a number of the kind. -/
def un {n : Nat} (v : BitVec n) : Int := (v.toNat : Int)

theorem un_inj {n : Nat} {x y : BitVec n} : un x = un y ↔ x = y := by
  unfold un
  constructor
  · intro h; exact BitVec.eq_of_toNat_eq (by omega)
  · rintro rfl; rfl

theorem un_nn {n : Nat} (v : BitVec n) : 0 ≤ un v := by unfold un; omega

theorem un_lt {n : Nat} (v : BitVec n) : un v < 2 ^ n := by
  unfold un
  have := v.isLt
  have h : ((2 ^ n : Nat) : Int) = 2 ^ n := by simp
  omega

theorem wrap_u {k : IntKind} (h : k.signed = false) (z : Int) : k.wrap z = un (BitVec.ofInt k.bits z) := by
  unfold IntKind.wrap un
  simp only [h, Bool.false_and, Bool.false_eq_true, if_false, BitVec.toNat_ofInt]
  have h2 : (0 : Int) < 2 ^ k.bits := Int.pow_pos (by omega)
  have h1 := Int.emod_nonneg z (Int.ne_of_gt h2)
  have h3 : ((2 ^ k.bits : Nat) : Int) = 2 ^ k.bits := by simp
  rw [h3]
  omega

theorem ofInt_un {n : Nat} (v : BitVec n) : BitVec.ofInt n (un v) = v := by
  unfold un
  simp

theorem wrap_un {k : IntKind} (h : k.signed = false) (v : BitVec k.bits) : k.wrap (un v) = un v := by
  rw [wrap_u h, ofInt_un]

theorem wrap_toNat {k : IntKind} (h : k.signed = false) (v : BitVec k.bits) : k.wrap (v.toNat : Int) = un v := wrap_un h v

theorem iand_un {k : IntKind} (h : k.signed = false) (x y : BitVec k.bits) : iand k (un x) (un y) = un (x &&& y) := by
  unfold iand; rw [ofInt_un, ofInt_un, wrap_toNat h]
theorem ior_un {k : IntKind} (h : k.signed = false) (x y : BitVec k.bits) : ior k (un x) (un y) = un (x ||| y) := by
  unfold ior; rw [ofInt_un, ofInt_un, wrap_toNat h]
theorem ixor_un {k : IntKind} (h : k.signed = false) (x y : BitVec k.bits) : ixor k (un x) (un y) = un (x ^^^ y) := by
  unfold ixor; rw [ofInt_un, ofInt_un, wrap_toNat h]
theorem iandn_un {k : IntKind} (h : k.signed = false) (x y : BitVec k.bits) : iandn k (un x) (un y) = un (x &&& ~~~y) := by
  unfold iandn; rw [ofInt_un, ofInt_un, wrap_toNat h]

theorem add_un {k : IntKind} (h : k.signed = false) (x y : BitVec k.bits) : k.wrap (un x + un y) = un (x + y) := by
  rw [wrap_u h, BitVec.ofInt_add, ofInt_un, ofInt_un]
theorem mul_un {k : IntKind} (h : k.signed = false) (x y : BitVec k.bits) : k.wrap (un x * un y) = un (x * y) := by
  rw [wrap_u h, BitVec.ofInt_mul, ofInt_un, ofInt_un]
theorem sub_un {k : IntKind} (h : k.signed = false) (x y : BitVec k.bits) : k.wrap (un x - un y) = un (x - y) := by
  rw [wrap_u h, un_inj, Int.sub_eq_add_neg, BitVec.ofInt_add, BitVec.ofInt_neg, ofInt_un, ofInt_un, BitVec.sub_eq_add_neg]

theorem ishl_un {k : IntKind} (h : k.signed = false) (x : BitVec k.bits) (s : Int) : ishl k (un x) s = un (x <<< (min s.toNat k.bits)) := by
  unfold ishl
  rw [wrap_u h, un_inj]
  apply BitVec.eq_of_toNat_eq
  rw [BitVec.toNat_shiftLeft, Nat.shiftLeft_eq]
  unfold un
  have : ((x.toNat : Int) * 2 ^ (min s.toNat k.bits)) = ((x.toNat * 2 ^ (min s.toNat k.bits) : Nat) : Int) := by simp
  rw [this, BitVec.ofInt_natCast, BitVec.toNat_ofNat]

theorem ishr_un {k : IntKind} (x : BitVec k.bits) (s : Int) : ishr k (un x) s = un (x >>> (min s.toNat k.bits)) := by
  unfold ishr un
  rw [BitVec.toNat_ushiftRight, Nat.shiftRight_eq_div_pow]
  have : ((2 : Int) ^ (min s.toNat k.bits)) = ((2 ^ (min s.toNat k.bits) : Nat) : Int) := by simp
  rw [this, Int.fdiv_eq_ediv_of_nonneg _ (Int.natCast_nonneg _)]
  rfl

theorem iand8 (x y : BitVec 8) : iand .u8 (un x) (un y) = un (x &&& y) := iand_un (k := .u8) rfl x y
theorem ior8 (x y : BitVec 8) : ior .u8 (un x) (un y) = un (x ||| y) := ior_un (k := .u8) rfl x y
theorem ixor8 (x y : BitVec 8) : ixor .u8 (un x) (un y) = un (x ^^^ y) := ixor_un (k := .u8) rfl x y
theorem iandn8 (x y : BitVec 8) : iandn .u8 (un x) (un y) = un (x &&& ~~~y) := iandn_un (k := .u8) rfl x y
theorem add8 (x y : BitVec 8) : IntKind.wrap .u8 (un x + un y) = un (x + y) := add_un (k := .u8) rfl x y
theorem sub8 (x y : BitVec 8) : IntKind.wrap .u8 (un x - un y) = un (x - y) := sub_un (k := .u8) rfl x y
theorem mul8 (x y : BitVec 8) : IntKind.wrap .u8 (un x * un y) = un (x * y) := mul_un (k := .u8) rfl x y
theorem ishl8 (x : BitVec 8) (s : Int) : ishl .u8 (un x) s = un (x <<< (min s.toNat 8)) := ishl_un (k := .u8) rfl x s
theorem ishr8 (x : BitVec 8) (s : Int) : ishr .u8 (un x) s = un (x >>> (min s.toNat 8)) := ishr_un (k := .u8) x s
theorem wrp8 (z : Int) : IntKind.wrap .u8 z = un (BitVec.ofInt 8 z) := wrap_u (k := .u8) rfl z

theorem iand16 (x y : BitVec 16) : iand .u16 (un x) (un y) = un (x &&& y) := iand_un (k := .u16) rfl x y
theorem ior16 (x y : BitVec 16) : ior .u16 (un x) (un y) = un (x ||| y) := ior_un (k := .u16) rfl x y
theorem ixor16 (x y : BitVec 16) : ixor .u16 (un x) (un y) = un (x ^^^ y) := ixor_un (k := .u16) rfl x y
theorem iandn16 (x y : BitVec 16) : iandn .u16 (un x) (un y) = un (x &&& ~~~y) := iandn_un (k := .u16) rfl x y
theorem add16 (x y : BitVec 16) : IntKind.wrap .u16 (un x + un y) = un (x + y) := add_un (k := .u16) rfl x y
theorem sub16 (x y : BitVec 16) : IntKind.wrap .u16 (un x - un y) = un (x - y) := sub_un (k := .u16) rfl x y
theorem mul16 (x y : BitVec 16) : IntKind.wrap .u16 (un x * un y) = un (x * y) := mul_un (k := .u16) rfl x y
theorem ishl16 (x : BitVec 16) (s : Int) : ishl .u16 (un x) s = un (x <<< (min s.toNat 16)) := ishl_un (k := .u16) rfl x s
theorem ishr16 (x : BitVec 16) (s : Int) : ishr .u16 (un x) s = un (x >>> (min s.toNat 16)) := ishr_un (k := .u16) x s
theorem wrp16 (z : Int) : IntKind.wrap .u16 z = un (BitVec.ofInt 16 z) := wrap_u (k := .u16) rfl z

theorem iand32 (x y : BitVec 32) : iand .u32 (un x) (un y) = un (x &&& y) := iand_un (k := .u32) rfl x y
theorem ior32 (x y : BitVec 32) : ior .u32 (un x) (un y) = un (x ||| y) := ior_un (k := .u32) rfl x y
theorem ixor32 (x y : BitVec 32) : ixor .u32 (un x) (un y) = un (x ^^^ y) := ixor_un (k := .u32) rfl x y
theorem iandn32 (x y : BitVec 32) : iandn .u32 (un x) (un y) = un (x &&& ~~~y) := iandn_un (k := .u32) rfl x y
theorem add32 (x y : BitVec 32) : IntKind.wrap .u32 (un x + un y) = un (x + y) := add_un (k := .u32) rfl x y
theorem sub32 (x y : BitVec 32) : IntKind.wrap .u32 (un x - un y) = un (x - y) := sub_un (k := .u32) rfl x y
theorem mul32 (x y : BitVec 32) : IntKind.wrap .u32 (un x * un y) = un (x * y) := mul_un (k := .u32) rfl x y
theorem ishl32 (x : BitVec 32) (s : Int) : ishl .u32 (un x) s = un (x <<< (min s.toNat 32)) := ishl_un (k := .u32) rfl x s
theorem ishr32 (x : BitVec 32) (s : Int) : ishr .u32 (un x) s = un (x >>> (min s.toNat 32)) := ishr_un (k := .u32) x s
theorem wrp32 (z : Int) : IntKind.wrap .u32 z = un (BitVec.ofInt 32 z) := wrap_u (k := .u32) rfl z

theorem iand64 (x y : BitVec 64) : iand .u64 (un x) (un y) = un (x &&& y) := iand_un (k := .u64) rfl x y
theorem ior64 (x y : BitVec 64) : ior .u64 (un x) (un y) = un (x ||| y) := ior_un (k := .u64) rfl x y
theorem ixor64 (x y : BitVec 64) : ixor .u64 (un x) (un y) = un (x ^^^ y) := ixor_un (k := .u64) rfl x y
theorem iandn64 (x y : BitVec 64) : iandn .u64 (un x) (un y) = un (x &&& ~~~y) := iandn_un (k := .u64) rfl x y
theorem add64 (x y : BitVec 64) : IntKind.wrap .u64 (un x + un y) = un (x + y) := add_un (k := .u64) rfl x y
theorem sub64 (x y : BitVec 64) : IntKind.wrap .u64 (un x - un y) = un (x - y) := sub_un (k := .u64) rfl x y
theorem mul64 (x y : BitVec 64) : IntKind.wrap .u64 (un x * un y) = un (x * y) := mul_un (k := .u64) rfl x y
theorem ishl64 (x : BitVec 64) (s : Int) : ishl .u64 (un x) s = un (x <<< (min s.toNat 64)) := ishl_un (k := .u64) rfl x s
theorem ishr64 (x : BitVec 64) (s : Int) : ishr .u64 (un x) s = un (x >>> (min s.toNat 64)) := ishr_un (k := .u64) x s
theorem wrp64 (z : Int) : IntKind.wrap .u64 z = un (BitVec.ofInt 64 z) := wrap_u (k := .u64) rfl z

theorem lt_un {n : Nat} {x y : BitVec n} : un x < un y ↔ x.toNat < y.toNat := by unfold un; omega
theorem le_un {n : Nat} {x y : BitVec n} : un x ≤ un y ↔ x.toNat ≤ y.toNat := by unfold un; omega

/-- What fits a kind is a bit vector. -/
theorem ex_un {n : Nat} {a : Int} (h0 : 0 ≤ a) (h1 : a < 2 ^ n) : ∃ v : BitVec n, a = un v := by
  refine ⟨BitVec.ofInt n a, ?_⟩
  unfold un
  rw [BitVec.toNat_ofInt]
  have h3 : ((2 ^ n : Nat) : Int) = 2 ^ n := by simp
  rw [h3, Int.emod_eq_of_lt h0 h1]
  omega

end Go.Ev
