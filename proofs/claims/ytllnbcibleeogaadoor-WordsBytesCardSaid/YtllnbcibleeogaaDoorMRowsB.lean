/- Rows of bytes as rows of bit vectors. -/
import Derived.Test.YtllnbcibleeogaaDoorMRowsA
namespace Go.Proofs.YtllnbcibleeogaaDoor.fn
open Go Go.Proofs Go.Ev

theorem ex_bytes : ∀ (l : List Int), (∀ x ∈ l, 0 ≤ x ∧ x < 256) → ∃ L : List (BitVec 8), l = L.map un
  | [], _ => ⟨[], rfl⟩
  | x :: l, h => by
    obtain ⟨v, hv⟩ := ex_un (n := 8) (h x (by simp)).1 (by have := (h x (by simp)).2; omega)
    obtain ⟨L, hL⟩ := ex_bytes l (fun y hy => h y (by simp [hy]))
    exact ⟨v :: L, by rw [hv, hL]; rfl⟩

theorem or_un : ∀ (L : List (BitVec 8)) (p : BitVec 8), (L.map un).foldl (ior .u8) (un p) = un (L.foldl (· ||| ·) p)
  | [], _ => rfl
  | x :: L, p => by rw [List.map_cons, List.foldl_cons, ior8, or_un L]; rfl

theorem xor_un : ∀ (A B : List (BitVec 8)), List.zipWith (ixor .u8) (A.map un) (B.map un) = (List.zipWith (· ^^^ ·) A B).map un
  | [], _ => by simp
  | _ :: _, [] => by simp
  | x :: A, y :: B => by simp only [List.map_cons, List.zipWith_cons_cons, ixor8, xor_un A B]

theorem or_zero : ∀ (L : List (BitVec 8)) (p : BitVec 8), L.foldl (· ||| ·) p = 0#8 ↔ p = 0#8 ∧ ∀ x ∈ L, x = 0#8
  | [], p => by simp
  | x :: L, p => by
    rw [List.foldl_cons, or_zero L, BitVec.or_eq_zero_iff]
    simp [and_assoc]

theorem un_inj {n : Nat} {x y : BitVec n} : un x = un y ↔ x = y := by
  constructor
  · intro h
    apply BitVec.eq_of_toNat_eq
    have : ((x.toNat : Int)) = (y.toNat : Int) := h
    omega
  · rintro rfl; rfl

theorem xor_all : ∀ (A B : List (BitVec 8)), A.length = B.length → ((∀ x ∈ List.zipWith (· ^^^ ·) A B, x = 0#8) ↔ A = B)
  | [], [], _ => by simp
  | [], _ :: _, h => by simp at h
  | _ :: _, [], h => by simp at h
  | x :: A, y :: B, h => by
    have ih := xor_all A B (by simpa using h)
    rw [List.zipWith_cons_cons, List.forall_mem_cons, ih, BitVec.xor_eq_zero_iff]
    simp

theorem xor_twice : ∀ (A B : List (BitVec 8)), A.length = B.length → List.zipWith (· ^^^ ·) (List.zipWith (· ^^^ ·) A B) B = A
  | [], [], _ => rfl
  | [], _ :: _, h => by simp at h
  | _ :: _, [], h => by simp at h
  | x :: A, y :: B, h => by
    rw [List.zipWith_cons_cons, List.zipWith_cons_cons, xor_twice A B (by simpa using h), BitVec.xor_assoc, BitVec.xor_self, BitVec.xor_zero]

theorem toStr_un (L : List (BitVec 8)) : toStr (L.map un) = L.map fun b => UInt8.ofBitVec b := by
  simp only [toStr, List.map_map]
  apply List.map_congr_left
  intro b _
  show UInt8.ofNat ((b.toNat : Int)).toNat = _
  apply UInt8.toNat.inj
  simp

theorem toStr_eq (A B : List (BitVec 8)) : (toStr (A.map un) == toStr (B.map un)) = decide (A = B) := by
  rw [toStr_un, toStr_un]
  apply Bool.eq_iff_iff.2
  rw [beq_iff_eq, decide_eq_true_iff]
  constructor
  · intro h
    exact (List.map_inj_right (fun x y e => by simpa using e)).1 h
  · rintro rfl; rfl
end Go.Proofs.YtllnbcibleeogaaDoor.fn
