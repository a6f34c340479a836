/- When two rows of bytes are the same as texts. -/
import Derived.Test.YthajoenmfppenaaDoorFnWords
import Derived.Test.YthajoenmfppenaaDoorNum
namespace Go.Proofs.YthajoenmfppenaaDoor.fn
open Go Go.Proofs Go.Ev Go.Dg

theorem ex_bytes : ∀ (l : List Int), (∀ x ∈ l, 0 ≤ x ∧ x < 256) → ∃ L : List (BitVec 8), l = L.map un
  | [], _ => ⟨[], rfl⟩
  | x :: l, h => by
    obtain ⟨v, hv⟩ := ex_un (n := 8) (h x (by simp)).1 (by have := (h x (by simp)).2; omega)
    obtain ⟨L, hL⟩ := ex_bytes l (fun y hy => h y (by simp [hy]))
    exact ⟨v :: L, by rw [hv, hL]; rfl⟩


theorem un_inj {n : Nat} {x y : BitVec n} : un x = un y ↔ x = y := by
  constructor
  · intro h
    apply BitVec.eq_of_toNat_eq
    have : ((x.toNat : Int)) = (y.toNat : Int) := h
    omega
  · rintro rfl; rfl


theorem toStr_un (L : List (BitVec 8)) : toStr (L.map un) = L.map fun b => UInt8.ofBitVec b := by
  simp only [toStr, List.map_map]
  apply List.map_congr_left
  intro b _
  show UInt8.ofNat ((b.toNat : Int)).toNat = _
  apply UInt8.toNat.inj
  simp


theorem toStr_eq (A B : List (BitVec 8)) : (toStr (A.map un) == toStr (B.map un)) = decide (A = B) := by
  rw [toStr_un, toStr_un]
  apply Bool.eq_iff_iff.2
  rw [beq_iff_eq, decide_eq_true_iff]
  constructor
  · intro h
    exact (List.map_inj_right (fun x y e => by simpa using e)).1 h
  · rintro rfl; rfl


theorem un_row {A B : List (BitVec 8)} : A.map un = B.map un ↔ A = B :=
  ⟨fun h => (List.map_inj_right (fun x y e => un_inj.1 e)).1 h, fun h => by rw [h]⟩


theorem same_by {a b : List Int} (ha : ∀ z ∈ a, 0 ≤ z ∧ z < 256) (hb : ∀ z ∈ b, 0 ≤ z ∧ z < 256) : (toStr a == toStr b) = decide (a = b) := by
  obtain ⟨A, rfl⟩ := ex_bytes a ha
  obtain ⟨B, rfl⟩ := ex_bytes b hb
  rw [toStr_eq]
  exact decide_eq_decide.2 un_row.symm


end Go.Proofs.YthajoenmfppenaaDoor.fn
