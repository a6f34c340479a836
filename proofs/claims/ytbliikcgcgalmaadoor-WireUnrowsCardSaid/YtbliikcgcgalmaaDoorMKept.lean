/- What the rows of bytes that a law is handed come to. -/
import Derived.Test.YtbliikcgcgalmaaDoorFnRows
import Derived.Test.YtbliikcgcgalmaaDoorNum
namespace Go.Proofs.YtbliikcgcgalmaaDoor.fn
open Go Go.Proofs Go.Ev

theorem wrap64 (z : Int) (h0 : 0 ≤ z) (h1 : z < 1000000) : IntKind.wrap .i64 z = z := Go.Dg.wrap_i64z z (by omega) (by omega)

abbrev marks : List Int := [201, 202, 203, 204, 205, 206]

theorem Bytes_eq {R : Type} (N : Nat) (z : Option Bool) (l : List Int) (h : l.length ≤ 5000) (r : Nat → List Int → Option R) : Bytes.M N R z l r = r l.length (l ++ marks) := by
  show Bytes.m N z l r = _
  unfold Bytes.m
  have e : IntKind.wrap .i64 (IntKind.wrap .i64 ((l.length : Int) + 6)) = (l.length : Int) + 6 := by rw [wrap64 ((l.length : Int) + 6) (by omega) (by omega), wrap64 _ (by omega) (by omega)]
  simp only [e]
  rw [decide_eq_true (by omega), cond_true, decide_eq_true (by omega), cond_true, decide_eq_true (by omega), cond_true, decide_eq_true (by omega), cond_true, decide_eq_true (by omega), cond_true,
    decide_eq_true (by omega), cond_true, decide_eq_true (by simp; omega), cond_true]
  rfl

theorem cut_bytes (l m : List Int) : cut (some l.length) 0 (l ++ m) = l := by simp [cut]

theorem Kept_eq {R : Type} (N : Nat) (z : Option Bool) (n : Option Nat) (l : List Int) (hb : l.length ≤ 5000) (r : Bool → Bool → List Int → Option R) :
    Kept.M N R 0 n false (l ++ marks) z l r = r true false (l ++ marks) := by
  show Kept.m N 0 n false (l ++ marks) z l r = _
  unfold Kept.m
  have w : ∀ k : Int, 0 ≤ k → k ≤ 6 → IntKind.wrap .i64 ((l.length : Int) + k) = (l.length : Int) + k := fun k h0 h1 => wrap64 _ (by omega) (by omega)
  have hlen : ((l ++ marks).length - 0) = l.length + 6 := by simp [marks]
  have hlen' : (l ++ marks).length = l.length + 6 := by simp [marks]
  have hcut : cut (some (l.length : Int).toNat) 0 (l ++ marks) = l := by simp [cut]
  have g : ∀ k : Nat, k < 6 → (l ++ marks).getD (0 + ((l.length : Int) + (k : Int)).toNat) 0 = marks.getD k 0 := by
    intro k hk
    have : 0 + ((l.length : Int) + (k : Int)).toNat = l.length + k := by omega
    rw [this, List.getD, List.getElem?_append_right (by omega), List.getD]
    congr 2; omega
  have g0 : (l ++ marks).getD (0 + ((l.length : Int) + 0).toNat) 0 = 201 := g 0 (by omega)
  have g1 : (l ++ marks).getD (0 + ((l.length : Int) + 1).toNat) 0 = 202 := g 1 (by omega)
  have g2 : (l ++ marks).getD (0 + ((l.length : Int) + 2).toNat) 0 = 203 := g 2 (by omega)
  have g3 : (l ++ marks).getD (0 + ((l.length : Int) + 3).toNat) 0 = 204 := g 3 (by omega)
  have g4 : (l ++ marks).getD (0 + ((l.length : Int) + 4).toNat) 0 = 205 := g 4 (by omega)
  have g5 : (l ++ marks).getD (0 + ((l.length : Int) + 5).toNat) 0 = 206 := g 5 (by omega)
  have d0 : decide ((l.length : Int) + 0 < ((l.length + 6 : Nat) : Int)) = true := decide_eq_true (by omega)
  have f0 : decide (0 ≤ (l.length : Int) + 0) = true := decide_eq_true (by omega)
  have d1 : decide ((l.length : Int) + 1 < ((l.length + 6 : Nat) : Int)) = true := decide_eq_true (by omega)
  have f1 : decide (0 ≤ (l.length : Int) + 1) = true := decide_eq_true (by omega)
  have d2 : decide ((l.length : Int) + 2 < ((l.length + 6 : Nat) : Int)) = true := decide_eq_true (by omega)
  have f2 : decide (0 ≤ (l.length : Int) + 2) = true := decide_eq_true (by omega)
  have d3 : decide ((l.length : Int) + 3 < ((l.length + 6 : Nat) : Int)) = true := decide_eq_true (by omega)
  have f3 : decide (0 ≤ (l.length : Int) + 3) = true := decide_eq_true (by omega)
  have d4 : decide ((l.length : Int) + 4 < ((l.length + 6 : Nat) : Int)) = true := decide_eq_true (by omega)
  have f4 : decide (0 ≤ (l.length : Int) + 4) = true := decide_eq_true (by omega)
  have d5 : decide ((l.length : Int) + 5 < ((l.length + 6 : Nat) : Int)) = true := decide_eq_true (by omega)
  have f5 : decide (0 ≤ (l.length : Int) + 5) = true := decide_eq_true (by omega)
  have n1 : (0 : Nat).beq 0 = true := rfl
  have n2 : Nat.ble 0 (l.length + 6) = true := rfl
  have n3 : decide ((l.length : Int) + 6 ≤ ((l.length + 6 : Nat) : Int)) = true := decide_eq_true (by omega)
  have n4 : decide ((l.length : Int) ≤ ((l.length + 6 : Nat) : Int)) = true := decide_eq_true (by omega)
  simp only [w 0 (by omega) (by omega), w 1 (by omega) (by omega), w 2 (by omega) (by omega), w 3 (by omega) (by omega), w 4 (by omega) (by omega), w 5 (by omega) (by omega), w 6 (by omega) (by omega), hlen', Nat.sub_zero, hcut, n1, n2, n3, n4, g0, g1, g2, g3, g4, g5, d0, d1, d2, d3, d4, d5, f0, f1, f2, f3, f4, f5, cond_true, cond_false, Bool.and_true, beq_self_eq_true, Bool.not_true, bne_self_eq_false]

end Go.Proofs.YtbliikcgcgalmaaDoor.fn
