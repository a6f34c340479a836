/- The places beside a way cover all others: at every size, at every leaf. Printed by a program. -/
import Derived.Test.YtbliikcgcgalmaaDoorNum
import Derived.Test.YtbliikcgcgalmaaDoorFnPlacesCover
namespace Go.Proofs.YtbliikcgcgalmaaDoor.fn
open Go Go.Proofs Go.Ev Go.Dg

theorem cov_0_0 {R : Type} (M : Nat) (r : Bool → Option R) : PlacesCover.M (M + 100) R 0 0 r = r true := by kernel_rfl
theorem cov_1_0 {R : Type} (M : Nat) (r : Bool → Option R) : PlacesCover.M (M + 100) R 0 1 r = r true := by kernel_rfl
theorem cov_1_1 {R : Type} (M : Nat) (r : Bool → Option R) : PlacesCover.M (M + 100) R 1 1 r = r true := by kernel_rfl
theorem cov_2_0 {R : Type} (M : Nat) (r : Bool → Option R) : PlacesCover.M (M + 100) R 0 2 r = r true := by kernel_rfl
theorem cov_2_1 {R : Type} (M : Nat) (r : Bool → Option R) : PlacesCover.M (M + 100) R 1 2 r = r true := by kernel_rfl
theorem cov_2_2 {R : Type} (M : Nat) (r : Bool → Option R) : PlacesCover.M (M + 100) R 2 2 r = r true := by kernel_rfl
theorem cov_2_3 {R : Type} (M : Nat) (r : Bool → Option R) : PlacesCover.M (M + 100) R 3 2 r = r true := by kernel_rfl
theorem cov_3_0 {R : Type} (M : Nat) (r : Bool → Option R) : PlacesCover.M (M + 100) R 0 3 r = r true := by kernel_rfl
theorem cov_3_1 {R : Type} (M : Nat) (r : Bool → Option R) : PlacesCover.M (M + 100) R 1 3 r = r true := by kernel_rfl
theorem cov_3_2 {R : Type} (M : Nat) (r : Bool → Option R) : PlacesCover.M (M + 100) R 2 3 r = r true := by kernel_rfl
theorem cov_3_3 {R : Type} (M : Nat) (r : Bool → Option R) : PlacesCover.M (M + 100) R 3 3 r = r true := by kernel_rfl
theorem cov_3_4 {R : Type} (M : Nat) (r : Bool → Option R) : PlacesCover.M (M + 100) R 4 3 r = r true := by kernel_rfl
theorem cov_3_5 {R : Type} (M : Nat) (r : Bool → Option R) : PlacesCover.M (M + 100) R 5 3 r = r true := by kernel_rfl
theorem cov_3_6 {R : Type} (M : Nat) (r : Bool → Option R) : PlacesCover.M (M + 100) R 6 3 r = r true := by kernel_rfl
theorem cov_3_7 {R : Type} (M : Nat) (r : Bool → Option R) : PlacesCover.M (M + 100) R 7 3 r = r true := by kernel_rfl
theorem cov_4_0 {R : Type} (M : Nat) (r : Bool → Option R) : PlacesCover.M (M + 100) R 0 4 r = r true := by kernel_rfl
theorem cov_4_1 {R : Type} (M : Nat) (r : Bool → Option R) : PlacesCover.M (M + 100) R 1 4 r = r true := by kernel_rfl
theorem cov_4_2 {R : Type} (M : Nat) (r : Bool → Option R) : PlacesCover.M (M + 100) R 2 4 r = r true := by kernel_rfl
theorem cov_4_3 {R : Type} (M : Nat) (r : Bool → Option R) : PlacesCover.M (M + 100) R 3 4 r = r true := by kernel_rfl
theorem cov_4_4 {R : Type} (M : Nat) (r : Bool → Option R) : PlacesCover.M (M + 100) R 4 4 r = r true := by kernel_rfl
theorem cov_4_5 {R : Type} (M : Nat) (r : Bool → Option R) : PlacesCover.M (M + 100) R 5 4 r = r true := by kernel_rfl
theorem cov_4_6 {R : Type} (M : Nat) (r : Bool → Option R) : PlacesCover.M (M + 100) R 6 4 r = r true := by kernel_rfl
theorem cov_4_7 {R : Type} (M : Nat) (r : Bool → Option R) : PlacesCover.M (M + 100) R 7 4 r = r true := by kernel_rfl
theorem cov_4_8 {R : Type} (M : Nat) (r : Bool → Option R) : PlacesCover.M (M + 100) R 8 4 r = r true := by kernel_rfl
theorem cov_4_9 {R : Type} (M : Nat) (r : Bool → Option R) : PlacesCover.M (M + 100) R 9 4 r = r true := by kernel_rfl
theorem cov_4_10 {R : Type} (M : Nat) (r : Bool → Option R) : PlacesCover.M (M + 100) R 10 4 r = r true := by kernel_rfl
theorem cov_4_11 {R : Type} (M : Nat) (r : Bool → Option R) : PlacesCover.M (M + 100) R 11 4 r = r true := by kernel_rfl
theorem cov_4_12 {R : Type} (M : Nat) (r : Bool → Option R) : PlacesCover.M (M + 100) R 12 4 r = r true := by kernel_rfl
theorem cov_4_13 {R : Type} (M : Nat) (r : Bool → Option R) : PlacesCover.M (M + 100) R 13 4 r = r true := by kernel_rfl
theorem cov_4_14 {R : Type} (M : Nat) (r : Bool → Option R) : PlacesCover.M (M + 100) R 14 4 r = r true := by kernel_rfl
theorem cov_4_15 {R : Type} (M : Nat) (r : Bool → Option R) : PlacesCover.M (M + 100) R 15 4 r = r true := by kernel_rfl

theorem u64_nn (z : Int) : ∃ u : Nat, IntKind.u64.wrap z = u ∧ u < 18446744073709551616 := by
  have h0 : 0 ≤ IntKind.u64.wrap z := by
    show 0 ≤ z % _
    exact Int.emod_nonneg _ (by decide)
  have h1 : IntKind.u64.wrap z < 18446744073709551616 := by
    show z % 18446744073709551616 < _
    exact Int.emod_lt_of_pos _ (by decide)
  exact ⟨(IntKind.u64.wrap z).toNat, by omega, by omega⟩
theorem u64_mod (z : Int) (k : Nat) (h0 : 0 < k) (hk : k < 100) : ∃ q : Nat, q < k ∧ (IntKind.u64.wrap z).tmod k = q ∧ (IntKind.u64.wrap (q : Int)).tmod k = q := by
  obtain ⟨u, hu, _⟩ := u64_nn z
  have hl : u % k < k := Nat.mod_lt _ h0
  refine ⟨u % k, hl, ?_, ?_⟩
  · rw [hu]; exact tmodN u k
  · rw [wrap_u64 _ (by omega)]
    refine (tmodN _ k).trans ?_
    rw [Nat.mod_mod]

theorem PlacesCover_true {R : Type} (N : Nat) (hN : 1000 < N) (leaf size : Int) (r : Bool → Option R) : PlacesCover.M N R leaf size r = r true := by
  obtain ⟨M, rfl⟩ : ∃ M, N = M + 100 := ⟨N - 100, by omega⟩
  obtain ⟨q, hq, e1, e2⟩ := u64_mod size 5 (by omega) (by omega)
  have h1 : PlacesCover.M (M + 100) R leaf size r = PlacesCover.M (M + 100) R leaf (q : Int) r := by
    show PlacesCover.m (alive17.M (M + 100)) (Coway.M (M + 100)) (Leaves.M (M + 100)) (Way.M (M + 100)) (Root.M (M + 100)) (Level.M (M + 100)) (M + 100) leaf size r = PlacesCover.m (alive17.M (M + 100)) (Coway.M (M + 100)) (Leaves.M (M + 100)) (Way.M (M + 100)) (Root.M (M + 100)) (Level.M (M + 100)) (M + 100) leaf (q : Int) r
    unfold PlacesCover.m
    have e1 : (IntKind.u64.wrap size).tmod 5 = (q : Int) := e1
    have e2 : (IntKind.u64.wrap (q : Int)).tmod 5 = (q : Int) := e2
    rw [e1, e2]
  rw [h1]
  have hl : ∀ k : Nat, 0 < k → k < 100 → IntKind.u64.wrap (ishl .i64 1 (IntKind.i64.wrap ((IntKind.u64.wrap (q : Int)).tmod 5))) = k → ∃ a : Nat, a < k ∧ PlacesCover.M (M + 100) R leaf (q : Int) r = PlacesCover.M (M + 100) R (a : Int) (q : Int) r := by
    intro k h0 hk e
    obtain ⟨a, ha, f1, f2⟩ := u64_mod leaf k h0 hk
    refine ⟨a, ha, ?_⟩
    show PlacesCover.m (alive17.M (M + 100)) (Coway.M (M + 100)) (Leaves.M (M + 100)) (Way.M (M + 100)) (Root.M (M + 100)) (Level.M (M + 100)) (M + 100) leaf (q : Int) r = PlacesCover.m (alive17.M (M + 100)) (Coway.M (M + 100)) (Leaves.M (M + 100)) (Way.M (M + 100)) (Root.M (M + 100)) (Level.M (M + 100)) (M + 100) (a : Int) (q : Int) r
    unfold PlacesCover.m
    rw [e, f1, f2]
  have hq' : q = 0 ∨ q = 1 ∨ q = 2 ∨ q = 3 ∨ q = 4 := by omega
  rcases hq' with rfl | rfl | rfl | rfl | rfl
  · obtain ⟨a, ha, e⟩ := hl 1 (by omega) (by omega) (by kernel_rfl)
    rw [e]
    obtain rfl : a = 0 := by omega
    exact cov_0_0 M r
  · obtain ⟨a, ha, e⟩ := hl 2 (by omega) (by omega) (by kernel_rfl)
    rw [e]
    have h : a = 0 ∨ a = 1 := by omega
    rcases h with rfl | rfl
    · exact cov_1_0 M r
    · exact cov_1_1 M r
  · obtain ⟨a, ha, e⟩ := hl 4 (by omega) (by omega) (by kernel_rfl)
    rw [e]
    have h : a = 0 ∨ a = 1 ∨ a = 2 ∨ a = 3 := by omega
    rcases h with rfl | rfl | rfl | rfl
    · exact cov_2_0 M r
    · exact cov_2_1 M r
    · exact cov_2_2 M r
    · exact cov_2_3 M r
  · obtain ⟨a, ha, e⟩ := hl 8 (by omega) (by omega) (by kernel_rfl)
    rw [e]
    have h : a = 0 ∨ a = 1 ∨ a = 2 ∨ a = 3 ∨ a = 4 ∨ a = 5 ∨ a = 6 ∨ a = 7 := by omega
    rcases h with rfl | rfl | rfl | rfl | rfl | rfl | rfl | rfl
    · exact cov_3_0 M r
    · exact cov_3_1 M r
    · exact cov_3_2 M r
    · exact cov_3_3 M r
    · exact cov_3_4 M r
    · exact cov_3_5 M r
    · exact cov_3_6 M r
    · exact cov_3_7 M r
  · obtain ⟨a, ha, e⟩ := hl 16 (by omega) (by omega) (by kernel_rfl)
    rw [e]
    have h : a = 0 ∨ a = 1 ∨ a = 2 ∨ a = 3 ∨ a = 4 ∨ a = 5 ∨ a = 6 ∨ a = 7 ∨ a = 8 ∨ a = 9 ∨ a = 10 ∨ a = 11 ∨ a = 12 ∨ a = 13 ∨ a = 14 ∨ a = 15 := by omega
    rcases h with rfl | rfl | rfl | rfl | rfl | rfl | rfl | rfl | rfl | rfl | rfl | rfl | rfl | rfl | rfl | rfl
    · exact cov_4_0 M r
    · exact cov_4_1 M r
    · exact cov_4_2 M r
    · exact cov_4_3 M r
    · exact cov_4_4 M r
    · exact cov_4_5 M r
    · exact cov_4_6 M r
    · exact cov_4_7 M r
    · exact cov_4_8 M r
    · exact cov_4_9 M r
    · exact cov_4_10 M r
    · exact cov_4_11 M r
    · exact cov_4_12 M r
    · exact cov_4_13 M r
    · exact cov_4_14 M r
    · exact cov_4_15 M r

end Go.Proofs.YtbliikcgcgalmaaDoor.fn
