/- Rows about the longest. -/
import Derived.Test.YtbliikcgcgalmaaDoorMWireD
import Derived.Test.YtbliikcgcgalmaaDoorFnWireLong
namespace Go.Proofs.YtbliikcgcgalmaaDoor.fn
open Go Go.Proofs Go.Ev Go.Dg

theorem nn_rep (n : Nat) : List.replicate n (0 : Int) = nn (List.replicate n 0) := by
  unfold nn; rw [List.map_replicate]; rfl

theorem unR_zeros (n : Nat) (h : 2 ≤ n) : (unR (List.replicate n 0)).1 = if n > 65536 then 3 else 4 := by
  unfold unR
  rw [List.length_replicate]
  by_cases h1 : n > 65536
  · rw [if_pos h1, if_pos h1]
  · rw [if_neg h1, if_neg h1]
    obtain ⟨k, rfl⟩ : ∃ k, n = k + 2 := ⟨n - 2, by omega⟩
    rfl

theorem WireLong_true {R : Type} (N : Nat) (hN : 1000 < N) (more : Int) (r : Bool → Option R) :
    WireLong.M N R more r = r true := by
  show WireLong.m (alive16.M N) (wRow.M N) (wUnrow.M N) (Num.M N) N more r = _
  unfold WireLong.m
  rw [alive16_eq N hN, Bool.not_true, cond_false]
  obtain ⟨q, hq, hq9⟩ : ∃ q : Nat, (IntKind.u64.wrap more).tmod 9 = q ∧ q < 9 := by
    obtain ⟨u, hu⟩ : ∃ u : Nat, IntKind.u64.wrap more = u := ⟨(IntKind.u64.wrap more).toNat, by
      have : 0 ≤ IntKind.u64.wrap more := by
        show 0 ≤ more % _
        exact Int.emod_nonneg _ (by decide)
      omega⟩
    refine ⟨u % 9, ?_, Nat.mod_lt _ (by omega)⟩
    rw [hu]
    exact Int.tmod_eq_emod_of_nonneg (by omega)
  rw [hq]
  have w1 : IntKind.i64.wrap (q : Int) = q := wrap_i64z _ (by omega) (by omega)
  have w2 : IntKind.i64.wrap (65531 + (q : Int)) = ((65531 + q : Nat) : Int) := by rw [wrap_i64z _ (by omega) (by omega)]; omega
  have w3 : IntKind.i64.wrap (((65531 + q : Nat) : Int) - 4) = ((65527 + q : Nat) : Int) := by rw [wrap_i64z _ (by omega) (by omega)]; omega
  have w4 : IntKind.i64.wrap ((65527 + q : Nat) : Int) = ((65527 + q : Nat) : Int) := wrap_i64z _ (by omega) (by omega)
  have w5 : IntKind.i64.wrap (((65527 + q : Nat) : Int) + 5) = ((65532 + q : Nat) : Int) := by rw [wrap_i64z _ (by omega) (by omega)]; omega
  have w6 : IntKind.i64.wrap ((65532 + q : Nat) : Int) = ((65532 + q : Nat) : Int) := wrap_i64z _ (by omega) (by omega)
  have hcut : ∀ l : List Int, cut none 0 l = l := fun _ => rfl
  simp only [w1, w2, w3, w4, w5, w6, Int.toNat_natCast, hcut, nn_rep]
  have d1 : ∀ k : Nat, decide (0 ≤ (k : Int)) = true := fun k => decide_eq_true (Int.natCast_nonneg k)
  have d2 : ∀ k : Int, decide (k ≤ k) = true := fun k => decide_eq_true (Int.le_refl k)
  have d3 : decide (1 * ((65527 + q : Nat) : Int) ≤ 140737488355328) = true := decide_eq_true (by omega)
  have d4 : decide (1 * ((65532 + q : Nat) : Int) ≤ 140737488355328) = true := decide_eq_true (by omega)
  simp only [d1, d2, d3, d4, cond_true]
  have hr : ∀ n, (nn (List.replicate n 0)).length = n := fun n => by rw [nn_len, List.length_replicate]
  have hz : ∀ n, ∀ x ∈ List.replicate n 0, x < 256 := fun n x hx => by rw [(List.mem_replicate.1 hx).2]; omega
  have hrow : ([nn (List.replicate (65527 + q) 0)] : List (List Int)) = [List.replicate (65527 + q) 0].map nn := rfl
  have hlen : (rowN [List.replicate (65527 + q) 0]).length = 65532 + q := by
    have h := body_one (nn (List.replicate (65527 + q) 0)) []
    rw [hr, ← List.map_nil (f := nn), ← List.map_cons, body_nn, nn_len] at h
    show (bodyN [List.replicate (65527 + q) 0]).length + 1 = _
    have : (body []).length = 0 := rfl
    rw [List.map_nil, this] at h
    omega
  have hx := rowN_lt [List.replicate (65527 + q) 0] (show 1 ≤ 255 by decide) (by intro t ht; rw [List.mem_singleton.1 ht]; exact hz _)
  rw [wRow_eq N hN _ (by intro t ht; rw [List.mem_singleton.1 ht, hr]; omega), hrow, rowB_nn]
  have hf : fitsR ([List.replicate (65527 + q) 0].map nn) = decide (65532 + q ≤ 65536) := by
    unfold fitsR
    rw [rowB_nn, nn_len, hlen, decide_eq_true (show ([List.replicate (65527 + q) 0].map nn).length ≤ 255 from (show 1 ≤ 255 by decide)), Bool.true_and]
  rw [hf]
  by_cases h : 65532 + q ≤ 65536
  · rw [decide_eq_true h, cond_true, wUnrow_eq N hN _ _ (hz _), unR_zeros _ (by omega), if_neg (by omega), decide_eq_false (by omega), cond_false, wUnrow_eq N hN _ _ hx, unR_row [List.replicate (65527 + q) 0] (show 1 ≤ 255 by decide) (by rw [hlen]; exact h)]
    have e1 : Nat.beq 0 0 = true := rfl
    have e2 : ((([List.replicate (65527 + q) 0].map nn).length : Nat) : Int) = 1 := rfl
    have e3 : ([List.replicate (65527 + q) 0].map nn).getD 0 [] = nn (List.replicate (65527 + q) 0) := rfl
    have e4 : ((1 : Int) == 1) = true := rfl
    have e5 : decide ((0 : Int) < 1) = true := rfl
    simp only [e1, e2, e3, e4, e5, cond_true, nn_len, hlen, List.length_replicate]
    rw [beq_self_eq_true, cond_true, beq_self_eq_true, cond_true, wNum_4 N (by omega)]
    rfl
  · rw [decide_eq_false h, cond_false, wUnrow_eq N hN _ _ (hz _), unR_zeros _ (by omega), if_pos (by omega), decide_eq_true (by omega), cond_true]
    have e1 : ((([] : List Int).length : Int) == 0) = true := rfl
    rw [e1, cond_true, wNum_3 N (by omega)]
    have e2 : ((3 : Int) == 3) = true := rfl
    rw [e2, cond_true, wNum_3 N (by omega)]
    rfl

end Go.Proofs.YtbliikcgcgalmaaDoor.fn
