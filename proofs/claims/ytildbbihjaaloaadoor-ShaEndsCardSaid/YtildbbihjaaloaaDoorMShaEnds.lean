/- The law of a digest of bytes of one kind. -/
import Derived.Test.YtildbbihjaaloaaDoorFnShaEnds
import Derived.Test.YtildbbihjaaloaaDoorMShaL
namespace Go.Proofs.YtildbbihjaaloaaDoor.fn
open Go Go.Proofs Go.Ev Go.Dg

theorem ends_fill {R : Type} (N : Nat) (c : Int) (ke : Int → Int → Int → List Int → Option R) (k : Nat) (hk : k < 1000) :
    ∀ (d i m : Nat), i + d = k → d < m → ShaEnds.L5 (alive02.M N) (sSum.M N) (rSum.M N) N ke m c (k : Int) (i : Int) (List.replicate i c ++ List.replicate d 0) = ke c (k : Int) (k : Int) (List.replicate k c) := by
  intro d
  induction d with
  | zero =>
    intro i m hi hm
    obtain ⟨m, rfl⟩ : ∃ k, m = k + 1 := ⟨m - 1, by omega⟩
    obtain rfl : i = k := by omega
    unfold ShaEnds.L5
    rw [decide_eq_false (by omega), cond_false, List.replicate_zero, List.append_nil]
  | succ d ih =>
    intro i m hi hm
    obtain ⟨m, rfl⟩ : ∃ k, m = k + 1 := ⟨m - 1, by omega⟩
    unfold ShaEnds.L5
    have hol : olen none (List.replicate i c ++ List.replicate (d + 1) (0 : Int)).length 0 = k := by
      show (List.replicate i c ++ List.replicate (d + 1) (0 : Int)).length = k
      simp; omega
    have e4 : IntKind.i64.wrap ((i : Int) + 1) = ((i + 1 : Nat) : Int) := by rw [wrap_i64z _ (by omega) (by omega)]; omega
    have hs : (List.replicate i c ++ List.replicate (d + 1) (0 : Int)).set (0 + ((i : Int)).toNat) c = List.replicate (i + 1) c ++ List.replicate d 0 := by
      rw [Nat.zero_add, Int.toNat_natCast, set_end _ _ _ _ (by simp), List.replicate_succ']
    rw [hol, e4, hs, natlt i _ (by omega), cond_true, nat0, cond_true, cond_true]
    exact ih (i + 1) m (by omega) (by omega)

theorem ShaEnds_true {R : Type} (N : Nat) (hN : 2000 < N) (n c : Int) (hc : 0 ≤ c ∧ c < 256) (r : Bool → Option R) : ShaEnds.M N R n c r = r true := by
  show ShaEnds.m (alive02.M N) (sSum.M N) (rSum.M N) N n c r = _
  unfold ShaEnds.m
  rw [alive02_eq N hN, Bool.not_true, cond_false]
  obtain ⟨v, hv⟩ : ∃ v : Nat, IntKind.u64.wrap n = (v : Int) := by
    rw [wrap_u rfl]; exact ⟨_, rfl⟩
  have e : IntKind.i64.wrap (IntKind.i64.wrap ((IntKind.u64.wrap n).tmod 200)) = ((v % 200 : Nat) : Int) := by
    rw [hv, Int.tmod_eq_emod_of_nonneg (by omega), wrap_i64z ((v : Int) % 200) (by omega) (by omega), wrap_i64z ((v : Int) % 200) (by omega) (by omega)]; omega
  rw [e]
  have hk : v % 200 < 200 := Nat.mod_lt _ (by decide)
  generalize v % 200 = k at hk
  rw [decide_eq_true (by omega), cond_true, decide_eq_true (by omega), cond_true, decide_eq_true (by omega), cond_true, Int.toNat_natCast]
  have hol : olen none (List.replicate k (0 : Int)).length 0 = k := by
    show (List.replicate k (0 : Int)).length = k
    simp
  rw [hol]
  refine Eq.trans (ends_fill (R := R) N c _ k (by omega) k 0 N (by omega) (by omega)) ?_
  have hl : (List.replicate k c).length = k := List.length_replicate
  have hy : isBy (List.replicate k c) := fun z hz => by rw [List.eq_of_mem_replicate hz]; exact hc
  show sSum.M N R [List.replicate k c] _ = _
  rw [sSum_eq N hN [List.replicate k c] (by intro p hp; rw [List.mem_singleton.1 hp, hl]; omega) (by simp), rSum_eq N hN none _ hy (by omega), List.flatten_singleton, beq_self_eq_true, cond_true]
  rw [sSum_eq N hN [List.replicate k c, List.replicate k c] (by
    intro p hp
    simp only [List.mem_cons, List.not_mem_nil, or_false, or_self] at hp
    rw [hp, hl]; omega) (by simp)]
  rw [decide_eq_true (by omega), cond_true, decide_eq_true (by omega), cond_true, decide_eq_true (by omega), cond_true, decide_eq_true (by omega), cond_true]
  have hcut : cut none 0 (List.replicate k c ++ List.replicate k c) = List.replicate k c ++ List.replicate k c := rfl
  have hfl : [List.replicate k c, List.replicate k c].flatten = List.replicate k c ++ List.replicate k c := by simp only [List.flatten_cons, List.flatten_nil, List.append_nil]
  rw [hcut, rSum_eq N hN none _ (hy.append hy) (by rw [List.length_append]; omega), hfl, beq_self_eq_true]

end Go.Proofs.YtildbbihjaaloaaDoor.fn
