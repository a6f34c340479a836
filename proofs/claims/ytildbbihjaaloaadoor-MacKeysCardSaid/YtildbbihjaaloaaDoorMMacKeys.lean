/- The law of keys with noughts behind them, and of keys as their own digests. -/
import Derived.Test.YtildbbihjaaloaaDoorFnMacKeys
import Derived.Test.YtildbbihjaaloaaDoorMMacL
namespace Go.Proofs.YtildbbihjaaloaaDoor.fn
open Go Go.Proofs Go.Ev Go.Dg

theorem hmac_dgst (k b : List Int) (h : ¬ k.length ≤ 64) : hmac (dgst k) b = hmac k b := by
  have e : key64 (dgst k) = key64 k := by
    unfold key64
    rw [if_neg h, if_pos (by rw [dgst_length]; omega)]
  unfold hmac kp
  rw [e]

theorem hmac_noughts (k b : List Int) (n : Nat) (h : k.length + n ≤ 64) : hmac (k ++ List.replicate n 0) b = hmac k b := by
  have hl : (k ++ List.replicate n (0 : Int)).length = k.length + n := by rw [List.length_append, List.length_replicate]
  have e : pad64 (key64 (k ++ List.replicate n 0)) = pad64 (key64 k) := by
    unfold key64
    rw [if_pos (by omega), if_pos (by omega)]
    unfold pad64
    rw [hl, List.append_assoc, List.replicate_append_replicate, show n + (64 - (k.length + n)) = 64 - k.length by omega]
  unfold hmac kp
  rw [e]

theorem MacKeys_true {R : Type} (N : Nat) (hN : 2000 < N) (x y : Option Bool) (key b : List Int) (n : Int) (r : Bool → Option R) : MacKeys.M N R x key y b n r = r true := by
  show MacKeys.m (alive04.M N) (sSum.M N) (mSum.M N) N x key y b n r = _
  unfold MacKeys.m
  rw [alive04_eq N hN, Bool.not_true, cond_false]
  by_cases h1 : (key.length : Int) > 300
  · rw [decide_eq_true h1, cond_true]
  rw [decide_eq_false h1, cond_false]
  by_cases h2 : (b.length : Int) > 300
  · rw [decide_eq_true h2, cond_true]
  rw [decide_eq_false h2, cond_false]
  have hp : ∀ p ∈ [b], p.length ≤ 60000 := fun p hp => by rw [List.mem_singleton.1 hp]; omega
  by_cases h3 : (key.length : Int) > 64
  · rw [decide_eq_true h3, cond_true, sSum_eq N hN [key] (by intro p hp; rw [List.mem_singleton.1 hp]; omega) (by simp), List.flatten_singleton, cut32, mSum_eq N hN x key (by omega) [b] hp (by simp), mSum_eq N hN none (dgst key) (by rw [dgst_length]; omega) [b] hp (by simp),
      hmac_dgst key _ (by omega), beq_self_eq_true]
  · rw [decide_eq_false h3, cond_false]
    have e1 : IntKind.u64.wrap (IntKind.i64.wrap (65 - (key.length : Int))) = ((65 - key.length : Nat) : Int) := by
      rw [show (65 - (key.length : Int)) = ((65 - key.length : Nat) : Int) by omega, wrap_i64z _ (by omega) (by omega), wrap_u64 _ (by omega)]
    obtain ⟨v, hv⟩ : ∃ v : Nat, IntKind.u64.wrap n = (v : Int) := by
      rw [wrap_u rfl]; exact ⟨_, rfl⟩
    have hlt : v % (65 - key.length) < 65 - key.length := Nat.mod_lt _ (by omega)
    have e2 : IntKind.i64.wrap (IntKind.i64.wrap ((IntKind.u64.wrap n).tmod ((65 - key.length : Nat) : Int))) = ((v % (65 - key.length) : Nat) : Int) := by
      rw [hv, Int.tmod_eq_emod_of_nonneg (by omega), ← Int.natCast_emod, wrap_i64z ((v % (65 - key.length) : Nat) : Int) (by omega) (by omega), wrap_i64z ((v % (65 - key.length) : Nat) : Int) (by omega) (by omega)]
    rw [e1, e2]
    generalize v % (65 - key.length) = k at hlt
    rw [decide_eq_false (by omega), cond_false, decide_eq_true (by omega), cond_true, decide_eq_true (by omega), cond_true, decide_eq_true (by omega), cond_true, Int.toNat_natCast, List.length_replicate, decide_eq_true (by omega), cond_true, decide_eq_true (by omega), cond_true]
    have hc : cut none 0 (key ++ List.replicate k (0 : Int)) = key ++ List.replicate k 0 := rfl
    rw [hc, mSum_eq N hN none _ (by rw [List.length_append, List.length_replicate]; omega) [b] hp (by simp), mSum_eq N hN x key (by omega) [b] hp (by simp), hmac_noughts key _ k (by omega), beq_self_eq_true]

end Go.Proofs.YtildbbihjaaloaaDoor.fn
