/- The law of all bytes' codes by all keys. -/
import Derived.Test.YtildbbihjaaloaaDoorFnMacSums
import Derived.Test.YtildbbihjaaloaaDoorMMacL
namespace Go.Proofs.YtildbbihjaaloaaDoor.fn
open Go Go.Proofs Go.Ev Go.Dg

theorem mac_loop {R : Type} (N : Nat) (x : Option Bool) (key : List Int) (parts : List (List Int)) (hl : parts.length ≤ 10)
    (ke0 ke1 : (Option Bool) → (List Int) → (List (List Int)) → (List (List Int)) → Int → Int → Bool → (List Int) → Option R) (X : Option R)
    (h0 : ∀ a1 a2 a3 a4 a5 a6 a7 a8, ke0 a1 a2 a3 a4 a5 a6 a7 a8 = X)
    (h1 : ∀ nl, (∀ p ∈ parts, p.length ≤ 200) → ke1 x key parts parts (parts.length : Int) (parts.length : Int) nl parts.flatten = X) :
    ∀ (d i m : Nat) (nl : Bool), i + d = parts.length → d < m → (parts.take i).flatten.length ≤ i * 200 → (∀ p ∈ parts.take i, p.length ≤ 200) →
      MacSums.L7 (alive04.M N) (Bytes.M N) (mSum.M N) (m4Sum.M N) (Kept.M N) N ke0 ke1 m x key parts parts (parts.length : Int) (i : Int) nl (parts.take i).flatten = X := by
  intro d
  induction d with
  | zero =>
    intro i m nl hi hm hle hs
    obtain ⟨m, rfl⟩ : ∃ k, m = k + 1 := ⟨m - 1, by omega⟩
    obtain rfl : i = parts.length := by omega
    unfold MacSums.L7
    rw [decide_eq_false (by omega), cond_false]
    rw [List.take_length] at hs ⊢
    exact h1 _ hs
  | succ d ih =>
    intro i m nl hi hm hle hs
    obtain ⟨m, rfl⟩ : ∃ k, m = k + 1 := ⟨m - 1, by omega⟩
    have hil : i < parts.length := by omega
    have hmul : i * 200 ≤ 10 * 200 := Nat.mul_le_mul_right _ (by omega)
    have hg : parts.getD ((i : Int)).toNat [] = parts[i] := by rw [Int.toNat_natCast, List.getD_eq_getElem?_getD, List.getElem?_eq_getElem hil]; rfl
    have e4 : IntKind.i64.wrap ((i : Int) + 1) = ((i + 1 : Nat) : Int) := by rw [wrap_i64z _ (by omega) (by omega)]; omega
    unfold MacSums.L7
    rw [natlt i _ (by omega), cond_true, nat0, cond_true, cond_true, hg, e4]
    by_cases hp : ((parts[i].length : Nat) : Int) > 200
    · rw [decide_eq_true hp, cond_true]
      exact h0 _ _ _ _ _ _ _ _
    · rw [decide_eq_false hp, cond_false]
      have htake : (parts.take i).flatten ++ parts[i] = (parts.take (i + 1)).flatten := by
        rw [List.take_succ_eq_append_getElem hil, List.flatten_append, List.flatten_singleton]
      have hlen : (parts.take (i + 1)).flatten.length ≤ (i + 1) * 200 := by
        rw [← htake, List.length_append, Nat.add_mul]; omega
      rw [decide_eq_true (by omega), cond_true, decide_eq_true (by omega), cond_true, htake]
      exact ih (i + 1) m _ (by omega) (by omega) hlen (fun p hp' => by
        rw [List.take_succ_eq_append_getElem hil] at hp'
        rcases List.mem_append.1 hp' with q | q
        · exact hs p q
        · rw [List.mem_singleton.1 q]; omega)

theorem MacSums_true {R : Type} (N : Nat) (hN : 2000 < N) (x : Option Bool) (key : List Int) (hk : isBy key) (parts : List (List Int)) (hy : ∀ p ∈ parts, isBy p) (r : Bool → Option R) : MacSums.M N R x key parts r = r true := by
  show MacSums.m (alive04.M N) (Bytes.M N) (mSum.M N) (m4Sum.M N) (Kept.M N) N x key parts r = _
  unfold MacSums.m
  rw [alive04_eq N hN, Bool.not_true, cond_false]
  by_cases h1 : (key.length : Int) > 300
  · rw [decide_eq_true h1, cond_true]
  rw [decide_eq_false h1, cond_false]
  by_cases h2 : (parts.length : Int) > 10
  · rw [decide_eq_true h2, cond_true]
  rw [decide_eq_false h2, cond_false]
  refine mac_loop N x key parts (by omega) _ _ (r true) (fun _ _ _ _ _ _ _ _ => rfl) ?_ parts.length 0 N false (by omega) (by omega) (by simp) (by simp)
  intro nl hs
  have hf := flat_len parts 200 hs
  have hmul : parts.length * 200 ≤ 10 * 200 := Nat.mul_le_mul_right _ (by omega)
  have hall : isBy parts.flatten := fun z hz => by
    obtain ⟨p, hp1, hp2⟩ := List.mem_flatten.1 hz
    exact hy p hp1 z hp2
  show Bytes.M N R x key _ = _
  rw [Bytes_eq N x key (by omega), cut_bytes, mSum_eq N hN none key (by omega) parts (fun p hp => by have := hs p hp; omega) (by omega), m4Sum_eq N hN x none key _ hk hall (by omega) (by omega), beq_self_eq_true, cond_true, Kept_eq N x _ key (by omega)]
  have hbq : Nat.beq (key ++ marks).length (key ++ marks).length = true := Nat.beq_refl _
  simp only [hbq, Bool.and_true, beq_self_eq_true, cond_true]

end Go.Proofs.YtildbbihjaaloaaDoor.fn
