/- What the reference's ladder comes to, and what the first two laws say. -/
import Derived.Test.YtganankiiipkgaaDoorMLadderA
namespace Go.Proofs.YtganankiiipkgaaDoor.fn
open Go Go.Proofs Go.Ev Go.Dg

theorem row_a24 : ([121665, 0, 0, 0, 0, 0, 0, 0] : List Int) = U 121665 := by decide +kernel

theorem rnext_eq {R : Type} (N : Nat) (hN : 100 < N) (s : St) (a b c d u : Nat) (h : RR s a b c d) (hu : u < M256) :
    ∃ a' b' c' d', RR (nx (φ u) s) a' b' c' d' ∧ ∀ k : List Int → List Int → List Int → List Int → Option R,
      (rAdd.M N R (U a) (U b) fun v89 => rTimes.M N R v89 v89 fun v90 => rSub.M N R (U a) (U b) fun v91 => rTimes.M N R v91 v91 fun v92 => rSub.M N R v90 v92 fun v93 => rAdd.M N R (U c) (U d) fun v94 => rSub.M N R (U c) (U d) fun v95 =>
        rTimes.M N R v95 v89 fun v96 => rTimes.M N R v94 v91 fun v97 => rAdd.M N R v96 v97 fun v98 => rSub.M N R v96 v97 fun v99 => rTimes.M N R v98 v98 fun v100 => rTimes.M N R v99 v99 fun v101 => rTimes.M N R (U u) v101 fun v102 =>
        rTimes.M N R v90 v92 fun v103 => rTimes.M N R [121665, 0, 0, 0, 0, 0, 0, 0] v93 fun v104 => rAdd.M N R v90 v104 fun v105 => rTimes.M N R v93 v105 fun v106 => k v103 v106 v100 v102) = k (U a') (U b') (U c') (U d') := by
  obtain ⟨ha, hb, hc, hd, e⟩ := h
  have L := PP_lt_M
  have hs : 121665 < M256 := by decide +kernel
  refine ⟨((((a) + (b)) % PP) * (((a) + (b)) % PP) % PP) * ((((a) + (PP - (b) % PP)) % PP) * (((a) + (PP - (b) % PP)) % PP) % PP) % PP, ((((((a) + (b)) % PP) * (((a) + (b)) % PP) % PP) + (PP - ((((a) + (PP - (b) % PP)) % PP) * (((a) + (PP - (b) % PP)) % PP) % PP) % PP)) % PP) * ((((((a) + (b)) % PP) * (((a) + (b)) % PP) % PP) + ((121665) * ((((((a) + (b)) % PP) * (((a) + (b)) % PP) % PP) + (PP - ((((a) + (PP - (b) % PP)) % PP) * (((a) + (PP - (b) % PP)) % PP) % PP) % PP)) % PP) % PP)) % PP) % PP, ((((((c) + (PP - (d) % PP)) % PP) * (((a) + (b)) % PP) % PP) + ((((c) + (d)) % PP) * (((a) + (PP - (b) % PP)) % PP) % PP)) % PP) * ((((((c) + (PP - (d) % PP)) % PP) * (((a) + (b)) % PP) % PP) + ((((c) + (d)) % PP) * (((a) + (PP - (b) % PP)) % PP) % PP)) % PP) % PP, (u) * (((((((c) + (PP - (d) % PP)) % PP) * (((a) + (b)) % PP) % PP) + (PP - ((((c) + (d)) % PP) * (((a) + (PP - (b) % PP)) % PP) % PP) % PP)) % PP) * ((((((c) + (PP - (d) % PP)) % PP) * (((a) + (b)) % PP) % PP) + (PP - ((((c) + (d)) % PP) * (((a) + (PP - (b) % PP)) % PP) % PP) % PP)) % PP) % PP) % PP, ⟨L _, L _, L _, L _, ?_⟩, ?_⟩
  rotate_left
  · intro k
    rw [row_a24, rAdd_eq N hN _ _ ha hb, rTimes_eq N hN _ _ (L _) (L _), rSub_eq N hN _ _ ha hb, rTimes_eq N hN _ _ (L _) (L _), rSub_eq N hN _ _ (L _) (L _), rAdd_eq N hN _ _ hc hd, rSub_eq N hN _ _ hc hd, rTimes_eq N hN _ _ (L _) (L _), rTimes_eq N hN _ _ (L _) (L _),
      rAdd_eq N hN _ _ (L _) (L _), rSub_eq N hN _ _ (L _) (L _), rTimes_eq N hN _ _ (L _) (L _), rTimes_eq N hN _ _ (L _) (L _), rTimes_eq N hN _ _ hu (L _), rTimes_eq N hN _ _ (L _) (L _), rTimes_eq N hN _ _ hs (L _), rAdd_eq N hN _ _ (L _) (L _), rTimes_eq N hN _ _ (L _) (L _)]
  · rw [e]
    simp only [nx, φ_mod, φ_mul, φ_add, φ_neg, addneg, mulF_comm (φ u), mulF_comm (φ 121665)]

theorem bit_ref (k : List Nat) (hk : ∀ x ∈ k, x < 256) (n : Nat) (hn : n < 1000) :
    iand .u8 (ishr .u8 ((nn k).getD (IntKind.i64.wrap ((n : Int).tdiv 8)).toNat 0) (IntKind.u64.wrap ((n : Int).tmod 8))) 1 = ((bit k n : Nat) : Int) := by
  have e1 : (n : Int).tdiv 8 = ((n / 8 : Nat) : Int) := tdivN n 8
  have e2 : (n : Int).tmod 8 = ((n % 8 : Nat) : Int) := tmodN n 8
  rw [e1, e2, wrap_u64 _ (by omega), wrap_i64z _ (by omega) (by omega), Int.toNat_natCast, byte_bit k hk _ _ (by omega)]
  rfl

theorem RR.sw {b : Bool} {s : St} {a b' c d : Nat} (h : RR s a b' c d) : RR (sw b s) (if b then c else a) (if b then d else b') (if b then a else c) (if b then b' else d) := by
  obtain ⟨ha, hb, hc, hd, e⟩ := h
  cases b
  · exact ⟨ha, hb, hc, hd, e⟩
  · exact ⟨hc, hd, ha, hb, by rw [e]; rfl⟩

theorem outv_ref (x z : Nat) (a b : F) : x * (z ^ (PP - 2) % PP) % PP = outv (φ x, φ z, a, b) := by
  show _ = x % PP * (z % PP) ^ (PP - 2) % PP
  rw [Nat.mul_mod (x % PP) ((z % PP) ^ (PP - 2)), ← Nat.pow_mod, Nat.mod_mod, Nat.mul_mod x, Nat.mod_mod]

theorem rmult_loop {R : Type} (N : Nat) (hN : 1000 < N) (k : List Nat) (hk : ∀ x ∈ k, x < 256) (u : Nat) (hu : u < M256) (r : List Int → Option R) :
    ∀ (n m : Nat) (s : St) (f : Nat) (a b c d : Nat), RR (sw (decide (f = 1)) s) a b c d → f < 2 → n < m → n ≤ 255 →
      rMult.L7 (rClamp.M N) (rMasked.M N) (rAdd.M N) (rTimes.M N) (rSub.M N) (rInvert.M N) (rBytes.M N) N
        (fun swap11_c107 _t12_c108 _h0_c109 _h2_c110 h3_c111 h4_c112 h5_c113 h6_c114 => cond (swap11_c107 == 1)
          (rInvert.M N R h6_c114 (fun v_c115 => rTimes.M N R h5_c113 v_c115 (fun v_c116 => rBytes.M N R v_c116 (fun v_c117 => r v_c117))))
          (rInvert.M N R h4_c112 (fun v_c118 => rTimes.M N R h3_c111 v_c118 (fun v_c119 => rBytes.M N R v_c119 (fun v_c120 => r v_c120))))) m (f : Int) ((n : Int) - 1) (nn k) (U u) (U a) (U b) (U c) (U d) =
        r (nn (dig 256 32 (outv (lad k (φ u) n s)))) := by
  have hN' : 100 < N := by omega
  intro n
  induction n with
  | zero =>
    intro m s f a b c d h hf hm _
    obtain ⟨m, rfl⟩ : ∃ k, m = k + 1 := ⟨m - 1, by omega⟩
    unfold rMult.L7
    rw [decide_eq_false (by omega), cond_false]
    have h' := RR.sw (b := decide (f = 1)) h
    rw [sw_sw] at h'
    have e := h'.eq
    show cond ((f : Int) == 1) _ _ = r (nn (dig 256 32 (outv s)))
    by_cases h1 : f = 1
    · subst h1
      rw [show (((1 : Nat) : Int) == 1) = true from rfl, cond_true, rInvert_eq N hN d h.ld, rTimes_eq N hN' _ _ h.lc (PP_lt_M _), rBytes_eq N hN', e]
      exact congrArg (fun v => r (nn (dig 256 32 v))) (outv_ref c d _ _)
    · have h0 : f = 0 := by omega
      subst h0
      rw [show (((0 : Nat) : Int) == 1) = false from rfl, cond_false, rInvert_eq N hN b h.lb, rTimes_eq N hN' _ _ h.la (PP_lt_M _), rBytes_eq N hN', e]
      exact congrArg (fun v => r (nn (dig 256 32 v))) (outv_ref a b _ _)
  | succ n ih =>
    intro m s f a b c d h hf hm hn
    obtain ⟨m, rfl⟩ : ∃ k, m = k + 1 := ⟨m - 1, by omega⟩
    unfold rMult.L7
    have e0 : ((n + 1 : Nat) : Int) - 1 = (n : Int) := by omega
    have e1 : (n : Int).tdiv 8 = ((n / 8 : Nat) : Int) := tdivN n 8
    have w1 : IntKind.i64.wrap ((n / 8 : Nat) : Int) = ((n / 8 : Nat) : Int) := wrap_i64z _ (by omega) (by omega)
    have c0 : decide ((n : Int) ≥ 0) = true := decide_eq_true (by omega)
    have c1 : decide (0 ≤ IntKind.i64.wrap ((n : Int).tdiv 8)) = true := by rw [e1, w1]; exact decide_eq_true (by omega)
    have c2 : decide (IntKind.i64.wrap ((n : Int).tdiv 8) < 32) = true := by rw [e1, w1]; exact decide_eq_true (by omega)
    have hb := bit_lt k n
    rw [e0, c0, cond_true, c1, cond_true, c2, cond_true, bit_ref k hk n (by omega), wrap_i64z _ (by omega) (by omega)]
    have w : ∀ a' b' c' d', RR (nx (φ u) (sw (decide (bit k n = 1)) s)) a' b' c' d' → RR (sw (decide (bit k n = 1)) (stp (decide (bit k n = 1)) (φ u) s)) a' b' c' d' := fun _ _ _ _ p => by
      unfold stp; rw [sw_sw]; exact p
    by_cases hfb : f = bit k n
    · rw [show ((f : Int) != ((bit k n : Nat) : Int)) = false by rw [hfb]; simp, cond_false]
      rw [hfb] at h
      obtain ⟨a', b', c', d', p, e⟩ := rnext_eq (R := R) N hN' _ a b c d u h hu
      rw [e]
      exact ih m _ _ a' b' c' d' (w _ _ _ _ p) hb (by omega) (by omega)
    · rw [show ((f : Int) != ((bit k n : Nat) : Int)) = true by simp; omega, cond_true]
      have h' := RR.sw (b := true) h
      have hs : sw true (sw (decide (f = 1)) s) = sw (decide (bit k n = 1)) s := by
        have : f = 0 ∧ bit k n = 1 ∨ f = 1 ∧ bit k n = 0 := by omega
        rcases this with ⟨q1, q2⟩ | ⟨q1, q2⟩ <;> rw [q1, q2] <;> rfl
      rw [hs] at h'
      obtain ⟨a', b', c', d', p, e⟩ := rnext_eq (R := R) N hN' _ c d a b u h' hu
      rw [e]
      exact ih m _ _ a' b' c' d' (w _ _ _ _ p) hb (by omega) (by omega)

theorem rMult_eq {R : Type} (N : Nat) (hN : 1000 < N) (k : List Nat) (hk : ∀ x ∈ k, x < 256) (B : Nat) (hB : B < 256 ^ 32) (r : List Int → Option R) : rMult.M N R (nn k) (nn (dig 256 32 B)) r = r (nn (dig 256 32 (ladder k B))) := by
  show rMult.m (rClamp.M N) (rMasked.M N) (rAdd.M N) (rTimes.M N) (rSub.M N) (rInvert.M N) (rBytes.M N) N _ _ r = _
  unfold rMult.m
  have hN' : 100 < N := by omega
  rw [PP_256.2] at hB
  have hM := PP_M.1
  have hP := PP_big
  rw [rClamp_eq N k hk, rMasked_eq N hN' B hB, one_row, zeros8']
  unfold ladder
  rw [← φ_mod (B % 57896044618658097711785492504343953926634992332820282019728792003956564819968)]
  have hu := PP_lt_M (B % 57896044618658097711785492504343953926634992332820282019728792003956564819968)
  generalize B % 57896044618658097711785492504343953926634992332820282019728792003956564819968 % PP = u at *
  have h := rmult_loop N hN (clamp k) (clamp_lt k hk) u hu r 255 N (st0 (φ u)) 0 1 0 u 1 ⟨by omega, by omega, hu, by omega, rfl⟩ (by omega) (by omega) (by omega)
  rw [show ((255 : Nat) : Int) - 1 = 254 from rfl] at h
  exact h

end Go.Proofs.YtganankiiipkgaaDoor.fn
