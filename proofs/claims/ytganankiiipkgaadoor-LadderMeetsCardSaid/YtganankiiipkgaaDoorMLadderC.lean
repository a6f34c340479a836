/- What the ladder's laws of products and of bases say is so. -/
import Derived.Test.YtganankiiipkgaaDoorMLadderB
namespace Go.Proofs.YtganankiiipkgaaDoor.fn
open Go Go.Proofs Go.Ev Go.Dg

theorem ladder_lt (k : List Nat) (B : Nat) : ladder k B < 256 ^ 32 := Nat.lt_trans (Nat.mod_lt _ PP_pos) PP_256.1

theorem noughts32 : ([0, 0, 0, 0, 0, 0, 0, 0, 0, 0, 0, 0, 0, 0, 0, 0, 0, 0, 0, 0, 0, 0, 0, 0, 0, 0, 0, 0, 0, 0, 0, 0] : List Int) = nn (dig 256 32 0) := by decide +kernel
theorem nine32 : ([9, 0, 0, 0, 0, 0, 0, 0, 0, 0, 0, 0, 0, 0, 0, 0, 0, 0, 0, 0, 0, 0, 0, 0, 0, 0, 0, 0, 0, 0, 0, 0] : List Int) = nn (dig 256 32 9) := by decide +kernel
theorem one32 : ([1, 0, 0, 0, 0, 0, 0, 0, 0, 0, 0, 0, 0, 0, 0, 0, 0, 0, 0, 0, 0, 0, 0, 0, 0, 0, 0, 0, 0, 0, 0, 0] : List Int) = nn (dig 256 32 1) := by decide +kernel

theorem Shared_eq {R : Type} (N : Nat) (hN : 1000 < N) (k : List Nat) (hl : k.length = 32) (hk : ∀ x ∈ k, x < 256) (B : Nat) (r : List Int → Nat → Option R) :
    Shared.M N R (nn k) (nn (dig 256 32 B)) r = if ladder k B = 0 then r (nn (dig 256 32 (ladder k B))) 5 else r (nn (dig 256 32 (ladder k B))) 0 := by
  show Shared.m (Mult.M N) (wZero.M N) N _ _ r = _
  unfold Shared.m
  rw [Mult_eq N hN k hl hk, cut_all 32 _ (dig_length _ _ _), wZero_eq N hN none 32 _ (by omega) (ladder_lt k B), noughts32]
  by_cases h : ladder k B = 0
  · rw [decide_eq_true h, cond_true, if_pos h, h]
  · rw [decide_eq_false h, cond_false, if_neg h]

theorem Base_eq {R : Type} (N : Nat) (hN : 1000 < N) (k : List Nat) (hl : k.length = 32) (hk : ∀ x ∈ k, x < 256) (r : List Int → Option R) : Base.M N R (nn k) r = r (nn (dig 256 32 (ladder k 9))) := by
  show Base.m (Mult.M N) N _ r = _
  unfold Base.m
  rw [nine32, Mult_eq N hN k hl hk]

theorem rBase_eq {R : Type} (N : Nat) (hN : 1000 < N) (k : List Nat) (hk : ∀ x ∈ k, x < 256) (r : List Int → Option R) : rBase.M N R (nn k) r = r (nn (dig 256 32 (ladder k 9))) := by
  show rBase.m (rMult.M N) N _ r = _
  unfold rBase.m
  rw [nine32, rMult_eq N hN k hk 9 (by decide)]

/-! ### the point of order two, and a base -/

section ring
variable {α : Type} [Lean.Grind.CommRing α]
theorem mul_zero_ring (a : α) : a * 0 = 0 := by grind
theorem dbl_zero_ring (x z w : α) (h : x * z = 0) : ((x + z) * (x + z) - (x - z) * (x - z)) * w = 0 := by grind
end ring

theorem zero_step (b : Bool) (s : St) (h1 : s.1 * s.2.1 = 0) (h2 : s.2.2.1 * s.2.2.2 = 0) : (stp b 0 s).2.1 = 0 ∧ (stp b 0 s).2.2.2 = 0 := by
  have key : ∀ w : St, w.1 * w.2.1 = 0 → (nx 0 w).2.1 = 0 ∧ (nx 0 w).2.2.2 = 0 := fun w hw => ⟨dbl_zero_ring _ _ _ hw, mul_zero_ring _⟩
  cases b
  · exact key s h1
  · exact ⟨(key (sw true s) h2).2, (key (sw true s) h2).1⟩

theorem zero_lad (k : List Nat) : ∀ (n : Nat) (s : St), s.2.1 = 0 → s.2.2.2 = 0 → (lad k 0 n s).2.1 = 0 := by
  intro n
  induction n with
  | zero => intro s h _; exact h
  | succ n ih =>
    intro s h1 h2
    rw [lad_succ]
    obtain ⟨h3, h4⟩ := zero_step (decide (bit k n = 1)) s (by rw [h1]; exact mul_zero_ring _) (by rw [h2]; exact mul_zero_ring _)
    exact ih _ h3 h4

theorem outv_as (s : St) (e : Nat) (he : e = PP - 2) : outv s = s.1.val * s.2.1.val ^ e % PP := by subst he; rfl
theorem pow_nought (a e p : Nat) (z : F) (hz : z = 0) (he : 0 < e) : a * z.val ^ e % p = 0 := by
  subst hz
  show a * 0 ^ e % p = 0
  rw [Nat.zero_pow he, Nat.mul_zero, Nat.zero_mod]
theorem outv_zero (s : St) (h : s.2.1 = 0) : outv s = 0 := by
  obtain ⟨e, he⟩ : ∃ e, e = PP - 2 := ⟨_, rfl⟩
  rw [outv_as s e he]
  exact pow_nought _ e _ _ h (by have := PP_big; omega)

theorem ladder_zero (k : List Nat) : ladder k 0 = 0 := by
  unfold ladder
  rw [show φ (0 % 57896044618658097711785492504343953926634992332820282019728792003956564819968) = 0 from rfl, show (255 : Nat) = 254 + 1 from rfl, lad_succ]
  obtain ⟨h1, h2⟩ := zero_step (decide (bit (clamp k) 254 = 1)) (st0 0) (mul_zero_ring _) (by show (0 : F) * 1 = 0; exact (comm_ring _ _).trans (mul_zero_ring _))
  exact outv_zero _ (zero_lad _ 254 _ h1 h2)

def dF (p : F × F) : F × F :=
  let AA := (p.1 + p.2) * (p.1 + p.2)
  let BB := (p.1 - p.2) * (p.1 - p.2)
  let E := AA - BB
  (AA * BB, E * (AA + E * φ 121665))
def itF : Nat → F × F → F × F
  | 0, p => p
  | n + 1, p => itF n (dF p)

theorem lad_nought (k : List Nat) (u : F) : ∀ (n : Nat) (s : St), (∀ i, i < n → bit k i = 0) → ((lad k u n s).1, (lad k u n s).2.1) = itF n (s.1, s.2.1) := by
  intro n
  induction n with
  | zero => intro s _; rfl
  | succ n ih =>
    intro s h
    rw [lad_succ, h n (by omega), ih _ (fun i hi => h i (by omega))]
    rfl

def nB (x z : Nat) : Nat := (x + (PP - z % PP)) % PP * ((x + (PP - z % PP)) % PP) % PP
def nA (x z : Nat) : Nat := (x + z) % PP * ((x + z) % PP) % PP
def nE (x z : Nat) : Nat := (nA x z + (PP - nB x z % PP)) % PP
def chkN : Nat → Nat → Nat → Bool
  | 0, x, z => !Nat.beq (x % PP) 0 && !Nat.beq (z % PP) 0
  | n + 1, x, z => chkN n (nA x z * nB x z % PP) (nE x z * ((nA x z + nE x z * 121665 % PP) % PP) % PP)

theorem chk_itF : ∀ (n x z : Nat), chkN n x z = true → ∃ x' z' : Nat, x' % PP ≠ 0 ∧ z' % PP ≠ 0 ∧ itF n (φ x, φ z) = (φ x', φ z') := by
  intro n
  induction n with
  | zero =>
    intro x z h
    refine ⟨x, z, ?_, ?_, rfl⟩
    · intro h0; simp [chkN, h0] at h
    · intro h0; simp [chkN, h0] at h
  | succ n ih =>
    intro x z h
    obtain ⟨x', z', h1, h2, h3⟩ := ih _ _ h
    refine ⟨x', z', h1, h2, ?_⟩
    rw [← h3]
    show itF n (dF (φ x, φ z)) = _
    congr 1
    simp only [dF, nE, nA, nB, φ_mod, φ_mul, φ_add, φ_neg, addneg]

theorem outv_ne (x z : Nat) (a b : F) (hx : x % PP ≠ 0) (hz : z % PP ≠ 0) : outv (φ x, φ z, a, b) ≠ 0 := by
  rw [← outv_ref]
  intro h
  have h1 : z * z ^ (PP - 2) % PP = 1 := Fp.inv z hz
  rcases Fp.nzd _ _ (show x * (z ^ (PP - 2) % PP) % Fp.PP = 0 from h) with h2 | h2
  · exact hx h2
  · have h3 : z ^ (PP - 2) % PP % PP = 0 := h2
    rw [Nat.mod_mod] at h3
    rw [Nat.mul_mod, h3, Nat.mul_zero, Nat.zero_mod] at h1
    omega

theorem bits_one : (∀ i, i < 254 → bit (clamp (dig 256 32 1)) i = 0) ∧ bit (clamp (dig 256 32 1)) 254 = 1 := by
  have h : (List.range 254).all (fun i => Nat.beq (bit (clamp (dig 256 32 1)) i) 0) = true := by decide +kernel
  refine ⟨fun i hi => ?_, by decide +kernel⟩
  exact Nat.eq_of_beq_eq_true (List.all_eq_true.1 h i (List.mem_range.2 hi))

theorem chk_base : chkN 254 324 36 = true := by kernel_rfl

theorem first_ring {α : Type} [Lean.Grind.CommRing α] (u : α) : ((1 - 0) * (u + 1) + (1 + 0) * (u - 1)) * ((1 - 0) * (u + 1) + (1 + 0) * (u - 1)) = (u + u) * (u + u) ∧ ((1 - 0) * (u + 1) - (1 + 0) * (u - 1)) * ((1 - 0) * (u + 1) - (1 + 0) * (u - 1)) * u = (1 + 1) * (1 + 1) * u := by
  constructor <;> grind

theorem ladder_one : ladder (dig 256 32 1) 9 ≠ 0 := by
  unfold ladder
  obtain ⟨h1, h2⟩ := bits_one
  rw [show (9 : Nat) % 57896044618658097711785492504343953926634992332820282019728792003956564819968 = 9 from rfl, show (255 : Nat) = 254 + 1 from rfl, lad_succ, h2]
  have e := lad_nought (clamp (dig 256 32 1)) (φ 9) 254 (stp true (φ 9) (st0 (φ 9))) h1
  have e2 : ((stp true (φ 9) (st0 (φ 9))).1, (stp true (φ 9) (st0 (φ 9))).2.1) = (φ 324, φ 36) := by
    have h3 := first_ring (φ 9)
    refine Prod.ext ?_ ?_
    · refine Eq.trans h3.1 ?_
      rw [← φ_add, ← φ_mul]
    · refine Eq.trans h3.2 ?_
      rw [← φ_one, ← φ_add, ← φ_mul, ← φ_mul]
  rw [e2] at e
  obtain ⟨x', z', g1, g2, g3⟩ := chk_itF 254 324 36 chk_base
  rw [g3] at e
  rw [show decide (1 = 1) = true from rfl]
  generalize lad (clamp (dig 256 32 1)) (φ 9) 254 (stp true (φ 9) (st0 (φ 9))) = s at *
  obtain ⟨s1, s2, s3, s4⟩ := s
  simp only [Prod.mk.injEq] at e
  rw [e.1, e.2]
  exact outv_ne x' z' s3 s4 g1 g2

theorem Num_5 {R : Type} (N : Nat) (hN : 30 ≤ N) (r : Int → Option R) : Num.M N R 5 r = r 5 := by
  obtain ⟨M, rfl⟩ : ∃ M, N = M + 30 := ⟨N - 30, by omega⟩
  kernel_rfl

theorem alive10_eq {R : Type} (N : Nat) (hN : 1000 < N) (r : Bool → Option R) : alive10.M N R r = r true := by
  show alive10.m (Shared.M N) (Num.M N) (Base.M N) N r = _
  unfold alive10.m
  have hl := dig_length 256 32 1
  have hk := dig_lt (B := 256) (by decide) 32 1
  rw [one32, noughts32, Shared_eq N hN _ hl hk 0, if_pos (ladder_zero _), Num_5 N (by omega), show ((5 : Int) == 5) = true from rfl, cond_true, Base_eq N hN _ hl hk, beq_row (ladder_lt _ _) (by decide), decide_eq_false ladder_one]
  rfl

/-! ### the laws -/

theorem LadderMults_true {R : Type} (N : Nat) (hN : 1000 < N) (K B : Nat) (hB : B < 256 ^ 32) (r : Bool → Option R) : LadderMults.M N R (nn (dig 256 32 K)) (nn (dig 256 32 B)) r = r true := by
  show LadderMults.m (alive10.M N) (rMult.M N) (Shared.M N) (Mult.M N) (Clamp.M N) (rClamp.M N) (Num.M N) N _ _ r = _
  unfold LadderMults.m
  have hl := dig_length 256 32 K
  have hk := dig_lt (B := 256) (by decide) 32 K
  rw [alive10_eq N hN, Bool.not_true, cond_false, rMult_eq N hN _ hk B hB, Shared_eq N hN _ hl hk B]
  by_cases h : ladder (dig 256 32 K) B = 0
  · rw [if_pos h, Mult_eq N hN _ hl hk, beq_self_eq_true, Bool.not_true, cond_false, Clamp_eq N _ hl hk, rClamp_eq N _ hk, beq_self_eq_true, Bool.not_true, cond_false, noughts32, h, beq_self_eq_true, cond_true, Num_5 N (by omega)]
    rfl
  · rw [if_neg h, Mult_eq N hN _ hl hk, beq_self_eq_true, Bool.not_true, cond_false, Clamp_eq N _ hl hk, rClamp_eq N _ hk, beq_self_eq_true, Bool.not_true, cond_false, noughts32, beq_row (ladder_lt _ _) (by decide), decide_eq_false h, cond_false]
    rfl

theorem LadderBases_true {R : Type} (N : Nat) (hN : 1000 < N) (K : Nat) (r : Bool → Option R) : LadderBases.M N R (nn (dig 256 32 K)) r = r true := by
  show LadderBases.m (alive10.M N) (Base.M N) (rBase.M N) (Clamp.M N) N _ r = _
  unfold LadderBases.m
  have hl := dig_length 256 32 K
  have hk := dig_lt (B := 256) (by decide) 32 K
  have hl2 : (clamp (dig 256 32 K)).length = 32 := by rw [clamp_len, hl]
  rw [alive10_eq N hN, Bool.not_true, cond_false, Base_eq N hN _ hl hk, rBase_eq N hN _ hk, beq_self_eq_true, cond_true, Clamp_eq N _ hl hk, Base_eq N hN _ hl2 (clamp_lt _ hk), Base_eq N hN _ hl hk]
  have e : ladder (clamp (dig 256 32 K)) 9 = ladder (dig 256 32 K) 9 := by
    unfold ladder
    rw [clamp_clamp _ hl]
  rw [e, beq_self_eq_true]
end Go.Proofs.YtganankiiipkgaaDoor.fn
