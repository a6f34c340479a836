/- What the program's ladder and its reference come to. -/
import Derived.Test.YtganankiiipkgaaDoorMF
import Derived.Test.YtganankiiipkgaaDoorMFieldE2
import Derived.Test.YtganankiiipkgaaDoorFnLadder
namespace Go.Proofs.YtganankiiipkgaaDoor.fn
open Go Go.Proofs Go.Ev Go.Dg

/-! ### the ladder over the field -/

abbrev St := F × F × F × F
def sw (b : Bool) (s : St) : St := if b then (s.2.2.1, s.2.2.2, s.1, s.2.1) else s
def nx (u : F) (s : St) : St :=
  let A := s.1 + s.2.1
  let B := s.1 - s.2.1
  let AA := A * A
  let BB := B * B
  let E := AA - BB
  let DA := (s.2.2.1 - s.2.2.2) * A
  let CB := (s.2.2.1 + s.2.2.2) * B
  (AA * BB, E * (AA + E * φ 121665), (DA + CB) * (DA + CB), (DA - CB) * (DA - CB) * u)
def stp (b : Bool) (u : F) (s : St) : St := sw b (nx u (sw b s))
def bit (k : List Nat) (i : Nat) : Nat := k.getD (i / 8) 0 / 2 ^ (i % 8) % 2
def lad (k : List Nat) (u : F) : Nat → St → St
  | 0, s => s
  | n + 1, s => lad k u n (stp (decide (bit k n = 1)) u s)
theorem lad_succ (k : List Nat) (u : F) (n : Nat) (s : St) : lad k u (n + 1) s = lad k u n (stp (decide (bit k n = 1)) u s) := rfl
def outv (s : St) : Nat := s.1.val * s.2.1.val ^ (PP - 2) % PP

theorem sw_sw (b : Bool) (s : St) : sw b (sw b s) = s := by cases b <;> rfl

/-- The program's row for a state. -/
structure PR (s : St) (a b c d : Nat) : Prop where
  la : a < 1852673427797059126777135760139006525652319754650249024631321344126610074238976
  lb : b < 1852673427797059126777135760139006525652319754650249024631321344126610074238976
  lc : c < 1852673427797059126777135760139006525652319754650249024631321344126610074238976
  ld : d < 1852673427797059126777135760139006525652319754650249024631321344126610074238976
  eq : s = (φ a, φ b, φ c, φ d)

/-- The reference's row for a state. -/
structure RR (s : St) (a b c d : Nat) : Prop where
  la : a < M256
  lb : b < M256
  lc : c < M256
  ld : d < M256
  eq : s = (φ a, φ b, φ c, φ d)

theorem swapped_eq {R : Type} (N : Nat) (hN : 100 < N) (yes : Bool) (s : St) (a b c d : Nat) (h : PR s a b c d) :
    ∃ a' b' c' d', PR (sw yes s) a' b' c' d' ∧ ∀ k : List Int → List Int → List Int → List Int → Option R, swapped.M N R (E a) (E b) (E c) (E d) yes k = k (E a') (E b') (E c') (E d') := by
  obtain ⟨ha, hb, hc, hd, e⟩ := h
  have key : ∀ k : List Int → List Int → List Int → List Int → Option R, swapped.M N R (E a) (E b) (E c) (E d) yes k = k (E (if yes then c else a)) (E (if yes then d else b)) (E (if yes then a else c)) (E (if yes then b else d)) := by
    intro k
    show swapped.m (ePick.M N) N _ _ _ _ yes k = _
    unfold swapped.m
    rw [ePick_eq N hN, ePick_eq N hN, ePick_eq N hN, ePick_eq N hN]
  refine ⟨_, _, _, _, ?_, key⟩
  cases yes
  · exact ⟨ha, hb, hc, hd, e⟩
  · exact ⟨hc, hd, ha, hb, by rw [e]; rfl⟩

theorem next_eq {R : Type} (N : Nat) (hN : 100 < N) (s : St) (a b c d u : Nat) (h : PR s a b c d) (hu : u < 1852673427797059126777135760139006525652319754650249024631321344126610074238976) :
    ∃ a' b' c' d', PR (nx (φ u) s) a' b' c' d' ∧ ∀ k : List Int → List Int → List Int → List Int → Option R, next.M N R (E a) (E b) (E c) (E d) (E u) k = k (E a') (E b') (E c') (E d') := by
  obtain ⟨ha, hb, hc, hd, e⟩ := h
  have h1 := addE_lt ha hb
  have h2 := subE_lt (b := b) ha
  have h3 := mulE_lt h1 h1
  have h4 := mulE_lt h2 h2
  have h5 := subE_lt (b := mulE (subE a b) (subE a b)) h3
  have h6 := subE_lt (b := d) hc
  have h7 := mulE_lt h6 h1
  have h8 := addE_lt hc hd
  have h9 := mulE_lt h8 h2
  have h10 := mulE_lt h3 h4
  have s0 : smallE 121665 = 121665 := rfl
  have hs : 121665 < 1852673427797059126777135760139006525652319754650249024631321344126610074238976 := by decide
  have h11 := mulE_lt h5 hs
  have h12 := addE_lt h3 h11
  have h13 := mulE_lt h5 h12
  have h14 := addE_lt h7 h9
  have h15 := mulE_lt h14 h14
  have h16 := subE_lt (b := mulE (addE c d) (subE a b)) h7
  have h17 := mulE_lt h16 h16
  have h18 := mulE_lt h17 hu
  refine ⟨_, _, _, _, ⟨h10, h13, h15, h18, ?_⟩, ?_⟩
  · rw [e]
    simp only [nx, φ_mulE, φ_addE, φ_subE hb, φ_subE hd, φ_subE h4, φ_subE h9]
  · intro k
    show next.m (eAdd.M N) (eSub.M N) (Square.M N) (eTimes.M N) (Small.M N) N _ _ _ _ _ k = _
    unfold next.m
    rw [eAdd_eq N hN _ _ ha hb, eSub_eq N hN _ _ ha hb, Square_eq N hN _ h1, Square_eq N hN _ h2, eSub_eq N hN _ _ h3 h4, eSub_eq N hN _ _ hc hd, eTimes_eq N hN _ _ h6 h1, eAdd_eq N hN _ _ hc hd, eTimes_eq N hN _ _ h8 h2, eTimes_eq N hN _ _ h3 h4,
      Small_eq N hN _ (by omega), s0, eTimes_eq N hN _ _ h5 hs, eAdd_eq N hN _ _ h3 h11, eTimes_eq N hN _ _ h5 h12, eAdd_eq N hN _ _ h7 h9, Square_eq N hN _ h14, eSub_eq N hN _ _ h7 h9, Square_eq N hN _ h16, eTimes_eq N hN _ _ h17 hu]

/-- One step of the program's. -/
theorem step_eq {R : Type} (N : Nat) (hN : 100 < N) (yes : Bool) (s : St) (a b c d u : Nat) (h : PR s a b c d) (hu : u < 1852673427797059126777135760139006525652319754650249024631321344126610074238976) :
    ∃ a' b' c' d', PR (stp yes (φ u) s) a' b' c' d' ∧ ∀ k : List Int → List Int → List Int → List Int → Option R,
      (swapped.M N R (E a) (E b) (E c) (E d) yes fun v v1 v2 v3 => next.M N R v v1 v2 v3 (E u) fun v v1 v2 v3 => swapped.M N R v v1 v2 v3 yes k) = k (E a') (E b') (E c') (E d') := by
  obtain ⟨a1, b1, c1, d1, p1, e1⟩ := swapped_eq (R := R) N hN yes s a b c d h
  obtain ⟨a2, b2, c2, d2, p2, e2⟩ := next_eq (R := R) N hN _ a1 b1 c1 d1 u p1 hu
  obtain ⟨a3, b3, c3, d3, p3, e3⟩ := swapped_eq (R := R) N hN yes _ a2 b2 c2 d2 p2
  exact ⟨a3, b3, c3, d3, p3, fun k => by rw [e1, e2, e3]⟩

/-! ### bits of bytes -/

theorem bit_lt (k : List Nat) (i : Nat) : bit k i < 2 := Nat.mod_lt _ (by decide)

theorem byte_bit (k : List Nat) (hk : ∀ x ∈ k, x < 256) (j w : Nat) (hw : w < 8) : iand .u8 (ishr .u8 ((nn k).getD j 0) (w : Int)) 1 = ((k.getD j 0 / 2 ^ w % 2 : Nat) : Int) := by
  rw [nn_getD, ishr_nat .u8 _ w (by simp only [IntKind.bits]; omega), iand_one8]
  have : k.getD j 0 < 256 := by
    rw [List.getD_eq_getElem?_getD]
    cases h : k[j]? with
    | none => simp
    | some x => exact hk x (List.mem_of_getElem? h)
  exact Nat.lt_of_le_of_lt (Nat.div_le_self _ _) this

theorem bit_prog (k : List Nat) (hk : ∀ x ∈ k, x < 256) (n : Nat) (hn : n < 1000) :
    (iand .u8 (ishr .u8 ((nn k).getD (IntKind.i64.wrap ((n : Int).tdiv 8)).toNat 0) ((n : Int).tmod 8)) 1 == 1) = decide (bit k n = 1) := by
  have e1 : (n : Int).tdiv 8 = ((n / 8 : Nat) : Int) := tdivN n 8
  have e2 : (n : Int).tmod 8 = ((n % 8 : Nat) : Int) := tmodN n 8
  rw [e1, e2, wrap_i64z _ (by omega) (by omega), Int.toNat_natCast, byte_bit k hk _ _ (by omega), Bool.eq_iff_iff, beq_iff_eq, decide_eq_true_iff]
  unfold bit
  omega

/-! ### the program's ladder -/

theorem clamp_bytes : ∀ x : Fin 256, iand .u8 (x.val : Int) 248 = ((x.val / 8 * 8 : Nat) : Int) ∧ ior .u8 (iand .u8 (x.val : Int) 127) 64 = ((x.val % 64 + 64 : Nat) : Int) ∧
    IntKind.u8.wrap (IntKind.u8.wrap ((x.val : Int).tdiv 8) * 8) = ((x.val / 8 * 8 : Nat) : Int) ∧ IntKind.u8.wrap ((x.val : Int).tmod 64 + 64) = ((x.val % 64 + 64 : Nat) : Int) := by decide +kernel

def clamp (k : List Nat) : List Nat := (k.set 0 (k.getD 0 0 / 8 * 8)).set 31 (k.getD 31 0 % 64 + 64)

theorem nn_set (k : List Nat) (i x : Nat) : (nn k).set i (x : Int) = nn (k.set i x) := by simp [nn, List.map_set]

theorem getD_lt (k : List Nat) (hk : ∀ x ∈ k, x < 256) (j : Nat) : k.getD j 0 < 256 := by
  rw [List.getD_eq_getElem?_getD]
  cases h : k[j]? with
  | none => simp
  | some x => exact hk x (List.mem_of_getElem? h)

theorem clamp_len (k : List Nat) : (clamp k).length = k.length := by simp [clamp]
theorem clamp_lt (k : List Nat) (hk : ∀ x ∈ k, x < 256) : ∀ x ∈ clamp k, x < 256 := by
  intro x hx
  have h0 := getD_lt k hk 0
  rcases List.mem_or_eq_of_mem_set hx with h | h
  · rcases List.mem_or_eq_of_mem_set h with h | h
    · exact hk x h
    · omega
  · omega

theorem clamp_get (k : List Nat) (hl : k.length = 32) : (clamp k).getD 0 0 = k.getD 0 0 / 8 * 8 ∧ (clamp k).getD 31 0 = k.getD 31 0 % 64 + 64 := by
  unfold clamp
  constructor <;> simp [List.getD_eq_getElem?_getD, hl]

theorem clamp_clamp (k : List Nat) (hl : k.length = 32) : clamp (clamp k) = clamp k := by
  obtain ⟨h1, h2⟩ := clamp_get k hl
  show ((clamp k).set 0 ((clamp k).getD 0 0 / 8 * 8)).set 31 ((clamp k).getD 31 0 % 64 + 64) = clamp k
  rw [h1, h2, show k.getD 0 0 / 8 * 8 / 8 * 8 = k.getD 0 0 / 8 * 8 by omega, show (k.getD 31 0 % 64 + 64) % 64 + 64 = k.getD 31 0 % 64 + 64 by omega]
  apply List.ext_getElem (by simp)
  intro i hi1 hi2
  have hl2 : (clamp k).length = 32 := by rw [clamp_len, hl]
  rw [List.getElem_set, List.getElem_set]
  split
  · rename_i h; subst h
    rw [← h2, List.getD_eq_getElem?_getD, List.getElem?_eq_getElem hi2]; rfl
  · split
    · rename_i h; subst h
      rw [← h1, List.getD_eq_getElem?_getD, List.getElem?_eq_getElem hi2]; rfl
    · rfl

theorem Clamp_eq {R : Type} (N : Nat) (k : List Nat) (hl : k.length = 32) (hk : ∀ x ∈ k, x < 256) (r : List Int → Option R) : Clamp.M N R (nn k) r = r (nn (clamp k)) := by
  show Clamp.m N (nn k) r = _
  unfold Clamp.m
  have h0 := (clamp_bytes ⟨k.getD 0 0, getD_lt k hk 0⟩).1
  have h1 := (clamp_bytes ⟨k.getD 31 0, getD_lt k hk 31⟩).2.1
  simp only at h0 h1
  congr 1
  rw [nn_getD, h0, nn_set, nn_getD]
  have e1 : (k.set 0 (k.getD 0 0 / 8 * 8)).getD 31 0 = k.getD 31 0 := by simp [List.getD_eq_getElem?_getD]
  rw [e1]
  have e2 : ((nn (k.set 0 (k.getD 0 0 / 8 * 8))).set 31 (iand IntKind.u8 (k.getD 31 0 : Nat) 127)).getD 31 0 = iand IntKind.u8 (k.getD 31 0 : Nat) 127 := by
    simp [List.getD_eq_getElem?_getD, hl]
  rw [e2, h1, List.set_set, nn_set]
  rfl

theorem rClamp_eq {R : Type} (N : Nat) (k : List Nat) (hk : ∀ x ∈ k, x < 256) (r : List Int → Option R) : rClamp.M N R (nn k) r = r (nn (clamp k)) := by
  show rClamp.m N (nn k) r = _
  unfold rClamp.m
  have h0 := (clamp_bytes ⟨k.getD 0 0, getD_lt k hk 0⟩).2.2.1
  have h1 := (clamp_bytes ⟨k.getD 31 0, getD_lt k hk 31⟩).2.2.2
  simp only at h0 h1
  congr 1
  rw [nn_getD, h0, nn_set, nn_getD]
  have e1 : (k.set 0 (k.getD 0 0 / 8 * 8)).getD 31 0 = k.getD 31 0 := by simp [List.getD_eq_getElem?_getD]
  rw [e1, h1, nn_set]
  rfl

theorem outv_prog (s : St) (a b c d : Nat) (h : PR s a b c d) : mulE a (invE b) % PP = outv s := by
  obtain ⟨ha, hb, hc, hd, e⟩ := h
  rw [mulE_mod, Nat.mul_mod, (invE_rep b hb).eq, e]
  show _ = a % PP * (b % PP) ^ (PP - 2) % PP
  rw [Nat.mul_mod (a % PP) ((b % PP) ^ (PP - 2)), ← Nat.pow_mod, Nat.mod_mod]

theorem mult_loop {R : Type} (N : Nat) (hN : 1000 < N) (k : List Nat) (hk : ∀ x ∈ k, x < 256) (u : Nat) (hu : u < 1852673427797059126777135760139006525652319754650249024631321344126610074238976) (r : List Int → Option R) :
    ∀ (n m : Nat) (s : St) (a b c d : Nat), PR s a b c d → n < m → n ≤ 254 →
      Mult.J1_0 (Clamp.M N) (fRead.M N) (Small.M N) (swapped.M N) (next.M N) (eInvert.M N) (eTimes.M N) (eBytes.M N) N (fun _ _ _ _ _ _ _ _ _ v => r v) m ((n : Int) - 1) (nn k) (E u) (E a) (E b) (E c) (E d) =
        r (nn (dig 256 32 (outv (lad k (φ u) n s)))) := by
  have hN' : 100 < N := by omega
  intro n
  induction n with
  | zero =>
    intro m s a b c d h hm _
    obtain ⟨m, rfl⟩ : ∃ k, m = k + 1 := ⟨m - 1, by omega⟩
    have hi := invE_rep b h.lb
    unfold Mult.J1_0
    rw [decide_eq_false (by omega), cond_false, eInvert_eq N hN b h.lb, eTimes_eq N hN' _ _ h.la hi.lt, eBytes_eq N hN _ (mulE_lt h.la hi.lt), outv_prog s a b c d h]
    rfl
  | succ n ih =>
    intro m s a b c d h hm hn
    obtain ⟨m, rfl⟩ : ∃ k, m = k + 1 := ⟨m - 1, by omega⟩
    unfold Mult.J1_0
    have e0 : ((n + 1 : Nat) : Int) - 1 = (n : Int) := by omega
    have e1 : (n : Int).tdiv 8 = ((n / 8 : Nat) : Int) := tdivN n 8
    have e2 : (n : Int).tmod 8 = ((n % 8 : Nat) : Int) := tmodN n 8
    have w1 : IntKind.i64.wrap ((n / 8 : Nat) : Int) = ((n / 8 : Nat) : Int) := wrap_i64z _ (by omega) (by omega)
    have c0 : decide ((n : Int) ≥ 0) = true := decide_eq_true (by omega)
    have c1 : decide (0 ≤ IntKind.i64.wrap ((n : Int).tdiv 8)) = true := by rw [e1, w1]; exact decide_eq_true (by omega)
    have c2 : decide (IntKind.i64.wrap ((n : Int).tdiv 8) < 32) = true := by rw [e1, w1]; exact decide_eq_true (by omega)
    have c3 : (true && decide ((n : Int).tmod 8 < 0)) = false := by rw [e2, decide_eq_false (by omega)]; rfl
    rw [e0, c0, cond_true, c1, cond_true, c2, cond_true, c3, cond_false, bit_prog k hk n (by omega), wrap_i64z _ (by omega) (by omega)]
    obtain ⟨a', b', c', d', p, e⟩ := step_eq (R := R) N hN' (decide (bit k n = 1)) s a b c d u h hu
    rw [e]
    exact ih m _ a' b' c' d' p (by omega) (by omega)

/-- The state that a ladder starts with. -/
def st0 (u : F) : St := (1, 0, u, 1)
def ladder (k : List Nat) (B : Nat) : Nat := outv (lad (clamp k) (φ (B % 57896044618658097711785492504343953926634992332820282019728792003956564819968)) 255 (st0 (φ (B % 57896044618658097711785492504343953926634992332820282019728792003956564819968))))

theorem bit254 (k : List Nat) (hk : ∀ x ∈ k, x < 256) : (iand .u8 (ishr .u8 ((nn k).getD 31 0) 6) 1 == 1) = decide (bit k 254 = 1) := by
  have h := bit_prog k hk 254 (by omega)
  exact h

theorem Mult_eq {R : Type} (N : Nat) (hN : 1000 < N) (k : List Nat) (hl : k.length = 32) (hk : ∀ x ∈ k, x < 256) (B : Nat) (r : List Int → Option R) : Mult.M N R (nn k) (nn (dig 256 32 B)) r = r (nn (dig 256 32 (ladder k B))) := by
  show Mult.m (Clamp.M N) (fRead.M N) (Small.M N) (swapped.M N) (next.M N) (eInvert.M N) (eTimes.M N) (eBytes.M N) N _ _ r = _
  unfold Mult.m
  have hN' : 100 < N := by omega
  have hu := T_Q B
  have s1 : smallE 1 = 1 := rfl
  rw [Clamp_eq N k hl hk, fRead_eq N hN B, Small_eq N hN' 1 (by omega), Small_eq N hN' 1 (by omega), s1, zeros10, bit254 _ (clamp_lt k hk)]
  unfold ladder
  generalize B % 57896044618658097711785492504343953926634992332820282019728792003956564819968 = u at *
  obtain ⟨a, b, c, d, p, e⟩ := step_eq (R := R) N hN' (decide (bit (clamp k) 254 = 1)) (st0 (φ u)) 1 0 u 1 u ⟨by decide, by decide, hu, by decide, rfl⟩ hu
  rw [e, show (255 : Nat) = 254 + 1 from rfl, lad_succ]
  have h := mult_loop N hN (clamp k) (clamp_lt k hk) u hu r 254 N _ a b c d p (by omega) (by omega)
  rw [show ((254 : Nat) : Int) - 1 = 253 from rfl] at h
  exact h

end Go.Proofs.YtganankiiipkgaaDoor.fn
