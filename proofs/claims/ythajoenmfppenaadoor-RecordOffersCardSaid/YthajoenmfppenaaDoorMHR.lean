/- What the digests' references come to. -/
import Derived.Test.YthajoenmfppenaaDoorFnShaR
import Derived.Test.YthajoenmfppenaaDoorMHB
namespace Go.Proofs.YthajoenmfppenaaDoor.fn
open Go Go.Proofs Go.Ev Go.Dg

def isBy (l : List Int) : Prop := ∀ z ∈ l, 0 ≤ z ∧ z < 256

theorem isBy.nat {l : List Int} (h : isBy l) (i : Nat) : ∃ x : Nat, l.getD i 0 = (x : Int) ∧ x < 256 := by
  rw [List.getD_eq_getElem?_getD]
  rcases Nat.lt_or_ge i l.length with q | q
  · rw [List.getElem?_eq_getElem q]
    obtain ⟨h0, h1⟩ := h _ (List.getElem_mem q)
    exact ⟨l[i].toNat, by simp only [Option.getD_some]; omega, by omega⟩
  · rw [List.getElem?_eq_none q]; exact ⟨0, rfl, by omega⟩

theorem rturn_eq {R : Type} (N : Nat) (x n m : Int) (h : IntKind.u64.wrap (32 - n) = m) (r : Int → Option R) : rturn.M N R x n r = r (rr x n m) := by
  show r (ior .u32 (ishr .u32 x n) (ishl .u32 x (IntKind.u64.wrap (32 - n)))) = _
  rw [h]; rfl

/-! ### the padding -/

theorem pad_zeros {R : Type} (N : Nat) (b : List Int) (hb : b.length ≤ 100000) (ke : Option Bool → List Int → List Int → Option R) (x : Option Bool) :
    ∀ (d k m : Nat), k + d = zc b.length → d < m → Padded.L2 N ke m x b (b ++ 128 :: List.replicate k 0) = ke x b (b ++ 128 :: List.replicate (zc b.length) 0) := by
  intro d
  have hz : zc b.length < 64 := Nat.mod_lt _ (by decide)
  induction d with
  | zero =>
    intro k m hk hm
    obtain ⟨m, rfl⟩ : ∃ k, m = k + 1 := ⟨m - 1, by omega⟩
    obtain rfl : k = zc b.length := by omega
    have hl : (b ++ 128 :: List.replicate (zc b.length) (0 : Int)).length = b.length + 1 + zc b.length := by simp; omega
    unfold Padded.L2
    have e : ((↑(olen none (b ++ 128 :: List.replicate (zc b.length) (0 : Int)).length 0) : Int).tmod 64 != 56) = false := by
      have : olen none (b ++ 128 :: List.replicate (zc b.length) (0 : Int)).length 0 = b.length + 1 + zc b.length := hl
      rw [this, Int.tmod_eq_emod_of_nonneg (by omega), bne_eq_false_iff_eq]
      unfold zc
      omega
    rw [e, cond_false]
  | succ d ih =>
    intro k m hk hm
    obtain ⟨m, rfl⟩ : ∃ k, m = k + 1 := ⟨m - 1, by omega⟩
    have hl : (b ++ 128 :: List.replicate k (0 : Int)).length = b.length + 1 + k := by simp; omega
    unfold Padded.L2
    have e : ((↑(olen none (b ++ 128 :: List.replicate k (0 : Int)).length 0) : Int).tmod 64 != 56) = true := by
      have : olen none (b ++ 128 :: List.replicate k (0 : Int)).length 0 = b.length + 1 + k := hl
      rw [this, Int.tmod_eq_emod_of_nonneg (by omega), bne_iff_ne]
      unfold zc at hk hz
      omega
    rw [e, cond_true, decide_eq_true (by omega), cond_true, decide_eq_true (by omega), cond_true]
    have h2 : b ++ 128 :: List.replicate k (0 : Int) ++ [0] = b ++ 128 :: List.replicate (k + 1) 0 := by
      rw [List.append_assoc, List.cons_append, List.replicate_succ']
    rw [h2]
    exact ih (k + 1) m (by omega) (by omega)

theorem pad_tail {R : Type} (N : Nat) (n : Nat) (ke : Int → Int → List Int → Option R) :
    ∀ (d m : Nat) (h : List Int), d ≤ 8 → h.length + d ≤ 200000 → d < m → Padded.L6 N ke m (n : Int) ((d : Int) - 1) h = ke (n : Int) (-1) (h ++ nn (dig 256 d n).reverse) := by
  intro d
  induction d with
  | zero =>
    intro m h hd hh hm
    obtain ⟨m, rfl⟩ : ∃ k, m = k + 1 := ⟨m - 1, by omega⟩
    unfold Padded.L6
    rw [decide_eq_false (by omega), cond_false]
    have : (nn (dig 256 0 n).reverse) = [] := rfl
    rw [this, List.append_nil]
    rfl
  | succ d ih =>
    intro m h hd hh hm
    obtain ⟨m, rfl⟩ : ∃ k, m = k + 1 := ⟨m - 1, by omega⟩
    unfold Padded.L6
    have e0 : ((d + 1 : Nat) : Int) - 1 = (d : Int) := by omega
    have e1 : IntKind.i64.wrap ((d : Int) - 1) = (d : Int) - 1 := wrap_i64z _ (by omega) (by omega)
    have e2 : IntKind.u64.wrap (IntKind.i64.wrap (8 * (d : Int))) = ((8 * d : Nat) : Int) := by
      rw [show (8 * (d : Int)) = ((8 * d : Nat) : Int) by omega, wrap_i64z _ (by omega) (by omega), wrap_u64 _ (by omega)]
    have e3 : IntKind.u8.wrap (ishr IntKind.u64 (n : Int) ((8 * d : Nat) : Int)) = ((n / 256 ^ d % 256 : Nat) : Int) := by
      rw [ishr_nat .u64 n (8 * d) (by simp only [IntKind.bits]; omega), wrap_u8, Nat.pow_mul]
    rw [e0, e1, e2, e3, decide_eq_true (by omega), cond_true, decide_eq_true (by omega), cond_true, decide_eq_true (by omega), cond_true]
    rw [ih m _ (by omega) (by rw [List.length_append]; simp only [List.length_cons, List.length_nil]; omega) (by omega), dig_snoc, List.reverse_append, List.append_assoc]
    rfl

theorem Padded_eq {R : Type} (N : Nat) (hN : 200 < N) (x : Option Bool) (b : List Int) (hb : b.length ≤ 90000) (r : List Int → Option R) : Padded.M N R x b r = r (padm b) := by
  have hz : zc b.length < 64 := Nat.mod_lt _ (by decide)
  show Padded.m N x b r = _
  unfold Padded.m
  rw [decide_eq_true (by omega), cond_true, decide_eq_true (by omega), cond_true, decide_eq_true (by omega), cond_true, decide_eq_true (by omega), cond_true]
  have h := pad_zeros (R := R) N b (by omega) (fun _ b0 h0 => Padded.L6 N (fun _ _ h => r h) N (IntKind.u64.wrap (IntKind.u64.wrap (↑b0.length : Int) * 8)) 7 h0) x (zc b.length) 0 N (by omega) (by omega)
  refine Eq.trans h ?_
  have e : IntKind.u64.wrap (IntKind.u64.wrap (b.length : Int) * 8) = ((8 * b.length : Nat) : Int) := by
    rw [wrap_u64 _ (by omega), show ((b.length : Int) * 8) = ((8 * b.length : Nat) : Int) by omega, wrap_u64 _ (by omega)]
  rw [e]
  refine Eq.trans (pad_tail N (8 * b.length) (fun _ _ h => r h) 8 N _ (by omega) (by simp; omega) (by omega)) ?_
  unfold padm be8
  rw [List.append_assoc, List.cons_append]

theorem padm_by {b : List Int} (h : isBy b) : isBy (padm b) := by
  intro z hz
  unfold padm at hz
  rcases List.mem_append.1 hz with q | q
  · exact h z q
  · rcases List.mem_cons.1 q with rfl | q
    · exact ⟨by decide, by decide⟩
    · rcases List.mem_append.1 q with q | q
      · rw [List.eq_of_mem_replicate q]; exact ⟨by decide, by decide⟩
      · unfold be8 nn at q
        obtain ⟨x, hx, rfl⟩ := List.mem_map.1 q
        have := dig_lt (B := 256) (by decide) _ _ x (List.mem_reverse.1 hx)
        show (0 : Int) ≤ (x : Int) ∧ (x : Int) < 256
        omega

theorem padm_length (b : List Int) : (padm b).length = 64 * ((padm b).length / 64) := by
  have h1 : (padm b).length = b.length + (1 + (zc b.length + 8)) := by
    unfold padm be8
    simp only [List.length_append, List.length_cons, List.length_replicate, nn, List.length_map, List.length_reverse, dig_length]
    omega
  rw [h1]
  unfold zc
  omega

/-! ### the words -/

theorem ior_hi (k : IntKind) (hs : k.signed = false) (x c s : Nat) (hx : x < 2 ^ s) (hc : c * 2 ^ s + x < 2 ^ k.bits) : ior k ((c * 2 ^ s : Nat) : Int) (x : Int) = ((c * 2 ^ s + x : Nat) : Int) := by
  have e1 : (x : Int) = un (BitVec.ofNat k.bits x) := by unfold un; rw [BitVec.toNat_ofNat, Nat.mod_eq_of_lt (by omega)]
  have e2 : ((c * 2 ^ s : Nat) : Int) = un (BitVec.ofNat k.bits (c * 2 ^ s)) := by unfold un; rw [BitVec.toNat_ofNat, Nat.mod_eq_of_lt (by omega)]
  rw [e1, e2, ior_un hs]
  unfold un
  rw [BitVec.toNat_or, BitVec.toNat_ofNat, BitVec.toNat_ofNat, Nat.mod_eq_of_lt (show x < 2 ^ k.bits by omega), Nat.mod_eq_of_lt (show c * 2 ^ s < 2 ^ k.bits by omega)]
  have h := Nat.two_pow_add_eq_or_of_lt hx c
  rw [Nat.mul_comm c, ← h]

theorem ishl32 (a s : Nat) (hs : s ≤ 32) (h : a * 2 ^ s < 4294967296) : ishl .u32 (a : Int) (s : Int) = ((a * 2 ^ s : Nat) : Int) := by
  unfold ishl
  rw [Int.toNat_natCast, Nat.min_eq_left (by simp only [IntKind.bits]; omega), show (a : Int) * 2 ^ s = ((a * 2 ^ s : Nat) : Int) by simp, wrap_u32, Nat.mod_eq_of_lt h]

theorem be4_eq (b : List Int) (i : Nat) (x0 x1 x2 x3 : Nat) (e0 : b.getD (4 * i) 0 = (x0 : Int)) (e1 : b.getD (4 * i + 1) 0 = (x1 : Int)) (e2 : b.getD (4 * i + 2) 0 = (x2 : Int)) (e3 : b.getD (4 * i + 3) 0 = (x3 : Int))
    (h0 : x0 < 256) (h1 : x1 < 256) (h2 : x2 < 256) (h3 : x3 < 256) : sbe4 b i = ((x0 * 16777216 + x1 * 65536 + x2 * 256 + x3 : Nat) : Int) := by
  unfold sbe4
  rw [e0, e1, e2, e3]
  unfold w32
  rw [wrap_u32, wrap_u32, wrap_u32, wrap_u32, Nat.mod_eq_of_lt (show x0 < 4294967296 by omega), Nat.mod_eq_of_lt (show x1 < 4294967296 by omega), Nat.mod_eq_of_lt (show x2 < 4294967296 by omega), Nat.mod_eq_of_lt (show x3 < 4294967296 by omega)]
  have s0 := ishl32 x0 24 (by omega) (by omega)
  have s1 := ishl32 x1 16 (by omega) (by omega)
  have s2 := ishl32 x2 8 (by omega) (by omega)
  have i1 := ior_hi .u32 rfl (x1 * 2 ^ 16) x0 24 (by omega) (by simp only [IntKind.bits]; omega)
  have i2 := ior_hi .u32 rfl (x2 * 2 ^ 8) (x0 * 256 + x1) 16 (by omega) (by simp only [IntKind.bits]; omega)
  have i3 := ior_hi .u32 rfl x3 ((x0 * 256 + x1) * 256 + x2) 8 (by omega) (by simp only [IntKind.bits]; omega)
  rw [show ((24 : Nat) : Int) = 24 from rfl] at s0
  rw [show ((16 : Nat) : Int) = 16 from rfl] at s1
  rw [show ((8 : Nat) : Int) = 8 from rfl] at s2
  rw [s0, s1, s2, i1, show x0 * 2 ^ 24 + x1 * 2 ^ 16 = (x0 * 256 + x1) * 2 ^ 16 by omega, i2, show (x0 * 256 + x1) * 2 ^ 16 + x2 * 2 ^ 8 = ((x0 * 256 + x1) * 256 + x2) * 2 ^ 8 by omega, i3]

theorem w32_mod (z : Int) : IntKind.u32.wrap z = z % 4294967296 := by
  rw [wrap_u rfl]
  unfold un
  rw [BitVec.toNat_ofInt]
  simp only [IntKind.bits]
  omega

theorem blk_get (m : List Int) (o k : Nat) (hk : k < 64) : ((m.drop o).take 64).getD k 0 = m.getD (o + k) 0 := by
  rw [List.getD_eq_getElem?_getD, List.getD_eq_getElem?_getD, List.getElem?_take, if_pos hk, List.getElem?_drop]

theorem ref_first {R : Type} (N : Nat) (ke : Int → Int → List Int → List Int → List Int → Option R) (o : Nat) (h1 mm : List Int) (hm : isBy mm) (ho : o + 64 ≤ mm.length) (hl : mm.length ≤ 200000) :
    ∀ (d i m : Nat), i + d = 16 → d + 48 < m → ∃ m', 48 < m' ∧ rSum.L9 (rconstants.M N) (Padded.M N) (rturn.M N) N ke m (o : Int) (i : Int) h1 mm (wl ((mm.drop o).take 64) i ++ List.replicate (48 + d) 0) =
      rSum.L9 (rconstants.M N) (Padded.M N) (rturn.M N) N ke m' (o : Int) 16 h1 mm (wl ((mm.drop o).take 64) 16 ++ List.replicate 48 0) := by
  intro d
  induction d with
  | zero =>
    intro i m hi hm'
    obtain rfl : i = 16 := by omega
    exact ⟨m, by omega, rfl⟩
  | succ d ih =>
    intro i m hi hm'
    obtain ⟨m, rfl⟩ : ∃ k, m = k + 1 := ⟨m - 1, by omega⟩
    obtain ⟨m', hm1, hm2⟩ := ih (i + 1) m (by omega) (by omega)
    refine ⟨m', hm1, ?_⟩
    rw [← hm2]
    conv => lhs; unfold rSum.L9
    have e0 : IntKind.i64.wrap (4 * (i : Int)) = ((4 * i : Nat) : Int) := by rw [wrap_i64z _ (by omega) (by omega)]; omega
    have e00 : IntKind.i64.wrap ((o : Int) + ((4 * i : Nat) : Int)) = ((o + 4 * i : Nat) : Int) := by rw [wrap_i64z _ (by omega) (by omega)]; omega
    have e1 : IntKind.i64.wrap (((o + 4 * i : Nat) : Int) + 1) = ((o + (4 * i + 1) : Nat) : Int) := by rw [wrap_i64z _ (by omega) (by omega)]; omega
    have e2 : IntKind.i64.wrap (((o + 4 * i : Nat) : Int) + 2) = ((o + (4 * i + 2) : Nat) : Int) := by rw [wrap_i64z _ (by omega) (by omega)]; omega
    have e3 : IntKind.i64.wrap (((o + 4 * i : Nat) : Int) + 3) = ((o + (4 * i + 3) : Nat) : Int) := by rw [wrap_i64z _ (by omega) (by omega)]; omega
    have e4 : IntKind.i64.wrap ((i : Int) + 1) = ((i + 1 : Nat) : Int) := by rw [wrap_i64z _ (by omega) (by omega)]; omega
    have hol : olen none mm.length 0 = mm.length := rfl
    have how : olen none (wl ((mm.drop o).take 64) i ++ List.replicate (48 + (d + 1)) (0 : Int)).length 0 = 64 := by
      show (wl ((mm.drop o).take 64) i ++ List.replicate (48 + (d + 1)) (0 : Int)).length = 64
      rw [List.length_append, wl_length, List.length_replicate]; omega
    rw [e0, e00, e1, e2, e3, e4, hol, how]
    rw [natlt i 64 (by omega), natlt i 16 (by omega), nat0, nat0, nat0, nat0, nat0, natlt (o + 4 * i) _ (by omega), natlt (o + (4 * i + 1)) _ (by omega), natlt (o + (4 * i + 2)) _ (by omega), natlt (o + (4 * i + 3)) _ (by omega)]
    simp only [cond_true, Int.toNat_natCast, Nat.zero_add]
    rw [natlt i _ (by omega), cond_true]
    rw [show 48 + (d + 1) = (48 + d) + 1 by omega, set_end _ _ _ _ (wl_length _ i)]
    have hw : wl ((mm.drop o).take 64) (i + 1) = wl ((mm.drop o).take 64) i ++ [sbe4 ((mm.drop o).take 64) i] := by simp only [wl, if_pos (show i < 16 by omega)]
    obtain ⟨x0, f0, g0⟩ := hm.nat (o + 4 * i)
    obtain ⟨x1, f1, g1⟩ := hm.nat (o + (4 * i + 1))
    obtain ⟨x2, f2, g2⟩ := hm.nat (o + (4 * i + 2))
    obtain ⟨x3, f3, g3⟩ := hm.nat (o + (4 * i + 3))
    have hb := be4_eq ((mm.drop o).take 64) i x0 x1 x2 x3 (by rw [blk_get _ _ _ (by omega), f0]) (by rw [blk_get _ _ _ (by omega), f1]) (by rw [blk_get _ _ _ (by omega), f2]) (by rw [blk_get _ _ _ (by omega), f3]) g0 g1 g2 g3
    rw [hw, hb, f0, f1, f2, f3]
    simp only [w32_mod]
    congr 4
    omega

theorem ref_rest {R : Type} (N : Nat) (ke : Int → Int → List Int → List Int → List Int → Option R) (at6 : Int) (h1 mm b : List Int) :
    ∀ (d i m : Nat), 16 ≤ i → i + d = 64 → d < m → rSum.L9 (rconstants.M N) (Padded.M N) (rturn.M N) N ke m at6 (i : Int) h1 mm (wl b i ++ List.replicate d 0) = ke at6 64 h1 mm (wl b 64) := by
  intro d
  induction d with
  | zero =>
    intro i m h16 hi hm
    obtain ⟨m, rfl⟩ : ∃ k, m = k + 1 := ⟨m - 1, by omega⟩
    obtain rfl : i = 64 := by omega
    unfold rSum.L9
    rw [List.replicate_zero, List.append_nil]
    rfl
  | succ d ih =>
    intro i m h16 hi hm
    obtain ⟨m, rfl⟩ : ∃ k, m = k + 1 := ⟨m - 1, by omega⟩
    unfold rSum.L9
    have e0 : IntKind.i64.wrap ((i : Int) - 15) = ((i - 15 : Nat) : Int) := by rw [wrap_i64z _ (by omega) (by omega)]; omega
    have e1 : IntKind.i64.wrap ((i : Int) - 2) = ((i - 2 : Nat) : Int) := by rw [wrap_i64z _ (by omega) (by omega)]; omega
    have e2 : IntKind.i64.wrap ((i : Int) - 16) = ((i - 16 : Nat) : Int) := by rw [wrap_i64z _ (by omega) (by omega)]; omega
    have e3 : IntKind.i64.wrap ((i : Int) - 7) = ((i - 7 : Nat) : Int) := by rw [wrap_i64z _ (by omega) (by omega)]; omega
    have e4 : IntKind.i64.wrap ((i : Int) + 1) = ((i + 1 : Nat) : Int) := by rw [wrap_i64z _ (by omega) (by omega)]; omega
    have how : olen none (wl b i ++ List.replicate (d + 1) (0 : Int)).length 0 = 64 := by
      show (wl b i ++ List.replicate (d + 1) (0 : Int)).length = 64
      rw [List.length_append, wl_length, List.length_replicate]; omega
    rw [e0, e1, e2, e3, e4, how]
    rw [natlt i 64 (by omega), decide_eq_false (show ¬ (i : Int) < 16 by omega), nat0, nat0, nat0, nat0, nat0]
    simp only [cond_true, cond_false, Int.toNat_natCast, Nat.zero_add]
    rw [natlt (i - 15) _ (by omega), natlt (i - 2) _ (by omega), natlt (i - 16) _ (by omega), natlt (i - 7) _ (by omega), natlt i _ (by omega)]
    simp only [cond_true]
    rw [rturn_eq N _ 17 15 (by decide), rturn_eq N _ 19 13 (by decide), rturn_eq N _ 7 25 (by decide), rturn_eq N _ 18 14 (by decide)]
    rw [wl_get b i (i - 15) _ (by omega), wl_get b i (i - 2) _ (by omega), wl_get b i (i - 16) _ (by omega), wl_get b i (i - 7) _ (by omega), set_end _ _ _ _ (wl_length b i)]
    have hw : wl b (i + 1) = wl b i ++ [wn (wl b i) i] := by simp only [wl, if_neg (show ¬ i < 16 by omega)]
    have hadd : ∀ p q s t : Int, IntKind.u32.wrap (IntKind.u32.wrap (IntKind.u32.wrap (p + q) + s) + t) = w32 (w32 (w32 (t + s) + q) + p) := by
      intro p q s t
      simp only [w32, w32_mod]
      omega
    rw [hadd]
    have := ih (i + 1) m (by omega) (by omega) (by omega)
    rw [hw] at this
    exact this

theorem ref_rounds {R : Type} (N : Nat) (ke : Int → Int → Int → Int → Int → Int → Int → Int → Int → Int → List Int → List Int → List Int → Option R) (at6 : Int) (h1 h2 w : List Int) (hw : w.length = 64) (s : S8) :
    ∀ (d i m : Nat), i + d = 64 → d < m → rSum.L18 (rconstants.M N) (Padded.M N) (rturn.M N) N ke m at6 (rds w i s).a (rds w i s).b (rds w i s).c (rds w i s).d (rds w i s).e (rds w i s).f (rds w i s).g (rds w i s).h (i : Int) h1 h2 w =
      ke at6 (rds w 64 s).a (rds w 64 s).b (rds w 64 s).c (rds w 64 s).d (rds w 64 s).e (rds w 64 s).f (rds w 64 s).g (rds w 64 s).h 64 h1 h2 w := by
  intro d
  induction d with
  | zero =>
    intro i m hi hm
    obtain ⟨m, rfl⟩ : ∃ k, m = k + 1 := ⟨m - 1, by omega⟩
    obtain rfl : i = 64 := by omega
    unfold rSum.L18
    rfl
  | succ d ih =>
    intro i m hi hm
    obtain ⟨m, rfl⟩ : ∃ k, m = k + 1 := ⟨m - 1, by omega⟩
    unfold rSum.L18
    have e4 : IntKind.i64.wrap ((i : Int) + 1) = ((i + 1 : Nat) : Int) := by rw [wrap_i64z _ (by omega) (by omega)]; omega
    have how : olen none w.length 0 = 64 := hw
    rw [e4, how, natlt i 64 (by omega), nat0]
    simp only [cond_true, Int.toNat_natCast, Nat.zero_add]
    rw [rturn_eq N _ 6 26 (by decide), rturn_eq N _ 11 21 (by decide), rturn_eq N _ 25 7 (by decide)]
    rw [natlt i _ (by omega), cond_true, rturn_eq N _ 2 30 (by decide), rturn_eq N _ 13 19 (by decide), rturn_eq N _ 22 10 (by decide)]
    have h := ih (i + 1) m (by omega) (by omega)
    rw [show rds w (i + 1) s = rnd (K256.getD i 0) (w.getD i 0) (rds w i s) from rfl] at h
    generalize rds w i s = v at *
    exact h

theorem ref_block {R : Type} (N : Nat) (hN : 100 < N) (ke : Int → List Int → List Int → Option R) (m : Nat) (o : Nat) (s : S8) (mm : List Int) (hm : isBy mm) (ho : o + 64 ≤ mm.length) (hl : mm.length ≤ 200000) :
    rSum.L5 (rconstants.M N) (Padded.M N) (rturn.M N) N ke (m + 1) (o : Int) s.l mm = rSum.L5 (rconstants.M N) (Padded.M N) (rturn.M N) N ke m ((o + 64 : Nat) : Int) (cmp s ((mm.drop o).take 64)).l mm := by
  conv => lhs; unfold rSum.L5
  have hol : olen none mm.length 0 = mm.length := rfl
  rw [hol, natlt o _ (by omega), cond_true]
  obtain ⟨m', hm1, hm2⟩ := ref_first (R := R) N (fun at6_c192 _t8_c193 h1_c194 h2_c195 h3_c196 => cond (decide (0 < (↑(olen none h1_c194.length 0) : Int)))
       (cond (decide (1 < (↑(olen none h1_c194.length 0) : Int)))
        (cond (decide (2 < (↑(olen none h1_c194.length 0) : Int)))
         (cond (decide (3 < (↑(olen none h1_c194.length 0) : Int)))
          (cond (decide (4 < (↑(olen none h1_c194.length 0) : Int)))
           (cond (decide (5 < (↑(olen none h1_c194.length 0) : Int)))
            (cond (decide (6 < (↑(olen none h1_c194.length 0) : Int)))
             (cond (decide (7 < (↑(olen none h1_c194.length 0) : Int)))
              (rSum.L18 (rconstants.M N) (Padded.M N) (rturn.M N) N
               (fun at6_c203 a12_c204 bb13_c205 c14_c206 d15_c207 e16_c208 f17_c209 g18_c210 hh19_c211 _t20_c212 h1_c213 h2_c214 _h3_c215 => rSum.L24 (rconstants.M N) (Padded.M N) (rturn.M N) N
                (fun at6_c216 _t222_c217 h1_c218 h2_c219 _h3_c220 => rSum.L5 (rconstants.M N) (Padded.M N) (rturn.M N) N ke m (IntKind.i64.wrap (at6_c216 + 64)) h1_c218 h2_c219) N at6_c203 0 h1_c213 h2_c214 ([a12_c204, bb13_c205, c14_c206, d15_c207, e16_c208, f17_c209, g18_c210, hh19_c211])) N at6_c192 (h1_c194.getD 0 0) (h1_c194.getD 1 0) (h1_c194.getD 2 0) (h1_c194.getD 3 0) (h1_c194.getD 4 0) (h1_c194.getD 5 0) (h1_c194.getD 6 0) (h1_c194.getD 7 0) 0 h1_c194 h2_c195 h3_c196)
              (none))
             (none))
            (none))
           (none))
          (none))
         (none))
        (none))
       (none)) o s.l mm hm ho hl 16 0 N (by omega) (by omega)
  refine Eq.trans hm2 ?_
  refine Eq.trans (ref_rest N _ (o : Int) s.l mm ((mm.drop o).take 64) 48 16 m' (by omega) (by omega) (by omega)) ?_
  have hr := ref_rounds (R := R) N (fun at6_c203 a12_c204 bb13_c205 c14_c206 d15_c207 e16_c208 f17_c209 g18_c210 hh19_c211 _t20_c212 h1_c213 h2_c214 _h3_c215 => rSum.L24 (rconstants.M N) (Padded.M N) (rturn.M N) N
                (fun at6_c216 _t222_c217 h1_c218 h2_c219 _h3_c220 => rSum.L5 (rconstants.M N) (Padded.M N) (rturn.M N) N ke m (IntKind.i64.wrap (at6_c216 + 64)) h1_c218 h2_c219) N at6_c203 0 h1_c213 h2_c214 ([a12_c204, bb13_c205, c14_c206, d15_c207, e16_c208, f17_c209, g18_c210, hh19_c211])) (o : Int) s.l mm (wl ((mm.drop o).take 64) 64) (wl_length _ _) s 64 0 N (by omega) (by omega)
  refine Eq.trans hr ?_
  have e4 : IntKind.i64.wrap ((o : Int) + 64) = ((o + 64 : Nat) : Int) := by rw [wrap_i64z _ (by omega) (by omega)]; omega
  unfold cmp
  generalize rds (wl ((mm.drop o).take 64) 64) 64 s = v
  rw [← e4]
  obtain ⟨M, rfl⟩ : ∃ M, N = M + 9 := ⟨N - 9, by omega⟩
  obtain ⟨v1, v2, v3, v4, v5, v6, v7, v8⟩ := v
  obtain ⟨u1, u2, u3, u4, u5, u6, u7, u8⟩ := s
  show _ = _
  kernel_rfl

theorem ref_blocks {R : Type} (N : Nat) (hN : 100 < N) (ke : Int → List Int → List Int → Option R) (mm : List Int) (hm : isBy mm) (q : Nat) (hq : mm.length = 64 * q) (hl : mm.length ≤ 200000) :
    ∀ (d j m : Nat), j + d = q → d < m → rSum.L5 (rconstants.M N) (Padded.M N) (rturn.M N) N ke m ((64 * j : Nat) : Int) (fb s256 mm j).l mm = ke ((64 * q : Nat) : Int) (fb s256 mm q).l mm := by
  intro d
  induction d with
  | zero =>
    intro j m hj hm'
    obtain ⟨m, rfl⟩ : ∃ k, m = k + 1 := ⟨m - 1, by omega⟩
    obtain rfl : j = q := by omega
    unfold rSum.L5
    have hol : olen none mm.length 0 = mm.length := rfl
    rw [hol, decide_eq_false (by omega), cond_false]
  | succ d ih =>
    intro j m hj hm'
    obtain ⟨m, rfl⟩ : ∃ k, m = k + 1 := ⟨m - 1, by omega⟩
    rw [ref_block N hN ke m (64 * j) _ mm hm (by omega) hl]
    exact ih (j + 1) m (by omega) (by omega)

theorem rSum_eq {R : Type} (N : Nat) (hN : 2000 < N) (x : Option Bool) (b : List Int) (hy : isBy b) (hb : b.length ≤ 90000) (r : List Int → Option R) : rSum.M N R x b r = r (dgst b) := by
  show rSum.m (rconstants.M N) (Padded.M N) (rturn.M N) N x b r = _
  unfold rSum.m
  show Padded.M N R x b _ = _
  rw [Padded_eq N (by omega) x b hb]
  have hlen := padm_length b
  have hz : zc b.length < 64 := Nat.mod_lt _ (by decide)
  have hl2 : (padm b).length = b.length + (1 + (zc b.length + 8)) := by
    unfold padm be8
    simp only [List.length_append, List.length_cons, List.length_replicate, nn, List.length_map, List.length_reverse, dig_length]
    omega
  refine Eq.trans (ref_blocks (R := R) N (by omega) _ (padm b) (padm_by hy) ((padm b).length / 64) hlen (by omega) ((padm b).length / 64) 0 N (by omega) (by omega)) ?_
  unfold dgst
  generalize fb s256 (padm b) ((padm b).length / 64) = s
  obtain ⟨M, rfl⟩ : ∃ M, N = M + 9 := ⟨N - 9, by omega⟩
  obtain ⟨v1, v2, v3, v4, v5, v6, v7, v8⟩ := s
  kernel_rfl

end Go.Proofs.YthajoenmfppenaaDoor.fn
