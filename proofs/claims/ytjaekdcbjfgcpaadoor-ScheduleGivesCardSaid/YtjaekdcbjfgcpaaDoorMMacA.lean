/- What the codes' functions and their references come to. -/
import Derived.Test.YtjaekdcbjfgcpaaDoorFnMac
import Derived.Test.YtjaekdcbjfgcpaaDoorFnMacR
import Derived.Test.YtjaekdcbjfgcpaaDoorMShaC
namespace Go.Proofs.YtjaekdcbjfgcpaaDoor.fn
open Go Go.Proofs Go.Ev Go.Dg

def key64 (k : List Int) : List Int := if k.length ≤ 64 then k else dgst k
def pad64 (k : List Int) : List Int := k ++ List.replicate (64 - k.length) 0
def xr (by' : Int) (l : List Int) : List Int := l.map fun x => ixor .u8 x by'
def kp (by' : Int) (k : List Int) : List Int := xr by' (pad64 (key64 k))
def hmac (k all : List Int) : List Int := dgst (kp 92 k ++ dgst (kp 54 k ++ all))

theorem key64_len (k : List Int) : (key64 k).length ≤ 64 := by
  unfold key64; split
  · assumption
  · rw [dgst_length]; omega
theorem pad64_len {k : List Int} (h : k.length ≤ 64) : (pad64 k).length = 64 := by
  unfold pad64; rw [List.length_append, List.length_replicate]; omega
theorem xr_len (b : Int) (l : List Int) : (xr b l).length = l.length := List.length_map _
theorem kp_len (b : Int) (k : List Int) : (kp b k).length = 64 := by unfold kp; rw [xr_len, pad64_len (key64_len k)]

theorem wrap8_by (z : Int) : 0 ≤ IntKind.u8.wrap z ∧ IntKind.u8.wrap z < 256 := by
  rw [wrap_u rfl]
  unfold un
  have := (BitVec.ofInt IntKind.u8.bits z).isLt
  have e : (2 : Nat) ^ IntKind.u8.bits = 256 := rfl
  rw [e] at this
  omega
theorem ixor_by (x y : Int) : 0 ≤ ixor .u8 x y ∧ ixor .u8 x y < 256 := wrap8_by _
theorem xr_by (b : Int) (l : List Int) : isBy (xr b l) := fun z hz => by
  obtain ⟨x, _, rfl⟩ := List.mem_map.1 hz
  exact ixor_by _ _
theorem kp_by (b : Int) (k : List Int) : isBy (kp b k) := xr_by _ _
theorem outw_by (w : Int) : isBy (outw w) := fun z hz => by
  unfold outw at hz
  simp only [List.mem_cons, List.not_mem_nil, or_false] at hz
  rcases hz with rfl | rfl | rfl | rfl <;> exact wrap8_by _
theorem dgst_by (l : List Int) : isBy (dgst l) := by
  unfold dgst out8
  exact (outw_by _).append ((outw_by _).append ((outw_by _).append ((outw_by _).append ((outw_by _).append ((outw_by _).append ((outw_by _).append (outw_by _)))))))
theorem cut32 (l : List Int) : cut (some 32) 0 (dgst l) = dgst l := by
  show (dgst l).take 32 = _
  rw [← dgst_length l, List.take_length]

theorem take_len (l : List Int) (i : Nat) (h : i ≤ l.length) : (l.take i).length = i := by rw [List.length_take]; omega

theorem pad_loop {R : Type} (N : Nat) (b : Int) (l : List Int) (hl : l.length ≤ 1000) (ke : Int → Int → Int → List Int → Option R) :
    ∀ (d i m : Nat), i + d = l.length → d < m → mpadded.L7 (sSum.M N) N ke m b (l.length : Int) (i : Int) (xr b (l.take i) ++ l.drop i) = ke b (l.length : Int) (l.length : Int) (xr b l) := by
  intro d
  induction d with
  | zero =>
    intro i m hi hm
    obtain ⟨m, rfl⟩ : ∃ k, m = k + 1 := ⟨m - 1, by omega⟩
    obtain rfl : i = l.length := by omega
    unfold mpadded.L7
    rw [decide_eq_false (by omega), cond_false, List.take_length, List.drop_length, List.append_nil]
  | succ d ih =>
    intro i m hi hm
    obtain ⟨m, rfl⟩ : ∃ k, m = k + 1 := ⟨m - 1, by omega⟩
    unfold mpadded.L7
    have hil : i < l.length := by omega
    have hx : (xr b (l.take i)).length = i := by rw [xr_len, take_len _ _ (by omega)]
    have hd : l.drop i = l[i] :: l.drop (i + 1) := List.drop_eq_getElem_cons hil
    have hol : olen none (xr b (l.take i) ++ l.drop i).length 0 = l.length := by
      show (xr b (l.take i) ++ l.drop i).length = l.length
      rw [List.length_append, hx, List.length_drop]; omega
    have e4 : IntKind.i64.wrap ((i : Int) + 1) = ((i + 1 : Nat) : Int) := by rw [wrap_i64z _ (by omega) (by omega)]; omega
    have hg : (xr b (l.take i) ++ l.drop i).getD (0 + ((i : Int)).toNat) 0 = l[i] := by
      rw [Nat.zero_add, Int.toNat_natCast, List.getD_eq_getElem?_getD, List.getElem?_append_right (by omega), hx, Nat.sub_self, hd]; rfl
    have hs : (xr b (l.take i) ++ l.drop i).set (0 + ((i : Int)).toNat) (ixor .u8 l[i] b) = xr b (l.take (i + 1)) ++ l.drop (i + 1) := by
      rw [Nat.zero_add, Int.toNat_natCast, List.set_append_right _ _ (by omega), hx, Nat.sub_self, hd, List.set_cons_zero, List.take_succ_eq_append_getElem hil]
      unfold xr
      rw [List.map_append, List.append_assoc]; rfl
    rw [hg, hs, hol, e4, natlt i _ (by omega), cond_true, nat0, cond_true, cond_true, cond_true, cond_true]
    exact ih (i + 1) m (by omega) (by omega)

theorem put64 (k : List Int) (h : k.length ≤ 64) : ([] ++ (List.take (min k.length 64) k ++ List.drop (0 + min k.length 64) [0, 0, 0, 0, 0, 0, 0, 0, 0, 0, 0, 0, 0, 0, 0, 0, 0, 0, 0, 0, 0, 0, 0, 0, 0, 0, 0, 0, 0, 0, 0, 0, 0, 0, 0, 0, 0, 0, 0, 0, 0, 0, 0, 0, 0, 0, 0, 0, 0, 0, 0, 0, 0, 0, 0, 0, 0, 0, 0, 0, 0, 0, 0, 0]) : List Int) = pad64 k := by
  rw [Nat.min_eq_left h, List.take_length, List.nil_append, Nat.zero_add]
  show k ++ List.drop k.length (List.replicate 64 0) = _
  rw [List.drop_replicate]
  rfl

theorem mpadded_eq {R : Type} (N : Nat) (hN : 2000 < N) (z : Option Bool) (k : List Int) (hk : k.length ≤ 60000) (b : Int) (r : List Int → Option R) : mpadded.M N R z k b r = r (kp b k) := by
  show mpadded.m (sSum.M N) N z k b r = _
  unfold mpadded.m
  have main : ∀ k' : List Int, k'.length ≤ 64 → mpadded.L7 (sSum.M N) N (fun _ _ _ h0_c10 => r h0_c10) N b (↑(olen none (pad64 k').length 0) : Int) 0 (pad64 k') = r (xr b (pad64 k')) := by
    intro k' hk'
    have := pad_loop (R := R) N b (pad64 k') (by rw [pad64_len hk']; omega) (fun _ _ _ h => r h) (pad64 k').length 0 N (by omega) (by rw [pad64_len hk']; omega)
    exact this
  by_cases h : k.length ≤ 64
  · rw [decide_eq_false (by omega), cond_false, put64 k h, main k h]
    unfold kp key64
    rw [if_pos h]
  · rw [decide_eq_true (by omega), cond_true, sSum_eq N hN [k] (by intro p hp; rw [List.mem_singleton.1 hp]; exact hk) (by simp), List.flatten_singleton, cut32, put64 (dgst k) (by rw [dgst_length]; omega), main (dgst k) (by rw [dgst_length]; omega)]
    unfold kp key64
    rw [if_neg h]

theorem msum_loop {R : Type} (N : Nat) (hN : 2000 < N) (x : Option Bool) (key pre : List Int) (parts : List (List Int)) (hp : ∀ p ∈ parts, p.length ≤ 60000) (hl : parts.length ≤ 1000) (hpre : pre.length ≤ 100)
    (ke : (Option Bool) → (List Int) → (List (List Int)) → Int → Int → (List Int) → Nat → (Option Nat) → Int → Bool → (List Int) → Option R) :
    ∀ (d i m : Nat) (st : List Int) (off : Nat) (len : Option Nat) (nl : Bool) (buf : List Int) (c : Int), i + d = parts.length → d < m → HS (pre ++ (parts.take i).flatten) st off len buf c → (parts.take i).flatten.length ≤ i * 60000 →
      ∃ st' off' len' c' nl' buf', HS (pre ++ parts.flatten) st' off' len' buf' c' ∧
        mSum.L4 (New.M N) (mpadded.M N) (Write.M N) (hSum.M N) (sSum.M N) N ke m x key parts (parts.length : Int) (i : Int) st off len c nl buf = ke x key parts (parts.length : Int) (parts.length : Int) st' off' len' c' nl' buf' := by
  intro d
  induction d with
  | zero =>
    intro i m st off len nl buf c hi hm h _
    obtain ⟨m, rfl⟩ : ∃ k, m = k + 1 := ⟨m - 1, by omega⟩
    obtain rfl : i = parts.length := by omega
    rw [List.take_length] at h
    refine ⟨st, off, len, c, nl, buf, h, ?_⟩
    unfold mSum.L4
    rw [decide_eq_false (by omega), cond_false]
  | succ d ih =>
    intro i m st off len nl buf c hi hm h hle
    obtain ⟨m, rfl⟩ : ∃ k, m = k + 1 := ⟨m - 1, by omega⟩
    have hil : i < parts.length := by omega
    have hpi := hp parts[i] (List.getElem_mem hil)
    have hmul : i * 60000 ≤ 1000 * 60000 := Nat.mul_le_mul_right _ (by omega)
    obtain ⟨st1, off1, len1, c1, buf1, h1, e1⟩ := Write_eq (R := R) N (by omega) h nl none parts[i] (by rw [List.length_append]; omega) (by omega)
    have htake : (parts.take i).flatten ++ parts[i] = (parts.take (i + 1)).flatten := by
      rw [List.take_succ_eq_append_getElem hil, List.flatten_append, List.flatten_singleton]
    rw [List.append_assoc, htake] at h1
    obtain ⟨st2, off2, len2, c2, nl2, buf2, h2, e2⟩ := ih (i + 1) m st1 off1 len1 _ buf1 c1 (by omega) (by omega) h1 (by
      rw [← htake, List.length_append, Nat.add_mul]; omega)
    refine ⟨st2, off2, len2, c2, nl2, buf2, h2, ?_⟩
    unfold mSum.L4
    have hg : parts.getD ((i : Int)).toNat [] = parts[i] := by rw [Int.toNat_natCast, List.getD_eq_getElem?_getD, List.getElem?_eq_getElem hil]; rfl
    have e4 : IntKind.i64.wrap ((i : Int) + 1) = ((i + 1 : Nat) : Int) := by rw [wrap_i64z _ (by omega) (by omega)]; omega
    rw [natlt i _ (by omega), cond_true, nat0, cond_true, cond_true, hg, e4, e1]
    exact e2

theorem flat_len (parts : List (List Int)) (n : Nat) (hp : ∀ p ∈ parts, p.length ≤ n) : parts.flatten.length ≤ parts.length * n := by
  induction parts with
  | nil => simp
  | cons a l ih =>
    have h1 := hp a (List.mem_cons_self ..)
    have h2 := ih (fun p hp' => hp p (List.mem_cons_of_mem _ hp'))
    rw [List.flatten_cons, List.length_append, List.length_cons, Nat.add_mul]
    omega

theorem mSum_eq {R : Type} (N : Nat) (hN : 2000 < N) (x : Option Bool) (key : List Int) (hk : key.length ≤ 60000) (parts : List (List Int)) (hp : ∀ p ∈ parts, p.length ≤ 60000) (hl : parts.length ≤ 1000) (r : List Int → Option R) :
    mSum.M N R x key parts r = r (hmac key parts.flatten) := by
  have hf := flat_len parts 60000 hp
  have hmul : parts.length * 60000 ≤ 1000 * 60000 := Nat.mul_le_mul_right _ hl
  show mSum.m (New.M N) (mpadded.M N) (Write.M N) (hSum.M N) (sSum.M N) N x key parts r = _
  unfold mSum.m
  show mpadded.M N R x key 54 _ = _
  rw [mpadded_eq N hN x key hk]
  obtain ⟨st1, off1, len1, c1, buf1, h1, e1⟩ := Write_eq (R := R) N (by omega) HS.none true none (kp 54 key) (by rw [kp_len]; simp) (by rw [kp_len]; omega)
  refine Eq.trans (e1 _) ?_
  rw [List.nil_append] at h1
  obtain ⟨st2, off2, len2, c2, nl2, buf2, h2, e2⟩ := msum_loop (R := R) N hN x key (kp 54 key) parts hp hl (by rw [kp_len]; omega) (fun key0_c59 key0_1_c60 _t14_c61 _t15_c62 _t16_c63 h1_c64 h1_6_c65 h1_7_c66 h1_8_c67 h2_c68 h2_10_c69 => hSum.M N R h1_c64 h1_6_c65 h1_7_c66 h2_c68 h2_10_c69 h1_8_c67
       (fun v_c70 _b_c71 _b_2_c72 _b_3_c73 _b_4_c74 _b_5_c75 _b_6_c76 => mpadded.M N R key0_c59 key0_1_c60 92
        (fun b_c77 => sSum.M N R ([b_c77, cut (some 32) 0 v_c70])
         (fun v_c78 => r v_c78)))) parts.length 0 N st1 off1 len1 ((kp 54 key).isEmpty && true) buf1 c1 (by omega) (by omega) (by simpa using h1) (by simp)
  refine Eq.trans e2 ?_
  show hSum.M N R _ _ _ _ _ _ _ = _
  have hlen : (kp 54 key ++ parts.flatten).length = 64 + parts.flatten.length := by rw [List.length_append, kp_len]
  rw [hSum_eq N (by omega) h2 (by omega), mpadded_eq N hN x key hk, cut32, sSum_eq N hN [kp 92 key, dgst (kp 54 key ++ parts.flatten)] (by
    intro p hp
    simp only [List.mem_cons, List.not_mem_nil, or_false] at hp
    rcases hp with rfl | rfl
    · rw [kp_len]; omega
    · rw [dgst_length]; omega) (by simp)]
  have hfl : [kp 92 key, dgst (kp 54 key ++ parts.flatten)].flatten = kp 92 key ++ dgst (kp 54 key ++ parts.flatten) := by simp only [List.flatten_cons, List.flatten_nil, List.append_nil]
  rw [hfl]
  rfl

/-! ### the reference -/

theorem pad64_get (k : List Int) (i : Nat) (hi : i < (pad64 k).length) : (pad64 k)[i] = k.getD i 0 := by
  unfold pad64 at hi ⊢
  rw [List.getElem_append]
  split
  · rw [List.getD_eq_getElem?_getD, List.getElem?_eq_getElem (by assumption)]; rfl
  · rw [List.getElem_replicate, List.getD_eq_getElem?_getD, List.getElem?_eq_none (by omega)]; rfl

theorem m4_loop {R : Type} (N : Nat) (x y : Option Bool) (k b : List Int) (hk : k.length ≤ 64) (ke : (Option Bool) → (List Int) → (Option Bool) → (List Int) → Int → (List Int) → (List Int) → Option R) :
    ∀ (d i m : Nat), i + d = 64 → d < m → m4Sum.L6 (rSum.M N) N ke m x k y b (i : Int) (xr 54 ((pad64 k).take i) ++ List.replicate d 0) (xr 92 ((pad64 k).take i) ++ List.replicate d 0) = ke x k y b 64 (xr 54 (pad64 k)) (xr 92 (pad64 k)) := by
  intro d
  have hl := pad64_len hk
  induction d with
  | zero =>
    intro i m hi hm
    obtain ⟨m, rfl⟩ : ∃ k, m = k + 1 := ⟨m - 1, by omega⟩
    obtain rfl : i = 64 := by omega
    unfold m4Sum.L6
    have : (pad64 k).take 64 = pad64 k := by rw [← hl, List.take_length]
    rw [this, List.replicate_zero, List.append_nil, List.append_nil]
    rfl
  | succ d ih =>
    intro i m hi hm
    obtain ⟨m, rfl⟩ : ∃ k, m = k + 1 := ⟨m - 1, by omega⟩
    unfold m4Sum.L6
    have hil : i < (pad64 k).length := by omega
    have hx : ∀ c, (xr c ((pad64 k).take i)).length = i := fun c => by rw [xr_len, take_len _ _ (by omega)]
    have hol : ∀ c, olen none (xr c ((pad64 k).take i) ++ List.replicate (d + 1) (0 : Int)).length 0 = 64 := fun c => by
      show (xr c ((pad64 k).take i) ++ List.replicate (d + 1) (0 : Int)).length = 64
      rw [List.length_append, hx, List.length_replicate]; omega
    have e4 : IntKind.i64.wrap ((i : Int) + 1) = ((i + 1 : Nat) : Int) := by rw [wrap_i64z _ (by omega) (by omega)]; omega
    have hs : ∀ c v, v = ixor .u8 (k.getD i 0) c → (xr c ((pad64 k).take i) ++ List.replicate (d + 1) 0).set (0 + ((i : Int)).toNat) v = xr c ((pad64 k).take (i + 1)) ++ List.replicate d 0 := by
      intro c v hv
      rw [Nat.zero_add, Int.toNat_natCast, set_end _ _ _ _ (hx c), List.take_succ_eq_append_getElem hil, pad64_get k, hv]
      unfold xr
      rw [List.map_append]; rfl
    rw [hol, hol, e4, natlt i 64 (by omega), cond_true, nat0, natlt i ((64 : Nat) : Int) (by omega)]
    simp only [cond_true]
    by_cases hik : i < k.length
    · rw [natlt i (k.length : Int) (by omega), cond_true, cond_true, Int.toNat_natCast]
      have h54 := hs 54 _ rfl
      have h92 := hs 92 _ rfl
      rw [Int.toNat_natCast] at h54 h92
      rw [h54, h92]
      exact ih (i + 1) m (by omega) (by omega)
    · rw [decide_eq_false (by omega), cond_false]
      have hz : k.getD i 0 = 0 := by rw [List.getD_eq_getElem?_getD, List.getElem?_eq_none (by omega)]; rfl
      rw [hs 54 54 (by rw [hz]; decide), hs 92 92 (by rw [hz]; decide)]
      exact ih (i + 1) m (by omega) (by omega)

theorem m4Sum_eq {R : Type} (N : Nat) (hN : 2000 < N) (x y : Option Bool) (k b : List Int) (hy : isBy k) (hyb : isBy b) (hk : k.length ≤ 80000) (hb : b.length ≤ 80000) (r : List Int → Option R) : m4Sum.M N R x k y b r = r (hmac k b) := by
  show m4Sum.m (rSum.M N) N x k y b r = _
  unfold m4Sum.m
  have main : ∀ (x' : Option Bool) (k' : List Int), k'.length ≤ 64 → m4Sum.L6 (rSum.M N) N (fun _key0_c20 _key0_1_c21 _b1_c22 b1_3_c23 _i8_c24 h1_c25 h2_c26 => cond (decide ((h1_c25.length + b1_3_c23.length) * 1 ≤ 140737488355328))
      (cond (decide (h1_c25.length + b1_3_c23.length ≤ 140737488355328))
       (rSum.M N R none (cut none 0 (h1_c25 ++ b1_3_c23))
        (fun v_c27 => cond (decide ((h2_c26.length + (cut (some 32) 0 v_c27).length) * 1 ≤ 140737488355328))
         (cond (decide (h2_c26.length + (cut (some 32) 0 v_c27).length ≤ 140737488355328))
          (rSum.M N R none (cut none 0 (h2_c26 ++ cut (some 32) 0 v_c27))
           (fun v_c28 => r v_c28))
          (none))
         (none)))
       (none))
      (none)) N x' k' y b 0 (List.replicate 64 0) (List.replicate 64 0) = r (dgst (xr 92 (pad64 k') ++ dgst (xr 54 (pad64 k') ++ b))) := by
    intro x' k' hk'
    have h := m4_loop (R := R) N x' y k' b hk' (fun _key0_c20 _key0_1_c21 _b1_c22 b1_3_c23 _i8_c24 h1_c25 h2_c26 => cond (decide ((h1_c25.length + b1_3_c23.length) * 1 ≤ 140737488355328))
      (cond (decide (h1_c25.length + b1_3_c23.length ≤ 140737488355328))
       (rSum.M N R none (cut none 0 (h1_c25 ++ b1_3_c23))
        (fun v_c27 => cond (decide ((h2_c26.length + (cut (some 32) 0 v_c27).length) * 1 ≤ 140737488355328))
         (cond (decide (h2_c26.length + (cut (some 32) 0 v_c27).length ≤ 140737488355328))
          (rSum.M N R none (cut none 0 (h2_c26 ++ cut (some 32) 0 v_c27))
           (fun v_c28 => r v_c28))
          (none))
         (none)))
       (none))
      (none)) 64 0 N (by omega) (by omega)
    refine Eq.trans h ?_
    have hl : ∀ c, (xr c (pad64 k')).length = 64 := fun c => by rw [xr_len, pad64_len hk']
    have h1 := hl 54
    have h2 := hl 92
    show cond (decide (((xr 54 (pad64 k')).length + b.length) * 1 ≤ 140737488355328)) _ _ = _
    rw [h1, decide_eq_true (by omega), cond_true, decide_eq_true (by omega), cond_true]
    show rSum.M N R none (xr 54 (pad64 k') ++ b) _ = _
    rw [rSum_eq N hN none _ ((xr_by _ _).append hyb) (by rw [List.length_append]; omega), cut32, h2, dgst_length]
    show rSum.M N R none (xr 92 (pad64 k') ++ dgst (xr 54 (pad64 k') ++ b)) _ = _
    rw [rSum_eq N hN none _ ((xr_by _ _).append (dgst_by _)) (by rw [List.length_append, dgst_length]; omega)]
  by_cases h : k.length ≤ 64
  · rw [decide_eq_false (by omega), cond_false]
    refine Eq.trans (main x k h) ?_
    unfold hmac kp key64
    rw [if_pos h]
  · rw [decide_eq_true (by omega), cond_true, rSum_eq N hN x k hy (by omega), cut32]
    refine Eq.trans (main none (dgst k) (by rw [dgst_length]; omega)) ?_
    unfold hmac kp key64
    rw [if_neg h]

end Go.Proofs.YtjaekdcbjfgcpaaDoor.fn
