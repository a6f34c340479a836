/- What the digests' functions come to: bytes that come one behind the other, and their digest. -/
import Derived.Test.YthajoenmfppenaaDoorMHA
import Derived.Test.YthajoenmfppenaaDoorMPutBig
import Derived.Test.YthajoenmfppenaaDoorClone
namespace Go.Proofs.YthajoenmfppenaaDoor.fn
open Go Go.Proofs Go.Ev Go.Dg
def s256 : S8 := ⟨1779033703, 3144134277, 1013904242, 2773480762, 1359893119, 2600822924, 528734635, 1541459225⟩
def fb (s : S8) (l : List Int) : Nat → S8
  | 0 => s
  | n + 1 => cmp (fb s l n) ((l.drop (64 * n)).take 64)
theorem fb_app (s : S8) (l m : List Int) : ∀ n, 64 * n ≤ l.length → fb s (l ++ m) n = fb s l n
  | 0, _ => rfl
  | n + 1, h => by
    have e : ((l ++ m).drop (64 * n)).take 64 = (l.drop (64 * n)).take 64 := by
      rw [List.drop_append_of_le_length (by omega), List.take_append_of_le_length (by rw [List.length_drop]; omega)]
    show cmp (fb s (l ++ m) n) _ = cmp (fb s l n) _
    rw [fb_app s l m n (by omega), e]
theorem fb_add (s : S8) (l : List Int) (a : Nat) : ∀ b, fb s l (a + b) = fb (fb s l a) (l.drop (64 * a)) b
  | 0 => rfl
  | b + 1 => by
    show cmp (fb s l (a + b)) ((l.drop (64 * (a + b))).take 64) = cmp (fb (fb s l a) (l.drop (64 * a)) b) (((l.drop (64 * a)).drop (64 * b)).take 64)
    rw [fb_add s l a b, List.drop_drop, show 64 * (a + b) = 64 * a + 64 * b by omega]
def lenOk (len : Option Nat) (buf : List Int) (off : Nat) : Prop := len = none ∨ len = some (buf.length - off)
theorem lenOk.olen {len : Option Nat} {buf : List Int} {off : Nat} (h : lenOk len buf off) : olen len buf.length off = buf.length - off := by rcases h with rfl | rfl <;> rfl
theorem lenOk.cut {len : Option Nat} {buf : List Int} {off : Nat} (h : lenOk len buf off) : Ev.cut len off buf = buf.drop off := by
  rcases h with rfl | rfl
  · rfl
  · show (buf.drop off).take (buf.length - off) = _
    rw [← List.length_drop, List.take_length]
theorem write_loop {R : Type} (N : Nat) (hN : 100 < N) (s : S8) (c : Int) (nl : Bool) (buf : List Int) : ∀ (d j m : Nat) (len : Option Nat), 64 * j ≤ buf.length → (buf.length - 64 * j) / 64 = d → d < m → lenOk len buf (64 * j) →
    ∃ len', lenOk len' buf (64 * (j + d)) ∧ ∀ ke, Write.L2 (R := R) (take.M N) N ke m (fb s buf j).l (64 * j) len c nl buf = ke (fb s buf (j + d)).l (64 * (j + d)) len' c nl buf := by
  intro d
  induction d with
  | zero =>
    intro j m len hj hd hm hl
    obtain ⟨m, rfl⟩ : ∃ k, m = k + 1 := ⟨m - 1, by omega⟩
    refine ⟨len, hl, fun ke => ?_⟩
    unfold Write.L2
    rw [hl.olen, decide_eq_false (by omega), cond_false]
    rfl
  | succ d ih =>
    intro j m len hj hd hm hl
    obtain ⟨m, rfl⟩ : ∃ k, m = k + 1 := ⟨m - 1, by omega⟩
    have hlen : ((buf.drop (64 * j)).take 64).length = 64 := by rw [List.length_take, List.length_drop]; omega
    obtain ⟨len', h1, h2⟩ := ih (j + 1) m (some (buf.length - 64 * j - 64)) (by omega) (by omega) (by omega) (.inr (by rw [show 64 * (j + 1) = 64 * j + 64 by omega, Nat.sub_add_eq]))
    rw [show j + 1 + d = j + (d + 1) by omega] at h1 h2
    refine ⟨len', h1, fun ke => ?_⟩
    rw [← h2 ke]
    conv => lhs; unfold Write.L2
    rw [hl.olen, show decide (((buf.length - 64 * j : Nat) : Int) ≥ 64) = true from decide_eq_true (by omega), cond_true, cond_true]
    rw [show cut (some 64) (64 * j + 0) buf = (buf.drop (64 * j)).take 64 from rfl, take_eq N hN _ none _ hlen]
    rfl
structure HS (all st : List Int) (off : Nat) (len : Option Nat) (buf : List Int) (c : Int) : Prop where
  st : st = (fb s256 all (all.length / 64)).l
  le : off ≤ buf.length
  len : lenOk len buf off
  rest : buf.drop off = all.drop (64 * (all.length / 64))
  cnt : c = (all.length : Int)
  big : all.length < 1000000000
theorem HS.none : HS [] s256.l 0 none [] 0 := ⟨rfl, Nat.le_refl _, .inl rfl, rfl, rfl, by decide⟩
theorem HS.rest_len {all st : List Int} {off : Nat} {len : Option Nat} {buf : List Int} {c : Int} (h : HS all st off len buf c) : buf.length - off = all.length % 64 := by
  have := congrArg List.length h.rest
  rw [List.length_drop, List.length_drop] at this
  omega
theorem Write_eq {R : Type} (N : Nat) (hN : 1000 < N) {all st : List Int} {off : Nat} {len : Option Nat} {buf : List Int} {c : Int} (h : HS all st off len buf c) (nl : Bool) (z : Option Bool) (b : List Int) (hb : all.length + b.length < 1000000000) (hf : b.length / 64 + 2 < N) :
    ∃ st' off' len' c' buf', HS (all ++ b) st' off' len' buf' c' ∧ ∀ κ, Write.M N R st off len nl buf c z b κ = κ st' off' len' c' (b.isEmpty && nl) buf' := by
  have hrl := h.rest_len
  have hcut := h.len.cut
  have hlen : (buf.drop off ++ b).length = (buf.drop off).length + b.length := List.length_append
  have hq : ((all ++ b).length) / 64 = all.length / 64 + ((buf.drop off ++ b).length - 64 * 0) / 64 := by
    rw [List.length_append, List.length_append, List.length_drop, hrl]; omega
  obtain ⟨len', h1, h2⟩ := write_loop (R := R) N (by omega) (fb s256 all (all.length / 64)) ((all.length + b.length : Nat) : Int) (b.isEmpty && nl) (buf.drop off ++ b) _ 0 N none (by omega) rfl (by
    rw [List.length_append, List.length_drop, hrl]; omega) (.inl rfl)
  rw [Nat.zero_add] at h1 h2
  refine ⟨(fb (fb s256 all (all.length / 64)) (buf.drop off ++ b) (((buf.drop off ++ b).length - 64 * 0) / 64)).l, 64 * (((buf.drop off ++ b).length - 64 * 0) / 64), len', ((all.length + b.length : Nat) : Int), buf.drop off ++ b, ⟨?_, ?_, h1, ?_, ?_, by rw [List.length_append]; exact hb⟩, fun κ => ?_⟩
  rotate_left 4
  · show Write.m (take.M N) N _ _ _ _ _ _ _ _ κ = _
    unfold Write.m
    rw [hcut, h.st, h.cnt]
    have hl : (buf.drop off).length + b.length < 140737488355328 := by rw [List.length_drop]; omega
    rw [decide_eq_true (by omega), cond_true, decide_eq_true (by omega), cond_true]
    have e : IntKind.u64.wrap ((all.length : Int) + IntKind.u64.wrap (b.length : Int)) = ((all.length + b.length : Nat) : Int) := by
      rw [wrap_u64 _ (by omega), ← Int.natCast_add, wrap_u64 _ (by omega)]
    rw [e]
    exact h2 fun a b c d e f => κ a b c d e f
  · have e : (all ++ b).drop (64 * (all.length / 64)) = buf.drop off ++ b := by rw [List.drop_append_of_le_length (by omega), h.rest]
    rw [show (all ++ b).length / 64 = _ from hq, fb_add s256 (all ++ b) _ _, fb_app s256 all b _ (Nat.mul_div_le _ _), e]
  · omega
  · have e : (all ++ b).drop (64 * (all.length / 64)) = buf.drop off ++ b := by rw [List.drop_append_of_le_length (by omega), h.rest]
    rw [hq, Nat.mul_add, ← List.drop_drop, e]
  · rw [List.length_append]
def zc (n : Nat) : Nat := (119 - n % 64) % 64
def be8 (n : Nat) : List Int := nn (dig 256 8 n).reverse
def padm (all : List Int) : List Int := all ++ 128 :: (List.replicate (zc all.length) 0 ++ be8 (8 * all.length))
def outw (w : Int) : List Int := [IntKind.u8.wrap (ishr .u32 w 24), IntKind.u8.wrap (ishr .u32 w 16), IntKind.u8.wrap (ishr .u32 w 8), IntKind.u8.wrap w]
def out8 (s : S8) : List Int := outw s.a ++ (outw s.b ++ (outw s.c ++ (outw s.d ++ (outw s.e ++ (outw s.f ++ (outw s.g ++ outw s.h))))))
def dgst (all : List Int) : List Int := out8 (fb s256 (padm all) ((padm all).length / 64))
theorem zero_loop {R : Type} (N : Nat) (hN : 1000 < N) (a0 : List Int) (a1 : Nat) (a2 : Option Nat) (a3 : Int) (cnt : List Int) (a5 : Bool) (a6 : List Int) (all : List Int) (hall : all.length < 900000000) :
    ∀ (d k m : Nat) (st : List Int) (off : Nat) (len : Option Nat) (nl : Bool) (buf : List Int) (c : Int), k + d = zc all.length → d < m → HS (all ++ 128 :: List.replicate k 0) st off len buf c →
      ∃ st' off' len' c' nl' buf', HS (all ++ 128 :: List.replicate (zc all.length) 0) st' off' len' buf' c' ∧
        ∀ ke, hSum.L6 (R := R) (Copy.M N) (PutBig.M N) (Write.M N) N ke m a0 a1 a2 a3 st off len c cnt a5 a6 nl buf = ke a0 a1 a2 a3 st' off' len' c' cnt a5 a6 nl' buf' := by
  intro d
  induction d with
  | zero =>
    intro k m st off len nl buf c hk hm h
    obtain ⟨m, rfl⟩ : ∃ k, m = k + 1 := ⟨m - 1, by omega⟩
    obtain rfl : k = zc all.length := by omega
    refine ⟨st, off, len, c, nl, buf, h, fun ke => ?_⟩
    have hr := h.rest_len
    rw [List.length_append, List.length_cons, List.length_replicate] at hr
    unfold hSum.L6
    rw [h.len.olen, show buf.length - off = 56 by unfold zc at hr; omega]
    rfl
  | succ d ih =>
    intro k m st off len nl buf c hk hm h
    obtain ⟨m, rfl⟩ : ∃ k, m = k + 1 := ⟨m - 1, by omega⟩
    have hr := h.rest_len
    rw [List.length_append, List.length_cons, List.length_replicate] at hr
    have hz : zc all.length < 64 := Nat.mod_lt _ (by decide)
    obtain ⟨st1, off1, len1, c1, buf1, h1, e1⟩ := Write_eq (R := R) N hN h nl none [0] (by simp; omega) (by simp; omega)
    have hall' : (all ++ 128 :: List.replicate k 0) ++ [0] = all ++ 128 :: List.replicate (k + 1) (0 : Int) := by
      rw [List.append_assoc, List.cons_append, List.replicate_succ']
    rw [hall'] at h1
    obtain ⟨st2, off2, len2, c2, nl2, buf2, h2, e2⟩ := ih (k + 1) m st1 off1 len1 _ buf1 c1 (by omega) (by omega) h1
    refine ⟨st2, off2, len2, c2, nl2, buf2, h2, fun ke => ?_⟩
    unfold hSum.L6
    have hne : (((olen len buf.length off : Nat) : Int) != 56) = true := by
      rw [h.len.olen, bne_iff_ne]
      unfold zc at hk hz
      omega
    rw [hne, cond_true, e1]
    exact e2 ke
theorem hSum_eq {R : Type} (N : Nat) (hN : 1000 < N) {all st : List Int} {off : Nat} {len : Option Nat} {buf : List Int} {c : Int} (h : HS all st off len buf c) (hall : all.length < 900000000) (nl : Bool) (κ : List Int → List Int → Nat → Option Nat → Int → Bool → List Int → Option R) :
    hSum.M N R st off len nl buf c κ = κ (dgst all) st off len c nl buf := by
  have hrl := h.rest_len
  have hcut := h.len.cut
  show hSum.m (Copy.M N) (PutBig.M N) (Write.M N) N _ _ _ _ _ _ κ = _
  unfold hSum.m
  have hbig : Clone.big (buf.drop off) = true := decide_eq_true (by rw [List.length_drop]; omega)
  have hcopy : ∀ k, Copy.M N R st off len nl buf c k = k st off len c nl buf st c (buf.drop off).isEmpty (buf.drop off) := by
    intro k
    show Clone.M N R (cut len off buf) _ = _
    rw [hcut]
    show cond (Clone.big (buf.drop off)) _ none = _
    rw [hbig]
    rfl
  have hcp : HS all st 0 none (buf.drop off) c := ⟨h.st, Nat.zero_le _, .inl rfl, by rw [List.drop_zero]; exact h.rest, h.cnt, h.big⟩
  rw [hcopy, h.cnt]
  have e8 : IntKind.u64.wrap (8 * (all.length : Int)) = ((8 * all.length : Nat) : Int) := by
    have : (8 * (all.length : Int)) = ((8 * all.length : Nat) : Int) := by omega
    rw [this, wrap_u64 _ (by omega)]
  have hput := PutBig_eq (R := R) N hN (8 * all.length) 8 (by omega) (by omega)
  rw [e8]
  refine Eq.trans (hput _ _) ?_
  rw [h.cnt] at hcp
  obtain ⟨st1, off1, len1, c1, buf1, h1, e1⟩ := Write_eq (R := R) N hN hcp (buf.drop off).isEmpty none [128] (by simp; omega) (by simp; omega)
  have hz : zc all.length < 64 := Nat.mod_lt _ (by decide)
  obtain ⟨st2, off2, len2, c2, nl2, buf2, h2, e2⟩ := zero_loop (R := R) N hN st off len (all.length : Int) (be8 (8 * all.length)) nl buf all hall (zc all.length) 0 N st1 off1 len1 _ buf1 c1 (by omega) (by omega) h1
  have hl8 : (be8 (8 * all.length)).length = 8 := by unfold be8; rw [nn, List.length_map, List.length_reverse, dig_length]
  obtain ⟨st3, off3, len3, c3, buf3, h3, e3⟩ := Write_eq (R := R) N hN h2 nl2 none (be8 (8 * all.length)) (by rw [hl8, List.length_append, List.length_cons, List.length_replicate]; omega) (by rw [hl8]; omega)
  have hpad : (all ++ 128 :: List.replicate (zc all.length) 0) ++ be8 (8 * all.length) = padm all := by
    unfold padm
    rw [List.append_assoc, List.cons_append]
  rw [hpad] at h3
  rw [e1]
  refine Eq.trans (e2 _) ?_
  refine Eq.trans (e3 _) ?_
  rw [h3.st]
  unfold dgst
  generalize fb s256 (padm all) ((padm all).length / 64) = s
  obtain ⟨M, rfl⟩ : ∃ M, N = M + 9 := ⟨N - 9, by omega⟩
  obtain ⟨v1, v2, v3, v4, v5, v6, v7, v8⟩ := s
  kernel_rfl
theorem parts_loop {R : Type} (N : Nat) (hN : 1000 < N) (parts : List (List Int)) (hp : ∀ p ∈ parts, p.length ≤ 60000) (hl : parts.length ≤ 1000) :
    ∀ (d i m : Nat) (st : List Int) (off : Nat) (len : Option Nat) (nl : Bool) (buf : List Int) (c : Int), i + d = parts.length → d < m → HS (parts.take i).flatten st off len buf c → (parts.take i).flatten.length ≤ i * 60000 →
      ∃ st' off' len' c' nl' buf', HS parts.flatten st' off' len' buf' c' ∧
        ∀ ke, sSum.L3 (R := R) (New.M N) (Write.M N) (hSum.M N) N ke m parts (parts.length : Int) (i : Int) st off len c nl buf = ke parts (parts.length : Int) (parts.length : Int) st' off' len' c' nl' buf' := by
  intro d
  induction d with
  | zero =>
    intro i m st off len nl buf c hi hm h _
    obtain ⟨m, rfl⟩ : ∃ k, m = k + 1 := ⟨m - 1, by omega⟩
    obtain rfl : i = parts.length := by omega
    rw [List.take_length] at h
    refine ⟨st, off, len, c, nl, buf, h, fun ke => ?_⟩
    unfold sSum.L3
    rw [decide_eq_false (by omega), cond_false]
  | succ d ih =>
    intro i m st off len nl buf c hi hm h hle
    obtain ⟨m, rfl⟩ : ∃ k, m = k + 1 := ⟨m - 1, by omega⟩
    have hil : i < parts.length := by omega
    have hpi := hp parts[i] (List.getElem_mem hil)
    have hmul : i * 60000 ≤ 1000 * 60000 := Nat.mul_le_mul_right _ (by omega)
    obtain ⟨st1, off1, len1, c1, buf1, h1, e1⟩ := Write_eq (R := R) N hN h nl none parts[i] (by omega) (by omega)
    have htake : (parts.take i).flatten ++ parts[i] = (parts.take (i + 1)).flatten := by
      rw [List.take_succ_eq_append_getElem hil, List.flatten_append, List.flatten_singleton]
    rw [htake] at h1
    obtain ⟨st2, off2, len2, c2, nl2, buf2, h2, e2⟩ := ih (i + 1) m st1 off1 len1 _ buf1 c1 (by omega) (by omega) h1 (by
      rw [← htake, List.length_append, Nat.add_mul]; omega)
    refine ⟨st2, off2, len2, c2, nl2, buf2, h2, fun ke => ?_⟩
    unfold sSum.L3
    have hg : parts.getD ((i : Int)).toNat [] = parts[i] := by rw [Int.toNat_natCast, List.getD_eq_getElem?_getD, List.getElem?_eq_getElem hil]; rfl
    rw [natlt i _ (by omega), cond_true, nat0, cond_true, cond_true, hg, e1]
    have e4 : IntKind.i64.wrap ((i : Int) + 1) = ((i + 1 : Nat) : Int) := by rw [wrap_i64z _ (by omega) (by omega)]; omega
    rw [e4]
    exact e2 ke
theorem sSum_eq {R : Type} (N : Nat) (hN : 2000 < N) (parts : List (List Int)) (hp : ∀ p ∈ parts, p.length ≤ 60000) (hl : parts.length ≤ 1000) (κ : List Int → Option R) : sSum.M N R parts κ = κ (dgst parts.flatten) := by
  obtain ⟨st', off', len', c', nl', buf', h, e⟩ := parts_loop (R := R) N (by omega) parts hp hl parts.length 0 N s256.l 0 none true [] 0 (by omega) (by omega) HS.none (by simp)
  have hf : parts.flatten.length ≤ parts.length * 60000 := by
    clear e h
    induction parts with
    | nil => simp
    | cons a l ih =>
      have h1 := hp a (List.mem_cons_self ..)
      have h2 := ih (fun p hp' => hp p (List.mem_cons_of_mem _ hp')) (by simp at hl; omega)
      rw [List.flatten_cons, List.length_append, List.length_cons, Nat.add_mul]
      omega
  have hmul : parts.length * 60000 ≤ 1000 * 60000 := Nat.mul_le_mul_right _ hl
  show sSum.L3 (New.M N) (Write.M N) (hSum.M N) N _ N parts _ 0 _ _ _ _ _ _ = _
  refine Eq.trans (e _) ?_
  rw [hSum_eq N (by omega) h (by omega)]
end Go.Proofs.YthajoenmfppenaaDoor.fn
