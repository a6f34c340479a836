/- What the digests' functions come to: words of a block, rounds, a block taken. -/
import Derived.Test.YthajoenmfppenaaDoorNum
import Derived.Test.YthajoenmfppenaaDoorFnSha
namespace Go.Proofs.YthajoenmfppenaaDoor.fn
open Go Go.Proofs Go.Ev Go.Dg
abbrev w32 (z : Int) : Int := IntKind.u32.wrap z
def rr (x a b : Int) : Int := ior .u32 (ishr .u32 x a) (ishl .u32 x b)
theorem Right_eq {R : Type} (N : Nat) (x n m : Int) (h1 : (IntKind.u64.wrap n).tmod 32 = n) (h2 : IntKind.u64.wrap (32 - n) = m) (r : Int → Option R) : Right.M N R x n r = r (rr x n m) := by
  show r (ior .u32 (ishr .u32 x ((IntKind.u64.wrap n).tmod 32)) (ishl .u32 x (IntKind.u64.wrap (32 - (IntKind.u64.wrap n).tmod 32)))) = _
  rw [h1, h2]
  rfl
def ss0 (x : Int) : Int := ixor .u32 (ixor .u32 (rr x 7 25) (rr x 18 14)) (ishr .u32 x 3)
def ss1 (x : Int) : Int := ixor .u32 (ixor .u32 (rr x 17 15) (rr x 19 13)) (ishr .u32 x 10)
def wn (p : List Int) (i : Nat) : Int := w32 (w32 (w32 (p.getD (i - 16) 0 + ss0 (p.getD (i - 15) 0)) + p.getD (i - 7) 0) + ss1 (p.getD (i - 2) 0))
def sbe4 (b : List Int) (i : Nat) : Int := ior .u32 (ior .u32 (ior .u32 (ishl .u32 (w32 (b.getD (4 * i) 0)) 24) (ishl .u32 (w32 (b.getD (4 * i + 1) 0)) 16)) (ishl .u32 (w32 (b.getD (4 * i + 2) 0)) 8)) (w32 (b.getD (4 * i + 3) 0))
def wl (b : List Int) : Nat → List Int
  | 0 => []
  | n + 1 => wl b n ++ [if n < 16 then sbe4 b n else wn (wl b n) n]
theorem wl_length (b : List Int) : ∀ n, (wl b n).length = n
  | 0 => rfl
  | n + 1 => by simp [wl, wl_length b n]
theorem wl_get (b : List Int) (n i : Nat) (l : List Int) (h : i < n) : (wl b n ++ l).getD i 0 = (wl b n).getD i 0 := by
  rw [List.getD_eq_getElem?_getD, List.getElem?_append_left (by rw [wl_length]; exact h), List.getD_eq_getElem?_getD]
theorem set_end (p : List Int) (i n : Nat) (x : Int) (h : p.length = i) : (p ++ List.replicate (n + 1) 0).set i x = (p ++ [x]) ++ List.replicate n 0 := by
  subst h
  rw [List.set_append_right _ _ (Nat.le_refl _), Nat.sub_self, List.replicate_succ, List.set_cons_zero, List.append_assoc]
  rfl
theorem natlt (k : Nat) (n : Int) (h : (k : Int) < n) : decide ((k : Int) < n) = true := decide_eq_true h
theorem nat0 (k : Nat) : decide (0 ≤ (k : Int)) = true := decide_eq_true (by omega)
theorem sched_first {R : Type} (N : Nat) (ke : Option Bool → List Int → Int → List Int → Option R) (z : Option Bool) (b : List Int) (hb : b.length = 64) :
    ∀ (d i m : Nat), i + d = 16 → d < m → schedule.L3 (Right.M N) N ke m z b (i : Int) (wl b i ++ List.replicate (48 + d) 0) = ke z b 16 (wl b 16 ++ List.replicate 48 0) := by
  intro d
  induction d with
  | zero =>
    intro i m hi hm
    obtain ⟨m, rfl⟩ : ∃ k, m = k + 1 := ⟨m - 1, by omega⟩
    obtain rfl : i = 16 := by omega
    unfold schedule.L3
    rfl
  | succ d ih =>
    intro i m hi hm
    obtain ⟨m, rfl⟩ : ∃ k, m = k + 1 := ⟨m - 1, by omega⟩
    unfold schedule.L3
    have e0 : IntKind.i64.wrap (4 * (i : Int)) = ((4 * i : Nat) : Int) := by rw [wrap_i64z _ (by omega) (by omega)]; omega
    have e1 : IntKind.i64.wrap (((4 * i : Nat) : Int) + 1) = ((4 * i + 1 : Nat) : Int) := by rw [wrap_i64z _ (by omega) (by omega)]; omega
    have e2 : IntKind.i64.wrap (((4 * i : Nat) : Int) + 2) = ((4 * i + 2 : Nat) : Int) := by rw [wrap_i64z _ (by omega) (by omega)]; omega
    have e3 : IntKind.i64.wrap (((4 * i : Nat) : Int) + 3) = ((4 * i + 3 : Nat) : Int) := by rw [wrap_i64z _ (by omega) (by omega)]; omega
    have e4 : IntKind.i64.wrap ((i : Int) + 1) = ((i + 1 : Nat) : Int) := by rw [wrap_i64z _ (by omega) (by omega)]; omega
    rw [e0, e1, e2, e3, e4, hb]
    rw [natlt i 16 (by omega), nat0, nat0, nat0, nat0, nat0, natlt (4 * i) _ (by omega), natlt (4 * i + 1) _ (by omega), natlt (4 * i + 2) _ (by omega), natlt (4 * i + 3) _ (by omega), natlt i 64 (by omega)]
    simp only [cond_true, Int.toNat_natCast]
    rw [show 48 + (d + 1) = (48 + d) + 1 by omega, set_end _ _ _ _ (wl_length b i)]
    have hw : wl b (i + 1) = wl b i ++ [sbe4 b i] := by simp only [wl, if_pos (show i < 16 by omega)]
    have := ih (i + 1) m (by omega) (by omega)
    rw [hw] at this
    exact this
theorem sched_rest {R : Type} (N : Nat) (ke : Int → List Int → Option R) (b : List Int) :
    ∀ (d i m : Nat), 16 ≤ i → i + d = 64 → d < m → schedule.L8 (Right.M N) N ke m (i : Int) (wl b i ++ List.replicate d 0) = ke 64 (wl b 64) := by
  intro d
  induction d with
  | zero =>
    intro i m h16 hi hm
    obtain ⟨m, rfl⟩ : ∃ k, m = k + 1 := ⟨m - 1, by omega⟩
    obtain rfl : i = 64 := by omega
    unfold schedule.L8
    rw [List.replicate_zero, List.append_nil]
    rfl
  | succ d ih =>
    intro i m h16 hi hm
    obtain ⟨m, rfl⟩ : ∃ k, m = k + 1 := ⟨m - 1, by omega⟩
    unfold schedule.L8
    have e0 : IntKind.i64.wrap ((i : Int) - 15) = ((i - 15 : Nat) : Int) := by rw [wrap_i64z _ (by omega) (by omega)]; omega
    have e1 : IntKind.i64.wrap ((i : Int) - 2) = ((i - 2 : Nat) : Int) := by rw [wrap_i64z _ (by omega) (by omega)]; omega
    have e2 : IntKind.i64.wrap ((i : Int) - 16) = ((i - 16 : Nat) : Int) := by rw [wrap_i64z _ (by omega) (by omega)]; omega
    have e3 : IntKind.i64.wrap ((i : Int) - 7) = ((i - 7 : Nat) : Int) := by rw [wrap_i64z _ (by omega) (by omega)]; omega
    have e4 : IntKind.i64.wrap ((i : Int) + 1) = ((i + 1 : Nat) : Int) := by rw [wrap_i64z _ (by omega) (by omega)]; omega
    rw [e0, e1, e2, e3, e4]
    rw [natlt i 64 (by omega), nat0, nat0, nat0, nat0, nat0, natlt (i - 15) _ (by omega), natlt (i - 2) _ (by omega), natlt (i - 16) _ (by omega), natlt (i - 7) _ (by omega)]
    simp only [cond_true, Int.toNat_natCast]
    rw [Right_eq N _ 7 25 (by decide) (by decide), Right_eq N _ 18 14 (by decide) (by decide), Right_eq N _ 17 15 (by decide) (by decide), Right_eq N _ 19 13 (by decide) (by decide)]
    rw [wl_get b i (i - 15) _ (by omega), wl_get b i (i - 2) _ (by omega), wl_get b i (i - 16) _ (by omega), wl_get b i (i - 7) _ (by omega), set_end _ _ _ _ (wl_length b i)]
    have hw : wl b (i + 1) = wl b i ++ [wn (wl b i) i] := by simp only [wl, if_neg (show ¬ i < 16 by omega)]
    have := ih (i + 1) m (by omega) (by omega) (by omega)
    rw [hw] at this
    exact this
theorem schedule_eq {R : Type} (N : Nat) (hN : 100 < N) (z : Option Bool) (b : List Int) (hb : b.length = 64) (r : List Int → Option R) : schedule.M N R z b r = r (wl b 64) := by
  show schedule.L3 (Right.M N) N _ N z b 0 _ = _
  have h := sched_first N (fun _ _ _ h => schedule.L8 (Right.M N) N (fun _ h => r h) N 16 h) z b hb 16 0 N (by omega) (by omega)
  refine Eq.trans h ?_
  exact sched_rest N (fun _ h => r h) b 48 16 N (by omega) (by omega) (by omega)
structure S8 where
  (a b c d e f g h : Int)
def S8.l (s : S8) : List Int := [s.a, s.b, s.c, s.d, s.e, s.f, s.g, s.h]
def t1 (k w : Int) (s : S8) : Int := w32 (w32 (w32 (w32 (s.h + ixor .u32 (ixor .u32 (rr s.e 6 26) (rr s.e 11 21)) (rr s.e 25 7)) + ixor .u32 (iand .u32 s.e s.f) (iand .u32 (inot .u32 s.e) s.g)) + k) + w)
def t2 (s : S8) : Int := w32 (ixor .u32 (ixor .u32 (rr s.a 2 30) (rr s.a 13 19)) (rr s.a 22 10) + ixor .u32 (ixor .u32 (iand .u32 s.a s.b) (iand .u32 s.a s.c)) (iand .u32 s.b s.c))
def rnd (k w : Int) (s : S8) : S8 := ⟨w32 (t1 k w s + t2 s), s.a, s.b, s.c, w32 (s.d + t1 k w s), s.e, s.f, s.g⟩
def rds (w : List Int) : Nat → S8 → S8
  | 0, s => s
  | n + 1, s => rnd (K256.getD n 0) (w.getD n 0) (rds w n s)
def S8.add (s v : S8) : S8 := ⟨w32 (s.a + v.a), w32 (s.b + v.b), w32 (s.c + v.c), w32 (s.d + v.d), w32 (s.e + v.e), w32 (s.f + v.f), w32 (s.g + v.g), w32 (s.h + v.h)⟩
def cmp (s : S8) (b : List Int) : S8 := s.add (rds (wl b 64) 64 s)
theorem take_rounds {R : Type} (N : Nat) (ke : Int → List Int → List Int → List Int → Option R) (a w : List Int) (s : S8) :
    ∀ (d i m : Nat), i + d = 64 → d < m → take.L3 (schedule.M N) (Right.M N) N ke m (i : Int) a w (rds w i s).l = ke 64 a w (rds w 64 s).l := by
  intro d
  induction d with
  | zero =>
    intro i m hi hm
    obtain ⟨m, rfl⟩ : ∃ k, m = k + 1 := ⟨m - 1, by omega⟩
    obtain rfl : i = 64 := by omega
    unfold take.L3
    rfl
  | succ d ih =>
    intro i m hi hm
    obtain ⟨m, rfl⟩ : ∃ k, m = k + 1 := ⟨m - 1, by omega⟩
    unfold take.L3
    have e4 : IntKind.i64.wrap ((i : Int) + 1) = ((i + 1 : Nat) : Int) := by rw [wrap_i64z _ (by omega) (by omega)]; omega
    rw [e4, natlt i 64 (by omega), nat0]
    simp only [cond_true, Int.toNat_natCast]
    rw [Right_eq N _ 6 26 (by decide) (by decide), Right_eq N _ 11 21 (by decide) (by decide), Right_eq N _ 25 7 (by decide) (by decide), Right_eq N _ 2 30 (by decide) (by decide), Right_eq N _ 13 19 (by decide) (by decide), Right_eq N _ 22 10 (by decide) (by decide)]
    have h := ih (i + 1) m (by omega) (by omega)
    rw [show rds w (i + 1) s = rnd (K256.getD i 0) (w.getD i 0) (rds w i s) from rfl] at h
    generalize rds w i s = v at *
    obtain ⟨v1, v2, v3, v4, v5, v6, v7, v8⟩ := v
    exact h
theorem take_eq {R : Type} (N : Nat) (hN : 100 < N) (s : S8) (z : Option Bool) (b : List Int) (hb : b.length = 64) (r : List Int → Option R) : take.M N R s.l z b r = r (cmp s b).l := by
  show take.m (schedule.M N) (Right.M N) N _ _ _ r = _
  unfold take.m
  rw [schedule_eq N hN z b hb]
  have h := take_rounds N (fun _ h0 _ h2 => take.L15 (schedule.M N) (Right.M N) N (fun _ h0 _ => r h0) N 0 h0 h2) s.l (wl b 64) s 64 0 N (by omega) (by omega)
  refine Eq.trans h ?_
  unfold cmp
  generalize rds (wl b 64) 64 s = v
  obtain ⟨M, rfl⟩ : ∃ M, N = M + 9 := ⟨N - 9, by omega⟩
  obtain ⟨v1, v2, v3, v4, v5, v6, v7, v8⟩ := v
  obtain ⟨u1, u2, u3, u4, u5, u6, u7, u8⟩ := s
  kernel_rfl
end Go.Proofs.YthajoenmfppenaaDoor.fn
