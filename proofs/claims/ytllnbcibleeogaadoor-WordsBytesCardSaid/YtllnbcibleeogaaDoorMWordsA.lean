/- What the words' functions come to: turning. -/
import Derived.Test.YtllnbcibleeogaaDoorFnWords
namespace Go.Proofs.YtllnbcibleeogaaDoor.fn
open Go Go.Proofs Go.Ev

theorem wrap_small (k : IntKind) (z : Int) (h0 : 0 ≤ z) (h1 : z < 2 ^ (k.bits - 1)) : k.wrap z = z := by
  cases k <;> simp only [IntKind.wrap, IntKind.bits, IntKind.signed, Bool.true_and, Bool.false_and, Bool.false_eq_true, if_false] at * <;> first | omega | (split <;> simp_all <;> omega)

theorem Left_eq {R : Type} (N : Nat) (X : BitVec 32) (n : Int) (r : Int → Option R) : Left.M N R (un X) n r = r (un (X.rotateLeft (n % 32).toNat)) := by
  show r _ = _
  rw [left32]
theorem Right_eq {R : Type} (N : Nat) (X : BitVec 32) (n : Int) (r : Int → Option R) : Right.M N R (un X) n r = r (un (X.rotateRight (n % 32).toNat)) := by
  show r _ = _
  rw [right32]
theorem Right64_eq {R : Type} (N : Nat) (X : BitVec 64) (n : Int) (r : Int → Option R) : Right64.M N R (un X) n r = r (un (X.rotateRight (n % 64).toNat)) := by
  show r _ = _
  rw [right64]

theorem Mod_eq {R : Type} (N : Nat) (n m : Int) (hm : 0 < m) (hm' : m ≤ 1000000) (r : Int → Option R) : Mod.M N R n m r = r (n % m) := by
  show Mod.m N n m r = _
  unfold Mod.m
  have h0 : decide (m = 0) = false := by simp; omega
  rw [h0, cond_false]
  have e1 : n.tmod m = n % m ∨ (n.tmod m = n % m - m ∧ n % m ≠ 0) := by
    rw [Int.tmod_eq_emod]
    have h1 := Int.emod_nonneg n (show m ≠ 0 by omega)
    have h2 := Int.emod_lt_of_pos n hm
    split
    · left; omega
    · rename_i h
      right
      refine ⟨by omega, fun e => h (.inr (Int.dvd_of_emod_eq_zero e))⟩
  have h1 := Int.emod_nonneg n (show m ≠ 0 by omega)
  have h2 := Int.emod_lt_of_pos n hm
  rcases e1 with e | ⟨e1, e2⟩
  · rw [e]
    have : decide (n % m < 0) = false := by simp; omega
    rw [this, cond_false]
  · rw [e1]
    have : decide (n % m - m < 0) = true := by simp; omega
    rw [this, cond_true, wrap_small .i64 _ (by omega) (by simp only [IntKind.bits]; omega)]
    congr 1; omega

theorem bit18 (X : BitVec 64) (i : Nat) (hi : i < 64) : (iand .u64 (ishr .u64 (un X) (i : Int)) 1 == 1) = X.getLsbD i := by
  have e1 : (1 : Int) = un (1#64) := rfl
  rw [e1, ishr64, iand64]
  have e2 : min ((i : Int)).toNat 64 = i := by omega
  rw [e2]
  have h : (X >>> i &&& 1#64) = 1#64 ↔ X.getLsbD i = true := by
    constructor
    · intro h
      have := congrArg (fun v => v.getLsbD 0) h
      simpa using this
    · intro h
      apply BitVec.eq_of_getLsbD_eq
      intro j hj
      rw [BitVec.getLsbD_and, BitVec.getLsbD_ushiftRight]
      by_cases e : j = 0
      · subst e; simp [h]
      · simp [e]
  rw [Bool.eq_iff_iff, beq_iff_eq, un_inj, h]

theorem add18 (A : BitVec 64) (t : Nat) (ht : t < 64) : IntKind.u64.wrap (un A + ishl .u64 1 (t : Int)) = un (A + BitVec.twoPow 64 t) := by
  have e1 : (1 : Int) = un (1#64) := rfl
  rw [e1, ishl64, add64, un_inj]
  have e2 : min ((t : Int)).toNat 64 = t := by omega
  rw [e2, BitVec.twoPow_eq]

theorem Turned_L (X : BitVec 64) (w n : Nat) (hw : 0 < w ∧ w ≤ 64) (hn : n ≤ w) {R : Type} (N : Nat) (e : Int → Int → Int → Int → Int → Option R) : ∀ (m i : Nat), i + m = w → ∀ f,
    Turned.L3 N e (m + 1 + f) (un X) w n (un (acc X w n i)) i = e (un X) w n (un (acc X w n w)) w
  | 0, i, h, f => by
    have : i = w := by omega
    subst this
    rw [show 0 + 1 + f = f + 1 by omega, Turned.L3]
    rw [show decide ((i : Int) < (i : Int)) = false by simp, cond_false]
  | m + 1, i, h, f => by
    rw [show m + 1 + 1 + f = (m + 1 + f) + 1 by omega, Turned.L3]
    have h1 : ((i : Int) < (w : Int)) := by omega
    have h2 : ((w : Int) = 0) = False := by simp; omega
    have h3 : IntKind.i64.wrap ((i : Int) + 1) = ((i + 1 : Nat) : Int) := by rw [wrap_small .i64 _ (by omega) (by simp only [IntKind.bits]; omega)]; simp
    have h4 : IntKind.u64.wrap ((IntKind.i64.wrap ((i : Int) + (n : Int))).tmod (w : Int)) = (((i + n) % w : Nat) : Int) := by
      rw [wrap_small .i64 _ (by omega) (by simp only [IntKind.bits]; omega)]
      have : ((i : Int) + (n : Int)).tmod (w : Int) = (((i + n) % w : Nat) : Int) := by
        rw [Int.tmod_eq_emod_of_nonneg (by omega)]; simp
      rw [this]
      have hlt : (i + n) % w < w := Nat.mod_lt _ hw.1
      exact wrap_small .u64 _ (by omega) (by simp only [IntKind.bits]; omega)
    rw [wrap_small .u64 (i : Int) (by omega) (by simp only [IntKind.bits]; omega), bit18 X i (by omega), h3, h4]
    simp only [h1, decide_true, cond_true, h2, decide_false, cond_false]
    have ih := Turned_L X w n hw hn N e m (i + 1) (by omega) f
    have hlt : (i + n) % w < w := Nat.mod_lt _ hw.1
    by_cases hx : X.getLsbD i = true
    · rw [hx, cond_true, add18 _ _ (by omega)]
      rw [← ih]
      simp only [acc, hx, if_true]
    · have hx : X.getLsbD i = false := by simpa using hx
      rw [hx, cond_false]
      rw [← ih]
      simp only [acc, hx, Bool.false_eq_true, if_false]

theorem Turned_eq (X : BitVec 64) (w n : Nat) (hw : 0 < w ∧ w ≤ 64) (hn : n ≤ w) {R : Type} (N : Nat) (hN : 65 ≤ N) (r : Int → Option R) : Turned.M N R (un X) w n r = r (un (acc X w n w)) := by
  show Turned.L3 N _ N (un X) w n (un (acc X w n 0)) ((0 : Nat) : Int) = _
  rw [show Turned.L3 N _ N = Turned.L3 N _ (w + 1 + (N - w - 1)) by rw [show w + 1 + (N - w - 1) = N by omega], Turned_L X w n hw hn N _ w 0 (by omega)]

theorem widen32 (X : BitVec 32) : IntKind.u64.wrap (un X) = un (X.setWidth 64) := by
  rw [wrp64, un_inj]
  apply BitVec.eq_of_toNat_eq
  have := X.isLt
  simp [un]

theorem alive01_eq {R : Type} (N : Nat) (hN : 10 ≤ N) (r : Bool → Option R) : alive01.M N R r = r true := by
  obtain ⟨M, rfl⟩ : ∃ M, N = M + 10 := ⟨N - 10, by omega⟩
  rfl

theorem turned_left (X : BitVec 32) (k : Nat) (hk : k < 32) : acc (X.setWidth 64) 32 k 32 = (X.rotateLeft k).setWidth 64 := by
  apply BitVec.eq_of_getLsbD_eq
  intro b hb
  rw [acc32 _ _ (by omega) _ (by omega) _ hb, BitVec.getLsbD_setWidth, BitVec.getLsbD_setWidth]
  by_cases h : b < 32
  · rw [bit_left32 _ _ _ h]
    have e : (b + 32 - k % 32) % 32 = (b + 64 - k) % 32 := by omega
    have e2 : (b + 64 - k) % 32 < 64 := by omega
    have e3 : (b + 64 - k) % 32 < 32 := by omega
    simp [h, hb, e, e2, e3]
  · rw [BitVec.getLsbD_of_ge (X.rotateLeft k) b (by omega)]; simp [h]

theorem turned_right (X : BitVec 32) (k : Nat) (hk : k < 32) : acc (X.setWidth 64) 32 (32 - k) 32 = (X.rotateRight k).setWidth 64 := by
  apply BitVec.eq_of_getLsbD_eq
  intro b hb
  rw [acc32 _ _ (by omega) _ (by omega) _ hb, BitVec.getLsbD_setWidth, BitVec.getLsbD_setWidth]
  by_cases h : b < 32
  · rw [bit_right32 _ _ _ h]
    have e : (b + k % 32) % 32 = (b + 64 - (32 - k)) % 32 := by omega
    have e2 : (b + 64 - (32 - k)) % 32 < 64 := by omega
    have e3 : (b + 64 - (32 - k)) % 32 < 32 := by omega
    simp [h, hb, e, e2, e3]
  · rw [BitVec.getLsbD_of_ge (X.rotateRight k) b (by omega)]; simp [h]

theorem turned_right64 (X : BitVec 64) (k : Nat) (hk : k < 64) : acc X 64 (64 - k) 64 = X.rotateRight k := by
  apply BitVec.eq_of_getLsbD_eq
  intro b hb
  rw [acc64 _ _ (by omega) _ (by omega) _ hb, bit_right64 _ _ _ hb]
  have e : (b + k % 64) % 64 = (b + 128 - (64 - k)) % 64 := by omega
  have e3 : (b + 128 - (64 - k)) % 64 < 64 := by omega
  simp [e, e3]

theorem right_left (X : BitVec 32) (n : Int) : (X.rotateLeft (n % 32).toNat).rotateRight (n % 32).toNat = X := by
  rw [right_left32, left_left32, show (n + (0 - n)) % 32 = 0 by omega]
  exact left0 X
theorem left_right (X : BitVec 32) (n : Int) : (X.rotateRight (n % 32).toNat).rotateLeft (n % 32).toNat = X := by
  rw [right_left32, left_left32, show (0 - n + n) % 32 = 0 by omega]
  exact left0 X

theorem WordsTurns_true (X : BitVec 32) (Y : BitVec 64) (n : Int) {R : Type} (N : Nat) (hN : 100 ≤ N) (r : Bool → Option R) : WordsTurns.M N R (un X) (un Y) n r = r true := by
  show WordsTurns.m _ _ _ _ _ _ N (un X) (un Y) n r = _
  unfold WordsTurns.m
  rw [alive01_eq N (by omega)]
  simp only [Bool.not_true, cond_false]
  rw [Mod_eq N n 32 (by omega) (by omega), Mod_eq N n 64 (by omega) (by omega), Left_eq, Right_eq, widen32]
  obtain ⟨k, hk, hk'⟩ : ∃ k : Nat, n % 32 = (k : Int) ∧ k < 32 := ⟨(n % 32).toNat, by omega, by omega⟩
  obtain ⟨l, hl, hl'⟩ : ∃ k : Nat, n % 64 = (k : Int) ∧ k < 64 := ⟨(n % 64).toNat, by omega, by omega⟩
  have e32 : IntKind.i64.wrap (32 - n % 32) = ((32 - k : Nat) : Int) := by rw [hk, wrap_small .i64 _ (by omega) (by simp only [IntKind.bits]; omega)]; omega
  have e64 : IntKind.i64.wrap (64 - n % 64) = ((64 - l : Nat) : Int) := by rw [hl, wrap_small .i64 _ (by omega) (by simp only [IntKind.bits]; omega)]; omega
  have hT1 : ∀ (f : Int → Option R), Turned.M N R (un (X.setWidth 64)) 32 (n % 32) f = f (un ((X.rotateLeft (n % 32).toNat).setWidth 64)) := by
    intro f
    have h := Turned_eq (X.setWidth 64) 32 k (by omega) (by omega) N (by omega) f
    rw [turned_left _ _ hk'] at h
    rw [hk]; exact h
  have hT2 : ∀ (f : Int → Option R), Turned.M N R (un (X.setWidth 64)) 32 ((32 - k : Nat) : Int) f = f (un ((X.rotateRight (n % 32).toNat).setWidth 64)) := by
    intro f
    have h := Turned_eq (X.setWidth 64) 32 (32 - k) (by omega) (by omega) N (by omega) f
    rw [turned_right _ _ hk'] at h
    rw [hk]; exact h
  have hT3 : ∀ (f : Int → Option R), Turned.M N R (un Y) 64 ((64 - l : Nat) : Int) f = f (un (Y.rotateRight (n % 64).toNat)) := by
    intro f
    have h := Turned_eq Y 64 (64 - l) (by omega) (by omega) N (by omega) f
    rw [turned_right64 _ _ hl'] at h
    rw [hl]; exact h
  rw [hT1, e32, hT2, e64, Right64_eq, hT3, Right_eq, Left_eq, right_left, left_right, widen32, widen32]
  simp

end Go.Proofs.YtllnbcibleeogaaDoor.fn
