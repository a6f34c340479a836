/- What an expansion comes to. -/
import Derived.Test.YtjaekdcbjfgcpaaDoorFnDer
import Derived.Test.YtjaekdcbjfgcpaaDoorFnDerR
import Derived.Test.YtjaekdcbjfgcpaaDoorMMacA
namespace Go.Proofs.YtjaekdcbjfgcpaaDoor.fn
open Go Go.Proofs Go.Ev Go.Dg

/-- The blocks of an expansion. -/
def tb (key info : List Int) : Nat → List Int
  | 0 => []
  | i + 1 => hmac key ((tb key info i ++ info) ++ [((i + 1 : Nat) : Int)])
def outb (key info : List Int) : Nat → List Int
  | 0 => []
  | i + 1 => outb key info i ++ tb key info (i + 1)
theorem tb_len (key info : List Int) : ∀ i, (tb key info (i + 1)).length = 32 := fun _ => rfl
theorem tb_le (key info : List Int) : ∀ i, (tb key info i).length ≤ 32
  | 0 => by simp [tb]
  | _ + 1 => by rw [tb_len]; omega
theorem tb_by (key info : List Int) : ∀ i, isBy (tb key info i)
  | 0 => fun z hz => by simp [tb] at hz
  | _ + 1 => dgst_by _
theorem outb_len (key info : List Int) : ∀ i, (outb key info i).length = 32 * i
  | 0 => rfl
  | i + 1 => by
    unfold outb
    rw [List.length_append, outb_len key info i, tb_len]; omega
def nb (n : Nat) : Nat := (n + 31) / 32

theorem u8_small (i : Nat) (h : i < 256) : IntKind.u8.wrap ((i : Nat) : Int) = (i : Int) := by rw [wrap_u8, Nat.mod_eq_of_lt h]

theorem cut32h (k l : List Int) : cut (some 32) 0 (hmac k l) = hmac k l := cut32 _

theorem dexp_loop {R : Type} (N : Nat) (hN : 2000 < N) (x y : Option Bool) (key info : List Int) (hk : key.length ≤ 60000) (hi : info.length ≤ 60000) (n : Nat) (hn : n ≤ 8160)
    (ke : (Option Bool) → (List Int) → (Option Bool) → (List Int) → Int → (List Int) → Int → Bool → (List Int) → Option R) (X : Option R)
    (h : ∀ a b nl, ke x key y info (n : Int) a b nl (outb key info (nb n)) = X) :
    ∀ (d i m : Nat) (nl : Bool), i + d = nb n → d < m → dExpand.J1_0 (mSum.M N) N ke m x key y info (n : Int) (tb key info i) (i : Int) nl (outb key info i) = X := by
  intro d
  induction d with
  | zero =>
    intro i m nl hi' hm
    obtain ⟨m, rfl⟩ : ∃ k, m = k + 1 := ⟨m - 1, by omega⟩
    obtain rfl : i = nb n := by omega
    unfold dExpand.J1_0
    have hol : olen none (outb key info (nb n)).length 0 = 32 * nb n := outb_len key info (nb n)
    have hq : n ≤ 32 * nb n := by unfold nb; omega
    rw [hol, outb_len, decide_eq_false (by omega), cond_false, decide_eq_true (by omega), cond_true, decide_eq_true (by omega), cond_true]
    exact h _ _ _
  | succ d ih =>
    intro i m nl hi' hm
    obtain ⟨m, rfl⟩ : ∃ k, m = k + 1 := ⟨m - 1, by omega⟩
    unfold dExpand.J1_0
    have hol : olen none (outb key info i).length 0 = 32 * i := outb_len key info i
    have hq : 32 * i < n := by unfold nb at hi'; omega
    have hw : IntKind.u8.wrap ((i : Int) + 1) = ((i + 1 : Nat) : Int) := by
      rw [show ((i : Int) + 1) = ((i + 1 : Nat) : Int) by omega, u8_small _ (by omega)]
    have hfl : [tb key info i, info, [((i + 1 : Nat) : Int)]].flatten = (tb key info i ++ info) ++ [((i + 1 : Nat) : Int)] := by simp
    have htl := tb_le key info i
    rw [hol, outb_len, decide_eq_true (by omega), cond_true, hw, mSum_eq N hN x key hk _ (by
      intro p hp
      simp only [List.mem_cons, List.not_mem_nil, or_false] at hp
      rcases hp with rfl | rfl | rfl
      · omega
      · exact hi
      · simp) (by simp), hfl, cut32h]
    have ht : hmac key ((tb key info i ++ info) ++ [((i + 1 : Nat) : Int)]) = tb key info (i + 1) := rfl
    rw [ht, tb_len, decide_eq_true (by omega), cond_true, decide_eq_true (by omega), cond_true]
    exact ih (i + 1) m _ (by omega) (by omega)

theorem dExpand_eq {R : Type} (N : Nat) (hN : 2000 < N) (x y : Option Bool) (key info : List Int) (hk : key.length ≤ 60000) (hi : info.length ≤ 60000) (n : Nat) (hn : n ≤ 8160) (hn0 : 0 < n) (kr0 : Nat → Option R) (kr1 : Nat → Bool → List Int → Option R) (X : Option R)
    (h : ∀ nl, kr1 n nl (outb key info (nb n)) = X) : dExpand.M N R x key y info (n : Int) kr0 kr1 = X := by
  show dExpand.m (mSum.M N) N x key y info (n : Int) kr0 kr1 = X
  unfold dExpand.m
  have hfl : [([] : List Int), info, [1]].flatten = (tb key info 0 ++ info) ++ [((0 + 1 : Nat) : Int)] := by simp [tb]
  have ht : hmac key ((tb key info 0 ++ info) ++ [((0 + 1 : Nat) : Int)]) = tb key info 1 := rfl
  rw [decide_eq_false (by omega), cond_false, decide_eq_false (by omega), cond_false, decide_eq_false (by omega), cond_false, decide_eq_true (by omega), cond_true, mSum_eq N hN x key hk _ (by
      intro p hp
      simp only [List.mem_cons, List.not_mem_nil, or_false] at hp
      rcases hp with rfl | rfl | rfl
      · simp
      · exact hi
      · simp) (by simp), hfl, cut32h, ht, tb_len, decide_eq_true (by omega), cond_true, cond_true]
  have ho : tb key info 1 = outb key info 1 := by
    show _ = outb key info 0 ++ tb key info (0 + 1)
    rfl
  have hnb : 1 ≤ nb n := by unfold nb; omega
  have := dexp_loop (R := R) N hN x y key info hk hi n hn (fun _ _ _ _ n2 _ _ h0 h8 => kr1 n2.toNat h0 h8) X (fun a b nl => by
    show kr1 ((n : Int)).toNat nl _ = X
    rw [Int.toNat_natCast]; exact h nl) (nb n - 1) 1 N (tb key info 1).isEmpty (by omega) (by unfold nb; omega)
  rw [← ho] at this
  exact this

theorem dExpand_zero {R : Type} (N : Nat) (x y : Option Bool) (key info : List Int) (hi : info.length ≤ 60000) (kr0 : Nat → Option R) (kr1 : Nat → Bool → List Int → Option R) : dExpand.M N R x key y info 0 kr0 kr1 = kr0 0 := by
  show dExpand.m (mSum.M N) N x key y info 0 kr0 kr1 = _
  unfold dExpand.m
  rw [decide_eq_false (by omega), cond_false, decide_eq_false (by omega), cond_false, decide_eq_false (by omega), cond_false]
  rfl

theorem dExpand_off {R : Type} (N : Nat) (x y : Option Bool) (key info : List Int) (n : Int) (hn : n < 0 ∨ n > 8160) (kr0 : Nat → Option R) (kr1 : Nat → Bool → List Int → Option R) : dExpand.M N R x key y info n kr0 kr1 = kr0 1 := by
  show dExpand.m (mSum.M N) N x key y info n kr0 kr1 = _
  unfold dExpand.m
  by_cases h : n < 0
  · rw [decide_eq_true h, cond_true]
  · rw [decide_eq_false h, cond_false, decide_eq_true (by omega), cond_true]

theorem rexp_loop {R : Type} (N : Nat) (hN : 2000 < N) (x y : Option Bool) (key info : List Int) (hk : key.length ≤ 60000) (hi : info.length ≤ 60000) (hyk : isBy key) (hyi : isBy info) (n : Nat) (hn : n ≤ 8160)
    (ke : (Option Bool) → (List Int) → (Option Bool) → (List Int) → Int → (List Int) → Int → Bool → (List Int) → Option R) (X : Option R)
    (h : ∀ a b nl, ke x key y info (n : Int) a b nl (outb key info (nb n)) = X) :
    ∀ (d i m : Nat) (nl : Bool), i + d = nb n → d < m → rdExpand.L4 (m4Sum.M N) N ke m x key y info (n : Int) (tb key info i) ((i + 1 : Nat) : Int) nl (outb key info i) = X := by
  intro d
  induction d with
  | zero =>
    intro i m nl hi' hm
    obtain ⟨m, rfl⟩ : ∃ k, m = k + 1 := ⟨m - 1, by omega⟩
    obtain rfl : i = nb n := by omega
    unfold rdExpand.L4
    have hol : olen none (outb key info (nb n)).length 0 = 32 * nb n := outb_len key info (nb n)
    have hq : n ≤ 32 * nb n := by unfold nb; omega
    rw [hol, decide_eq_false (by omega), cond_false]
    exact h _ _ _
  | succ d ih =>
    intro i m nl hi' hm
    obtain ⟨m, rfl⟩ : ∃ k, m = k + 1 := ⟨m - 1, by omega⟩
    unfold rdExpand.L4
    have hol : olen none (outb key info i).length 0 = 32 * i := outb_len key info i
    have hq : 32 * i < n := by unfold nb at hi'; omega
    have htl := tb_le key info i
    have hcl : (cut none 0 (tb key info i ++ info)).length = (tb key info i).length + info.length := List.length_append
    have hc1 : cut none 0 (cut none 0 (tb key info i ++ info) ++ [((i + 1 : Nat) : Int)]) = (tb key info i ++ info) ++ [((i + 1 : Nat) : Int)] := rfl
    have e4 : IntKind.i64.wrap (((i + 1 : Nat) : Int) + 1) = ((i + 1 + 1 : Nat) : Int) := by rw [wrap_i64z _ (by omega) (by omega)]; omega
    have hb1 : isBy [((i + 1 : Nat) : Int)] := fun z hz => by
      rw [List.mem_singleton.1 hz]; omega
    rw [hol, decide_eq_true (by omega), cond_true, decide_eq_true (by omega), cond_true, decide_eq_true (by omega), cond_true, decide_eq_true (by omega), cond_true, decide_eq_true (by omega), cond_true, hcl, decide_eq_true (by omega), cond_true, decide_eq_true (by omega), cond_true,
      u8_small _ (by omega), hc1, e4, m4Sum_eq N hN x none key _ hyk (((tb_by key info i).append hyi).append hb1) (by omega) (by rw [List.length_append, List.length_append, List.length_singleton]; omega), cut32h]
    have ht : hmac key ((tb key info i ++ info) ++ [((i + 1 : Nat) : Int)]) = tb key info (i + 1) := rfl
    rw [ht, tb_len, outb_len, decide_eq_true (by omega), cond_true, decide_eq_true (by omega), cond_true]
    exact ih (i + 1) m _ (by omega) (by omega)

theorem rdExpand_eq {R : Type} (N : Nat) (hN : 2000 < N) (x y : Option Bool) (key info : List Int) (hk : key.length ≤ 60000) (hi : info.length ≤ 60000) (hyk : isBy key) (hyi : isBy info) (n : Nat) (hn : n ≤ 8160) (r : List Int → Option R) :
    rdExpand.M N R x key y info (n : Int) r = r ((outb key info (nb n)).take n) := by
  show rdExpand.m (m4Sum.M N) N x key y info (n : Int) r = _
  unfold rdExpand.m
  have hq : n ≤ 32 * nb n := by unfold nb; omega
  refine rexp_loop N hN x y key info hk hi hyk hyi n hn _ _ (fun a b nl => ?_) (nb n) 0 N false (by omega) (by unfold nb; omega)
  show cond (decide (0 ≤ (n : Int))) (cond (decide ((n : Int) ≤ ((outb key info (nb n)).length : Int))) (r (cut (some ((n : Int)).toNat) 0 (outb key info (nb n)))) none) none = _
  rw [decide_eq_true (by omega), cond_true, outb_len, decide_eq_true (by omega), cond_true, Int.toNat_natCast]
  rfl

theorem dExtract_eq {R : Type} (N : Nat) (hN : 2000 < N) (x y : Option Bool) (salt secret : List Int) (hk : salt.length ≤ 60000) (hb : secret.length ≤ 60000) (r : List Int → Option R) : dExtract.M N R x salt y secret r = r (hmac salt secret) := by
  show dExtract.m (mSum.M N) N x salt y secret r = _
  unfold dExtract.m
  rw [mSum_eq N hN x salt hk [secret] (by intro p hp; rw [List.mem_singleton.1 hp]; exact hb) (by simp), List.flatten_singleton]

end Go.Proofs.YtjaekdcbjfgcpaaDoor.fn
