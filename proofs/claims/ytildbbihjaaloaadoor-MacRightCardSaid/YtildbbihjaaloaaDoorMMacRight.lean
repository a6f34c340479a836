/- The law of which tags are right. -/
import Derived.Test.YtildbbihjaaloaaDoorFnMacRight
import Derived.Test.YtildbbihjaaloaaDoorMMacL
import Derived.Test.YtildbbihjaaloaaDoorMEqual
namespace Go.Proofs.YtildbbihjaaloaaDoor.fn
open Go Go.Proofs Go.Ev Go.Dg

theorem mRight_eq {R : Type} (N : Nat) (hN : 2000 < N) (x y : Option Bool) (key tag b : List Int) (ht : isBy tag) (hk : key.length ≤ 60000) (hb : b.length ≤ 60000) (hl : tag.length ≤ 1000) (r : Bool → Option R) :
    mRight.M N R x key y tag [b] r = r (decide (tag = hmac key b)) := by
  show mRight.m (mSum.M N) (wEqual.M N) N x key y tag [b] r = _
  unfold mRight.m
  rw [mSum_eq N hN x key hk [b] (by intro p hp; rw [List.mem_singleton.1 hp]; exact hb) (by simp), List.flatten_singleton]
  have hc : cut (some 32) 0 (hmac key b) = hmac key b := cut32 _
  rw [hc, equal_by N (by omega) y none ht (hmac_by _ _) hl]

theorem MacRight_true {R : Type} (N : Nat) (hN : 2000 < N) (x y z : Option Bool) (key tag b : List Int) (hk : isBy key) (ht : isBy tag) (hb : isBy b) (r : Bool → Option R) : MacRight.M N R x key y tag z b r = r true := by
  show MacRight.m (alive04.M N) (m4Sum.M N) (mRight.M N) N x key y tag z b r = _
  unfold MacRight.m
  rw [alive04_eq N hN, Bool.not_true, cond_false]
  by_cases h1 : (key.length : Int) > 300
  · rw [decide_eq_true h1, cond_true]
  rw [decide_eq_false h1, cond_false]
  by_cases h2 : (tag.length : Int) > 100
  · rw [decide_eq_true h2, cond_true]
  rw [decide_eq_false h2, cond_false]
  by_cases h3 : (b.length : Int) > 300
  · rw [decide_eq_true h3, cond_true]
  rw [decide_eq_false h3, cond_false]
  have hc : cut (some 32) 0 (hmac key b) = hmac key b := cut32 _
  have h31 : cut (some 31) 0 (hmac key b) = (hmac key b).take 31 := rfl
  have hy31 : isBy ((hmac key b).take 31) := fun w hw => hmac_by key b w (List.mem_of_mem_take hw)
  have hl31 : ((hmac key b).take 31).length = 31 := by rw [List.length_take, hmac_len]; rfl
  rw [m4Sum_eq N hN x z key b hk hb (by omega) (by omega), mRight_eq N hN x y key tag b ht (by omega) (by omega) (by omega), hc, same_by ht (hmac_by key b), beq_self_eq_true, cond_true]
  rw [mRight_eq N hN x none key _ b (hmac_by key b) (by omega) (by omega) (by rw [hmac_len]; omega), decide_eq_true rfl, cond_true, h31]
  rw [mRight_eq N hN x none key _ b hy31 (by omega) (by omega) (by rw [hl31]; omega), decide_eq_false (fun h => by
    have := congrArg List.length h
    rw [hl31, hmac_len] at this
    omega)]
  rfl

end Go.Proofs.YtildbbihjaaloaaDoor.fn
