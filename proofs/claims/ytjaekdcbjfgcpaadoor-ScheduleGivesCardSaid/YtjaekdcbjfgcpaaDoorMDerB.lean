/- What a label's info comes to. -/
import Derived.Test.YtjaekdcbjfgcpaaDoorFnDer
import Derived.Test.YtjaekdcbjfgcpaaDoorMDerA
namespace Go.Proofs.YtjaekdcbjfgcpaaDoor.fn
open Go Go.Proofs Go.Ev Go.Dg

def pre11 : List UInt8 := [102, 101, 108, 108, 111, 119, 115, 104, 105, 112, 32]
def infoOf (label : List UInt8) (ctx : List Int) (n : Int) : List Int :=
  (([IntKind.u8.wrap (ishr IntKind.i64 n 8), IntKind.u8.wrap n, IntKind.u8.wrap (↑(pre11 ++ label).length : Int)] ++ ofStr (pre11 ++ label)) ++ [IntKind.u8.wrap (ishr IntKind.i64 (↑ctx.length : Int) 8), IntKind.u8.wrap (↑ctx.length : Int)]) ++ ctx

theorem dInfo_eq {R : Type} (N : Nat) (label : List UInt8) (x : Option Bool) (ctx : List Int) (n : Int) (h0 : 0 ≤ n) (hn : n ≤ 8160) (hl : label.length ≤ 200) (hc : ctx.length ≤ 16384) (r : Option Bool → List Int → Nat → Option R) :
    dInfo.M N R label x ctx n r = r none (infoOf label ctx n) 0 := by
  show dInfo.m N label x ctx n r = _
  unfold dInfo.m
  have hs : (ofStr (pre11 ++ label)).length = 11 + label.length := by
    unfold ofStr pre11
    rw [List.length_map, List.length_append]; rfl
  have hcut : ∀ l : List Int, cut none 0 l = l := fun _ => rfl
  simp only [hcut]
  have hs' : (ofStr ([102, 101, 108, 108, 111, 119, 115, 104, 105, 112, 32] ++ label)).length = 11 + label.length := hs
  simp only [List.length_append, List.length_cons, List.length_nil, hs']
  rw [decide_eq_false (by omega), cond_false, decide_eq_false (by omega), cond_false, decide_eq_false (by omega), cond_false, decide_eq_false (by omega), cond_false]
  repeat rw [decide_eq_true (by omega), cond_true]
  unfold infoOf
  simp only [List.length_append, List.length_cons, List.length_nil]
  rfl

theorem ofStr_inj : ∀ {a b : List UInt8}, ofStr a = ofStr b → a = b := by
  intro a b h
  unfold ofStr at h
  exact (List.map_inj_right (fun x y e => by
    have : ((x.toNat : Int)) = (y.toNat : Int) := e
    exact UInt8.toNat.inj (by omega))).1 h

theorem infoOf_inj {a b : List UInt8} {x y : List Int} {n : Int} (ha : a.length ≤ 200) (hb : b.length ≤ 200) (h : infoOf a x n = infoOf b y n) : a = b ∧ x = y := by
  unfold infoOf at h
  rw [List.append_assoc, List.append_assoc, List.append_assoc, List.append_assoc] at h
  obtain ⟨h1, h2⟩ := List.append_inj h rfl
  simp only [List.cons.injEq, true_and, and_true] at h1
  have hl : a.length = b.length := by
    have e1 : (pre11 ++ a).length = 11 + a.length := by rw [List.length_append]; rfl
    have e2 : (pre11 ++ b).length = 11 + b.length := by rw [List.length_append]; rfl
    rw [e1, e2, wrap_u8, wrap_u8, Nat.mod_eq_of_lt (by omega), Nat.mod_eq_of_lt (by omega)] at h1
    omega
  obtain ⟨h3, h4⟩ := List.append_inj h2 (by unfold ofStr; rw [List.length_map, List.length_map, List.length_append, List.length_append, hl])
  have h5 := ofStr_inj h3
  obtain ⟨_, h6⟩ := List.append_inj h5 rfl
  obtain ⟨_, h7⟩ := List.append_inj h4 rfl
  exact ⟨h6, h7⟩

theorem infoOf_by {a : List UInt8} {x : List Int} {n : Int} (hx : isBy x) : isBy (infoOf a x n) := by
  have ho : ∀ l : List UInt8, isBy (ofStr l) := fun l z hz => by
    obtain ⟨b, _, rfl⟩ := List.mem_map.1 hz
    have := b.toNat_lt
    show (0 : Int) ≤ ((b.toNat : Nat) : Int) ∧ ((b.toNat : Nat) : Int) < 256
    omega
  unfold infoOf
  refine (((?_ : isBy _).append (ho _)).append ?_).append hx
  · intro z hz
    simp only [List.mem_cons, List.not_mem_nil, or_false] at hz
    rcases hz with rfl | rfl | rfl <;> exact wrap8_by _
  · intro z hz
    simp only [List.mem_cons, List.not_mem_nil, or_false] at hz
    rcases hz with rfl | rfl <;> exact wrap8_by _

theorem outb_begin (key info : List Int) : (outb key info (nb 70)).take 20 = (outb key info (nb 20)).take 20 := by
  show (((tb key info 1 ++ tb key info 2) ++ tb key info 3)).take 20 = (tb key info 1).take 20
  rw [List.append_assoc, List.take_append_of_le_length (by rw [tb_len]; omega)]

end Go.Proofs.YtjaekdcbjfgcpaaDoor.fn
