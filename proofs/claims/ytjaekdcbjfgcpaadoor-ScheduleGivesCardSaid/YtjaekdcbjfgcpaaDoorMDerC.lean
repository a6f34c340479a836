/- What a derivation by a label comes to. -/
import Derived.Test.YtjaekdcbjfgcpaaDoorFnDerS
import Derived.Test.YtjaekdcbjfgcpaaDoorMDerB
import Derived.Test.YtjaekdcbjfgcpaaDoorMConcat
namespace Go.Proofs.YtjaekdcbjfgcpaaDoor.fn
open Go Go.Proofs Go.Ev Go.Dg

theorem infoOf_len (a : List UInt8) (x : List Int) (n : Int) : (infoOf a x n).length = 16 + a.length + x.length := by
  unfold infoOf
  have hs : (ofStr (pre11 ++ a)).length = 11 + a.length := by
    unfold ofStr pre11
    rw [List.length_map, List.length_append]; rfl
  rw [List.length_append, List.length_append, List.length_append, hs]
  simp only [List.length_cons, List.length_nil]
  omega

theorem le2 (n : Nat) (h : n ≤ 20000) : IntKind.u8.wrap (IntKind.i64.wrap ((n : Int).tdiv 256)) = IntKind.u8.wrap (ishr .i64 (n : Int) 8) ∧ IntKind.u8.wrap ((n : Int).tmod 256) = IntKind.u8.wrap (n : Int) := by
  have e1 : (n : Int).tdiv 256 = ((n / 256 : Nat) : Int) := rfl
  have e2 : (n : Int).tmod 256 = ((n % 256 : Nat) : Int) := rfl
  have e3 := ishr_nat .i64 n 8 (by decide)
  have e3 : ishr .i64 (n : Int) 8 = ((n / 256 : Nat) : Int) := e3
  rw [e1, e2, e3, wrap_i64z _ (by omega) (by omega)]
  exact ⟨rfl, by rw [wrap_u8, wrap_u8, Nat.mod_mod]⟩

theorem dInfo_long {R : Type} (N : Nat) (label : List UInt8) (x : Option Bool) (ctx : List Int) (n : Int) (h0 : 0 ≤ n) (hn : n ≤ 8160) (hl : label.length > 200 ∨ ctx.length > 16384) (r : Option Bool → List Int → Nat → Option R) :
    dInfo.M N R label x ctx n r = r (some true) [] 3 := by
  show dInfo.m N label x ctx n r = _
  unfold dInfo.m
  rw [decide_eq_false (by omega), cond_false, decide_eq_false (by omega), cond_false]
  by_cases h : label.length > 200
  · rw [decide_eq_true (by omega), cond_true]
  · rw [decide_eq_false (by omega), cond_false, decide_eq_true (by omega), cond_true]

/-- What a label gives. -/
def labelOf (secret : List Int) (label : List UInt8) (ctx : List Int) (n : Nat) : List Int := (outb (secret.take 32) (infoOf label ctx n) (nb n)).take n

theorem dLabel_eq {R : Type} (N : Nat) (hN : 2000 < N) (secret : List Int) (label : List UInt8) (x : Option Bool) (ctx : List Int) (n : Nat) (h0 : 0 < n) (hn : n ≤ 8160) (hl : label.length ≤ 200) (hc : ctx.length ≤ 16384) (r : Option Bool → List Int → Nat → Option R) :
    dLabel.M N R secret label x ctx (n : Int) r = r none (labelOf secret label ctx n) 0 := by
  show dLabel.m (dInfo.M N) (dExpand.M N) N secret label x ctx (n : Int) r = _
  unfold dLabel.m
  rw [dInfo_eq N label x ctx (n : Int) (by omega) (by omega) hl hc]
  have e0 : (!Nat.beq 0 0) = false := rfl
  rw [e0, cond_false]
  have hi := infoOf_len label ctx (n : Int)
  have hk : (cut (some 32) 0 secret).length ≤ 60000 := by
    show ((secret.drop 0).take 32).length ≤ 60000
    rw [List.length_take]; omega
  exact dExpand_eq N hN none none (cut (some 32) 0 secret) (infoOf label ctx (n : Int)) hk (by omega) n hn h0 _ _ _ fun nl => rfl

theorem dLabel_long {R : Type} (N : Nat) (secret : List Int) (label : List UInt8) (x : Option Bool) (ctx : List Int) (n : Nat) (hn : n ≤ 8160) (hl : label.length > 200 ∨ ctx.length > 16384) (r : Option Bool → List Int → Nat → Option R) :
    dLabel.M N R secret label x ctx (n : Int) r = r (some true) [] 3 := by
  show dLabel.m (dInfo.M N) (dExpand.M N) N secret label x ctx (n : Int) r = _
  unfold dLabel.m
  rw [dInfo_long N label x ctx (n : Int) (by omega) (by omega) hl]
  rfl

theorem labelOf_len (secret : List Int) (label : List UInt8) (ctx : List Int) (n : Nat) : (labelOf secret label ctx n).length = n := by
  unfold labelOf
  have := outb_len (secret.take 32) (infoOf label ctx n) (nb n)
  rw [List.length_take, this]
  unfold nb
  omega

def z32 : List Int := [0, 0, 0, 0, 0, 0, 0, 0, 0, 0, 0, 0, 0, 0, 0, 0, 0, 0, 0, 0, 0, 0, 0, 0, 0, 0, 0, 0, 0, 0, 0, 0]

theorem dSecret_eq {R : Type} (N : Nat) (hN : 2000 < N) (secret : List Int) (label : List UInt8) (ll : List (List Int)) (hll : ll.length ≤ 1000) (hl : label.length ≤ 200) (hc : ll.flatten.length ≤ 16384) (r : List Int → Option R) :
    dSecret.M N R secret label ll r = r (labelOf secret label ll.flatten 32) := by
  show dSecret.m (Concat.M N) (dLabel.M N) N secret label ll r = _
  unfold dSecret.m
  refine Concat_eq N hN ll hll (by omega) _ _ fun o nl l hcut => ?_
  rw [hcut]
  refine (dLabel_eq N hN secret label none ll.flatten 32 (by omega) (by omega) hl hc _).trans ?_
  have hlen := labelOf_len secret label ll.flatten 32
  rw [hlen]
  have e0 : Nat.beq 0 0 = true := rfl
  rw [e0, cond_true]
  have e1 : min 32 32 = 32 := rfl
  rw [e1, List.take_of_length_le (by rw [hlen]; omega), List.nil_append]
  have e2 : List.drop (0 + 32) ([0, 0, 0, 0, 0, 0, 0, 0, 0, 0, 0, 0, 0, 0, 0, 0, 0, 0, 0, 0, 0, 0, 0, 0, 0, 0, 0, 0, 0, 0, 0, 0] : List Int) = [] := rfl
  rw [e2, List.append_nil]

theorem dSecret_long {R : Type} (N : Nat) (hN : 2000 < N) (secret : List Int) (label : List UInt8) (ll : List (List Int)) (hll : ll.length ≤ 1000) (ht : ll.flatten.length ≤ 1000000) (hl : label.length > 200 ∨ ll.flatten.length > 16384) (r : List Int → Option R) :
    dSecret.M N R secret label ll r = r z32 := by
  show dSecret.m (Concat.M N) (dLabel.M N) N secret label ll r = _
  unfold dSecret.m
  refine Concat_eq N hN ll hll ht _ _ fun o nl l hcut => ?_
  rw [hcut]
  refine (dLabel_long N secret label none ll.flatten 32 (by omega) hl _).trans ?_
  rfl

/-! ### the references -/

theorem rdInfo_eq {R : Type} (N : Nat) (label : List UInt8) (x : Option Bool) (ctx : List Int) (n : Nat) (hn : n ≤ 8160) (hl : label.length ≤ 200) (hc : ctx.length ≤ 16384) (r : List Int → Option R) :
    rdInfo.M N R label x ctx (n : Int) r = r (infoOf label ctx (n : Int)) := by
  show rdInfo.m N label x ctx (n : Int) r = _
  unfold rdInfo.m
  have hs : (ofStr (pre11 ++ label)).length = 11 + label.length := by
    unfold ofStr pre11
    rw [List.length_map, List.length_append]; rfl
  have hcut : ∀ l : List Int, cut none 0 l = l := fun _ => rfl
  simp only [hcut]
  have hs' : (ofStr ([102, 101, 108, 108, 111, 119, 115, 104, 105, 112, 32] ++ label)).length = 11 + label.length := hs
  simp only [List.length_append, List.length_cons, List.length_nil, hs']
  repeat rw [decide_eq_true (by omega), cond_true]
  obtain ⟨a1, a2⟩ := le2 n (by omega)
  obtain ⟨b1, b2⟩ := le2 ctx.length (by omega)
  unfold infoOf
  rw [a1, a2, b1, b2]
  simp only [List.length_append, List.length_cons, List.length_nil]
  rfl

theorem rdLabel_eq {R : Type} (N : Nat) (hN : 2000 < N) (secret : List Int) (hs : isBy secret) (label : List UInt8) (x : Option Bool) (ctx : List Int) (hx : isBy ctx) (n : Nat) (hn : n ≤ 8160) (hl : label.length ≤ 200) (hc : ctx.length ≤ 16384) (r : List Int → Option R) :
    rdLabel.M N R secret label x ctx (n : Int) r = r (labelOf secret label ctx n) := by
  show rdLabel.m (rdInfo.M N) (rdExpand.M N) N secret label x ctx (n : Int) r = _
  unfold rdLabel.m
  rw [rdInfo_eq N label x ctx n hn hl hc]
  have hi := infoOf_len label ctx (n : Int)
  have hk : (cut (some 32) 0 secret).length ≤ 60000 := by
    show ((secret.drop 0).take 32).length ≤ 60000
    rw [List.length_take]; omega
  have hb : isBy (cut (some 32) 0 secret) := fun z hz => hs z (List.mem_of_mem_drop (List.mem_of_mem_take hz))
  rw [rdExpand_eq N hN none none (cut (some 32) 0 secret) (infoOf label ctx (n : Int)) hk (by omega) hb (infoOf_by hx) n hn]
  rfl

theorem rdS_loop {R : Type} (N : Nat) (ke : List Int → Int → Int → List Int → Option R) (v : List Int) (hv : v.length = 32) : ∀ (d m i : Nat) (h : List Int), i + d = 32 → d < m → h.length = 32 → (∀ j, j < i → h[j]? = v[j]?) →
    rdSecret.L3 (rdLabel.M N) N ke m v 32 (i : Int) h = ke v 32 32 v := by
  intro d
  induction d with
  | zero =>
    intro m i h hi hm hl hj
    obtain ⟨m, rfl⟩ : ∃ k, m = k + 1 := ⟨m - 1, by omega⟩
    obtain rfl : i = 32 := by omega
    have : h = v := by
      apply List.ext_getElem?
      intro j
      by_cases hj' : j < 32
      · exact hj j hj'
      · rw [List.getElem?_eq_none (by omega), List.getElem?_eq_none (by omega)]
    subst this
    unfold rdSecret.L3
    rw [decide_eq_false (by omega), cond_false]
    rfl
  | succ d ih =>
    intro m i h hi hm hl hj
    obtain ⟨m, rfl⟩ : ∃ k, m = k + 1 := ⟨m - 1, by omega⟩
    unfold rdSecret.L3
    have hv' : ((v.length : Nat) : Int) = 32 := by rw [hv]; rfl
    rw [hv', decide_eq_true (by omega), cond_true, decide_eq_true (by omega), cond_true, cond_true, cond_true, cond_true, Int.toNat_natCast, wrap_i64z _ (by omega) (by omega)]
    refine ih m (i + 1) _ (by omega) (by omega) (by rw [List.length_set]; exact hl) fun j hji => ?_
    by_cases hij : j = i
    · subst hij
      rw [List.getElem?_set_self (by omega)]
      simp [List.getD, List.getElem?_eq_getElem (show j < v.length by omega)]
    · rw [List.getElem?_set_ne (by omega)]
      exact hj j (by omega)

theorem rdSecret_eq {R : Type} (N : Nat) (hN : 2000 < N) (secret : List Int) (hs : isBy secret) (label : List UInt8) (x : Option Bool) (ctx : List Int) (hx : isBy ctx) (hl : label.length ≤ 200) (hc : ctx.length ≤ 16384) (r : List Int → Option R) :
    rdSecret.M N R secret label x ctx r = r (labelOf secret label ctx 32) := by
  show rdSecret.m (rdLabel.M N) N secret label x ctx r = _
  unfold rdSecret.m
  have := rdLabel_eq N hN secret hs label x ctx hx 32 (by omega) hl hc
    (fun v_c6 => rdSecret.L3 (rdLabel.M N) N (fun _t14_c7 _t15_c8 _t16_c9 h1_c10 => r h1_c10) N v_c6 ((v_c6.length : Int)) 0 ([0, 0, 0, 0, 0, 0, 0, 0, 0, 0, 0, 0, 0, 0, 0, 0, 0, 0, 0, 0, 0, 0, 0, 0, 0, 0, 0, 0, 0, 0, 0, 0]))
  refine this.trans ?_
  have hlen := labelOf_len secret label ctx 32
  have hv' : (((labelOf secret label ctx 32).length : Nat) : Int) = 32 := by rw [hlen]; rfl
  rw [hv']
  exact rdS_loop N _ (labelOf secret label ctx 32) hlen 32 N 0 _ (by omega) (by omega) rfl (fun j hj => by omega)

end Go.Proofs.YtjaekdcbjfgcpaaDoor.fn
