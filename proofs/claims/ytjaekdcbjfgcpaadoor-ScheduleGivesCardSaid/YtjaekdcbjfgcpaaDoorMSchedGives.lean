/- The law of every tag, every export, and every sealer. -/
import Derived.Test.YtjaekdcbjfgcpaaDoorMSchedX
import Derived.Test.YtjaekdcbjfgcpaaDoorMSchedR
import Derived.Test.YtjaekdcbjfgcpaaDoorFnScheduleGives
namespace Go.Proofs.YtjaekdcbjfgcpaaDoor.fn
open Go Go.Proofs Go.Ev Go.Dg

theorem ofStr_by (l : List UInt8) : isBy (ofStr l) := by
  intro z hz
  unfold ofStr at hz
  obtain ⟨x, _, rfl⟩ := List.mem_map.1 hz
  have := x.toNat_lt
  omega

theorem r22Tag_eq {R : Type} (N : Nat) (hN : 2000 < N) (e1 e2 e3 e4 e5 e6 e7 e8 : List Int) (t : List Int) (h4 : isBy e4) (ht : isBy t) (r : List Int → Option R) : r22Tag.M N R e1 e2 e3 e4 e5 e6 e7 e8 t r = r (hmac (cut (some 32) 0 e4) (cut (some 32) 0 t)) := by
  show r22Tag.m (m4Sum.M N) N e1 e2 e3 e4 e5 e6 e7 e8 t r = _
  unfold r22Tag.m
  have h1 := cut_le e4
  have h2 := cut_le t
  rw [m4Sum_eq N hN none none _ _ (cut_by h4) (cut_by ht) (by omega) (by omega)]

theorem r22Export_range {R : Type} (N : Nat) (e1 e2 e3 e4 e5 e6 e7 e8 : List Int) (label : List UInt8) (x : Option Bool) (ctx : List Int) (n : Int) (h : n < 0 ∨ n > 1000) (r : Option Bool → List Int → Int → Option R) :
    r22Export.M N R e1 e2 e3 e4 e5 e6 e7 e8 label x ctx n r = r (some true) [] 1 := by
  show r22Export.m (rSum.M N) (r22secret.M N) (rdLabel.M N) N e1 e2 e3 e4 e5 e6 e7 e8 label x ctx n r = _
  unfold r22Export.m
  by_cases h0 : n < 0
  · rw [decide_eq_true h0, cond_true]
  · rw [decide_eq_false h0, cond_false, decide_eq_true (by omega), cond_true]
theorem r22Export_long {R : Type} (N : Nat) (e1 e2 e3 e4 e5 e6 e7 e8 : List Int) (label : List UInt8) (x : Option Bool) (ctx : List Int) (n : Int) (h0 : ¬ (n < 0 ∨ n > 1000)) (h : label.length > 16384) (r : Option Bool → List Int → Int → Option R) :
    r22Export.M N R e1 e2 e3 e4 e5 e6 e7 e8 label x ctx n r = r (some true) [] 3 := by
  show r22Export.m (rSum.M N) (r22secret.M N) (rdLabel.M N) N e1 e2 e3 e4 e5 e6 e7 e8 label x ctx n r = _
  unfold r22Export.m
  rw [decide_eq_false (by omega), cond_false, decide_eq_false (by omega), cond_false, decide_eq_true (by omega), cond_true]
theorem r22Export_ok {R : Type} (N : Nat) (hN : 2000 < N) (e1 e2 e3 e4 e5 e6 e7 e8 : List Int) (h5 : isBy e5) (label : List UInt8) (x : Option Bool) (ctx : List Int) (hx : isBy ctx) (n : Nat) (h : n ≤ 1000) (hl : label.length ≤ 16384) (hc : ctx.length ≤ 16384) (r : Option Bool → List Int → Int → Option R) :
    r22Export.M N R e1 e2 e3 e4 e5 e6 e7 e8 label x ctx (n : Int) r = r none (expo e5 label ctx n) 0 := by
  show r22Export.m (rSum.M N) (r22secret.M N) (rdLabel.M N) N e1 e2 e3 e4 e5 e6 e7 e8 label x ctx (n : Int) r = _
  unfold r22Export.m expo
  have hb : isBy (cut none 0 (ofStr label)) := by rw [cut_none]; exact ofStr_by label
  have hcl := cut_le (dgst ctx)
  rw [decide_eq_false (by omega), cond_false, decide_eq_false (by omega), cond_false, decide_eq_false (by omega), cond_false, decide_eq_false (by omega), cond_false, rSum_eq N hN x ctx hx (by omega),
    r22sec_eq N hN e5 h5 _ (le200 (by decide)) none _ hb]
  exact rdLabel_eq N hN _ (secF_by _ _ _) _ none _ (cut_by (dgst_by ctx)) n (by omega) (le200 (by decide)) (by omega) _

theorem w64g (z : Int) (h0 : -1000000 ≤ z) (h1 : z ≤ 1000000) : IntKind.i64.wrap z = z := by
  unfold IntKind.wrap
  simp only [IntKind.bits, IntKind.signed, Bool.true_and]
  split
  · rename_i h; simp at h; omega
  · rename_i h; simp at h; omega

theorem lab_loop {R : Type} (N : Nat) (v : List Int) (hv : v.length = 32) (ke0 : (List Int) → Int → Int → (List Int) → Option R) (T : Option R) (hk : ke0 v 32 32 v = T) :
    ∀ (d i m : Nat) (w : List Int), i + d = 32 → d < m → w.length = 32 → w.take i = v.take i → labelled.L3 (rdLabel.M N) N ke0 m v 32 (i : Int) w = T
  | 0, i, m + 1, w, hi, _, hw, he => by
    unfold labelled.L3
    rw [decide_eq_false (by omega), cond_false]
    have : i = 32 := by omega
    subst this
    rw [List.take_of_length_le (by omega), List.take_of_length_le (by omega)] at he
    rw [he]; exact hk
  | d + 1, i, m + 1, w, hi, hm, hw, he => by
    unfold labelled.L3
    rw [decide_eq_true (show (i : Int) < 32 by omega), cond_true, decide_eq_true (show (0 : Int) ≤ (i : Int) by omega), cond_true, decide_eq_true (by omega), cond_true, cond_true, cond_true, w64g _ (by omega) (by omega)]
    refine lab_loop N v hv ke0 T hk d (i + 1) m _ (by omega) (by omega) (by rw [List.length_set]; exact hw) ?_
    rw [Int.toNat_natCast, List.take_add_one, List.take_add_one, List.take_set_of_le (by omega), he, List.getElem?_set_self (by omega)]
    have : v[i]? = some (v.getD i 0) := by simp [List.getD, List.getElem?_eq_getElem (show i < v.length by omega)]
    rw [this]

theorem labelled_eq {R : Type} (N : Nat) (hN : 2000 < N) (s : List Int) (hs : isBy s) (label : List UInt8) (hl : label.length ≤ 200) (r : List Int → Option R) : labelled.M N R s label 32 r = r (labelOf s label [] 32) := by
  show labelled.m (rdLabel.M N) N s label 32 r = _
  unfold labelled.m
  refine (rdLabel_eq N hN s hs label (some true) [] nil_by 32 (by omega) hl (by simp) _).trans ?_
  try dsimp only
  have e := labelOf_len s label [] 32
  rw [e]
  exact lab_loop N _ e _ _ rfl 32 0 N _ (by omega) (by omega) rfl rfl

theorem r22Sealer_eq {R : Type} (N : Nat) (hN : 2000 < N) (e1 e2 e3 e4 e5 e6 e7 e8 : List Int) (h2 : isBy e2) (r : List Int → List Int → Option R) :
    r22Sealer.M N R e1 e2 e3 e4 e5 e6 e7 e8 r = r (labelOf e2 [107, 101, 121] [] 32) (labelOf e2 [110, 111, 110, 99, 101] [] 12) := by
  show r22Sealer.m (labelled.M N) (rdLabel.M N) N e1 e2 e3 e4 e5 e6 e7 e8 r = _
  unfold r22Sealer.m
  rw [labelled_eq N hN e2 h2 _ (le200 (by decide))]
  exact rdLabel_eq N hN e2 h2 _ (some true) [] nil_by 12 (by omega) (le200 (by decide)) (by simp) _

theorem sSealer_eq {R : Type} (N : Nat) (hN : 2000 < N) (e1 e2 e3 e4 e5 e6 e7 e8 : List Int) (r : List Int → Option Bool → List Int → Option R) :
    sSealer.M N R e1 e2 e3 e4 e5 e6 e7 e8 r = r (labelOf e2 [107, 101, 121] [] 32) none (labelOf e2 [110, 111, 110, 99, 101] [] 12) := by
  show sSealer.m (dLabel.M N) N e1 e2 e3 e4 e5 e6 e7 e8 r = _
  unfold sSealer.m
  have e0 : (!Nat.beq 0 0) = false := rfl
  refine (dLabel_eq N hN e2 _ (some true) [] 32 (by omega) (by omega) (le200 (by decide)) (by simp) _).trans ?_
  refine (dLabel_eq N hN e2 _ (some true) [] 12 (by omega) (by omega) (le200 (by decide)) (by simp) _).trans ?_
  have e := labelOf_len e2 [107, 101, 121] [] 32
  rw [e0, cond_false, cond_false, e, Bool.true_and, show Nat.ble 32 32 = true from rfl, cond_true, List.take_of_length_le (by omega)]

theorem ScheduleGives_true {R : Type} (M : Nat) (hM : 2000 < M) (e1 e2 e3 e4 e5 e6 e7 e8 : List Int) (h1 : isBy e1) (h2 : isBy e2) (h3 : isBy e3) (h4 : isBy e4) (h5 : isBy e5) (h6 : isBy e6) (h7 : isBy e7) (h8 : isBy e8) (label : List UInt8) (n : Int) (r : Bool → Option R) :
    ScheduleGives.M (M + 80) R e1 e2 e3 e4 e5 e6 e7 e8 label n r = r true := by
  show ScheduleGives.m (alive22.M (M + 80)) (sSealer.M (M + 80)) (r22Sealer.M (M + 80)) (sExport.M (M + 80)) (r22Export.M (M + 80)) (sTag.M (M + 80)) (r22Tag.M (M + 80)) (Num.M (M + 80)) (M + 80) e1 e2 e3 e4 e5 e6 e7 e8 label n r = _
  have hN : 2000 < M + 80 := by omega
  unfold ScheduleGives.m
  rw [alive22_eq _ hN, Bool.not_true, cond_false]
  by_cases q : label.length ≤ 17000
  · rw [decide_eq_false (by omega), cond_false, sSealer_eq _ hN, r22Sealer_eq _ hN _ _ _ _ _ _ _ _ h2]
    have hc : (List.drop 0 (List.take 32 e8)).length ≤ 16384 := by rw [List.length_drop, List.length_take]; omega
    have hb8 : isBy (List.drop 0 (List.take 32 e8)) := fun z hz => h8 z (List.mem_of_mem_take (List.mem_of_mem_drop hz))
    have nil0 : (([] : List UInt8) == toStr ([] : List Int)) = true := rfl
    by_cases hr : n < 0 ∨ n > 1000
    · rw [sExport_range _ _ _ _ _ _ _ _ _ _ _ _ n hr, r22Export_range _ _ _ _ _ _ _ _ _ _ _ _ n hr, sTag_eq _ hN, r22Tag_eq _ hN _ _ _ _ _ _ _ _ _ h4 h7, beq_self_eq_true, cond_true, beq_self_eq_true, cond_true, beq_self_eq_true, cond_true, nil0, cond_true, Num1]
      rfl
    · by_cases hl : label.length > 16384
      · rw [sExport_long _ _ _ _ _ _ _ _ _ _ _ _ n hr (.inl hl), r22Export_long _ _ _ _ _ _ _ _ _ _ _ _ n hr hl, sTag_eq _ hN, r22Tag_eq _ hN _ _ _ _ _ _ _ _ _ h4 h7, beq_self_eq_true, cond_true, beq_self_eq_true, cond_true, beq_self_eq_true, cond_true, nil0, cond_true, Num3]
        rfl
      · obtain ⟨k, rfl⟩ : ∃ k : Nat, n = (k : Int) := ⟨n.toNat, by omega⟩
        rw [sExport_ok _ hN _ _ _ _ _ _ _ _ _ _ _ k (by omega) (by omega) hc, r22Export_ok _ hN _ _ _ _ _ _ _ _ h5 _ _ _ hb8 k (by omega) (by omega) hc, sTag_eq _ hN, r22Tag_eq _ hN _ _ _ _ _ _ _ _ _ h4 h7,
          beq_self_eq_true, cond_true, beq_self_eq_true, cond_true, beq_self_eq_true, cond_true, beq_self_eq_true, cond_true, Num0]
        rfl
  · rw [decide_eq_true (by omega), cond_true]

end Go.Proofs.YtjaekdcbjfgcpaaDoor.fn
