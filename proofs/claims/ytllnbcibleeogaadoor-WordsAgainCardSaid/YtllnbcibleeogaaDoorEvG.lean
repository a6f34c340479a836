/- The evaluator's soundness: reading, places, slices. -/
import Derived.Test.YtllnbcibleeogaaDoorEvF
namespace Go.Ev

theorem addr_add (a : Addr) (n : Nat) (h : a.spot = none) : a.add n = ⟨a.block, a.off + n, none⟩ := by
  unfold Addr.add
  split
  · subst_vars; cases a; simp_all
  · cases a; simp_all

theorem Val_of_Cells_ag {c : Cx} {v : AV} {cs : List Value} (h : Cells c v cs) (ha : v.ag = true) : Val c v (.agg cs.toArray) := by
  cases v <;> simp [AV.ag] at ha
  · obtain ⟨h1, h2, rfl⟩ := h; exact ⟨h1, h2, rfl⟩
  · exact ⟨cs, h, rfl⟩

theorem Val_of_Cells_leaf {c : Cx} {v : AV} {cs : List Value} (h : Cells c v cs) (ha : v.ag = false) : ∃ x, cs = [x] ∧ Val c v x := by
  cases v <;> simp [AV.ag] at ha
  case tup l => obtain ⟨x, _, g⟩ := h; exact g.elim
  case dead => obtain ⟨x, e, _⟩ := h; exact ⟨x, e, trivial⟩
  all_goals exact h

theorem leaf_cells {c : Cx} {v : AV} {x : Value} (he : c.eps 0 = .nilIface ∧ ∀ n, n ≠ 0 → ∃ T v, c.eps n = .iface T v) (h : leaf c v x) (hb : v.boxable = true) : x.cells = #[x] ∧ x.oneCell' = true := by
  cases v <;> simp [AV.boxable] at hb
  case int k n => obtain ⟨rfl, _⟩ := h; exact ⟨rfl, rfl⟩
  case bool b => obtain rfl := h; exact ⟨rfl, rfl⟩
  case str l => obtain rfl := h; exact ⟨rfl, rfl⟩
  case ints => exact h.elim
  case agg => exact h.elim
  case nils => obtain rfl := h; exact ⟨rfl, rfl⟩
  case isl => obtain ⟨_, a, cap, rfl, _⟩ := h; exact ⟨rfl, rfl⟩
  case rsl => obtain ⟨a, cap, rfl, _⟩ := h; exact ⟨rfl, rfl⟩
  case own id path off len => obtain ⟨a, n, m, rfl⟩ := leaf_own h; exact ⟨rfl, rfl⟩
  case ptr id path => obtain ⟨a, rfl⟩ := leaf_ptr h; exact ⟨rfl, rfl⟩
  case rpi => obtain ⟨_, p, rfl, _⟩ := h; exact ⟨rfl, rfl⟩
  case rps => obtain ⟨p, y, rfl, _⟩ := h; exact ⟨rfl, rfl⟩
  case nilp => obtain rfl := h; exact ⟨rfl, rfl⟩
  case err n =>
    simp only [leaf] at h
    subst h
    by_cases hn : n = 0
    · subst hn; rw [he.1]; exact ⟨rfl, rfl⟩
    · obtain ⟨T, v, hv⟩ := he.2 n hn; rw [hv]; exact ⟨rfl, rfl⟩
  case glo => obtain rfl := h; exact ⟨rfl, rfl⟩
  case fn => obtain rfl := h; exact ⟨rfl, rfl⟩

theorem Val_leaf {c : Cx} {v : AV} {x : Value} (ha : v.ag = false) (ht : ∀ l, v ≠ .tup l) (hd : v ≠ .dead) : Val c v x ↔ leaf c v x := by
  cases v <;> first | exact absurd rfl hd | exact Iff.rfl | (simp [AV.ag] at ha; done) | exact absurd rfl (ht _)

theorem Cells_of_Val {c : Cx} {v : AV} {x : Value} (he : c.eps 0 = .nilIface ∧ ∀ n, n ≠ 0 → ∃ T v, c.eps n = .iface T v) (h : Val c v x) (hb : v.boxable = true) : Cells c v x.cells.toList := by
  cases v
  case ints k n l => obtain ⟨h1, h2, rfl⟩ := h; exact ⟨h1, h2, by simp [Value.cells]⟩
  case agg l => obtain ⟨cs, h1, rfl⟩ := h; simpa [Value.cells, Cells] using h1
  case tup => simp [AV.boxable] at hb
  case dead => simp [AV.boxable] at hb
  all_goals
    have h' := (Val_leaf rfl (by simp) (by simp)).1 h
    have hc := (leaf_cells he h' hb).1
    rw [hc]
    exact ⟨x, rfl, h'⟩

theorem run_isAgg {P : Program} {t : TypeId} (h : (P.underlying t).isSome = true) (w : World) : (isAgg t).run P w = .ok (isAg P t) w := by
  cases hu : P.underlying t with
  | none => simp [hu] at h
  | some d => cases d <;> simp [isAgg, isAg, run_underlying' hu, hu]

theorem run_sizeOf' {P : Program} {t : TypeId} {n : Nat} (h : szIs P t n = true) (w : World) : (sizeOf t).run P w = .ok n w := by
  unfold szIs at h
  split at h
  · rename_i i hi
    have := Nat.eq_of_beq_eq_true h
    simp [sizeOf, typeInfo, hi, this]
  · cases h

theorem fits_ag {P : Program} {t : TypeId} {v : AV} (h : fits P t v = true) : (P.underlying t).isSome = true ∧ isAg P t = v.ag ∧ szIs P t (sh v).len = true := by
  simp only [fits, Bool.and_eq_true, beq_iff_eq] at h
  exact ⟨h.1.1, h.1.2, h.2⟩

theorem run_loadVar' {c : Cx} {P : Program} {t : TypeId} {v : AV} {cs : List Value} {b o : Nat} (hf : fits P t v = true) (hc : Cells c v cs)
    (hm : ∀ i (h : i < cs.length), c.w.cell? ⟨b, o + i, none⟩ = some cs[i]) : ∃ x, (loadVar t ⟨b, o, none⟩).run P c.w = .ok x c.w ∧ Val c v x := by
  obtain ⟨h1, h2, h3⟩ := fits_ag hf
  unfold loadVar
  simp only [Sem.run_bind, run_isAgg h1, Result.andThen_ok]
  cases ha : v.ag with
  | true =>
    rw [ha] at h2
    rw [h2]
    simp only [if_true, Sem.run_bind, run_sizeOf' h3, Result.andThen_ok]
    rw [← Cells_len v cs hc, run_loadCells_list c.w ⟨b, o, none⟩ cs fun j x hj => ?_]
    · exact ⟨_, rfl, Val_of_Cells_ag hc ha⟩
    · rw [addr_add _ _ rfl]
      have hlt : j < cs.length := by
        rcases Nat.lt_or_ge j cs.length with q | q
        · exact q
        · simp [List.getElem?_eq_none q] at hj
      have := hm j hlt
      rw [List.getElem?_eq_getElem hlt] at hj
      rw [this, ← hj]
  | false =>
    rw [ha] at h2
    rw [h2]
    obtain ⟨x, rfl, hx⟩ := Val_of_Cells_leaf hc ha
    have := hm 0 (by simp)
    simp only [Nat.add_zero, List.getElem_cons_zero] at this
    refine ⟨x, ?_, hx⟩
    simp [this]

theorem run_loadAt {P : Program} {t : TypeId} {a : Addr} {w : World} {x : Value} (h : (loadVar t a).run P w = .ok x w) : (Instr.loadAt t (.pointer (some a))).run P w = .ok x w := by
  simp only [Instr.loadAt, Instr.sureAddr, Sem.run_bind, Sem.run_pure, Result.andThen_ok, h]

theorem getElem?_lt {α : Type} {l : List α} {i : Nat} {a : α} (h : l[i]? = some a) : i < l.length := by
  rcases Nat.lt_or_ge i l.length with q | q
  · exact q
  · simp [List.getElem?_eq_none q] at h

theorem Inv.loc {X : Fx} {h : List Blk} {L : List Loc} {w : World} (I : Inv X h L w) {id : Nat} {b : Blk} (hb : h[id]? = some b) : ∃ p, L[id]? = some p := by
  have := getElem?_lt hb
  exact ⟨L[id]'(by rw [I.len]; exact this), List.getElem?_eq_getElem _⟩

theorem cx_S {X : Fx} {h : List Blk} {L : List Loc} {w : World} {id : Nat} {b : Blk} (hb : h[id]? = some b) : (cx X h L w).S[id]? = some b.sh := by
  show (h.map Blk.sh)[id]? = _
  rw [List.getElem?_map, hb]; rfl

/-- Where a pointer to a variable's part leads. -/
theorem ptr_var {X : Fx} {h : List Blk} {L : List Loc} {w : World} (I : Inv X h L w) {id : Nat} {path : List Nat} {v : AV} {x : AV} {pv : Value} (hb : h[id]? = some (.var v)) (hg : getP v path = some x)
    (hv : Val (cx X h L w) (.ptr id path) pv) : ∃ p o s cs, L[id]? = some p ∧ pv = .pointer (some ⟨p.b, p.o + o, none⟩) ∧ Sh.at (sh v) path = some (o, s) ∧ sh x = s ∧ Cells (cx X h L w) x cs ∧
      ∀ i (h : i < cs.length), w.cell? ⟨p.b, p.o + o + i, none⟩ = some cs[i] := by
  obtain ⟨p, hp⟩ := I.loc hb
  have hv' : leaf (cx X h L w) (.ptr id path) pv := hv
  simp only [leaf, cx_S hb, Blk.sh] at hv'
  have hL : (cx X h L w).L[id]? = some p := hp
  rw [hL] at hv'
  obtain ⟨o, s, hat, rfl⟩ := hv'
  obtain ⟨cs, g1, g2⟩ := I.blk id _ p hb hp
  obtain ⟨pre, cx', post, rfl, hpre, q1, q2, _⟩ := Cells_at path v x cs o s g1 hg hat
  refine ⟨p, o, s, cx', hp, rfl, hat, q2, q1, fun i hi => ?_⟩
  have := (g2 (o + i) (by simp [hpre]; omega)).1
  rw [show p.o + o + i = p.o + (o + i) by omega]
  simp only [cx] at this
  rw [this]
  have e : (pre ++ cx' ++ post)[o + i]? = cx'[i]? := by
    rw [List.append_assoc, List.getElem?_append_right (by omega), List.getElem?_append_left (by omega)]
    congr 1; omega
  rw [← List.getElem?_eq_getElem, ← List.getElem?_eq_getElem, e]

theorem ptr_row {X : Fx} {h : List Blk} {L : List Loc} {w : World} (I : Inv X h L w) {id i : Nat} {k : IntKind} {nl : Bool} {l : List Int} {pv : Value} (hb : h[id]? = some (.row k nl l))
    (hv : Val (cx X h L w) (.ptr id [i]) pv) : ∃ p, L[id]? = some p ∧ nl = false ∧ pv = .pointer (some ⟨p.b, p.o + i, none⟩) ∧ i < l.length ∧ NN k l ∧ w.cell? ⟨p.b, p.o + i, none⟩ = some (.int k (l.getD i 0)) ∧
      w.frozen? ⟨p.b, p.o + i, none⟩ = false := by
  obtain ⟨p, hp⟩ := I.loc hb
  have hv' : leaf (cx X h L w) (.ptr id [i]) pv := hv
  simp only [leaf, cx_S hb, Blk.sh] at hv'
  have hL : (cx X h L w).L[id]? = some p := hp
  rw [hL] at hv'
  obtain ⟨hn, j, hj, hlt, rfl⟩ := hv'
  simp only [List.cons.injEq, and_true] at hj
  subst hj
  obtain ⟨g1, g2, g3⟩ := I.blk id _ p hb hp
  obtain ⟨q1, q2, q3⟩ := g3 hn
  refine ⟨p, hp, hn, rfl, hlt, g1, ?_, (q3 i (by omega)).2⟩
  have : w.cell? ⟨p.b, p.o + i, none⟩ = _ := q2 i hlt
  simpa [List.getD, List.getElem?_eq_getElem hlt] using this

def lookOk (look : Nat → Blk) (h : List Blk) : Prop := ∀ id, look id ≠ .rsv → h[id]? = some (look id)

theorem lookOk.get {look : Nat → Blk} {h : List Blk} (hl : lookOk look h) {id : Nat} {b : Blk} (hb : look id = b) (hn : b ≠ .rsv) : h[id]? = some b := by
  have := hl id (by rw [hb]; exact hn)
  rw [this, hb]

theorem getD_mem {l : List Int} {i : Nat} (h : i < l.length) : l.getD i 0 ∈ l := by
  simp [List.getD, List.getElem?_eq_getElem h]

/-- What a load comes to. -/
theorem loadE_run {R : Type} {G : Gi} {κ : Kop R} {r : R} {look : Nat → Blk} {t : TypeId} {av : AV} (h0 : loadE G look κ t av = some r) :
    ∃ v, κ v [] = some r ∧ ∀ (X : Fx) h L w x, X.G = G → Inv X h L w → lookOk look h → Val (cx X h L w) av x → ∃ cv, (Instr.loadAt t x).run G.P w = .ok cv w ∧ Val (cx X h L w) v cv := by
  unfold loadE at h0
  split at h0
  · rename_i id path
    split at h0
    · rename_i v hv
      split at h0
      · rename_i x hx
        obtain ⟨hf, h0⟩ := cond_none h0
        refine ⟨x, h0, fun X h L w pv hG I hl hp => ?_⟩
        obtain ⟨p, o, s, cs, _, rfl, _, _, hc, hm⟩ := ptr_var I (hl.get hv (by simp)) hx hp
        obtain ⟨cv, g1, g2⟩ := run_loadVar' (c := cx X h L w) hf hc hm
        exact ⟨cv, run_loadAt g1, g2⟩
      · cases h0
    · rename_i k nl l hv
      split at h0
      · rename_i i
        obtain ⟨hf, h0⟩ := cond_none h0
        refine ⟨_, h0, fun X h L w pv hG I hl hp => ?_⟩
        obtain ⟨p, _, _, rfl, hlt, hnn, hc, _⟩ := ptr_row I (hl.get hv (by simp)) hp
        have hf' : fits G.P t (.int k (l.getD i 0)) = true := hf
        obtain ⟨cv, g1, g2⟩ := run_loadVar' (c := cx X h L w) (cs := [.int k (l.getD i 0)]) (b := p.b) (o := p.o + i) hf' ⟨_, rfl, rfl, fun hk y hy => by
          rw [List.mem_singleton] at hy; subst hy; exact hnn hk _ (getD_mem hlt)⟩ (fun j hj => by
            have : j = 0 := by simp at hj; omega
            subst this; exact hc)
        exact ⟨cv, run_loadAt g1, g2⟩
      · cases h0
    · cases h0
  · rename_i k n
    obtain ⟨hf, h0⟩ := cond_none h0
    refine ⟨_, h0, fun X h L w pv hG I hl hp => ?_⟩
    obtain ⟨hnn, p, rfl, hs, hc, _⟩ := hp
    obtain ⟨cv, g1, g2⟩ := run_loadVar' (c := cx X h L w) (cs := [.int k n]) (b := p.block) (o := p.off) hf ⟨_, rfl, rfl, hnn⟩ (fun j hj => by
            have : j = 0 := by simp at hj; omega
            subst this; exact hc)
    have : p = ⟨p.block, p.off, none⟩ := by cases p; simp_all
    rw [← this] at g1
    exact ⟨cv, run_loadAt g1, g2⟩
  · rename_i k l
    obtain ⟨hf, h0⟩ := cond_none h0
    refine ⟨_, h0, fun X h L w pv hG I hl hp => ?_⟩
    obtain ⟨p, y, rfl, hs, hc, _, hsl⟩ := hp
    have hf' : fits G.P t (.isl k none l) = true := hf
    obtain ⟨cv, g1, g2⟩ := run_loadVar' (c := cx X h L w) (cs := [y]) (b := p.block) (o := p.off) hf' ⟨_, rfl, hsl⟩ (fun j hj => by
            have : j = 0 := by simp at hj; omega
            subst this; exact hc)
    have : p = ⟨p.block, p.off, none⟩ := by cases p; simp_all
    rw [← this] at g1
    exact ⟨cv, run_loadAt g1, g2⟩
  · rename_i g
    split at h0
    · rename_i v hv
      obtain ⟨hf, h0⟩ := cond_none h0
      refine ⟨_, h0, fun X h L w pv hG I hl hp => ?_⟩
      obtain rfl := hp
      obtain ⟨cs, hc, hm⟩ := I.glb g v (by rw [hG]; exact hv)
      obtain ⟨cv, g1, g2⟩ := run_loadVar' (c := cx X h L w) (b := g) (o := 0) hf hc (fun i hi => by rw [Nat.zero_add]; exact (hm i hi).1)
      exact ⟨cv, run_loadAt g1, g2⟩
    · cases h0
  · cases h0

end Go.Ev
