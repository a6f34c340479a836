/- The evaluator's soundness: new memory, and writes. -/
import Derived.Test.YtllnbcibleeogaaDoorEvI
import Derived.Laws.IdiomCopy
import Derived.Laws.Append
import Derived.ArgAppend
namespace Go.Ev
set_option linter.unusedSimpArgs false
set_option linter.unusedVariables false

abbrev EOk (c : Cx) : Prop := c.eps 0 = .nilIface ∧ ∀ n, n ≠ 0 → ∃ T v, c.eps n = .iface T v

theorem ofVal_leaf {c : Cx} (he : EOk c) {v : Value} (h : oneB v = true) : leaf c (ofVal v) v := by
  unfold ofVal
  split
  · rename_i k n
    cases hk : (k.signed || decide (0 ≤ n))
    · exact ⟨rfl, rfl⟩
    · refine ⟨rfl, fun hs x hx => ?_⟩
      rw [List.mem_singleton] at hx; subst hx
      simpa [hs] using hk
  · rfl
  · show _ = _; simp
  · rfl
  · rfl
  · exact he.1.symm
  · refine ⟨?_, ?_⟩
    · cases v <;> first | rfl | simp [oneB] at h
    · cases v <;> first | rfl | simp [oneB] at h

theorem Val_ofVal {c : Cx} (he : EOk c) (v : Value) : Val c (ofVal v) v := by
  unfold ofVal
  split
  · rename_i k n
    cases hk : (k.signed || decide (0 ≤ n))
    · exact trivial
    · refine ⟨rfl, fun hs x hx => ?_⟩
      rw [List.mem_singleton] at hx; subst hx
      simpa [hs] using hk
  · rfl
  · show _ = _; simp
  · rfl
  · rfl
  · exact he.1.symm
  · trivial

theorem parseL_ok {c : Cx} {f : TypeId → List Value → Option (AV × List Value)} (hf : ∀ t cs v r, f t cs = some (v, r) → ∃ c1, cs = c1 ++ r ∧ Cells c v c1) :
    ∀ (ts : List TypeId) (cs : List Value) (l : List AV) (r : List Value), parseL f ts cs = some (l, r) → ∃ c1, cs = c1 ++ r ∧ CellsL c l c1
  | [], cs, l, r, h => by
    simp only [parseL, Option.some.injEq, Prod.mk.injEq] at h
    obtain ⟨rfl, rfl⟩ := h
    exact ⟨[], rfl, rfl⟩
  | t :: ts, cs, l, r, h => by
    simp only [parseL] at h
    split at h
    · rename_i v r1 h1
      split at h
      · rename_i l1 r2 h2
        simp only [Option.some.injEq, Prod.mk.injEq] at h
        obtain ⟨rfl, rfl⟩ := h
        obtain ⟨c1, rfl, g1⟩ := hf _ _ _ _ h1
        obtain ⟨c2, rfl, g2⟩ := parseL_ok hf ts _ _ _ h2
        exact ⟨c1 ++ c2, by simp, c1, c2, rfl, g1, g2⟩
      · cases h
    · cases h

theorem takeInts_ok {k : IntKind} : ∀ (n : Nat) (cs : List Value) (l : List Int) (r : List Value), takeInts k n cs = some (l, r) → l.length = n ∧ NN k l ∧ cs = l.map (Value.int k) ++ r
  | 0, cs, l, r, h => by
    simp only [takeInts, Option.some.injEq, Prod.mk.injEq] at h
    obtain ⟨rfl, rfl⟩ := h
    exact ⟨rfl, by simp [NN], rfl⟩
  | n + 1, [], l, r, h => by simp [takeInts] at h
  | n + 1, v :: cs', l, r, h => by
    cases v <;> first | (simp only [takeInts, reduceCtorEq] at h; done) | skip
    rename_i k' x
    simp only [takeInts] at h
    obtain ⟨h1, h2⟩ := cond_none h
    simp only [Bool.and_eq_true, decide_eq_true_eq, Bool.or_eq_true] at h1
    obtain ⟨rfl, h3⟩ := h1
    split at h2
    · rename_i l1 r1 h4
      simp only [Option.some.injEq, Prod.mk.injEq] at h2
      obtain ⟨rfl, rfl⟩ := h2
      obtain ⟨q1, q2, q3⟩ := takeInts_ok _ _ _ _ h4
      refine ⟨by simp [q1], fun hs y hy => ?_, by rw [q3]; rfl⟩
      rcases List.mem_cons.1 hy with rfl | hy
      · exact h3.resolve_left (by simp [hs])
      · exact q2 hs _ hy
    · cases h2

theorem parse_ok {c : Cx} (he : EOk c) {P : Program} : ∀ (d : Nat) (t : TypeId) (cs : List Value) (v : AV) (r : List Value), parse P d t cs = some (v, r) → ∃ c1, cs = c1 ++ r ∧ Cells c v c1
  | 0, _, _, _, _, h => by cases h
  | d + 1, t, cs, v, r, h => by
    unfold parse at h
    split at h
    · split at h
      · split at h
        · rename_i l r1 h1
          simp only [Option.some.injEq, Prod.mk.injEq] at h
          obtain ⟨rfl, rfl⟩ := h
          obtain ⟨q1, q2, q3⟩ := takeInts_ok _ _ _ _ h1
          exact ⟨_, q3, q1, q2, rfl⟩
        · cases h
      · split at h
        · rename_i l r1 h1
          simp only [Option.some.injEq, Prod.mk.injEq] at h
          obtain ⟨rfl, rfl⟩ := h
          exact parseL_ok (fun t cs v r => parse_ok he d t cs v r) _ _ _ _ h1
        · cases h
    · split at h
      · rename_i l r1 h1
        simp only [Option.some.injEq, Prod.mk.injEq] at h
        obtain ⟨rfl, rfl⟩ := h
        exact parseL_ok (fun t cs v r => parse_ok he d t cs v r) _ _ _ _ h1
      · cases h
    · split at h
      · rename_i x r1
        obtain ⟨h1, h2⟩ := cond_none h
        simp only [Option.some.injEq, Prod.mk.injEq] at h2
        obtain ⟨rfl, rfl⟩ := h2
        refine ⟨[x], rfl, ?_⟩
        have := ofVal_leaf he h1
        revert this
        unfold ofVal
        split <;> try exact fun g => ⟨_, rfl, g⟩
        rename_i k n
        cases (k.signed || decide (0 ≤ n)) <;> exact fun g => ⟨_, rfl, g⟩
      · cases h

theorem zeroAV_ok {c : Cx} (he : EOk c) {P : Program} {t : TypeId} {v : AV} (h : zeroAV P t = some v) (w : World) : ∃ z, (zeroValue t).run P w = .ok z w ∧ Cells c v z.cells.toList := by
  unfold zeroAV at h
  split at h
  · rename_i i hi
    split at h
    · rename_i z hz
      split at h
      · rename_i v' hp
        simp only [Option.some.injEq] at h
        subst h
        obtain ⟨c1, q1, q2⟩ := parse_ok (c := c) he _ _ _ _ _ hp
        refine ⟨z, by simp [zeroValue, typeInfo, hi, hz], ?_⟩
        rw [q1]; simpa using q2
      · cases h
    · cases h
  · cases h

/-- A new variable. -/
theorem Inv.newVar {X : Fx} {h : List Blk} {L : List Loc} {w : World} (I : Inv X h L w) {nid : Nat} (hn : h[nid]? = some .rsv) {v : AV} {cs : List Value} (hc : Cells (cx X h L w) v cs) (T : TypeId) :
    ∃ L', Inv X (h.set nid (.var v)) L' (w.alloc (.cells cs.toArray T)) ∧ Cx.Le (cx X h L w) (cx X (h.set nid (.var v)) L' (w.alloc (.cells cs.toArray T))) ∧
      Val (cx X (h.set nid (.var v)) L' (w.alloc (.cells cs.toArray T))) (.ptr nid []) (.pointer (some ⟨w.heap.size, 0, none⟩)) := by
  obtain ⟨I', hle⟩ := I.alloc hn (.var v) ⟨w.heap.size, 0, 0⟩ (.cells cs.toArray T) (fun x y q => q.1) (fun hle => by
    refine ⟨cs, Cells.le hle v cs hc, fun i hi => ⟨?_, ?_⟩⟩
    · show (w.alloc (.cells cs.toArray T)).cell? _ = _
      rw [World.cell?_alloc_new]
      simp [hi]
    · show (w.alloc (.cells cs.toArray T)).frozen? _ = _
      rw [World.frozen?_alloc_new])
  refine ⟨_, I', hle, ?_⟩
  have hlt := getElem?_lt hn
  have hb : (h.set nid (.var v))[nid]? = some (.var v) := List.getElem?_set_self hlt
  have hL : (L.set nid ⟨w.heap.size, 0, 0⟩)[nid]? = some ⟨w.heap.size, 0, 0⟩ := List.getElem?_set_self (by rw [I.len]; exact hlt)
  have hat : Sh.at (sh v) [] = some (0, sh v) := by cases sh v <;> rfl
  exact ptr_mk hb hL hat

theorem cell_new (w : World) (c : Array Value) (t : TypeId) (f : Nat × Nat) (i : Nat) : (w.alloc (.cells c t f)).cell? ⟨w.heap.size, i, none⟩ = c[i]? := by
  simp [World.alloc, World.cell?, -World.alloc_eq]

theorem frozen_new (w : World) (c : Array Value) (t : TypeId) (f : Nat × Nat) (i : Nat) : (w.alloc (.cells c t f)).frozen? ⟨w.heap.size, i, none⟩ = (decide (f.1 ≤ i) && decide (i < f.2)) := by
  obtain ⟨lo, hi⟩ := f
  simp [World.alloc, World.frozen?, -World.alloc_eq]

/-- A new row. -/
theorem Inv.newRowF {X : Fx} {h : List Blk} {L : List Loc} {w : World} (I : Inv X h L w) {nid : Nat} (hn : h[nid]? = some .rsv) {k : IntKind} {l : List Int} (hl : NN k l) {cs : Array Value} (T : TypeId)
    (hc : ∀ i (hi : i < l.length), cs[i]? = some (.int k l[i])) (hlen : l.length ≤ cs.size) (cap : Nat) (hcap : l.length ≤ cap) (hcap2 : cap ≤ cs.size) (w1 : World) (hw : w1 = w ∨ w1 = w.drew) (f : Nat × Nat) (hf : ∀ i, i < cap → (decide (f.1 ≤ i) && decide (i < f.2)) = false) :
    ∃ L', Inv X (h.set nid (.row k false l)) L' (w1.alloc (.cells cs T f)) ∧ Cx.Le (cx X h L w) (cx X (h.set nid (.row k false l)) L' (w1.alloc (.cells cs T f))) ∧
      Val (cx X (h.set nid (.row k false l)) L' (w1.alloc (.cells cs T f))) (.own nid [] 0 none) (.slice (some ⟨w.heap.size, 0, none⟩) l.length cap) := by
  have Iw : Inv X h L w1 ∧ Cx.Le (cx X h L w) (cx X h L w1) := by
    rcases hw with rfl | rfl
    · exact ⟨I, Cx.Le.refl _⟩
    · refine I.upd (fun _ _ => False) I.len (Step.drew _ _ _) (fun _ _ q => q.elim) (fun id s hs _ => .inl ⟨hs, rfl⟩) (fun b o q => .inl q) I.dis (fun _ id b p hb hp => .inl ⟨hb, hp, fun _ _ _ q => q⟩)
  have hsz : w1.heap.size = w.heap.size := by rcases hw with rfl | rfl <;> rfl
  obtain ⟨I', hle⟩ := Iw.1.alloc hn (.row k false l) ⟨w1.heap.size, 0, cap⟩ (.cells cs T f) (fun x y q => q.2.1) (fun hle => by
    refine ⟨hl, by simp, fun _ => ⟨hcap, fun i hi => ?_, fun i hi => ⟨?_, ?_⟩⟩⟩
    · show (w1.alloc (.cells cs T f)).cell? _ = _
      rw [cell_new, Nat.zero_add, hc i hi]
    · refine ⟨cs[i]'(by simp at hi; omega), ?_⟩
      show (w1.alloc (.cells cs T f)).cell? _ = _
      rw [cell_new]
      simp
    · show (w1.alloc (.cells cs T f)).frozen? _ = _
      rw [frozen_new, Nat.zero_add]
      exact hf i hi)
  refine ⟨_, I', Iw.2.trans hle, ?_⟩
  have hlt := getElem?_lt hn
  rw [Val_leaf rfl (by simp) (by simp)]
  have hb : (h.set nid (.row k false l))[nid]? = some (.row k false l) := List.getElem?_set_self hlt
  have hL : (L.set nid ⟨w1.heap.size, 0, cap⟩)[nid]? = some ⟨w1.heap.size, 0, cap⟩ := List.getElem?_set_self (by rw [I.len]; exact hlt)
  simp only [leaf, cx_S hb, Blk.sh]
  have hL' : (cx X (h.set nid (.row k false l)) (L.set nid ⟨w1.heap.size, 0, cap⟩) (w1.alloc (.cells cs T f))).L[nid]? = some ⟨w1.heap.size, 0, cap⟩ := hL
  rw [hL']
  refine ⟨by trivial, by simp [olen], ?_⟩
  simp only [Bool.false_eq_true, if_false]
  exact ⟨⟨w.heap.size, 0, none⟩, by simp [olen], ⟨hsz.symm, rfl⟩, fun _ => by simp [hsz]⟩

theorem Inv.newRow {X : Fx} {h : List Blk} {L : List Loc} {w : World} (I : Inv X h L w) {nid : Nat} (hn : h[nid]? = some .rsv) {k : IntKind} {l : List Int} (hl : NN k l) {cs : Array Value} (T : TypeId)
    (hc : ∀ i (hi : i < l.length), cs[i]? = some (.int k l[i])) (hlen : l.length ≤ cs.size) (cap : Nat) (hcap : l.length ≤ cap) (hcap2 : cap ≤ cs.size) (w1 : World) (hw : w1 = w ∨ w1 = w.drew) :
    ∃ L', Inv X (h.set nid (.row k false l)) L' (w1.alloc (.cells cs T)) ∧ Cx.Le (cx X h L w) (cx X (h.set nid (.row k false l)) L' (w1.alloc (.cells cs T))) ∧
      Val (cx X (h.set nid (.row k false l)) L' (w1.alloc (.cells cs T))) (.own nid [] 0 none) (.slice (some ⟨w.heap.size, 0, none⟩) l.length cap) :=
  I.newRowF hn hl T hc hlen cap hcap hcap2 w1 hw (0, 0) (fun i _ => by simp)

theorem allocE_ok {G : Gi} {R : Type} {κ : Kop R} {r : R} {o : Oper} {ty : TypeId} {t : List AV} {look : Nat → Blk} {nid : Nat} (ho : o.op = .alloc ty) (h0 : allocE G nid κ ty = some r) :
    ∃ v us, κ v us = some r ∧ OpOk G o t look nid v us := by
  unfold allocE at h0
  split at h0
  · rename_i v hv
    refine ⟨_, _, h0, fun X hXG => ?_⟩
    subst hXG
    refine fun h L a w next Q I _ _ hr hk => .inl ?_
    have hn := hr 0 (by simp [resv, ho])
    obtain ⟨z, q1, q2⟩ := zeroAV_ok (c := cx X h L w) I.eok hv w
    obtain ⟨L', I', hle, hval⟩ := I.newVar (by simpa using hn) q2 ty
    unfold Oper.wp
    have : (execOp a.eval o).run X.G.P w = .ok (.value (.pointer (some ⟨w.heap.size, 0, none⟩))) (w.alloc (.cells z.cells ty)) := by
      simp [execOp, ho, Instr.alloc, q1, newVar, newRow]
    rw [this]
    exact hk _ L' _ (by simpa [applyU] using I') (by simpa [applyU] using hle) (by simpa [applyU] using hval)
  · cases h0

theorem boxE_ok {G : Gi} {R : Type} {κ : Kop R} {r : R} {o : Oper} {ty : TypeId} {x : Operand} {t : List AV} {look : Nat → Blk} {nid : Nat} (ho : o.op = .box ty x) (h0 : boxE nid κ (evO t x) = some r) :
    ∃ v us, κ v us = some r ∧ OpOk G o t look nid v us := by
  obtain ⟨hb, h0⟩ := cond_none h0
  refine ⟨_, _, h0, fun X hXG => ?_⟩
  subst hXG
  refine fun h L a w next Q I hv _ hr hk => .inl ?_
  have hn := hr 0 (by simp [resv, ho])
  have hx := hv x (by simp [ho, Op.operands])
  have q2 := Cells_of_Val (c := cx X h L w) I.eok hx hb
  obtain ⟨L', I', hle, hval⟩ := I.newVar (by simpa using hn) q2 ty
  unfold Oper.wp
  have : (execOp a.eval o).run X.G.P w = .ok (.value (.pointer (some ⟨w.heap.size, 0, none⟩))) (w.alloc (.cells (a.eval x).cells ty)) := by
    simp [execOp, ho, Instr.box, newVar, newRow]
  rw [this]
  exact hk _ L' _ (by simpa [applyU] using I') (by simpa [applyU] using hle) (by simpa [applyU] using hval)

end Go.Ev
