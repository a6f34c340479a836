/- An evaluator over abstract values: that operations are carried out as the model says. -/
import Derived.Test.YthajoenmfppenaaDoorEv1
import Derived.Laws.IdiomCopy
import Derived.Laws.Append
import Derived.ArgAppend
import Derived.Laws.StructEq
import Derived.Laws.Cover3
namespace Go.Ev
set_option linter.unusedSimpArgs false
set_option linter.unusedVariables false
abbrev EOk (c : Cx) : Prop := c.eps 0 = .nilIface ∧ ∀ n, n ≠ 0 → ∃ T v, c.eps n = .iface T v
theorem ofVal_leaf {c : Cx} (he : EOk c) {v : Value} (h : oneB v = true) : leaf c (ofVal v) v := by
  unfold ofVal
  split
  · rename_i k n
    cases hk : (k.signed || decide (0 ≤ n))
    · exact ⟨rfl, rfl⟩
    · refine ⟨rfl, fun hs x hx => ?_⟩
      rw [List.mem_singleton] at hx; subst hx
      simpa [hs] using hk
  · rfl
  · show _ = _; simp
  · rfl
  · rfl
  · exact he.1.symm
  · refine ⟨?_, ?_⟩
    · cases v <;> first | rfl | simp [oneB] at h
    · cases v <;> first | rfl | simp [oneB] at h
theorem Val_ofVal {c : Cx} (he : EOk c) (v : Value) : Val c (ofVal v) v := by
  unfold ofVal
  split
  · rename_i k n
    cases hk : (k.signed || decide (0 ≤ n))
    · exact trivial
    · refine ⟨rfl, fun hs x hx => ?_⟩
      rw [List.mem_singleton] at hx; subst hx
      simpa [hs] using hk
  · rfl
  · show _ = _; simp
  · rfl
  · rfl
  · exact he.1.symm
  · trivial
theorem parseL_ok {c : Cx} {f : TypeId → List Value → Option (AV × List Value)} (hf : ∀ t cs v r, f t cs = some (v, r) → ∃ c1, cs = c1 ++ r ∧ Cells c v c1) :
    ∀ (ts : List TypeId) (cs : List Value) (l : List AV) (r : List Value), parseL f ts cs = some (l, r) → ∃ c1, cs = c1 ++ r ∧ CellsL c l c1
  | [], cs, l, r, h => by
    simp only [parseL, Option.some.injEq, Prod.mk.injEq] at h
    obtain ⟨rfl, rfl⟩ := h
    exact ⟨[], rfl, rfl⟩
  | t :: ts, cs, l, r, h => by
    simp only [parseL] at h
    split at h
    · rename_i v r1 h1
      split at h
      · rename_i l1 r2 h2
        simp only [Option.some.injEq, Prod.mk.injEq] at h
        obtain ⟨rfl, rfl⟩ := h
        obtain ⟨c1, rfl, g1⟩ := hf _ _ _ _ h1
        obtain ⟨c2, rfl, g2⟩ := parseL_ok hf ts _ _ _ h2
        exact ⟨c1 ++ c2, by simp, c1, c2, rfl, g1, g2⟩
      · cases h
    · cases h
theorem takeInts_ok {k : IntKind} : ∀ (n : Nat) (cs : List Value) (l : List Int) (r : List Value), takeInts k n cs = some (l, r) → l.length = n ∧ NN k l ∧ cs = l.map (Value.int k) ++ r
  | 0, cs, l, r, h => by
    simp only [takeInts, Option.some.injEq, Prod.mk.injEq] at h
    obtain ⟨rfl, rfl⟩ := h
    exact ⟨rfl, by simp [NN], rfl⟩
  | n + 1, [], l, r, h => by simp [takeInts] at h
  | n + 1, v :: cs', l, r, h => by
    cases v <;> first | (simp only [takeInts, reduceCtorEq] at h; done) | skip
    rename_i k' x
    simp only [takeInts] at h
    obtain ⟨h1, h2⟩ := cond_none h
    simp only [Bool.and_eq_true, decide_eq_true_eq, Bool.or_eq_true] at h1
    obtain ⟨rfl, h3⟩ := h1
    split at h2
    · rename_i l1 r1 h4
      simp only [Option.some.injEq, Prod.mk.injEq] at h2
      obtain ⟨rfl, rfl⟩ := h2
      obtain ⟨q1, q2, q3⟩ := takeInts_ok _ _ _ _ h4
      refine ⟨by simp [q1], fun hs y hy => ?_, by rw [q3]; rfl⟩
      rcases List.mem_cons.1 hy with rfl | hy
      · exact h3.resolve_left (by simp [hs])
      · exact q2 hs _ hy
    · cases h2
theorem parse_ok {c : Cx} (he : EOk c) {P : Program} : ∀ (d : Nat) (t : TypeId) (cs : List Value) (v : AV) (r : List Value), parse P d t cs = some (v, r) → ∃ c1, cs = c1 ++ r ∧ Cells c v c1
  | 0, _, _, _, _, h => by cases h
  | d + 1, t, cs, v, r, h => by
    unfold parse at h
    split at h
    · split at h
      · split at h
        · rename_i l r1 h1
          simp only [Option.some.injEq, Prod.mk.injEq] at h
          obtain ⟨rfl, rfl⟩ := h
          obtain ⟨q1, q2, q3⟩ := takeInts_ok _ _ _ _ h1
          exact ⟨_, q3, q1, q2, rfl⟩
        · cases h
      · split at h
        · rename_i l r1 h1
          simp only [Option.some.injEq, Prod.mk.injEq] at h
          obtain ⟨rfl, rfl⟩ := h
          exact parseL_ok (fun t cs v r => parse_ok he d t cs v r) _ _ _ _ h1
        · cases h
    · split at h
      · rename_i l r1 h1
        simp only [Option.some.injEq, Prod.mk.injEq] at h
        obtain ⟨rfl, rfl⟩ := h
        exact parseL_ok (fun t cs v r => parse_ok he d t cs v r) _ _ _ _ h1
      · cases h
    · split at h
      · rename_i x r1
        obtain ⟨h1, h2⟩ := cond_none h
        simp only [Option.some.injEq, Prod.mk.injEq] at h2
        obtain ⟨rfl, rfl⟩ := h2
        refine ⟨[x], rfl, ?_⟩
        have := ofVal_leaf he h1
        revert this
        unfold ofVal
        split <;> try exact fun g => ⟨_, rfl, g⟩
        rename_i k n
        cases (k.signed || decide (0 ≤ n)) <;> exact fun g => ⟨_, rfl, g⟩
      · cases h
theorem zeroAV_ok {c : Cx} (he : EOk c) {P : Program} {t : TypeId} {v : AV} (h : zeroAV P t = some v) (w : World) : ∃ z, (zeroValue t).run P w = .ok z w ∧ Cells c v z.cells.toList := by
  unfold zeroAV at h
  split at h
  · rename_i i hi
    split at h
    · rename_i z hz
      split at h
      · rename_i v' hp
        simp only [Option.some.injEq] at h
        subst h
        obtain ⟨c1, q1, q2⟩ := parse_ok (c := c) he _ _ _ _ _ hp
        refine ⟨z, by simp [zeroValue, typeInfo, hi, hz], ?_⟩
        rw [q1]; simpa using q2
      · cases h
    · cases h
  · cases h
theorem Inv.newVar {X : Fx} {h : List Blk} {L : List Loc} {w : World} (I : Inv X h L w) {nid : Nat} (hn : h[nid]? = some .rsv) {v : AV} {cs : List Value} (hc : Cells (cx X h L w) v cs) (T : TypeId) :
    ∃ L', Inv X (h.set nid (.var v)) L' (w.alloc (.cells cs.toArray T)) ∧ Cx.Le (cx X h L w) (cx X (h.set nid (.var v)) L' (w.alloc (.cells cs.toArray T))) ∧
      Val (cx X (h.set nid (.var v)) L' (w.alloc (.cells cs.toArray T))) (.ptr nid []) (.pointer (some ⟨w.heap.size, 0, none⟩)) := by
  obtain ⟨I', hle⟩ := I.alloc hn (.var v) ⟨w.heap.size, 0, 0⟩ (.cells cs.toArray T) (fun x y q => q.1) (fun hle => by
    refine ⟨cs, Cells.le hle v cs hc, fun i hi => ⟨?_, ?_⟩⟩
    · show (w.alloc (.cells cs.toArray T)).cell? _ = _
      rw [World.cell?_alloc_new]
      simp [hi]
    · show (w.alloc (.cells cs.toArray T)).frozen? _ = _
      rw [World.frozen?_alloc_new])
  refine ⟨_, I', hle, ?_⟩
  have hlt := getElem?_lt hn
  have hb : (h.set nid (.var v))[nid]? = some (.var v) := List.getElem?_set_self hlt
  have hL : (L.set nid ⟨w.heap.size, 0, 0⟩)[nid]? = some ⟨w.heap.size, 0, 0⟩ := List.getElem?_set_self (by rw [I.len]; exact hlt)
  have hat : Sh.at (sh v) [] = some (0, sh v) := by cases sh v <;> rfl
  exact ptr_mk hb hL hat
theorem cell_new (w : World) (c : Array Value) (t : TypeId) (f : Nat × Nat) (i : Nat) : (w.alloc (.cells c t f)).cell? ⟨w.heap.size, i, none⟩ = c[i]? := by
  simp [World.alloc, World.cell?, -World.alloc_eq]
theorem frozen_new (w : World) (c : Array Value) (t : TypeId) (f : Nat × Nat) (i : Nat) : (w.alloc (.cells c t f)).frozen? ⟨w.heap.size, i, none⟩ = (decide (f.1 ≤ i) && decide (i < f.2)) := by
  obtain ⟨lo, hi⟩ := f
  simp [World.alloc, World.frozen?, -World.alloc_eq]
theorem Inv.newRowF {X : Fx} {h : List Blk} {L : List Loc} {w : World} (I : Inv X h L w) {nid : Nat} (hn : h[nid]? = some .rsv) {k : IntKind} {l : List Int} (hl : NN k l) {cs : Array Value} (T : TypeId)
    (hc : ∀ i (hi : i < l.length), cs[i]? = some (.int k l[i])) (hlen : l.length ≤ cs.size) (cap : Nat) (hcap : l.length ≤ cap) (hcap2 : cap ≤ cs.size) (w1 : World) (hw : w1 = w ∨ w1 = w.drew) (f : Nat × Nat) (hf : ∀ i, i < cap → (decide (f.1 ≤ i) && decide (i < f.2)) = false) (hcl : clean cs.size f) :
    ∃ L', Inv X (h.set nid (.row k false l)) L' (w1.alloc (.cells cs T f)) ∧ Cx.Le (cx X h L w) (cx X (h.set nid (.row k false l)) L' (w1.alloc (.cells cs T f))) ∧
      Val (cx X (h.set nid (.row k false l)) L' (w1.alloc (.cells cs T f))) (.own nid [] 0 none) (.slice (some ⟨w.heap.size, 0, none⟩) l.length cap) := by
  have Iw : Inv X h L w1 ∧ Cx.Le (cx X h L w) (cx X h L w1) := by
    rcases hw with rfl | rfl
    · exact ⟨I, Cx.Le.refl _⟩
    · refine I.upd (fun _ _ => False) I.len (Step.drew _ _ _) (fun _ _ q => q.elim) (fun id s hs _ => .inl ⟨hs, rfl⟩) (fun b o q => .inl q) I.dis (fun _ id b p hb hp => .inl ⟨hb, hp, fun _ _ _ q => q⟩)
  have hsz : w1.heap.size = w.heap.size := by rcases hw with rfl | rfl <;> rfl
  obtain ⟨I', hle⟩ := Iw.1.alloc hn (.row k false l) ⟨w1.heap.size, 0, cap⟩ (.cells cs T f) (fun x y q => q.2.1) (fun hle => by
    refine ⟨hl, by simp, fun _ => ⟨hcap, fun i hi => ?_, fun i hi => ⟨?_, ?_⟩⟩⟩
    · show (w1.alloc (.cells cs T f)).cell? _ = _
      rw [cell_new, Nat.zero_add, hc i hi]
    · refine ⟨cs[i]'(by simp at hi; omega), ?_⟩
      show (w1.alloc (.cells cs T f)).cell? _ = _
      rw [cell_new]
      simp
    · show (w1.alloc (.cells cs T f)).frozen? _ = _
      rw [frozen_new, Nat.zero_add]
      exact hf i hi) (by rintro _ _ _ ⟨⟩; exact hcl)
  refine ⟨_, I', Iw.2.trans hle, ?_⟩
  have hlt := getElem?_lt hn
  rw [Val_leaf rfl (by simp) (by simp)]
  have hb : (h.set nid (.row k false l))[nid]? = some (.row k false l) := List.getElem?_set_self hlt
  have hL : (L.set nid ⟨w1.heap.size, 0, cap⟩)[nid]? = some ⟨w1.heap.size, 0, cap⟩ := List.getElem?_set_self (by rw [I.len]; exact hlt)
  simp only [leaf, cx_S hb, Blk.sh]
  have hL' : (cx X (h.set nid (.row k false l)) (L.set nid ⟨w1.heap.size, 0, cap⟩) (w1.alloc (.cells cs T f))).L[nid]? = some ⟨w1.heap.size, 0, cap⟩ := hL
  rw [hL']
  refine ⟨by trivial, by simp [olen], ?_⟩
  simp only [Bool.false_eq_true, if_false]
  exact ⟨⟨w.heap.size, 0, none⟩, by simp [olen], ⟨hsz.symm, rfl⟩, fun _ => by simp [hsz]⟩
theorem Inv.newRow {X : Fx} {h : List Blk} {L : List Loc} {w : World} (I : Inv X h L w) {nid : Nat} (hn : h[nid]? = some .rsv) {k : IntKind} {l : List Int} (hl : NN k l) {cs : Array Value} (T : TypeId)
    (hc : ∀ i (hi : i < l.length), cs[i]? = some (.int k l[i])) (hlen : l.length ≤ cs.size) (cap : Nat) (hcap : l.length ≤ cap) (hcap2 : cap ≤ cs.size) (w1 : World) (hw : w1 = w ∨ w1 = w.drew) :
    ∃ L', Inv X (h.set nid (.row k false l)) L' (w1.alloc (.cells cs T)) ∧ Cx.Le (cx X h L w) (cx X (h.set nid (.row k false l)) L' (w1.alloc (.cells cs T))) ∧
      Val (cx X (h.set nid (.row k false l)) L' (w1.alloc (.cells cs T))) (.own nid [] 0 none) (.slice (some ⟨w.heap.size, 0, none⟩) l.length cap) :=
  I.newRowF hn hl T hc hlen cap hcap hcap2 w1 hw (0, 0) (fun i _ => by simp) (.inl rfl)
theorem Inv.newGro {X : Fx} {h : List Blk} {L : List Loc} {w : World} (I : Inv X h L w) {nid : Nat} (hn : h[nid]? = some .rsv) {t : T} {l : List (Den t)} {fl : List Value} {cs : Array Value} (ty : TypeId) (ht : 0 < t.len)
    (hz : FzR w (cx X h L w).A t l fl) (hc : ∀ j (hj : j < fl.length), cs[j]? = some fl[j]) (cap : Nat) (hcap : l.length ≤ cap) (hcap2 : t.len * cap ≤ cs.size) (w1 : World) (hw : w1 = w ∨ w1 = w.drew) :
    ∃ L', Inv X (h.set nid (.gro t false l)) L' (w1.alloc (.cells cs ty)) ∧ Cx.Le (cx X h L w) (cx X (h.set nid (.gro t false l)) L' (w1.alloc (.cells cs ty))) ∧
      Val (cx X (h.set nid (.gro t false l)) L' (w1.alloc (.cells cs ty))) (.own nid [] 0 none) (.slice (some ⟨w.heap.size, 0, none⟩) l.length cap) := by
  have Iw : Inv X h L w1 ∧ Cx.Le (cx X h L w) (cx X h L w1) := by
    rcases hw with rfl | rfl
    · exact ⟨I, Cx.Le.refl _⟩
    · refine I.upd (fun _ _ => False) I.len (Step.drew _ _ _) (fun _ _ q => q.elim) (fun id s hs _ => .inl ⟨hs, rfl⟩) (fun b o q => .inl q) I.dis (fun _ id b p hb hp => .inl ⟨hb, hp, fun _ _ _ q => q⟩)
  have hsz : w1.heap.size = w.heap.size := by rcases hw with rfl | rfl <;> rfl
  have hdiv : t.len * cap / t.len = cap := Nat.mul_div_cancel_left _ ht
  obtain ⟨I', hle⟩ := Iw.1.alloc hn (.gro t false l) ⟨w1.heap.size, 0, t.len * cap⟩ (.cells cs ty) (fun x y q => q.2.1) (fun hle => by
    refine ⟨ht, by simp, fun _ => ⟨by simp only [hdiv]; exact hcap, fun i hi => ?_, fun i hi => ⟨?_, ?_⟩⟩⟩
    · obtain ⟨c, q1, q2⟩ := FzR_get hz i hi
      refine ⟨c, Fz.le (Iw.2.trans hle) t _ c q1, fun j hj => ?_⟩
      show (w1.alloc (.cells cs ty)).cell? _ = _
      rw [cell_new, Nat.zero_add]
      have := q2 j hj
      have hlt := getElem?_lt this
      rw [hc _ hlt, ← this, List.getElem?_eq_getElem hlt]
    · refine ⟨cs[i]'(by simp only at hi; omega), ?_⟩
      show (w1.alloc (.cells cs ty)).cell? _ = _
      rw [cell_new]
      simp
    · show (w1.alloc (.cells cs ty)).frozen? _ = _
      rw [frozen_new, Nat.zero_add]
      simp)
  refine ⟨_, I', Iw.2.trans hle, ?_⟩
  have hlt := getElem?_lt hn
  rw [Val_leaf rfl (by simp) (by simp)]
  have hb : (h.set nid (.gro t false l))[nid]? = some (.gro t false l) := List.getElem?_set_self hlt
  have hL : (L.set nid ⟨w1.heap.size, 0, t.len * cap⟩)[nid]? = some ⟨w1.heap.size, 0, t.len * cap⟩ := List.getElem?_set_self (by rw [I.len]; exact hlt)
  simp only [leaf, cx_S hb, Blk.sh]
  have hL' : (cx X (h.set nid (.gro t false l)) (L.set nid ⟨w1.heap.size, 0, t.len * cap⟩) (w1.alloc (.cells cs ty))).L[nid]? = some ⟨w1.heap.size, 0, t.len * cap⟩ := hL
  rw [hL']
  refine ⟨by trivial, by simp [olen], ?_⟩
  simp only [Bool.false_eq_true, if_false]
  exact ⟨⟨w.heap.size, 0, none⟩, by simp [olen, hdiv], ⟨hsz.symm, rfl⟩, fun _ => by simp [hsz]⟩
theorem allocE_ok {G : Gi} {R : Type} {κ : Kop R} {r : R} {o : Oper} {ty : TypeId} {t : List AV} {look : Nat → Blk} {nid : Nat} (ho : o.op = .alloc ty) (h0 : allocE G nid κ ty = some r) :
    ∃ v us, κ v us = some r ∧ OpOk G o t look nid v us := by
  unfold allocE at h0
  split at h0
  · rename_i v hv
    refine ⟨_, _, h0, fun X hXG => ?_⟩
    subst hXG
    refine fun h L a w next Q I _ _ hr hk => .inl ?_
    have hn := hr 0 (by simp [resv, ho])
    obtain ⟨z, q1, q2⟩ := zeroAV_ok (c := cx X h L w) I.eok.w hv w
    obtain ⟨L', I', hle, hval⟩ := I.newVar (by simpa using hn) q2 ty
    unfold Oper.wp
    have : (execOp a.eval o).run X.G.P w = .ok (.value (.pointer (some ⟨w.heap.size, 0, none⟩))) (w.alloc (.cells z.cells ty)) := by
      simp [execOp, ho, Instr.alloc, q1, newVar, newRow]
    rw [this]
    exact hk _ L' _ (by simpa [applyU] using I') (by simpa [applyU] using hle) (by simpa [applyU] using hval)
  · cases h0
theorem boxE_ok {G : Gi} {R : Type} {κ : Kop R} {r : R} {o : Oper} {ty : TypeId} {x : Operand} {t : List AV} {look : Nat → Blk} {nid : Nat} (ho : o.op = .box ty x) (h0 : boxE nid κ (evO t x) = some r) :
    ∃ v us, κ v us = some r ∧ OpOk G o t look nid v us := by
  obtain ⟨hb, h0⟩ := cond_none h0
  refine ⟨_, _, h0, fun X hXG => ?_⟩
  subst hXG
  refine fun h L a w next Q I hv _ hr hk => .inl ?_
  have hn := hr 0 (by simp [resv, ho])
  have hx := hv x (by simp [ho, Op.operands])
  have q2 := Cells_of_Val (c := cx X h L w) I.eok.w hx hb
  obtain ⟨L', I', hle, hval⟩ := I.newVar (by simpa using hn) q2 ty
  unfold Oper.wp
  have : (execOp a.eval o).run X.G.P w = .ok (.value (.pointer (some ⟨w.heap.size, 0, none⟩))) (w.alloc (.cells (a.eval x).cells ty)) := by
    simp [execOp, ho, Instr.box, newVar, newRow]
  rw [this]
  exact hk _ L' _ (by simpa [applyU] using I') (by simpa [applyU] using hle) (by simpa [applyU] using hval)
end Go.Ev
namespace Go.Ev
set_option linter.unusedSimpArgs false
set_option linter.unusedVariables false
mutual
theorem shbeq : ∀ (a b : Sh), Sh.beq a b = true → a = b
  | .leaf, b, h => by cases b <;> simp [Sh.beq] at h; rfl
  | .ints n, b, h => by cases b <;> simp [Sh.beq] at h; rw [h]
  | .agg l, b, h => by
    cases b <;> simp [Sh.beq] at h
    rename_i m
    rw [shbeqL l m h]
theorem shbeqL : ∀ (a b : List Sh), Sh.beqL a b = true → a = b
  | [], b, h => by cases b <;> simp [Sh.beqL] at h; rfl
  | x :: l, b, h => by
    cases b <;> simp [Sh.beqL] at h
    rename_i y m
    rw [shbeq x y h.1, shbeqL l m h.2]
end
mutual
theorem Cells_one {c : Cx} (he : EOk c) : ∀ (v : AV) (cs : List Value), Cells c v cs → ∀ x ∈ cs, x.oneCell' = true
  | .ints k n l, cs, ⟨_, _, e⟩, x, hx => by subst e; obtain ⟨y, _, rfl⟩ := List.mem_map.1 hx; rfl
  | .agg l, cs, h, x, hx => CellsL_one he l cs h x hx
  | .dead, _, ⟨y, e, g⟩, x, hx => by
    subst e; rw [List.mem_singleton] at hx; subst hx
    have := g.2
    cases x <;> first | rfl | simp at this
  | .tup _, _, ⟨y, e, g⟩, x, hx => g.elim
  | .int a b, _, ⟨y, e, g⟩, x, hx => by subst e; rw [List.mem_singleton] at hx; subst hx; exact (leaf_cells he g rfl).2
  | .bool a, _, ⟨y, e, g⟩, x, hx => by subst e; rw [List.mem_singleton] at hx; subst hx; exact (leaf_cells he g rfl).2
  | .str a, _, ⟨y, e, g⟩, x, hx => by subst e; rw [List.mem_singleton] at hx; subst hx; exact (leaf_cells he g rfl).2
  | .nils, _, ⟨y, e, g⟩, x, hx => by subst e; rw [List.mem_singleton] at hx; subst hx; exact (leaf_cells he g rfl).2
  | .isl a b d, _, ⟨y, e, g⟩, x, hx => by subst e; rw [List.mem_singleton] at hx; subst hx; exact (leaf_cells he g rfl).2
  | .rsl a b, _, ⟨y, e, g⟩, x, hx => by subst e; rw [List.mem_singleton] at hx; subst hx; exact (leaf_cells he g rfl).2
  | .own a b d f, _, ⟨y, e, g⟩, x, hx => by subst e; rw [List.mem_singleton] at hx; subst hx; exact (leaf_cells he g rfl).2
  | .ptr a b, _, ⟨y, e, g⟩, x, hx => by subst e; rw [List.mem_singleton] at hx; subst hx; exact (leaf_cells he g rfl).2
  | .rpi a b, _, ⟨y, e, g⟩, x, hx => by subst e; rw [List.mem_singleton] at hx; subst hx; exact (leaf_cells he g rfl).2
  | .rps a b, _, ⟨y, e, g⟩, x, hx => by subst e; rw [List.mem_singleton] at hx; subst hx; exact (leaf_cells he g rfl).2
  | .capv a b, _, ⟨y, e, g⟩, x, hx => by subst e; rw [List.mem_singleton] at hx; subst hx; obtain ⟨z, rfl⟩ := leaf_capv g; rfl
  | .ownx a b, _, ⟨y, e, g⟩, x, hx => by subst e; rw [List.mem_singleton] at hx; subst hx; obtain ⟨p, n, m, rfl⟩ := leaf_ownx g; rfl
  | .asl a b, _, ⟨y, e, g⟩, x, hx => by subst e; rw [List.mem_singleton] at hx; subst hx; obtain ⟨p, n, m, rfl⟩ := leaf_asl g; rfl
  | .ige a, _, ⟨y, e, g⟩, x, hx => by subst e; rw [List.mem_singleton] at hx; subst hx; obtain ⟨z, rfl, _⟩ := g; rfl
  | .emp, _, ⟨y, e, g⟩, x, hx => by subst e; rw [List.mem_singleton] at hx; subst hx; obtain ⟨z, rfl⟩ := g; rfl
  | .esl a, _, ⟨y, e, g⟩, x, hx => by subst e; rw [List.mem_singleton] at hx; subst hx; exact (leaf_cells he g rfl).2
  | .rpe a, _, ⟨y, e, g⟩, x, hx => by subst e; rw [List.mem_singleton] at hx; subst hx; exact (leaf_cells he g rfl).2
  | .nilp, _, ⟨y, e, g⟩, x, hx => by subst e; rw [List.mem_singleton] at hx; subst hx; exact (leaf_cells he g rfl).2
  | .err a, _, ⟨y, e, g⟩, x, hx => by subst e; rw [List.mem_singleton] at hx; subst hx; exact (leaf_cells he g rfl).2
  | .glo a, _, ⟨y, e, g⟩, x, hx => by subst e; rw [List.mem_singleton] at hx; subst hx; exact (leaf_cells he g rfl).2
  | .fn a, _, ⟨y, e, g⟩, x, hx => by subst e; rw [List.mem_singleton] at hx; subst hx; exact (leaf_cells he g rfl).2
  | .gsl a b, _, ⟨y, e, g⟩, x, hx => by subst e; rw [List.mem_singleton] at hx; subst hx; exact (leaf_cells he g rfl).2
  | .rpg a b, _, ⟨y, e, g⟩, x, hx => by subst e; rw [List.mem_singleton] at hx; subst hx; exact (leaf_cells he g rfl).2
  | .cls a b, _, ⟨y, e, g⟩, x, hx => by subst e; rw [List.mem_singleton] at hx; subst hx; exact (leaf_cells he g rfl).2
theorem CellsL_one {c : Cx} (he : EOk c) : ∀ (l : List AV) (cs : List Value), CellsL c l cs → ∀ x ∈ cs, x.oneCell' = true
  | [], cs, h, x, hx => by simp only [CellsL] at h; subst h; cases hx
  | v :: l, cs, ⟨c1, c2, e, g1, g2⟩, x, hx => by
    subst e
    rcases List.mem_append.1 hx with hx | hx
    · exact Cells_one he v c1 g1 x hx
    · exact CellsL_one he l c2 g2 x hx
end
theorem Step.setCells {A : Nat → Nat → Prop} (b : Nat) : ∀ (vs : List Value) (o : Nat) (w : World), (∀ j, j < vs.length → A b (o + j)) → Step A w (w.setCells b o vs)
  | [], _, w, _ => Step.refl _ _
  | v :: r, o, w, h => (Step.setCell w ⟨b, o, none⟩ v (h 0 (by simp))).trans (Step.setCells b r (o + 1) _ fun j hj => by
      have := h (j + 1) (by simp; omega)
      rwa [show o + (j + 1) = o + 1 + j by omega] at this)
theorem run_storeVar' {P : Program} {t : TypeId} {w : World} {b o : Nat} {v : Value} {cs : List Value} (hv : v.cells.toList = cs) (hs : szIs P t cs.length = true)
    (hc : ∀ j, j < cs.length → (w.cell? ⟨b, o + j, none⟩).isSome = true) (hf : ∀ j, j < cs.length → w.frozen? ⟨b, o + j, none⟩ = false) (h1 : ∀ x ∈ cs, x.oneCell' = true) :
    (storeVar t ⟨b, o, none⟩ v).run P w = .ok () (w.setCells b o cs) := by
  have hsz : v.cells.size = cs.length := by rw [← hv]; simp
  simp only [storeVar, Sem.run_bind, run_sizeOf' hs, Result.andThen_ok, hsz, ne_eq, not_true_eq_false, if_false]
  rw [hv]
  have := run_storeCells_cells (P := P) b o cs 0 w (by simpa using hc) (by simpa using hf) h1
  simpa using this
theorem Inv.setVar {X : Fx} {h : List Blk} {L : List Loc} {w : World} (I : Inv X h L w) {id : Nat} {v v' old x : AV} {path : List Nat} {p : Loc} {o : Nat} {s : Sh} {cx' : List Value}
    (hb : h[id]? = some (.var v)) (hp : L[id]? = some p) (hg : getP v path = some old) (hat : Sh.at (sh v) path = some (o, s)) (hx : Cells (cx X h L w) x cx') (hsx : sh x = s) (hset : setP v path x = some v')
    (hk : kindOk v path x = true) :
    Inv X (h.set id (.var v')) L (w.setCells p.b (p.o + o) cx') ∧ Cx.Le (cx X h L w) (cx X (h.set id (.var v')) L (w.setCells p.b (p.o + o) cx')) ∧
      (∀ j, j < cx'.length → (w.cell? ⟨p.b, p.o + o + j, none⟩).isSome = true) ∧ (∀ j, j < cx'.length → w.frozen? ⟨p.b, p.o + o + j, none⟩ = false) := by
  obtain ⟨cs, g1, g2⟩ := I.blk id _ p hb hp
  obtain ⟨pre, cold, post, rfl, hpre, q1, q2, q3⟩ := Cells_at path v old cs o s g1 hg hat
  obtain ⟨r1, r2⟩ := q3 x cx' v' hx hsx hset hk
  have hlc : cold.length = cx'.length := by rw [Cells_len _ _ q1, Cells_len _ _ hx, q2, hsx]
  have hin : ∀ j, j < cx'.length → o + j < (pre ++ cold ++ post).length := fun j hj => by simp [hpre]; omega
  have hsome : ∀ j, j < cx'.length → (w.cell? ⟨p.b, p.o + o + j, none⟩).isSome = true := fun j hj => by
    have : w.cell? _ = _ := (g2 (o + j) (hin j hj)).1
    rw [show p.o + o + j = p.o + (o + j) by omega, this]; rfl
  have hfr : ∀ j, j < cx'.length → w.frozen? ⟨p.b, p.o + o + j, none⟩ = false := fun j hj => by
    have : w.frozen? _ = _ := (g2 (o + j) (hin j hj)).2
    rw [show p.o + o + j = p.o + (o + j) by omega, this]
  have hlen := Cells_len _ _ g1
  obtain ⟨I', hle⟩ := I.write (b := .var v') (w' := w.setCells p.b (p.o + o) cx') hb hp (by simp [Blk.sh, r2]) (Step.setCells _ _ _ _ fun j hj => by
      refine ⟨rfl, by omega, ?_⟩
      have := hin j hj
      rw [hlen] at this
      omega) (fun hle => by
    refine ⟨pre ++ cx' ++ post, Cells.le hle _ _ r1, fun i hi => ?_⟩
    have hi' : i < (pre ++ cold ++ post).length := by simp at hi ⊢; omega
    have hold := g2 i hi'
    simp only [cx] at hold
    refine ⟨?_, ?_⟩
    · show (w.setCells p.b (p.o + o) cx').cell? _ = _
      by_cases hi1 : i < o
      · rw [World.cell?_setCells_out _ _ _ _ _ (fun _ _ => .inl (by simp; omega)), hold.1]
        congr 1
        rw [List.append_assoc, List.append_assoc] at *
        simp [List.getElem_append, hpre, hi1]
      · by_cases hi2 : i < o + cx'.length
        · have := World.cell?_setCells_in p.b cx' (p.o + o) w hsome (i - o) (by omega)
          rw [show p.o + o + (i - o) = p.o + i by omega] at this
          rw [this]
          congr 1
          simp only [List.append_assoc, List.getElem_append, hpre, hi1, dif_neg, not_false_eq_true]
          rw [dif_pos (by omega)]
        · rw [World.cell?_setCells_out _ _ _ _ _ (fun _ _ => .inr (by simp; omega)), hold.1]
          congr 1
          simp only [List.append_assoc, List.getElem_append, hpre, hi1, dif_neg, not_false_eq_true]
          rw [dif_neg (by omega), dif_neg (by omega)]
          simp only [hlc]
    · show (w.setCells p.b (p.o + o) cx').frozen? _ = _
      rw [World.frozen?_setCells]; exact hold.2)
  exact ⟨I', hle, hsome, hfr⟩
theorem Inv.setRow {X : Fx} {h : List Blk} {L : List Loc} {w : World} (I : Inv X h L w) {id i : Nat} {k : IntKind} {l : List Int} {p : Loc} {z : Int}
    (hb : h[id]? = some (.row k false l)) (hp : L[id]? = some p) (hi : i < l.length) (hz : NN k [z]) :
    Inv X (h.set id (.row k false (l.set i z))) L (w.setCells p.b (p.o + i) [.int k z]) ∧ Cx.Le (cx X h L w) (cx X (h.set id (.row k false (l.set i z))) L (w.setCells p.b (p.o + i) [.int k z])) := by
  obtain ⟨g1, g2, g3⟩ := I.blk id _ p hb hp
  obtain ⟨q1, q2, q3⟩ := g3 rfl
  refine I.write (b := .row k false (l.set i z)) hb hp (by simp [Blk.sh]) (Step.setCells _ _ _ _ fun j hj => ?_) (fun hle => ?_)
  · have : j = 0 := by simp at hj; omega
    subst this
    exact ⟨rfl, rfl, by omega, by omega⟩
  · refine ⟨fun hk y hy => ?_, by simp, fun _ => ⟨by simpa using q1, fun j hj => ?_, fun j hj => ⟨?_, ?_⟩⟩⟩
    · rw [list_set_split l i z hi] at hy
      simp only [List.mem_append, List.mem_cons] at hy
      rcases hy with hy | rfl | hy
      · exact g1 hk _ (List.mem_of_mem_take hy)
      · exact hz hk _ (by simp)
      · exact g1 hk _ (List.mem_of_mem_drop hy)
    · show (w.setCells p.b (p.o + i) [.int k z]).cell? _ = _
      have hj' : j < l.length := by simpa using hj
      by_cases hij : j = i
      · subst hij
        have := World.cell?_setCells_in p.b [Value.int k z] (p.o + j) w (fun a ha => by
          have : a = 0 := by simp at ha; omega
          subst this
          have : w.cell? _ = _ := q2 j hj'
          rw [Nat.add_zero, this]; rfl) 0 (by simp)
        rw [Nat.add_zero] at this
        rw [this]
        simp
      · rw [World.cell?_setCells_out _ _ _ _ _ (fun _ _ => by simp; omega)]
        have : w.cell? _ = _ := q2 j hj'
        rw [this]
        simp [List.getElem_set_ne (Ne.symm hij)]
    · obtain ⟨⟨y, hy⟩, _⟩ := q3 j hj
      by_cases hij : j = i
      · subst hij
        refine ⟨.int k z, ?_⟩
        show (w.setCells p.b (p.o + j) [.int k z]).cell? _ = _
        have := World.cell?_setCells_in p.b [Value.int k z] (p.o + j) w (fun a ha => by
            have : a = 0 := by simp at ha; omega
            subst this
            have : w.cell? _ = _ := hy
            rw [Nat.add_zero, this]; rfl) 0 (by simp)
        simpa using this
      · refine ⟨y, ?_⟩
        show (w.setCells p.b (p.o + i) [.int k z]).cell? _ = _
        rw [World.cell?_setCells_out _ _ _ _ _ (fun _ _ => by simp; omega)]
        exact hy
    · show (w.setCells p.b (p.o + i) [.int k z]).frozen? _ = _
      rw [World.frozen?_setCells]; exact (q3 j hj).2
theorem contF_leaf {t : T} {av : AV} {l : List (Den t)} (h0 : contF t av = some l) {c : Cx} {cs : List Value} (g : Cells c av cs) : ∃ y, cs = [y] ∧ Val c av y := by
  cases av <;> simp only [contF, reduceCtorEq] at h0 <;> exact g
theorem contF_Fz {t : T} {av : AV} {l : List (Den t)} (h0 : contF t av = some l) {c : Cx} {cs : List Value} (g : Cells c av cs) : Fz c.w c.A (.rw t) l cs := by
  obtain ⟨y, rfl, hy⟩ := contF_leaf h0 g
  have h := contF_run h0 hy
  cases t with
  | int k => exact ⟨y, rfl, mkRow_leaf (t := .int k) h⟩
  | bool => exact ⟨y, rfl, h⟩
  | str => exact ⟨y, rfl, h⟩
  | arr k n => exact ⟨y, rfl, h⟩
  | sl k => exact ⟨y, rfl, h⟩
  | rw t => exact ⟨y, rfl, h⟩
  | st ts => exact ⟨y, rfl, h⟩
theorem dInt_ok {k : IntKind} {v : AV} {n : Int} (h : dInt k v = some n) : v = .int k n := by
  unfold dInt at h
  split at h
  · obtain ⟨hk, h⟩ := cond_none h
    rw [of_decide_eq_true hk, Option.some.inj h]
  · cases h
theorem dBool_ok {v : AV} {n : Bool} (h : dBool v = some n) : v = .bool n := by
  unfold dBool at h
  split at h
  · rw [Option.some.inj h]
  · cases h
theorem dStr_ok {v : AV} {n : List UInt8} (h : dStr v = some n) : v = .str n := by
  unfold dStr at h
  split at h
  · rw [Option.some.inj h]
  · cases h
theorem dArr_ok {k : IntKind} {m : Nat} {v : AV} {n : List Int} (h : dArr k m v = some n) : v = .ints k m n := by
  unfold dArr at h
  split at h
  · obtain ⟨hk, h⟩ := cond_none h
    simp only [Bool.and_eq_true] at hk
    rw [of_decide_eq_true hk.1, Nat.eq_of_beq_eq_true hk.2, Option.some.inj h]
  · cases h
theorem dSl_ok {k : IntKind} {v : AV} {n : List Int} (h : dSl k v = some n) : (v = .nils ∧ n = []) ∨ ∃ nl, v = .isl k nl n := by
  unfold dSl at h
  split at h
  · exact .inl ⟨rfl, (Option.some.inj h).symm⟩
  · obtain ⟨hk, h⟩ := cond_none h
    exact .inr ⟨_, by rw [of_decide_eq_true hk, Option.some.inj h]⟩
  · cases h
theorem parts_ok {v : AV} {l : List AV} (h : v.parts = some l) : v = .agg l := by
  unfold AV.parts at h
  split at h
  · rw [Option.some.inj h]
  · cases h
theorem contF_box {t : T} {av : AV} {l : List (Den t)} (h0 : contF t av = some l) : av.boxable = true := by
  unfold contF at h0
  split at h0 <;> first | rfl | cases h0
mutual
theorem decT_Fz {c : Cx} : ∀ (t : T) (v : AV) (x : Den t) (cs : List Value), decT t v = some x → Cells c v cs → Fz c.w c.A t x cs
  | .int k, v, x, cs, h, g => by
    obtain rfl := dInt_ok h
    obtain ⟨y, rfl, rfl, hn⟩ := g
    exact ⟨rfl, hn⟩
  | .bool, v, x, cs, h, g => by
    obtain rfl := dBool_ok h
    obtain ⟨y, rfl, rfl⟩ := g
    rfl
  | .str, v, x, cs, h, g => by
    obtain rfl := dStr_ok h
    obtain ⟨y, rfl, rfl⟩ := g
    rfl
  | .arr k n, v, x, cs, h, g => by
    obtain rfl := dArr_ok h
    exact g
  | .sl k, v, x, cs, h, g => by
    rcases dSl_ok h with ⟨rfl, e⟩ | ⟨nl, rfl⟩
    · obtain ⟨y, rfl, rfl⟩ := g
      have e : x = ([] : List Int) := e
      subst e
      exact ⟨_, rfl, by simp [NN], none, 0, rfl, Nat.le_refl _, fun b hb => (by cases hb), fun _ => ⟨rfl, rfl⟩, fun p hp => (by cases hp)⟩
    · obtain ⟨y, rfl, h0, a, cap, h1, h2, _, h4, h5⟩ := g
      exact ⟨y, rfl, h0, a, cap, h1, h2, fun b hb => (by cases hb), h4, h5⟩
  | .rw t, v, x, cs, h, g => contF_Fz (t := t) h g
  | .st ts, v, x, cs, h, g => by
    simp only [decT] at h
    split at h
    · rename_i l hl
      obtain rfl := parts_ok hl
      exact decTL_Fz ts _ x cs h g
    · cases h
theorem decTL_Fz {c : Cx} : ∀ (ts : List T) (l : List AV) (x : DenL ts) (cs : List Value), decTL ts l = some x → CellsL c l cs → FzL c.w c.A ts x cs
  | [], l, x, cs, h, g => by
    cases l with
    | nil => exact g
    | cons => simp only [decTL, List.isEmpty_cons, cond_false] at h; cases h
  | t :: ts, l, x, cs, h, g => by
    cases l with
    | nil => simp only [decTL] at h; cases h
    | cons v l =>
      simp only [decTL] at h
      split at h
      · rename_i y z hy hz
        have h := Option.some.inj h
        subst h
        obtain ⟨c1, c2, rfl, g1, g2⟩ := g
        exact ⟨c1, c2, rfl, decT_Fz t v y c1 hy g1, decTL_Fz ts l z c2 hz g2⟩
      · cases h
end
theorem decT_box : ∀ {t : T} {v : AV} {x : Den t}, decT t v = some x → v.boxable = true
  | .int k, v, x, h => by obtain rfl := dInt_ok h; rfl
  | .bool, v, x, h => by obtain rfl := dBool_ok h; rfl
  | .str, v, x, h => by obtain rfl := dStr_ok h; rfl
  | .arr k n, v, x, h => by obtain rfl := dArr_ok h; rfl
  | .sl k, v, x, h => by
    rcases dSl_ok h with ⟨rfl, e⟩ | ⟨nl, rfl⟩ <;> rfl
  | .rw t, v, x, h => contF_box (t := t) h
  | .st ts, v, x, h => by
    simp only [decT] at h
    split at h
    · rename_i l hl
      obtain rfl := parts_ok hl
      rfl
    · cases h
theorem Inv.setGro {X : Fx} {h : List Blk} {L : List Loc} {w : World} (I : Inv X h L w) {id i : Nat} {te : T} {l : List (Den te)} {p : Loc} {d : Den te} {z : Value} (h1 : te.len = 1)
    (hb : h[id]? = some (.gro te false l)) (hp : L[id]? = some p) (hi : i < l.length) (hz : Fz w (cx X h L w).A te d [z]) :
    Inv X (h.set id (.gro te false (l.set i d))) L (w.setCells p.b (p.o + i) [z]) ∧ Cx.Le (cx X h L w) (cx X (h.set id (.gro te false (l.set i d))) L (w.setCells p.b (p.o + i) [z])) ∧
      (w.cell? ⟨p.b, p.o + i, none⟩).isSome = true ∧ w.frozen? ⟨p.b, p.o + i, none⟩ = false := by
  obtain ⟨g1, g2, g3⟩ := I.blk id _ p hb hp
  obtain ⟨q1, q2, q3⟩ := g3 rfl
  rw [h1, Nat.div_one] at q1
  have hsome : (w.cell? ⟨p.b, p.o + i, none⟩).isSome = true := by
    obtain ⟨⟨y, hy⟩, _⟩ := q3 i (by omega)
    have : w.cell? _ = _ := hy
    rw [this]; rfl
  obtain ⟨I', hle⟩ := I.write (b := .gro te false (l.set i d)) hb hp (by simp [Blk.sh]) (Step.setCells p.b [z] (p.o + i) w fun j hj => by
      have : j = 0 := by simp at hj; omega
      subst this
      exact ⟨rfl, rfl, by omega, by omega⟩) (fun hle => by
      refine ⟨g1, by simp, fun _ => ⟨by rw [h1, Nat.div_one]; simpa using q1, fun j hj => ?_, fun j hj => ⟨?_, ?_⟩⟩⟩
      · have hj' : j < l.length := by simpa using hj
        by_cases hij : j = i
        · subst hij
          refine ⟨[z], by simpa using Fz.le hle te _ _ hz, fun a ha => ?_⟩
          have : a = 0 := by simp at ha; omega
          subst this
          show (w.setCells p.b (p.o + j) [z]).cell? _ = _
          have := World.cell?_setCells_in p.b [z] (p.o + j) w (fun a ha => by
            have : a = 0 := by simp at ha; omega
            subst this
            rw [Nat.add_zero]; exact hsome) 0 (by simp)
          rw [h1, Nat.one_mul]
          exact this
        · obtain ⟨cs, r1, r2⟩ := q2 j hj'
          refine ⟨cs, by simpa [List.getElem_set_ne (Ne.symm hij)] using Fz.le hle te _ _ r1, fun a ha => ?_⟩
          have hlen := Fz_len te _ cs r1
          have : a = 0 := by omega
          subst this
          show (w.setCells p.b (p.o + i) [z]).cell? _ = _
          have e : w.cell? _ = _ := r2 0 ha
          rw [h1, Nat.one_mul] at e ⊢
          rw [World.cell?_setCells_out _ _ _ _ _ (fun _ _ => by simp; omega)]
          exact e
      · obtain ⟨⟨y, hy⟩, _⟩ := q3 j hj
        by_cases hij : j = i
        · subst hij
          refine ⟨z, ?_⟩
          show (w.setCells p.b (p.o + j) [z]).cell? _ = _
          have := World.cell?_setCells_in p.b [z] (p.o + j) w (fun a ha => by
              have : a = 0 := by simp at ha; omega
              subst this
              rw [Nat.add_zero]; exact hsome) 0 (by simp)
          simpa using this
        · refine ⟨y, ?_⟩
          show (w.setCells p.b (p.o + i) [z]).cell? _ = _
          rw [World.cell?_setCells_out _ _ _ _ _ (fun _ _ => by simp; omega)]
          exact hy
      · show (w.setCells p.b (p.o + i) [z]).frozen? _ = _
        rw [World.frozen?_setCells]; exact (q3 j hj).2)
  exact ⟨I', hle, hsome, (q3 i (by omega)).2⟩
theorem Val_und {c : Cx} : Val c und undef := ⟨[], rfl, rfl⟩
theorem storeE_ok {G : Gi} {R : Type} {κ : Kop R} {r : R} {o : Oper} {ty : TypeId} {x y : Operand} {t : List AV} {look : Nat → Blk} {nid : Nat} (ho : o.op = .store ty x y)
    (h0 : storeE G look κ ty (evO t x) (evO t y) = some r) : ∃ v us, κ v us = some r ∧ OpOk G o t look nid v us := by
  have hmx : x ∈ o.op.operands.toList := by simp [ho, Op.operands]
  have hmy : y ∈ o.op.operands.toList := by simp [ho, Op.operands]
  unfold storeE at h0
  split at h0
  · rename_i id path hax
    split at h0
    · rename_i v hv
      split at h0
      · rename_i old v' hg hset
        obtain ⟨hc, h0⟩ := cond_none h0
        simp only [Bool.and_eq_true] at hc
        obtain ⟨⟨⟨c1, c2⟩, c3⟩, c4⟩ := hc
        have c3 := shbeq _ _ c3
        refine ⟨_, _, h0, fun X hXG => ?_⟩
        subst hXG
        refine fun h L a w next Q I hvv hl _ hk => .inl ?_
        have hb := lookOk.get hl hv (by simp)
        have e1 := hvv x hmx
        have e2 := hvv y hmy
        rw [hax] at e1
        obtain ⟨p, oo, s, hp, hpv, hat⟩ := ptr_at I hb e1
        have hs := sh_getP _ _ _ _ _ hg hat
        have hcx := Cells_of_Val (c := cx X h L w) I.eok.w e2 c2
        obtain ⟨I', hle, hsome, hfr⟩ := I.setVar hb hp hg hat hcx (c3.trans hs) hset c4
        have hlen := Cells_len _ _ hcx
        have hrun := run_storeVar' (P := X.G.P) (t := ty) (w := w) (b := p.b) (o := p.o + oo) (v := a.eval y) rfl (by rw [hlen]; exact c1) hsome hfr (Cells_one (c := cx X h L w) I.eok.w _ _ hcx)
        unfold Oper.wp
        have : (execOp a.eval o).run X.G.P w = .ok .skip (w.setCells p.b (p.o + oo) (a.eval y).cells.toList) := by
          simp only [execOp, ho, Instr.storeAt, hpv, Instr.sureAddr, Sem.run_bind, Sem.run_pure, Result.andThen_ok, hrun]
        rw [this]
        exact hk undef L _ I' hle Val_und
      · cases h0
    · rename_i k nl l hv
      split at h0
      · rename_i i k' z hay
        obtain ⟨hc, h1⟩ := cond_none h0
        clear h0
        simp only [Bool.and_eq_true, decide_eq_true_eq] at hc
        obtain ⟨c1, rfl⟩ := hc
        refine ⟨_, _, h1, fun X hXG => ?_⟩
        subst hXG
        refine fun h L a w next Q I hvv hl _ hk => .inl ?_
        have hb := lookOk.get hl hv (by simp)
        have e1 := hvv x hmx
        have e2 := hvv y hmy
        rw [hax] at e1
        rw [hay] at e2
        obtain ⟨e2, hz⟩ := e2
        obtain ⟨p, hp, rfl, hpv, hlt, hnn, hcell, hfr⟩ := ptr_row I hb e1
        obtain ⟨I', hle⟩ := I.setRow hb hp hlt hz
        have hrun := run_storeVar' (P := X.G.P) (t := ty) (w := w) (b := p.b) (o := p.o + i) (v := .int k z) (cs := [.int k z]) rfl c1
          (fun j hj => by
            have : j = 0 := by simp at hj; omega
            subst this
            rw [Nat.add_zero, hcell]; rfl)
          (fun j hj => by
            have : j = 0 := by simp at hj; omega
            subst this
            rw [Nat.add_zero, hfr]) (by simp [Value.oneCell'])
        unfold Oper.wp
        have : (execOp a.eval o).run X.G.P w = .ok .skip (w.setCells p.b (p.o + i) [.int k z]) := by
          simp only [execOp, ho, Instr.storeAt, hpv, e2, Instr.sureAddr, Sem.run_bind, Sem.run_pure, Result.andThen_ok, hrun]
        rw [this]
        exact hk undef L _ I' hle Val_und
      · cases h0
    · rename_i te nl l hv
      split at h0
      · rename_i i d hd
        obtain ⟨hc, h1⟩ := cond_none h0
        clear h0
        simp only [Bool.and_eq_true] at hc
        obtain ⟨c1, c2⟩ := hc
        have c2 := Nat.eq_of_beq_eq_true c2
        refine ⟨_, _, h1, fun X hXG => ?_⟩
        subst hXG
        refine fun h L a w next Q I hvv hl _ hk => .inl ?_
        have hb := lookOk.get hl hv (by simp)
        have e1 := hvv x hmx
        have e2 := hvv y hmy
        rw [hax] at e1
        obtain ⟨p, cs0, hp, rfl, hpv, hlt, _, _⟩ := ptr_gro I hb e1
        have hz := decT_Fz te _ d _ hd (Cells_of_Val (c := cx X h L w) I.eok.w e2 (decT_box hd))
        have hlen := Fz_len te d _ hz
        rw [c2] at hlen
        obtain ⟨z, hzz⟩ := List.length_eq_one_iff.1 hlen
        rw [hzz] at hz
        obtain ⟨I', hle, hsome, hfr⟩ := I.setGro c2 hb hp hlt hz
        have hone := Cells_one (c := cx X h L w) I.eok.w _ _ (Cells_of_Val (c := cx X h L w) I.eok.w e2 (decT_box hd))
        rw [hzz] at hone
        have hrun := run_storeVar' (P := X.G.P) (t := ty) (w := w) (b := p.b) (o := p.o + i) (v := a.eval y) (cs := [z]) hzz c1
          (fun j hj => by
            have : j = 0 := by simp at hj; omega
            subst this
            rw [Nat.add_zero]; exact hsome)
          (fun j hj => by
            have : j = 0 := by simp at hj; omega
            subst this
            rw [Nat.add_zero, hfr]) hone
        unfold Oper.wp
        rw [c2, Nat.one_mul] at hpv
        have : (execOp a.eval o).run X.G.P w = .ok .skip (w.setCells p.b (p.o + i) [z]) := by
          simp only [execOp, ho, Instr.storeAt, hpv, Instr.sureAddr, Sem.run_bind, Sem.run_pure, Result.andThen_ok, hrun]
        rw [this]
        exact hk undef L _ I' hle Val_und
      · cases h0
    · cases h0
  · cases h0
end Go.Ev
namespace Go.Ev
set_option linter.unusedSimpArgs false
set_option linter.unusedVariables false
theorem intZero_ok {i : TypeInfo} {k : IntKind} (h : intZero i k = true) : i.zero = some (.int k 0) := by
  unfold intZero at h
  split at h
  · rename_i k' n hz
    simp only [Bool.and_eq_true, decide_eq_true_eq] at h
    obtain ⟨rfl, rfl⟩ := h
    exact hz
  · cases h
theorem slZero_ok {i : TypeInfo} (h : slZero i = true) : i.zero = some (.slice none 0 0) := by
  unfold slZero at h
  split at h
  · assumption
  · cases h
theorem range0 : Array.range 0 = #[] := by apply Array.ext <;> simp
theorem run_makeSlice' {P : Program} (w : World) {t e : TypeId} {i : TypeInfo} {k kl kc : IntKind} {l c : Int} (ht : P.underlying t = some (.slice e)) (hi : P.info? e = some i) (hz : i.zero = some (.int k 0)) (hs : i.size = 1)
    (h0 : 0 ≤ IntKind.i64.wrap l) (hlc : IntKind.i64.wrap l ≤ IntKind.i64.wrap c) (hb : (i.bytes : Int) * IntKind.i64.wrap c ≤ 140737488355328) :
    (Instr.makeSlice t (.int kl l) (.int kc c)).run P w = .ok (.slice (some ⟨w.heap.size, 0, none⟩) (IntKind.i64.wrap l).toNat (IntKind.i64.wrap c).toNat)
      (w.alloc (.cells (Array.replicate (IntKind.i64.wrap c).toNat (.int k 0)) e)) := by
  have n1 : ¬ IntKind.i64.wrap c < 0 := by omega
  have n2 : ¬ (281474976710656 < (i.bytes : Int) * IntKind.i64.wrap c) := by omega
  have n3 : ¬ IntKind.i64.wrap l < 0 := by omega
  have n4 : ¬ IntKind.i64.wrap c < IntKind.i64.wrap l := by omega
  by_cases hn : (IntKind.i64.wrap c).toNat = 0
  · simp [Instr.makeSlice, run_underlying' ht, asInt, asIntOf, typeInfo, hi, sizeOf, n1, n2, n3, n4, hn, hs, newRow, askRoom, roomBytes, range0]
  · simp [Instr.makeSlice, run_underlying' ht, asInt, asIntOf, typeInfo, hi, sizeOf, zeroValue, hz, n1, n2, n3, n4, hn, hs, newRow, askRoom, roomBytes, Value.cells]
    congr 2
    apply Array.ext
    · simp
    · intro j h1 h2
      simp [Nat.mod_one]
theorem boolZero_ok {i : TypeInfo} (h : boolZero i = true) : i.zero = some (.bool false) := by
  unfold boolZero at h
  split at h
  · rename_i h'; exact h'
  · cases h
theorem FzR_bools {w : World} {A : Nat → Nat → Prop} : ∀ (n : Nat), FzR w A .bool (List.replicate n (false : Bool)) (List.replicate n (.bool false))
  | 0 => rfl
  | n + 1 => ⟨[.bool false], List.replicate n (.bool false), rfl, rfl, FzR_bools n⟩
theorem run_makeSliceB {P : Program} (w : World) {t e : TypeId} {i : TypeInfo} {kl kc : IntKind} {l c : Int} (ht : P.underlying t = some (.slice e)) (hi : P.info? e = some i) (hz : i.zero = some (.bool false)) (hs : i.size = 1)
    (h0 : 0 ≤ IntKind.i64.wrap l) (hlc : IntKind.i64.wrap l ≤ IntKind.i64.wrap c) (hb : (i.bytes : Int) * IntKind.i64.wrap c ≤ 140737488355328) :
    (Instr.makeSlice t (.int kl l) (.int kc c)).run P w = .ok (.slice (some ⟨w.heap.size, 0, none⟩) (IntKind.i64.wrap l).toNat (IntKind.i64.wrap c).toNat)
      (w.alloc (.cells (Array.replicate (IntKind.i64.wrap c).toNat (.bool false)) e)) := by
  have n1 : ¬ IntKind.i64.wrap c < 0 := by omega
  have n2 : ¬ (281474976710656 < (i.bytes : Int) * IntKind.i64.wrap c) := by omega
  have n3 : ¬ IntKind.i64.wrap l < 0 := by omega
  have n4 : ¬ IntKind.i64.wrap c < IntKind.i64.wrap l := by omega
  by_cases hn : (IntKind.i64.wrap c).toNat = 0
  · simp [Instr.makeSlice, run_underlying' ht, asInt, asIntOf, typeInfo, hi, sizeOf, n1, n2, n3, n4, hn, hs, newRow, askRoom, roomBytes, range0]
  · simp [Instr.makeSlice, run_underlying' ht, asInt, asIntOf, typeInfo, hi, sizeOf, zeroValue, hz, n1, n2, n3, n4, hn, hs, newRow, askRoom, roomBytes, Value.cells]
    congr 2
    apply Array.ext
    · simp
    · intro j h1 h2
      simp [Nat.mod_one]
theorem makeSliceE_ok {G : Gi} {R : Type} {κ : Kop R} {r : R} {o : Oper} {ty : TypeId} {x y : Operand} {t : List AV} {look : Nat → Blk} {nid : Nat} (ho : o.op = .makeSlice ty x y)
    (h0 : makeSliceE G nid κ ty (evO t x) (evO t y) = some r) : ∃ v us, κ v us = some r ∧ OpOk G o t look nid v us := by
  unfold makeSliceE at h0
  split at h0
  · rename_i e kl n kc m hu hex hey
    split at h0
    · rename_i k i hk hi
      obtain ⟨c1, h1⟩ := cond_none h0
      obtain ⟨c2, h2⟩ := cond_none h1
      obtain ⟨c3, h3⟩ := cond_none h2
      obtain ⟨c4, h4⟩ := cond_none h3
      clear h0 h1 h2 h3
      simp only [Bool.and_eq_true] at c1
      have c0 := Nat.eq_of_beq_eq_true c1.1
      have cz := intZero_ok c1.2
      have c2 := of_decide_eq_true c2
      have c3 := of_decide_eq_true c3
      have c4 := of_decide_eq_true c4
      refine ⟨_, _, h4, fun X hXG => ?_⟩
      subst hXG
      refine fun h L a w next Q I hvv _ hr hk => .inl ?_
      have e1 := hvv x (by simp [ho, Op.operands])
      have e2 := hvv y (by simp [ho, Op.operands])
      rw [hex] at e1; rw [hey] at e2
      obtain ⟨e1, _⟩ := e1
      obtain ⟨e2, _⟩ := e2
      have hn := hr 0 (by simp [resv, ho])
      obtain ⟨L', I', hle, hval⟩ := I.newRow (by simpa using hn) (k := k) (l := List.replicate (IntKind.i64.wrap n).toNat 0) (fun _ z hz => by rw [List.mem_replicate] at hz; omega) e
        (cs := Array.replicate (IntKind.i64.wrap m).toNat (.int k 0)) (fun i hi => by
          rw [Array.getElem?_replicate, if_pos (by rw [List.length_replicate] at hi; have := Int.toNat_le_toNat c3; omega)]; simp) (by simp; omega) (IntKind.i64.wrap m).toNat (by simp; omega) (by simp) w (.inl rfl)
      unfold Oper.wp
      have : (execOp a.eval o).run X.G.P w = .ok (.value (.slice (some ⟨w.heap.size, 0, none⟩) (IntKind.i64.wrap n).toNat (IntKind.i64.wrap m).toNat)) (w.alloc (.cells (Array.replicate (IntKind.i64.wrap m).toNat (.int k 0)) e)) := by
        simp only [execOp, ho, e1, e2, Sem.run_bind, run_makeSlice' w hu hi cz c0 c2 c3 c4, Result.andThen_ok, Sem.run_pure]
      rw [this]
      rw [List.length_replicate] at hval
      exact hk _ L' _ (by simpa [applyU] using I') (by simpa [applyU] using hle) (by simpa [applyU] using hval)
    · rename_i i hk hi
      obtain ⟨c1, h1⟩ := cond_none h0
      obtain ⟨c2, h2⟩ := cond_none h1
      obtain ⟨c3, h3⟩ := cond_none h2
      obtain ⟨c4, h4⟩ := cond_none h3
      clear h0 h1 h2 h3
      simp only [Bool.and_eq_true] at c1
      have c0 := Nat.eq_of_beq_eq_true c1.1
      have cz := boolZero_ok c1.2
      have c2 := of_decide_eq_true c2
      have c3 := of_decide_eq_true c3
      have c4 := of_decide_eq_true c4
      refine ⟨_, _, h4, fun X hXG => ?_⟩
      subst hXG
      refine fun h L a w next Q I hvv _ hr hk => .inl ?_
      have e1 := hvv x (by simp [ho, Op.operands])
      have e2 := hvv y (by simp [ho, Op.operands])
      rw [hex] at e1; rw [hey] at e2
      obtain ⟨e1, _⟩ := e1
      obtain ⟨e2, _⟩ := e2
      have hn := hr 0 (by simp [resv, ho])
      have c5 := Int.toNat_le_toNat c3
      have hlen : (@List.replicate (Den .bool) (IntKind.i64.wrap n).toNat (false : Bool)).length = (IntKind.i64.wrap n).toNat := @List.length_replicate (Den .bool) _ _
      obtain ⟨L', I', hle, hval⟩ := I.newGro (by simpa using hn) (t := .bool) (l := List.replicate (IntKind.i64.wrap n).toNat (false : Bool)) (fl := List.replicate (IntKind.i64.wrap n).toNat (.bool false)) (cs := Array.replicate (IntKind.i64.wrap m).toNat (.bool false)) e (by decide)
        (FzR_bools _) (fun j hj => by
          rw [List.length_replicate] at hj
          rw [Array.getElem?_replicate, if_pos (by omega)]; simp) (IntKind.i64.wrap m).toNat (by rw [hlen]; exact c5) (by rw [Array.size_replicate]; show 1 * _ ≤ _; omega) w (.inl rfl)
      unfold Oper.wp
      have : (execOp a.eval o).run X.G.P w = .ok (.value (.slice (some ⟨w.heap.size, 0, none⟩) (IntKind.i64.wrap n).toNat (IntKind.i64.wrap m).toNat)) (w.alloc (.cells (Array.replicate (IntKind.i64.wrap m).toNat (.bool false)) e)) := by
        simp only [execOp, ho, e1, e2, Sem.run_bind, run_makeSliceB w hu hi cz c0 c2 c3 c4, Result.andThen_ok, Sem.run_pure]
      rw [this]
      rw [hlen] at hval
      exact hk _ L' _ (by simpa [applyU] using I') (by simpa [applyU] using hle) (by simpa [applyU] using hval)
    · cases h0
  · cases h0
def setAll {α : Type} : List (Nat × α) → List α → List α
  | [], l => l
  | (i, x) :: ps, l => setAll ps (l.set i x)
theorem setAll_len {α : Type} : ∀ (ps : List (Nat × α)) (l : List α), (setAll ps l).length = l.length
  | [], _ => rfl
  | (i, x) :: ps, l => by simp [setAll, setAll_len ps]
def All2 {α β : Type} (r : α → β → Prop) : List α → List β → Prop
  | [], [] => True
  | a :: l, b :: m => r a b ∧ All2 r l m
  | _, _ => False
theorem fill_rel {α : Type} (Rl : α → Value → Prop) : ∀ (ps : List (Nat × α)) (vs : List (Nat × Value)) (l : List α) (cells : Array Value),
    All2 (fun (p : Nat × α) (q : Nat × Value) => p.1 = q.1 ∧ Rl p.2 q.2 ∧ q.2.cells = #[q.2] ∧ p.1 < l.length) ps vs →
    cells.size = l.length → (∀ j (h : j < l.length), ∃ v, cells[j]? = some v ∧ Rl l[j] v) →
    ∃ cells', Instr.fill (fun i => some (i * 1, 1)) cells vs = some cells' ∧ cells'.size = (setAll ps l).length ∧ ∀ j (h : j < (setAll ps l).length), ∃ v, cells'[j]? = some v ∧ Rl (setAll ps l)[j] v
  | [], [], l, cells, h, hs, hr => ⟨cells, rfl, hs, hr⟩
  | [], _ :: _, _, _, h, _, _ => h.elim
  | _ :: _, [], _, _, h, _, _ => h.elim
  | (i, x) :: ps, (i', u) :: vs, l, cells, h, hs, hr => by
    obtain ⟨⟨rfl, h3, h4, h5⟩, h2⟩ := h
    simp only at h3 h4 h5
    obtain ⟨cells', g1, g2, g3⟩ := fill_rel Rl ps vs (l.set i x) (cells.setIfInBounds i u) (by simpa using h2) (by simp [hs]) (fun j hj => by
      have hj' : j < l.length := by simpa using hj
      by_cases hij : i = j
      · subst hij
        exact ⟨u, by simp [hs, hj'], by simpa using h3⟩
      · obtain ⟨v, q1, q2⟩ := hr j hj'
        exact ⟨v, by rw [Array.getElem?_setIfInBounds_ne hij]; exact q1, by rw [List.getElem_set_ne hij]; exact q2⟩)
    refine ⟨cells', ?_, g2, g3⟩
    have hsz : u.cells.size = 1 := by rw [h4]; rfl
    simp only [Instr.fill, Nat.mul_one, hsz, ne_eq, not_true_eq_false, decide_false, Bool.false_or, decide_eq_true_eq]
    rw [if_neg (by omega), h4]
    simpa using g1
theorem setL_ok {k : IntKind} : ∀ (ps : List (Nat × AV)) (l l' : List Int), setL k ps l = some l' → ∃ qs : List (Nat × Int), ps = qs.map (fun q => (q.1, .int k q.2)) ∧ (∀ q ∈ qs, q.1 < l.length) ∧ l' = setAll qs l
  | [], l, l', h => by simp only [setL, Option.some.injEq] at h; subst h; exact ⟨[], rfl, by simp, rfl⟩
  | (i, x) :: ps, l, l', h => by
    cases x <;> simp only [setL, reduceCtorEq] at h
    rename_i k' x
    obtain ⟨h1, h2⟩ := cond_none h
    simp only [Bool.and_eq_true, decide_eq_true_eq] at h1
    obtain ⟨rfl, h3⟩ := h1
    have h3 : i < l.length := by simpa [Nat.blt_eq] using h3
    obtain ⟨qs, rfl, q2, q3⟩ := setL_ok ps _ _ h2
    refine ⟨(i, x) :: qs, rfl, ?_, q3⟩
    intro q hq
    rcases List.mem_cons.1 hq with rfl | hq
    · exact h3
    · simpa using q2 q hq
theorem mem_setAll {α : Type} : ∀ (ps : List (Nat × α)) (l : List α) (x : α), x ∈ setAll ps l → x ∈ l ∨ ∃ p ∈ ps, p.2 = x
  | [], l, x, h => .inl h
  | (i, y) :: ps, l, x, h => by
    rcases mem_setAll ps _ x h with h | ⟨p, hp, e⟩
    · rcases List.mem_or_eq_of_mem_set h with h | rfl
      · exact .inl h
      · exact .inr ⟨(i, x), by simp, rfl⟩
    · exact .inr ⟨p, by simp [hp], e⟩
theorem buildSlice_run {P : Program} {w : World} {t e : TypeId} {i : TypeInfo} {z : Value} {len : Nat} {parts : Array (Nat × Value)} {cells : Array Value} (ht : P.underlying t = some (.slice e)) (hi : P.info? e = some i) (hz : i.zero = some z)
    (hzs : z.cells = #[z]) (hs : i.size = 1) (hlen : len ≤ 100000) (hf : Instr.fill (fun i => some (i * 1, 1)) (Array.replicate len z) parts.toList = some cells) :
    (Instr.buildSlice t len parts).run P w = .ok (.slice (some ⟨w.heap.size, 0, none⟩) len len) (w.alloc (.cells cells e)) := by
  have n1 : ¬ 16777216 < len := by omega
  have key : (Array.range len).map (fun j => #[z][j % 1]!) = Array.replicate len z := by
    apply Array.ext
    · simp
    · intro j h1 h2; simp [Nat.mod_one]
  by_cases h0 : len = 0
  · subst h0
    have hf' : Instr.fill (fun i => some (i, 1)) #[] parts.toList = some cells := by simpa using hf
    simp [Instr.buildSlice, run_underlying' ht, sizeOf, typeInfo, hi, hs, range0, hf', newRow]
  · have hf' : Instr.fill (fun i => some (i, 1)) ((Array.range len).map (fun j => #[z][j % 1]!)) parts.toList = some cells := by rw [key]; simpa using hf
    simp [Instr.buildSlice, run_underlying' ht, sizeOf, typeInfo, hi, hs, n1, h0, zeroValue, hz, hzs] at hf' ⊢
    simp [hf', newRow]
theorem parts_all2 {c : Cx} (a : Act) (t : List AV) {α : Type} (emb : α → AV) : ∀ (ps : List (Nat × Operand)) (qs : List (Nat × α)) (n : Nat), ps.map (fun p => (p.1, evO t p.2)) = qs.map (fun q => (q.1, emb q.2)) →
    (∀ p ∈ ps, Val c (evO t p.2) (a.eval p.2)) → (∀ q ∈ qs, q.1 < n) → (∀ x v, Val c (emb x) v → v.cells = #[v]) →
    All2 (fun (p : Nat × α) (q : Nat × Value) => p.1 = q.1 ∧ Val c (emb p.2) q.2 ∧ q.2.cells = #[q.2] ∧ p.1 < n) qs (ps.map fun p => (p.1, a.eval p.2))
  | [], [], _, _, _, _, _ => trivial
  | [], _ :: _, _, h, _, _, _ => by simp at h
  | _ :: _, [], _, h, _, _, _ => by simp at h
  | p :: ps, q :: qs, n, h, hv, hn, hc => by
    simp only [List.map_cons, List.cons.injEq, Prod.mk.injEq] at h
    obtain ⟨⟨h1, h2⟩, h3⟩ := h
    have hq := hv p (by simp)
    rw [h2] at hq
    exact ⟨⟨h1.symm, hq, hc _ _ hq, hn q (by simp)⟩, parts_all2 a t emb ps qs n h3 (fun p hp => hv p (by simp [hp])) (fun q hq => hn q (by simp [hq])) hc⟩
theorem rowsL_ok {k : IntKind} : ∀ (ps : List (Nat × AV)) (l l' : List (List Int)), rowsL k ps l = some l' →
    ∃ qs : List (Nat × (Option (Option Bool) × List Int)), ps = qs.map (fun q => (q.1, match q.2.1 with | some nl => AV.isl k nl q.2.2 | none => AV.nils)) ∧ (∀ q ∈ qs, q.1 < l.length ∧ (q.2.1 = none → q.2.2 = [])) ∧ l' = setAll (qs.map fun q => (q.1, q.2.2)) l
  | [], l, l', h => by simp only [rowsL, Option.some.injEq] at h; subst h; exact ⟨[], rfl, by simp, rfl⟩
  | (i, x) :: ps, l, l', h => by
    cases x <;> simp only [rowsL, reduceCtorEq] at h
    · obtain ⟨h3, h2⟩ := cond_none h
      have h3 : i < l.length := by simpa [Nat.blt_eq] using h3
      obtain ⟨qs, rfl, q2, q3⟩ := rowsL_ok ps _ _ h2
      refine ⟨(i, none, []) :: qs, rfl, ?_, q3⟩
      intro q hq
      rcases List.mem_cons.1 hq with rfl | hq
      · exact ⟨h3, fun _ => rfl⟩
      · simpa using q2 q hq
    · rename_i k' nl x
      obtain ⟨h1, h2⟩ := cond_none h
      simp only [Bool.and_eq_true, decide_eq_true_eq] at h1
      obtain ⟨rfl, h3⟩ := h1
      have h3 : i < l.length := by simpa [Nat.blt_eq] using h3
      obtain ⟨qs, rfl, q2, q3⟩ := rowsL_ok ps _ _ h2
      refine ⟨(i, some nl, x) :: qs, rfl, ?_, q3⟩
      intro q hq
      rcases List.mem_cons.1 hq with rfl | hq
      · exact ⟨h3, fun e => by cases e⟩
      · simpa using q2 q hq
theorem partsL_ok : ∀ (ps : List (Nat × AV)) (l l' : List AV), partsL ps l = some l' → (∀ q ∈ ps, q.1 < l.length ∧ q.2.isSl = true) ∧ l' = setAll ps l
  | [], l, l', h => by simp only [partsL, Option.some.injEq] at h; subst h; exact ⟨by simp, rfl⟩
  | (i, x) :: ps, l, l', h => by
    simp only [partsL] at h
    obtain ⟨h3, h2⟩ := cond_none h
    simp only [Bool.and_eq_true] at h3
    have h4 : i < l.length := by simpa [Nat.blt_eq] using h3.1
    obtain ⟨q2, q3⟩ := partsL_ok ps _ _ h2
    refine ⟨?_, q3⟩
    intro q hq
    rcases List.mem_cons.1 hq with rfl | hq
    · exact ⟨h4, h3.2⟩
    · simpa using q2 q hq
theorem isSl_leaf {c : Cx} {x : AV} {v : Value} (hs : x.isSl = true) (h : Val c x v) : leaf c x v ∧ v.cells = #[v] := by
  cases x <;> simp only [AV.isSl, Bool.false_eq_true] at hs
  · obtain rfl := h; exact ⟨rfl, rfl⟩
  · obtain ⟨_, b, cap, e, _⟩ := id h; subst e; exact ⟨h, rfl⟩
  · rename_i id path off len
    have h' : leaf c (.own id path off len) v := h
    obtain ⟨a, n, m, rfl⟩ := leaf_own h'
    exact ⟨h, rfl⟩
theorem CellsL_of {c : Cx} : ∀ (l : List AV) (cs : List Value), cs.length = l.length → (∀ j (h : j < l.length), ∃ v, cs[j]? = some v ∧ l[j].isSl = true ∧ leaf c l[j] v) → CellsL c l cs
  | [], [], _, _ => rfl
  | [], _ :: _, h, _ => by simp at h
  | _ :: _, [], h, _ => by simp at h
  | x :: l, y :: cs, hl, h => by
    obtain ⟨v, h1, h2, h3⟩ := h 0 (by simp)
    simp only [List.getElem?_cons_zero, Option.some.injEq] at h1
    subst h1
    refine ⟨[y], cs, rfl, ?_, CellsL_of l cs (by simpa using hl) fun j hj => by
      obtain ⟨v, q1, q2, q3⟩ := h (j + 1) (by simpa using hj)
      exact ⟨v, by simpa using q1, q2, q3⟩⟩
    simp only [List.getElem_cons_zero] at h2 h3
    cases x <;> simp only [AV.isSl, Bool.false_eq_true] at h2
    · exact ⟨y, rfl, h3⟩
    · exact ⟨y, rfl, h3⟩
    · exact ⟨y, rfl, h3⟩
theorem errsL_ok : ∀ (ps : List (Nat × AV)) (l l' : List Nat), errsL ps l = some l' → ∃ qs : List (Nat × Nat), ps = qs.map (fun q => (q.1, .err q.2)) ∧ (∀ q ∈ qs, q.1 < l.length) ∧ l' = setAll qs l
  | [], l, l', h => by simp only [errsL, Option.some.injEq] at h; subst h; exact ⟨[], rfl, by simp, rfl⟩
  | (i, x) :: ps, l, l', h => by
    cases x <;> simp only [errsL, reduceCtorEq] at h
    rename_i x
    obtain ⟨h3, h2⟩ := cond_none h
    have h3 : i < l.length := by simpa [Nat.blt_eq] using h3
    obtain ⟨qs, rfl, q2, q3⟩ := errsL_ok ps _ _ h2
    refine ⟨(i, x) :: qs, rfl, ?_, q3⟩
    intro q hq
    rcases List.mem_cons.1 hq with rfl | hq
    · exact h3
    · simpa using q2 q hq
theorem ifZero_ok {i : TypeInfo} (h : ifZero i = true) : i.zero = some .nilIface := by
  unfold ifZero at h
  split at h
  · assumption
  · cases h
theorem IsSl_nil {w : World} {A : Nat → Nat → Prop} {k : IntKind} : IsSl w A k none [] (.slice none 0 0) :=
  ⟨by simp [NN], none, 0, rfl, Nat.le_refl _, by simp, fun _ => ⟨rfl, rfl⟩, fun p hp => by cases hp⟩
theorem IsSl.none {w : World} {A : Nat → Nat → Prop} {k : IntKind} {nl : Option Bool} {l : List Int} {v : Value} (h : IsSl w A k nl l v) : IsSl w A k none l v := by
  obtain ⟨h0, a, cap, h1, h2, _, h4, h5⟩ := h
  exact ⟨h0, a, cap, h1, h2, by simp, h4, h5⟩
theorem Inv.other {X : Fx} {h : List Blk} {L : List Loc} {w : World} (I : Inv X h L w) (o : Obj) (hcl : ∀ c e f, o = .cells c e f → clean c.size f := by intro _ _ _ h; cases h <;> exact .inl rfl) : Inv X h L (w.alloc o) ∧ Cx.Le (cx X h L w) (cx X h L (w.alloc o)) :=
  I.upd (fun _ _ => False) I.len (Step.alloc _ _ _ hcl) (fun _ _ q => q.elim) (fun id s hs _ => .inl ⟨hs, rfl⟩) (fun b o q => .inl q) I.dis (fun _ id b p hb hp => .inl ⟨hb, hp, fun _ _ _ q => q⟩)
theorem not_av_fresh {X : Fx} {h : List Blk} {L : List Loc} {w : World} (I : Inv X h L w) {b o : Nat} (hb : w.heap.size ≤ b) : ¬ X.av (h.map Blk.sh) L b o := by
  rintro (q | q)
  · have := I.obd b o q; have := I.stp.size; omega
  · exact not_own_of_fresh I hb q
theorem own_nil {X : Fx} {h : List Blk} {L : List Loc} {w : World} {nid : Nat} {k : IntKind} {p : Loc} {a0 : Option Addr} (hb : h[nid]? = some (.row k true [])) (hp : L[nid]? = some p) :
    Val (cx X h L w) (.own nid [] 0 none) (.slice a0 0 0) := by
  rw [Val_leaf rfl (by simp) (by simp)]
  simp only [leaf, cx_S hb, Blk.sh]
  have hL' : (cx X h L w).L[nid]? = some p := hp
  rw [hL']
  exact ⟨by trivial, by simp [olen], by simp⟩
theorem own_nil' {c : Cx} {nid : Nat} {p : Loc} {a0 : Option Addr} {k : IntKind} (hS : c.S[nid]? = some (.row k true 0)) (hp : c.L[nid]? = some p) : leaf c (.own nid [] 0 none) (.slice a0 0 0) := by
  simp only [leaf, hS, hp]
  exact ⟨by trivial, by simp [olen], by simp⟩
theorem Inv.nilRow {X : Fx} {h : List Blk} {L : List Loc} {w : World} (I : Inv X h L w) {nid : Nat} (hn : h[nid]? = some .rsv) (k : IntKind) :
    Inv X (h.set nid (.row k true [])) L w ∧ Cx.Le (cx X h L w) (cx X (h.set nid (.row k true [])) L w) := by
  refine I.upd (fun _ _ => False) (by simp [I.len]) (Step.refl _ _) (fun _ _ q => q.elim) ?_ ?_ ?_ ?_
  · intro i s hs hr
    rw [map_set_sh]
    have hne : nid ≠ i := by rintro rfl; rw [List.getElem?_map, hn] at hs; simp at hs; exact hr hs.symm
    exact .inl ⟨by rw [List.getElem?_set_ne hne]; exact hs, rfl⟩
  · rintro x y ⟨i, s, p, h1, h2, h3⟩
    rw [map_set_sh] at h1
    rcases getElem?_set_cases h1 with ⟨_, rfl, _⟩ | ⟨_, h1'⟩
    · obtain ⟨hh, _⟩ := h3; cases hh
    · exact .inl ⟨i, s, p, h1', h2, h3⟩
  · intro i j s t p q x y hij hs ht hp hq o1 o2
    rw [map_set_sh] at hs ht
    rcases getElem?_set_cases hs with ⟨_, rfl, _⟩ | ⟨_, hs'⟩
    · obtain ⟨hh, _⟩ := o1; cases hh
    · rcases getElem?_set_cases ht with ⟨_, rfl, _⟩ | ⟨_, ht'⟩
      · obtain ⟨hh, _⟩ := o2; cases hh
      · exact I.dis i j s t p q x y hij hs' ht' hp hq o1 o2
  · intro _ i b p hb hp
    rcases getElem?_set_cases hb with ⟨_, rfl, _⟩ | ⟨hne, hb'⟩
    · exact .inr ⟨by simp [NN], fun _ => rfl, fun hh => by cases hh⟩
    · exact .inl ⟨hb', hp, fun _ _ _ q => q⟩
theorem Inv.nilGro {X : Fx} {h : List Blk} {L : List Loc} {w : World} (I : Inv X h L w) {nid : Nat} (hn : h[nid]? = some .rsv) (t : T) (ht : 0 < t.len) :
    Inv X (h.set nid (.gro t true [])) L w ∧ Cx.Le (cx X h L w) (cx X (h.set nid (.gro t true [])) L w) := by
  refine I.upd (fun _ _ => False) (by simp [I.len]) (Step.refl _ _) (fun _ _ q => q.elim) ?_ ?_ ?_ ?_
  · intro i s hs hr
    rw [map_set_sh]
    have hne : nid ≠ i := by rintro rfl; rw [List.getElem?_map, hn] at hs; simp at hs; exact hr hs.symm
    exact .inl ⟨by rw [List.getElem?_set_ne hne]; exact hs, rfl⟩
  · rintro x y ⟨i, s, p, h1, h2, h3⟩
    rw [map_set_sh] at h1
    rcases getElem?_set_cases h1 with ⟨_, rfl, _⟩ | ⟨_, h1'⟩
    · obtain ⟨hh, _⟩ := h3; cases hh
    · exact .inl ⟨i, s, p, h1', h2, h3⟩
  · intro i j s t p q x y hij hs ht hp hq o1 o2
    rw [map_set_sh] at hs ht
    rcases getElem?_set_cases hs with ⟨_, rfl, _⟩ | ⟨_, hs'⟩
    · obtain ⟨hh, _⟩ := o1; cases hh
    · rcases getElem?_set_cases ht with ⟨_, rfl, _⟩ | ⟨_, ht'⟩
      · obtain ⟨hh, _⟩ := o2; cases hh
      · exact I.dis i j s t p q x y hij hs' ht' hp hq o1 o2
  · intro _ i b p hb hp
    rcases getElem?_set_cases hb with ⟨_, rfl, _⟩ | ⟨hne, hb'⟩
    · exact .inr ⟨ht, fun _ => rfl, fun hh => by cases hh⟩
    · exact .inl ⟨hb', hp, fun _ _ _ q => q⟩
theorem groNil {c : Cx} {nid sz : Nat} {p : Loc} {a0 : Option Addr} (hS : c.S[nid]? = some (.gro sz true 0)) (hp : c.L[nid]? = some p) : leaf c (.own nid [] 0 none) (.slice a0 0 0) := by
  simp only [leaf, hS, hp]
  exact ⟨by trivial, by simp [olen], by simp⟩
theorem buildSliceE_ok {G : Gi} {R : Type} {κ : Kop R} {r : R} {o : Oper} {ty : TypeId} {n : Nat} {parts : Array (Nat × Operand)} {t : List AV} {look : Nat → Blk} {nid : Nat} (ho : o.op = .buildSlice ty n parts)
    (h0 : buildSliceE G nid κ ty n (parts.toList.map fun p => (p.1, evO t p.2)) = some r) : ∃ v us, κ v us = some r ∧ OpOk G o t look nid v us := by
  unfold buildSliceE at h0
  split at h0
  · rename_i e hu
    split at h0
    · rename_i i hi
      split at h0
      · rename_i k hk
        obtain ⟨hc, h0⟩ := cond_none h0
        simp only [Bool.and_eq_true] at hc
        obtain ⟨⟨c1, c2⟩, c3⟩ := hc
        have c1 := Nat.eq_of_beq_eq_true c1
        have c2 := intZero_ok c2
        have c3 := Nat.le_of_ble_eq_true c3
        cases hwk : (G.weak && Nat.beq n 0 && (parts.toList.map fun p => (p.1, evO t p.2)).isEmpty) with
        | true =>
          rw [hwk] at h0
          have hz := h0
          clear h0
          simp only [cond_true] at hz
          simp only [Bool.and_eq_true] at hwk
          have hn0 := Nat.eq_of_beq_eq_true hwk.1.2
          subst hn0
          have hp0 : parts.toList = [] := by
            have := hwk.2
            rw [List.isEmpty_iff, List.map_eq_nil_iff] at this
            exact this
          refine ⟨_, _, hz, fun X hXG => ?_⟩
          subst hXG
          refine fun h L a w next Q I hvv _ hr hk => .inl ?_
          have hn := hr 0 (by simp [resv, ho])
          simp only [Nat.add_zero] at hn
          obtain ⟨I1, hle1⟩ := I.other (.cells #[] e)
          obtain ⟨I2, hle2⟩ := I1.nilRow hn k
          have hlt := getElem?_lt hn
          obtain ⟨p, hp⟩ := I1.loc hn
          unfold Oper.wp
          have : (execOp a.eval o).run X.G.P w = .ok (.value (.slice (some ⟨w.heap.size, 0, none⟩) 0 0)) (w.alloc (.cells #[] e)) := by
            have hrun := buildSlice_run (P := X.G.P) (w := w) (t := ty) (cells := #[]) (parts := parts.map fun p => (p.1, a.eval p.2)) hu hi c2 rfl c1 c3 (by
              have : (parts.map fun p => (p.1, a.eval p.2)).toList = [] := by simp [hp0]
              rw [this]; rfl)
            simp only [execOp, ho, Sem.run_bind, hrun, Result.andThen_ok, Sem.run_pure]
          rw [this]
          exact hk _ L _ (by simpa [applyU] using I2) (by simpa [applyU] using hle1.trans hle2) (by
            simp only [applyU]
            exact own_nil (List.getElem?_set_self hlt) hp)
        | false =>
        rw [hwk] at h0
        simp only [cond_false] at h0
        split at h0
        · rename_i l hl
          refine ⟨_, _, h0, fun X hXG => ?_⟩
          subst hXG
          refine fun h L a w next Q I hvv _ hr hk => .inl ?_
          obtain ⟨qs, q1, q2, q3⟩ := setL_ok _ _ _ hl
          have hval : ∀ p ∈ parts.toList, Val (cx X h L w) (evO t p.2) (a.eval p.2) := fun p hp => hvv p.2 (by
            simp only [ho, Op.operands, List.mem_map]; exact ⟨p, hp, rfl⟩)
          have hall := parts_all2 (c := cx X h L w) a t (emb := fun x => AV.int k x) parts.toList qs n q1 hval (fun q hq => by have := q2 q hq; simpa using this)
            (fun x v hv => by obtain ⟨rfl, _⟩ := hv; rfl)
          obtain ⟨cells, g1, g2, g3⟩ := fill_rel (fun x v => Val (cx X h L w) (AV.int k x) v) qs _ (List.replicate n 0) (Array.replicate n (.int k 0)) (by simpa using hall) (by simp)
            (fun j hj => ⟨.int k 0, by rw [List.length_replicate] at hj; rw [Array.getElem?_replicate, if_pos hj], by simp; exact ⟨rfl, by simp [NN]⟩⟩)
          subst q3
          have hlen : (setAll qs (List.replicate n 0)).length = n := by rw [setAll_len]; simp
          have hn := hr 0 (by simp [resv, ho])
          obtain ⟨L', I', hle, hval'⟩ := I.newRow (by simpa using hn) (k := k) (l := setAll qs (List.replicate n 0)) (fun hs z hz => by
              rcases mem_setAll _ _ _ hz with hz | ⟨p, hp, rfl⟩
              · rw [List.mem_replicate] at hz; omega
              · have hmem : (p.1, AV.int k p.2) ∈ parts.toList.map fun p => (p.1, evO t p.2) := by rw [q1]; exact List.mem_map.2 ⟨p, hp, rfl⟩
                obtain ⟨pp, hpp, e⟩ := List.mem_map.1 hmem
                simp only [Prod.mk.injEq] at e
                have := hval pp hpp
                rw [e.2] at this
                exact this.2 hs _ (by simp)) e
            (cs := cells) (fun i hi => by
              obtain ⟨v, r1, r2⟩ := g3 i hi
              rw [r1, r2.1]) (by rw [g2]; exact Nat.le_refl _) n (by omega) (by rw [g2]; omega) w (.inl rfl)
          unfold Oper.wp
          have : (execOp a.eval o).run X.G.P w = .ok (.value (.slice (some ⟨w.heap.size, 0, none⟩) n n)) (w.alloc (.cells cells e)) := by
            have hrun := buildSlice_run (P := X.G.P) (w := w) (t := ty) (parts := parts.map fun p => (p.1, a.eval p.2)) hu hi c2 rfl c1 c3 (by simpa using g1)
            simp only [execOp, ho, Sem.run_bind, hrun, Result.andThen_ok, Sem.run_pure]
          rw [this]
          rw [hlen] at hval'
          exact hk _ L' _ (by simpa [applyU] using I') (by simpa [applyU] using hle) (by simpa [applyU] using hval')
        · cases h0
      · rename_i e' hk'
        split at h0
        · rename_i k hk
          obtain ⟨hc, h0⟩ := cond_none h0
          simp only [Bool.and_eq_true] at hc
          obtain ⟨⟨c1, c2⟩, c3⟩ := hc
          have c1 := Nat.eq_of_beq_eq_true c1
          have c2 := slZero_ok c2
          have c3 := Nat.le_of_ble_eq_true c3
          split at h0
          · rename_i l hl
            refine ⟨_, _, h0, fun X hXG => ?_⟩
            subst hXG
            refine fun h L a w next Q I hvv _ hr hk => .inl ?_
            obtain ⟨qs, q1, q2, q3⟩ := rowsL_ok _ _ _ hl
            have hval : ∀ p ∈ parts.toList, Val (cx X h L w) (evO t p.2) (a.eval p.2) := fun p hp => hvv p.2 (by
              simp only [ho, Op.operands, List.mem_map]; exact ⟨p, hp, rfl⟩)
            have hall := parts_all2 (c := cx X h L w) a t (emb := fun (x : Option (Option Bool) × List Int) => match x.1 with | some nl => AV.isl k nl x.2 | none => AV.nils) parts.toList qs n q1 hval (fun q hq => by have := (q2 q hq).1; simpa using this)
              (fun x v hv => by
                obtain ⟨x1, x2⟩ := x
                cases x1 with
                | none => obtain rfl := hv; rfl
                | some nl => obtain ⟨_, b, cap, rfl, _⟩ := hv; rfl)
            have hall2 : All2 (fun (p : Nat × List Int) (q : Nat × Value) => p.1 = q.1 ∧ IsSl w (cx X h L w).A k none p.2 q.2 ∧ q.2.cells = #[q.2] ∧ p.1 < (List.replicate n ([] : List Int)).length) (qs.map fun q => (q.1, q.2.2))
                ((parts.map fun p => (p.1, a.eval p.2)).toList) := by
              have conv : ∀ (qs : List (Nat × (Option (Option Bool) × List Int))) (vs : List (Nat × Value)), (∀ q ∈ qs, q.2.1 = none → q.2.2 = []) →
                  All2 (fun (p : Nat × (Option (Option Bool) × List Int)) (q : Nat × Value) => p.1 = q.1 ∧ Val (cx X h L w) (match p.2.1 with | some nl => AV.isl k nl p.2.2 | none => AV.nils) q.2 ∧ q.2.cells = #[q.2] ∧ p.1 < n) qs vs →
                  All2 (fun (p : Nat × List Int) (q : Nat × Value) => p.1 = q.1 ∧ IsSl w (cx X h L w).A k none p.2 q.2 ∧ q.2.cells = #[q.2] ∧ p.1 < (List.replicate n ([] : List Int)).length) (qs.map fun q => (q.1, q.2.2)) vs := by
                intro qs
                induction qs with
                | nil => intro vs _ hh; cases vs <;> trivial
                | cons q qs ih =>
                  intro vs hq hh
                  cases vs with
                  | nil => exact hh.elim
                  | cons v vs =>
                    obtain ⟨⟨r1, r2, r3, r4⟩, r5⟩ := hh
                    refine ⟨⟨r1, ?_, r3, by simpa using r4⟩, ih vs (fun q hq' => hq q (by simp [hq'])) r5⟩
                    obtain ⟨i0, x1, x2⟩ := q
                    cases x1 with
                    | none =>
                      have hx2 : x2 = [] := hq (i0, none, x2) (List.mem_cons_self ..) rfl
                      subst hx2
                      have r2' : v.2 = .slice none 0 0 := r2
                      show IsSl w (cx X h L w).A k none [] v.2
                      rw [r2']
                      exact IsSl_nil
                    | some nl => exact IsSl.none r2
              have := conv qs _ (fun q hq => (q2 q hq).2) hall
              simpa using this
            obtain ⟨cells, g1, g2, g3⟩ := fill_rel (fun (x : List Int) v => IsSl w (cx X h L w).A k none x v) (qs.map fun q => (q.1, q.2.2)) _ (List.replicate n []) (Array.replicate n (.slice none 0 0)) hall2 (by simp)
              (fun j hj => ⟨.slice none 0 0, by rw [List.length_replicate] at hj; rw [Array.getElem?_replicate, if_pos hj], by simp; exact IsSl_nil⟩)
            subst q3
            have hlen : (setAll (qs.map fun q => (q.1, q.2.2)) (List.replicate n ([] : List Int))).length = n := by rw [setAll_len]; simp
            obtain ⟨I', hle⟩ := I.other (.cells cells e)
            unfold Oper.wp
            have : (execOp a.eval o).run X.G.P w = .ok (.value (.slice (some ⟨w.heap.size, 0, none⟩) n n)) (w.alloc (.cells cells e)) := by
              have hrun := buildSlice_run (P := X.G.P) (w := w) (t := ty) (parts := parts.map fun p => (p.1, a.eval p.2)) hu hi c2 rfl c1 c3 (by simpa using g1)
              simp only [execOp, ho, Sem.run_bind, hrun, Result.andThen_ok, Sem.run_pure]
            rw [this]
            refine hk _ L _ I' hle ?_
            rw [Val_leaf rfl (by simp) (by simp)]
            refine ⟨some ⟨w.heap.size, 0, none⟩, n, by rw [hlen], by omega, fun e => (by cases e), fun p hp => ?_⟩
            simp only [Option.some.injEq] at hp
            subst hp
            refine ⟨fun _ => rfl, fun i hi => ?_⟩
            obtain ⟨v, r1, r2⟩ := g3 i hi
            refine ⟨v, ?_, ?_, ?_⟩
            · show (w.alloc (.cells cells e)).cell? _ = _
              rw [World.cell?_alloc_new, Nat.zero_add, r1]
            · exact not_av_fresh I (Nat.le_refl _)
            · exact IsSl.le hle r2
          · split at h0
            · rename_i l hl
              refine ⟨_, _, h0, fun X hXG => ?_⟩
              subst hXG
              refine fun h L a w next Q I hvv _ hr hk => .inl ?_
              obtain ⟨q2, q3⟩ := partsL_ok _ _ _ hl
              have hval : ∀ p ∈ parts.toList, Val (cx X h L w) (evO t p.2) (a.eval p.2) := fun p hp => hvv p.2 (by
                simp only [ho, Op.operands, List.mem_map]; exact ⟨p, hp, rfl⟩)
              have hall2 : All2 (fun (p : Nat × AV) (q : Nat × Value) => p.1 = q.1 ∧ (p.2.isSl = true ∧ leaf (cx X h L w) p.2 q.2) ∧ q.2.cells = #[q.2] ∧ p.1 < (List.replicate n AV.nils).length) (parts.toList.map fun p => (p.1, evO t p.2))
                  ((parts.map fun p => (p.1, a.eval p.2)).toList) := by
                have conv : ∀ (ps : List (Nat × Operand)), (∀ p ∈ ps, Val (cx X h L w) (evO t p.2) (a.eval p.2)) → (∀ p ∈ ps, p.1 < (List.replicate n AV.nils).length ∧ (evO t p.2).isSl = true) →
                    All2 (fun (p : Nat × AV) (q : Nat × Value) => p.1 = q.1 ∧ (p.2.isSl = true ∧ leaf (cx X h L w) p.2 q.2) ∧ q.2.cells = #[q.2] ∧ p.1 < (List.replicate n AV.nils).length) (ps.map fun p => (p.1, evO t p.2)) (ps.map fun p => (p.1, a.eval p.2)) := by
                  intro ps
                  induction ps with
                  | nil => intro _ _; trivial
                  | cons p ps ih =>
                    intro h1 h2
                    obtain ⟨r1, r2⟩ := h2 p (by simp)
                    obtain ⟨r3, r4⟩ := isSl_leaf r2 (h1 p (by simp))
                    exact ⟨⟨rfl, ⟨r2, r3⟩, r4, r1⟩, ih (fun p hp => h1 p (by simp [hp])) (fun p hp => h2 p (by simp [hp]))⟩
                have := conv parts.toList hval (fun p hp => q2 (p.1, evO t p.2) (List.mem_map.2 ⟨p, hp, rfl⟩))
                simpa using this
              obtain ⟨cells, g1, g2, g3⟩ := fill_rel (fun (x : AV) v => x.isSl = true ∧ leaf (cx X h L w) x v) (parts.toList.map fun p => (p.1, evO t p.2)) _ (List.replicate n .nils) (Array.replicate n (.slice none 0 0)) hall2 (by simp)
                (fun j hj => ⟨.slice none 0 0, by rw [List.length_replicate] at hj; rw [Array.getElem?_replicate, if_pos hj], by simp [AV.isSl, leaf]⟩)
              have hlen : l.length = n := by rw [q3, setAll_len]; simp
              rw [← q3] at g2 g3
              have hcs : Cells (cx X h L w) (.agg l) cells.toList := by
                refine CellsL_of l cells.toList (by simp [g2]) fun j hj => ?_
                obtain ⟨v, r1, r2, r3⟩ := g3 j hj
                exact ⟨v, by simpa using r1, r2, r3⟩
              have hn := hr 0 (by simp [resv, ho])
              obtain ⟨L', I', hle, hval'⟩ := I.newVar (by simpa using hn) hcs e
              unfold Oper.wp
              have : (execOp a.eval o).run X.G.P w = .ok (.value (.slice (some ⟨w.heap.size, 0, none⟩) n n)) (w.alloc (.cells cells e)) := by
                have hrun := buildSlice_run (P := X.G.P) (w := w) (t := ty) (parts := parts.map fun p => (p.1, a.eval p.2)) hu hi c2 rfl c1 c3 (by simpa using g1)
                simp only [execOp, ho, Sem.run_bind, hrun, Result.andThen_ok, Sem.run_pure]
              rw [this]
              have hlt := getElem?_lt hn
              rw [Nat.add_zero] at hlt
              refine hk _ L' _ (by simpa [applyU] using I') (by simpa [applyU] using hle) ?_
              have hsh : sh (.agg l) = .agg (List.replicate n .leaf) := by
                simp only [sh, shL_eq, Sh.agg.injEq]
                apply List.ext_getElem (by simp [hlen])
                intro j h1 h2
                simp only [List.length_map] at h1
                obtain ⟨v, _, r2, _⟩ := g3 j h1
                simp only [List.getElem_map, List.getElem_replicate]
                generalize l[j] = y at r2
                cases y <;> simp only [AV.isSl, Bool.false_eq_true] at r2 <;> rfl
              have hb : (h.set nid (.var (.agg l)))[nid]? = some (.var (.agg l)) := List.getElem?_set_self hlt
              have hv' : leaf (cx X (h.set nid (.var (.agg l))) L' (w.alloc (.cells cells e))) (.ptr nid []) (.pointer (some ⟨w.heap.size, 0, none⟩)) := (Val_leaf rfl (by simp) (by simp)).1 (by simpa using hval')
              rw [Val_leaf rfl (by simp) (by simp)]
              show leaf (cx X (h.set nid (.var (.agg l))) L' (w.alloc (.cells cells e))) (.asl nid n) _
              simp only [leaf, cx_S hb, Blk.sh] at hv' ⊢
              cases hL : (cx X (h.set nid (.var (.agg l))) L' (w.alloc (.cells cells e))).L[nid]? with
              | none => rw [hL] at hv'; exact hv'.elim
              | some p =>
                rw [hL] at hv'
                obtain ⟨o', t', h1, h2⟩ := hv'
                rw [hsh] at h1 ⊢
                simp only [Sh.at, Option.some.injEq, Prod.mk.injEq] at h1
                obtain ⟨rfl, _⟩ := h1
                refine ⟨rfl, ?_⟩
                simp only [Value.pointer.injEq, Option.some.injEq, Addr.mk.injEq, and_true] at h2
                rw [h2.1, h2.2]
                rfl
            · cases h0
        · cases h0
      · obtain ⟨hc, h0⟩ := cond_none h0
        simp only [Bool.and_eq_true] at hc
        obtain ⟨⟨c1, c2⟩, c3⟩ := hc
        have c1 := Nat.eq_of_beq_eq_true c1
        have c2 := ifZero_ok c2
        have c3 := Nat.le_of_ble_eq_true c3
        split at h0
        · rename_i l hl
          refine ⟨_, _, h0, fun X hXG => ?_⟩
          subst hXG
          refine fun h L a w next Q I hvv _ hr hk => .inl ?_
          obtain ⟨qs, q1, q2, q3⟩ := errsL_ok _ _ _ hl
          have hval : ∀ p ∈ parts.toList, Val (cx X h L w) (evO t p.2) (a.eval p.2) := fun p hp => hvv p.2 (by
            simp only [ho, Op.operands, List.mem_map]; exact ⟨p, hp, rfl⟩)
          have hall := parts_all2 (c := cx X h L w) a t (emb := fun x => AV.err x) parts.toList qs n q1 hval (fun q hq => by have := q2 q hq; simpa using this)
            (fun x v hv => (leaf_cells (c := cx X h L w) (v := AV.err x) I.eok.w hv rfl).1)
          obtain ⟨cells, g1, g2, g3⟩ := fill_rel (fun x v => Val (cx X h L w) (AV.err x) v) qs _ (List.replicate n 0) (Array.replicate n .nilIface) (by simpa using hall) (by simp)
            (fun j hj => ⟨.nilIface, by rw [List.length_replicate] at hj; rw [Array.getElem?_replicate, if_pos hj], by simp; exact I.eok.zero.symm⟩)
          subst q3
          have hlen : (setAll qs (List.replicate n 0)).length = n := by rw [setAll_len]; simp
          obtain ⟨I', hle⟩ := I.other (.cells cells e)
          unfold Oper.wp
          have : (execOp a.eval o).run X.G.P w = .ok (.value (.slice (some ⟨w.heap.size, 0, none⟩) n n)) (w.alloc (.cells cells e)) := by
            have hrun := buildSlice_run (P := X.G.P) (w := w) (t := ty) (parts := parts.map fun p => (p.1, a.eval p.2)) hu hi c2 rfl c1 c3 (by simpa using g1)
            simp only [execOp, ho, Sem.run_bind, hrun, Result.andThen_ok, Sem.run_pure]
          rw [this]
          refine hk _ L _ I' hle ?_
          rw [Val_leaf rfl (by simp) (by simp)]
          refine ⟨some ⟨w.heap.size, 0, none⟩, n, by rw [hlen], by omega, fun e => (by cases e), fun p hp => ?_⟩
          simp only [Option.some.injEq] at hp
          subst hp
          refine ⟨fun _ => rfl, fun i hi => ?_⟩
          obtain ⟨v, r1, r2⟩ := g3 i hi
          refine ⟨?_, not_av_fresh I (Nat.le_refl _)⟩
          show (w.alloc (.cells cells e)).cell? _ = _
          rw [World.cell?_alloc_new, Nat.zero_add, r1]
          exact congrArg some r2
        · cases h0
      · cases h0
    · cases h0
  · cases h0
end Go.Ev
namespace Go.Ev
set_option linter.unusedSimpArgs false
set_option linter.unusedVariables false
def SrcRun (P : Program) (w : World) (k : IntKind) (xs : List Int) (x : Value) : Prop :=
  NN k xs ∧ (Builtin.lenOf x).run P w = .ok xs.length w ∧ ∀ w', (∀ a : Addr, w'.cell? a = w.cell? a) → ∀ n, n ≤ xs.length → (Builtin.firstCells 1 n x).run P w' = .ok ((xs.take n).map (Value.int k)).toArray w'
theorem srcE_run {look : Nat → Blk} {k : IntKind} {av : AV} {xs : List Int} (h0 : srcE look k av = some xs) (X : Fx) (h : List Blk) (L : List Loc) (w : World) (x : Value) (I : Inv X h L w) (hl : lookOk look h)
    (hv : Val (cx X h L w) av x) : SrcRun X.G.P w k xs x := by
  unfold srcE at h0
  split at h0
  · rename_i l
    obtain ⟨hk, h1⟩ := cond_none h0
    clear h0
    have hk := of_decide_eq_true hk
    subst hk
    simp only [Option.some.injEq] at h1
    subst h1
    obtain rfl := hv
    refine ⟨fun _ z hz => ?_, ?_, fun w' _ n hn => ?_⟩
    · obtain ⟨b, _, rfl⟩ := List.mem_map.1 hz; exact Int.natCast_nonneg _
    · simp [Builtin.lenOf, ofStr, ByteArray.size]
    · have : ((ByteArray.mk l.toArray).extract 0 n).data.toList = l.take n := by simp
      simp only [Builtin.firstCells, Sem.run_pure]
      congr 1
      apply Array.ext'
      rw [Array.toList_map, this]
      simp only [ofStr, List.map_take, List.map_map]
      rfl
  · have := cont_run h0 X h L w x I hl hv
    obtain ⟨hnn, a, cap, rfl, h2, h3, h4⟩ := this
    refine ⟨hnn, by simp [Builtin.lenOf], fun w' hw n hn => ?_⟩
    cases a with
    | none => have := h3 rfl; subst this; simp [Builtin.firstCells]
    | some p =>
      have hl' : (xs.take n).length = n := by simp; omega
      have := run_loadCells_ints (w := w') (P := X.G.P) (k := k) (l := xs.take n) (p := p) (fun i hi => by
        have hi' : i < xs.length := by rw [hl'] at hi; omega
        obtain ⟨q1, q2⟩ := h4 p rfl i hi'
        exact ⟨q1, by rw [hw, q2]; simp⟩)
      rw [hl'] at this
      simp only [Builtin.firstCells, Nat.mul_one, this]
def ApSrc (P : Program) (w : World) (k : IntKind) (tx : TypeId) (xs : List Int) (x : Value) : Prop :=
  (notInt P tx = true ∧ SrcRun P w k xs x) ∨ (∃ k' k'' n, P.underlying tx = some (.int k') ∧ x = .int k'' n ∧ IntKind.i64.wrap n = (xs.length : Int) ∧ xs = List.replicate xs.length 0)
theorem ApSrc.nn {P : Program} {w : World} {k : IntKind} {tx : TypeId} {xs : List Int} {x : Value} (h : ApSrc P w k tx xs x) : NN k xs := by
  rcases h with ⟨_, h⟩ | ⟨_, _, n, _, _, _, h⟩
  · exact h.1
  · intro _ z hz
    rw [h] at hz
    rw [List.eq_of_mem_replicate hz]
    exact Int.le_refl _
theorem zeroCells_int (k : IntKind) (n : Nat) : Builtin.zeroCells #[.int k 0] n = ((List.replicate n (0 : Int)).map (Value.int k)).toArray := by
  unfold Builtin.zeroCells
  apply Array.ext
  · simp
  · intro i h1 h2
    simp [Nat.mod_one]
theorem run_append_room' {P : Program} {w : World} {t tx ty e : TypeId} {i : TypeInfo} {k : IntKind} {xs : List Int} {x : Value} (ht : P.underlying t = some (.slice e)) (hi : P.info? e = some i) (hs : i.size = 1)
    (hz : i.zero = some (.int k 0)) (hr : ApSrc P w k tx xs x) (hbx : xs.length * i.bytes ≤ 140737488355328) {q : Addr} {sLen sCap : Nat} (hroom : sLen + xs.length ≤ sCap) (hq : xs ≠ [] → q.spot = none ∧ (∀ j, j < xs.length → (w.cell? ⟨q.block, q.off + sLen + j, none⟩).isSome = true) ∧ (∀ j, j < xs.length → w.frozen? ⟨q.block, q.off + sLen + j, none⟩ = false)) :
    (Builtin.append_ #[t, tx] ty #[.slice (some q) sLen sCap, x]).run P w = .ok (.slice (some q) (sLen + xs.length) sCap) (w.setCells q.block (q.off + sLen) (xs.map (Value.int k))) := by
  have hst : (storeCells (q.add sLen) (xs.map (Value.int k))).run P w = .ok () (w.setCells q.block (q.off + sLen) (xs.map (Value.int k))) := by
    by_cases hxs : xs = []
    · subst hxs; rfl
    · obtain ⟨h1, h2, h3⟩ := hq hxs
      rw [addr_add _ _ h1]
      have := run_storeCells_cells (P := P) q.block (q.off + sLen) (xs.map (Value.int k)) 0 w (by simpa using h2) (by simpa using h3) (fun v hv => by obtain ⟨z, _, rfl⟩ := List.mem_map.1 hv; rfl)
      simpa using this
  have hst' : (storeCells (q.add (sLen * 1)) ((xs.map (Value.int k)).toArray).toList).run P w = .ok () (w.setCells q.block (q.off + sLen) (xs.map (Value.int k))) := by simpa using hst
  rcases hr with ⟨hx, _, r1, r2⟩ | ⟨k1, k2, n, hu, rfl, hnn, hrep⟩
  · have r2 := r2 w (fun _ => rfl) xs.length (Nat.le_refl _)
    rw [List.take_length] at r2
    unfold notInt at hx
    split at hx
    · rename_i e' hu
      simp [Builtin.append_, run_underlying' ht, run_underlying' hu, sizeOf, typeInfo, hi, hs, r1, r2, hroom, hst]
    · rename_i hu
      simp [Builtin.append_, run_underlying' ht, run_underlying' hu, sizeOf, typeInfo, hi, hs, r1, r2, hroom, hst]
    · cases hx
  · have h0 : ¬ ((xs.length : Int) < 0) := by omega
    have h48 : ¬ (281474976710656 < (xs.length : Int) * (i.bytes : Int)) := by
      have : ((xs.length * i.bytes : Nat) : Int) = (xs.length : Int) * (i.bytes : Int) := Int.natCast_mul _ _
      omega
    have hcells : (Builtin.zeroCells #[.int k 0] xs.length).toList = xs.map (Value.int k) := by
      rw [zeroCells_int, ← hrep]
    by_cases hxs : xs.length = 0
    · have : xs = [] := List.length_eq_zero_iff.1 hxs
      subst this
      simp [Builtin.append_, run_underlying' ht, run_underlying' hu, sizeOf, typeInfo, asInt, asIntOf, hi, hs, hnn, storeCells] at hroom ⊢
      simp [hroom]
      rfl
    · simp [Builtin.append_, run_underlying' ht, run_underlying' hu, sizeOf, typeInfo, zeroValue, asInt, asIntOf, Value.cells, hi, hz, hs, hnn, h0, h48, hxs, hroom, hcells, hst]
theorem run_append_nil' {P : Program} {w : World} {t tx ty e : TypeId} {i : TypeInfo} {k : IntKind} {x : Value} {a0 : Option Addr} (ht : P.underlying t = some (.slice e)) (hi : P.info? e = some i) (hs : i.size = 1) 
    (hr : ApSrc P w k tx [] x) : (Builtin.append_ #[t, tx] ty #[.slice a0 0 0, x]).run P w = .ok (.slice a0 0 0) w := by
  rcases hr with ⟨hx, hr⟩ | ⟨k1, k2, n, hu, rfl, hnn, hrep⟩
  · obtain ⟨_, r1, r2⟩ := hr
    have r2 := r2 w (fun _ => rfl) 0 (Nat.le_refl _)
    simp only [List.length_nil] at r1
    unfold notInt at hx
    split at hx
    · rename_i e' hu
      cases a0 <;> simp [Builtin.append_, run_underlying' ht, run_underlying' hu, sizeOf, typeInfo, hi, hs, r1, r2, storeCells]
    · rename_i hu
      cases a0 <;> simp [Builtin.append_, run_underlying' ht, run_underlying' hu, sizeOf, typeInfo, hi, hs, r1, r2, storeCells]
    · cases hx
  · simp only [List.length_nil] at hnn
    cases a0 <;> simp [Builtin.append_, run_underlying' ht, run_underlying' hu, sizeOf, typeInfo, asInt, asIntOf, hi, hs, hnn, storeCells]
theorem run_append_grow' {P : Program} {w : World} {t tx ty e : TypeId} {i : TypeInfo} {k : IntKind} {xs olds : List Int} {x : Value} (ht : P.underlying t = some (.slice e)) (hi : P.info? e = some i) (hs : i.size = 1) (hz : i.zero = some (.int k 0))
    (hr : ApSrc P w k tx xs x) {base : Option Addr} {sCap : Nat} (hg : sCap < olds.length + xs.length) (hb : (olds.length + xs.length) * i.bytes ≤ 140737488355328) (h63 : olds.length + xs.length ≤ 140737488355328)
    (ho : ∀ w', (∀ a : Addr, w'.cell? a = w.cell? a) → (Builtin.firstCells 1 olds.length (.slice base olds.length sCap)).run P w' = .ok (olds.map (Value.int k)).toArray w') :
    (Builtin.append_ #[t, tx] ty #[.slice base olds.length sCap, x]).run P w = .ok (.slice (some ⟨w.heap.size, 0, none⟩) (olds.length + xs.length) (grownCap w (olds.length + xs.length) sCap e))
      (w.drew.alloc (.cells ((olds.map (Value.int k)).toArray ++ (xs.map (Value.int k)).toArray ++ Builtin.zeroCells #[.int k 0] (grownCap w (olds.length + xs.length) sCap e - (olds.length + xs.length))) e)) := by
  have ho := ho w.drew (fun _ => rfl)
  have hn : ¬ (olds.length + xs.length ≤ sCap) := by omega
  have h63' : ¬ (9223372036854775807 < ((olds.length : Int) + (xs.length : Int))) := by omega
  have h48' : ¬ (281474976710656 < Builtin.nextslicecap (olds.length + xs.length) sCap * i.bytes) := by have := growslice_fits hg hb; omega
  rcases hr with ⟨hx, _, r1, r2⟩ | ⟨k1, k2, n, hu, rfl, hnn, hrep⟩
  · have r2 := r2 w.drew (fun _ => rfl) xs.length (Nat.le_refl _)
    rw [List.take_length] at r2
    unfold notInt at hx
    split at hx
    · rename_i e' hu
      simp [Builtin.append_, run_underlying' ht, run_underlying' hu, sizeOf, typeInfo, zeroValue, hi, hz, hs, r1, r2, ho, hn, h63', h48', Question.forced, newRow, grownCap, Value.cells]
      congr 2
      apply Array.ext'
      simp
    · rename_i hu
      simp [Builtin.append_, run_underlying' ht, run_underlying' hu, sizeOf, typeInfo, zeroValue, hi, hz, hs, r1, r2, ho, hn, h63', h48', Question.forced, newRow, grownCap, Value.cells]
      congr 2
      apply Array.ext'
      simp
    · cases hx
  · have h0 : ¬ ((xs.length : Int) < 0) := by omega
    have h48 : ¬ (281474976710656 < (xs.length : Int) * (i.bytes : Int)) := by
      have : ((xs.length * i.bytes : Nat) : Int) = (xs.length : Int) * (i.bytes : Int) := Int.natCast_mul _ _
      have : xs.length * i.bytes ≤ (olds.length + xs.length) * i.bytes := Nat.mul_le_mul_right _ (by omega)
      omega
    have hcells : Builtin.zeroCells #[.int k 0] xs.length = (xs.map (Value.int k)).toArray := by
      rw [zeroCells_int, ← hrep]
    by_cases hxs : xs.length = 0
    · have : xs = [] := List.length_eq_zero_iff.1 hxs
      subst this
      have g1 : ¬ (olds.length ≤ sCap) := by simpa using hn
      have g2 : ¬ (9223372036854775807 < (olds.length : Int)) := by simpa using h63'
      have g3 : ¬ (281474976710656 < Builtin.nextslicecap olds.length sCap * i.bytes) := by simpa using h48'
      simp [Builtin.append_, run_underlying' ht, run_underlying' hu, sizeOf, typeInfo, zeroValue, asInt, asIntOf, hi, hz, hs, hnn, ho, g1, g2, g3, Question.forced, newRow, grownCap, Value.cells]
    · simp [Builtin.append_, run_underlying' ht, run_underlying' hu, sizeOf, typeInfo, zeroValue, asInt, asIntOf, hi, hz, hs, hnn, h0, h48, hxs, hcells, ho, hn, h63', h48', Question.forced, newRow, grownCap, Value.cells]
      congr 2
      apply Array.ext'
      simp
theorem getElem?_set_set {α : Type} {l : List α} {i j x : Nat} {a b c : α} (hij : i ≠ j) (h : ((l.set i a).set j b)[x]? = some c) : (x = j ∧ b = c) ∨ (x = i ∧ a = c) ∨ (x ≠ i ∧ x ≠ j ∧ l[x]? = some c) := by
  rcases getElem?_set_cases h with ⟨rfl, rfl, _⟩ | ⟨hne, h1⟩
  · exact .inl ⟨rfl, rfl⟩
  · rcases getElem?_set_cases h1 with ⟨rfl, rfl, _⟩ | ⟨hne2, h2⟩
    · exact .inr (.inl ⟨rfl, rfl⟩)
    · exact .inr (.inr ⟨Ne.symm hne2, Ne.symm hne, h2⟩)
theorem Inv.moveRow {X : Fx} {h : List Blk} {L : List Loc} {w : World} (I : Inv X h L w) {id nid off : Nat} {k : IntKind} {l old xs : List Int} {p : Loc} (hb : h[id]? = some (.row k false l)) (hp : L[id]? = some p) (hn : h[nid]? = some .rsv)
    (hold : ∀ i (hi : i < old.length), ∃ hm : off + i < l.length, old[i] = l[off + i]) (hroom : old.length + xs.length ≤ p.cap - off) (hxs : NN k xs) (hon : NN k old) :
    Inv X ((h.set id .dead).set nid (.row k false (old ++ xs))) (L.set nid ⟨p.b, p.o + off, p.cap - off⟩) (w.setCells p.b (p.o + off + old.length) (xs.map (Value.int k))) ∧
      Cx.Le (cx X h L w) (cx X ((h.set id .dead).set nid (.row k false (old ++ xs))) (L.set nid ⟨p.b, p.o + off, p.cap - off⟩) (w.setCells p.b (p.o + off + old.length) (xs.map (Value.int k)))) ∧
      (∀ j, j < xs.length → (w.cell? ⟨p.b, p.o + off + old.length + j, none⟩).isSome = true) ∧ (∀ j, j < xs.length → w.frozen? ⟨p.b, p.o + off + old.length + j, none⟩ = false) := by
  have hne : id ≠ nid := by rintro rfl; rw [hb] at hn; simp at hn
  obtain ⟨g1, g2, g3⟩ := I.blk id _ p hb hp
  obtain ⟨q1, q2, q3⟩ := g3 rfl
  have hsome : ∀ j, j < xs.length → (w.cell? ⟨p.b, p.o + off + old.length + j, none⟩).isSome = true := fun j hj => by
    obtain ⟨⟨x, hx⟩, _⟩ := q3 (off + old.length + j) (by omega)
    have hx : w.cell? _ = _ := hx
    rw [show p.o + off + old.length + j = p.o + (off + old.length + j) by omega, hx]; rfl
  have hfr : ∀ j, j < xs.length → w.frozen? ⟨p.b, p.o + off + old.length + j, none⟩ = false := fun j hj => by
    have := (q3 (off + old.length + j) (by omega)).2
    have hx : w.frozen? _ = _ := this
    rw [show p.o + off + old.length + j = p.o + (off + old.length + j) by omega, hx]
  have hSid : (h.map Blk.sh)[id]? = some (.row k false l.length) := by rw [List.getElem?_map, hb]; rfl
  have hSmap : ((h.set id .dead).set nid (.row k false (old ++ xs))).map Blk.sh = ((h.map Blk.sh).set id .dead).set nid (.row k false (old ++ xs).length) := by
    rw [map_set_sh, map_set_sh]; rfl
  have hsub : ∀ b o, BSh.owns (.row k false (old ++ xs).length) ⟨p.b, p.o + off, p.cap - off⟩ b o → BSh.owns (.row k false l.length) p b o := by
    rintro b o ⟨_, h1, h2, h3⟩
    exact ⟨rfl, h1, by simp at h2 ⊢; omega, by simp at h2 h3 ⊢; omega⟩
  obtain ⟨I', hle⟩ := I.upd (h' := (h.set id .dead).set nid (.row k false (old ++ xs))) (L' := L.set nid ⟨p.b, p.o + off, p.cap - off⟩) (w' := w.setCells p.b (p.o + off + old.length) (xs.map (Value.int k)))
    (fun b o => BSh.owns (.row k false l.length) p b o) (by simp [I.len]) (Step.setCells _ _ _ _ fun j hj => ⟨rfl, rfl, by omega, by simp at hj; omega⟩) (fun b o q => ⟨id, _, p, hSid, hp, q⟩)
    (by
      intro i s hs hr
      rw [hSmap]
      have hin : nid ≠ i := by rintro rfl; rw [List.getElem?_map, hn] at hs; simp at hs; exact hr hs.symm
      by_cases hid : id = i
      · subst hid
        refine .inr ?_
        rw [List.getElem?_set_ne hin, List.getElem?_set_self (by have := getElem?_lt hs; exact this)]
      · refine .inl ⟨?_, ?_⟩
        · rw [List.getElem?_set_ne hin, List.getElem?_set_ne hid]; exact hs
        · rw [List.getElem?_set_ne hin])
    (by
      rintro b o ⟨i, s, q, h1, h2, h3⟩
      rw [hSmap] at h1
      rcases getElem?_set_set hne h1 with ⟨rfl, rfl⟩ | ⟨rfl, rfl⟩ | ⟨r1, r2, r3⟩
      · rcases getElem?_set_cases h2 with ⟨_, rfl, _⟩ | ⟨hh, _⟩
        · exact .inl ⟨id, _, p, hSid, hp, hsub b o h3⟩
        · exact absurd rfl hh
      · exact h3.elim
      · rw [List.getElem?_set_ne (Ne.symm r2)] at h2
        exact .inl ⟨i, s, q, r3, h2, h3⟩)
    (by
      intro i j s t q1' q2' b o hij hs ht hq1 hq2 ho1 ho2
      rw [hSmap] at hs ht
      have red : ∀ (i : Nat) (s : BSh) (q : Loc), (((h.map Blk.sh).set id .dead).set nid (.row k false (old ++ xs).length))[i]? = some s → (L.set nid ⟨p.b, p.o + off, p.cap - off⟩)[i]? = some q → s.owns q b o →
          (i = nid ∧ BSh.owns (.row k false l.length) p b o) ∨ (i ≠ nid ∧ i ≠ id ∧ (h.map Blk.sh)[i]? = some s ∧ L[i]? = some q) := by
        intro i s q h1 h2 h3
        rcases getElem?_set_set hne h1 with ⟨rfl, rfl⟩ | ⟨rfl, rfl⟩ | ⟨r1, r2, r3⟩
        · rcases getElem?_set_cases h2 with ⟨_, rfl, _⟩ | ⟨hh, _⟩
          · exact .inl ⟨rfl, hsub b o h3⟩
          · exact absurd rfl hh
        · exact h3.elim
        · rw [List.getElem?_set_ne (Ne.symm r2)] at h2
          exact .inr ⟨r2, r1, r3, h2⟩
      rcases red i s q1' hs hq1 ho1 with ⟨rfl, a1⟩ | ⟨a1, a2, a3, a4⟩
      · rcases red j t q2' ht hq2 ho2 with ⟨rfl, b1⟩ | ⟨b1, b2, b3, b4⟩
        · exact hij rfl
        · exact I.dis id j _ t p q2' b o (Ne.symm b2) hSid b3 hp b4 a1 ho2
      · rcases red j t q2' ht hq2 ho2 with ⟨rfl, b1⟩ | ⟨b1, b2, b3, b4⟩
        · exact I.dis i id s _ q1' p b o a2 a3 hSid a4 hp ho1 b1
        · exact I.dis i j s t q1' q2' b o hij a3 b3 a4 b4 ho1 ho2)
    (by
      intro hle i b q hb' hq'
      rcases getElem?_set_set hne hb' with ⟨rfl, rfl⟩ | ⟨rfl, rfl⟩ | ⟨r1, r2, r3⟩
      · rcases getElem?_set_cases hq' with ⟨_, rfl, _⟩ | ⟨hh, _⟩
        · refine .inr ⟨fun hk y hy => ?_, by simp, fun _ => ⟨by simp; omega, fun j hj => ?_, fun j hj => ⟨?_, ?_⟩⟩⟩
          · rcases List.mem_append.1 hy with hy | hy
            · exact hon hk _ hy
            · exact hxs hk _ hy
          · show (w.setCells p.b (p.o + off + old.length) (xs.map (Value.int k))).cell? _ = _
            by_cases hjo : j < old.length
            · obtain ⟨hm, he⟩ := hold j hjo
              rw [World.cell?_setCells_out _ _ _ _ _ (fun _ _ => .inl (by simp; omega))]
              have : w.cell? _ = _ := q2 (off + j) hm
              rw [show p.o + off + j = p.o + (off + j) by omega, this]
              simp [hjo, he]
            · have hj' : j - old.length < xs.length := by simp at hj; omega
              have := World.cell?_setCells_in p.b (xs.map (Value.int k)) (p.o + off + old.length) w (by simpa using hsome) (j - old.length) (by simpa using hj')
              rw [show p.o + off + old.length + (j - old.length) = p.o + off + j by omega] at this
              rw [this]
              simp [List.getElem_append, hjo]
          · simp only at hj
            by_cases hin : old.length ≤ j ∧ j < old.length + xs.length
            · have := World.cell?_setCells_in p.b (xs.map (Value.int k)) (p.o + off + old.length) w (by simpa using hsome) (j - old.length) (by simp; omega)
              rw [show p.o + off + old.length + (j - old.length) = p.o + off + j by omega] at this
              exact ⟨_, this⟩
            · obtain ⟨⟨x, hx⟩, _⟩ := q3 (off + j) (by omega)
              refine ⟨x, ?_⟩
              show (w.setCells p.b (p.o + off + old.length) (xs.map (Value.int k))).cell? _ = _
              rw [World.cell?_setCells_out _ _ _ _ _ (fun _ _ => by simp; omega)]
              have hx : w.cell? _ = _ := hx
              rw [show p.o + off + j = p.o + (off + j) by omega, hx]
          · show (w.setCells p.b (p.o + off + old.length) (xs.map (Value.int k))).frozen? _ = _
            rw [World.frozen?_setCells]
            have hx : w.frozen? _ = _ := (q3 (off + j) (by simp only at hj; omega)).2
            rw [show p.o + off + j = p.o + (off + j) by omega, hx]
        · exact absurd rfl hh
      · exact .inr trivial
      · rw [List.getElem?_set_ne (Ne.symm r2)] at hq'
        refine .inl ⟨r3, hq', fun x y h1 h2 => ?_⟩
        exact I.dis i id b.sh _ q p x y r1 (by rw [List.getElem?_map, r3]; rfl) hSid hq' hp h1 h2)
  exact ⟨I', hle, hsome, hfr⟩
theorem own_mk {X : Fx} {h : List Blk} {L : List Loc} {w : World} {nid : Nat} {k : IntKind} {l : List Int} {p : Loc} {q : Addr} {n cap : Nat} (hb : h[nid]? = some (.row k false l)) (hp : L[nid]? = some p)
    (hn : n = l.length) (hc : cap = p.cap) (hq : q.block = p.b ∧ q.spot = none) (hq2 : 0 < p.cap → q = ⟨p.b, p.o, none⟩) : Val (cx X h L w) (.own nid [] 0 none) (.slice (some q) n cap) := by
  rw [Val_leaf rfl (by simp) (by simp)]
  simp only [leaf, cx_S hb, Blk.sh]
  have hL' : (cx X h L w).L[nid]? = some p := hp
  rw [hL']
  refine ⟨by trivial, by simp [olen], ?_⟩
  simp only [Bool.false_eq_true, if_false]
  exact ⟨q, by simp [olen, hn, hc], hq, fun hh => by rw [hq2 hh]; simp⟩
theorem NN.append {k : IntKind} {l m : List Int} (h1 : NN k l) (h2 : NN k m) : NN k (l ++ m) := fun hk x hx => (List.mem_append.1 hx).elim (h1 hk x) (h2 hk x)
theorem grown_arr {k : IntKind} {olds xs : List Int} {g : Nat} (hg : olds.length + xs.length ≤ g) :
    (∀ i (hi : i < (olds ++ xs).length), ((olds.map (Value.int k)).toArray ++ (xs.map (Value.int k)).toArray ++ Builtin.zeroCells #[.int k 0] (g - (olds.length + xs.length)))[i]? = some (.int k (olds ++ xs)[i])) ∧
      ((olds.map (Value.int k)).toArray ++ (xs.map (Value.int k)).toArray ++ Builtin.zeroCells #[.int k 0] (g - (olds.length + xs.length))).size = g := by
  constructor
  · intro i hi
    rw [Array.getElem?_append_left (by simp at hi ⊢; omega)]
    simp only [List.append_toArray, List.getElem?_toArray]
    rw [← List.map_append, List.getElem?_map, List.getElem?_eq_getElem hi]
    rfl
  · simp [Builtin.zeroCells]; omega
theorem append_any {X : Fx} {h : List Blk} {L : List Loc} {w : World} (I : Inv X h L w) {t tx ty e : TypeId} {i : TypeInfo} {k : IntKind} {xs old : List Int} {x : Value} (ht : X.G.P.underlying t = some (.slice e)) (hi : X.G.P.info? e = some i)
    (hs : i.size = 1) (hz : i.zero = some (.int k 0)) (hr : ApSrc X.G.P w k tx xs x) {nid : Nat} (hn : h[nid]? = some .rsv)
    {base : Option Addr} {sCap : Nat} (hg : sCap < old.length + xs.length) (hb : (old.length + xs.length) * i.bytes ≤ 140737488355328) (h63 : old.length + xs.length ≤ 140737488355328) (hon : NN k old)
    (ho : ∀ w', (∀ a : Addr, w'.cell? a = w.cell? a) → (Builtin.firstCells 1 old.length (.slice base old.length sCap)).run X.G.P w' = .ok (old.map (Value.int k)).toArray w') :
    ∃ cv L' w', (Builtin.append_ #[t, tx] ty #[.slice base old.length sCap, x]).run X.G.P w = .ok cv w' ∧ Inv X (h.set nid (.row k false (old ++ xs))) L' w' ∧ Cx.Le (cx X h L w) (cx X (h.set nid (.row k false (old ++ xs))) L' w') ∧
      Val (cx X (h.set nid (.row k false (old ++ xs))) L' w') (.own nid [] 0 none) cv := by
  have hrun := run_append_grow' (ty := ty) ht hi hs hz hr hg hb h63 ho
  have hge := grownCap_ge w (old.length + xs.length) sCap e
  obtain ⟨a1, a2⟩ := grown_arr (k := k) hge
  obtain ⟨L', I', hle, hval⟩ := I.newRow hn (hon.append hr.nn) e a1 (by rw [a2]; simp; omega) (grownCap w (old.length + xs.length) sCap e) (by simp; omega) (by rw [a2]; exact Nat.le_refl _) w.drew (.inr rfl)
  exact ⟨_, L', _, hrun, I', hle, by simpa using hval⟩
theorem appendE_ok {G : Gi} {R : Type} {κ : Kop R} {r : R} {o : Oper} {c : Call} {d s : Operand} {t : List AV} {look : Nat → Blk} {nid : Nat} (ho : o.op = .call c) (hc : c.callee = .builtin .append) (ha : c.args.toList = [d, s])
    (hat : ∀ tx, argT c 1 = tx → c.argTypes[0]? = some (argT c 0) ∧ c.argTypes[1]? = some (argT c 1) ∧ c.argTypes = #[argT c 0, argT c 1])
    (h0 : appendE G look nid κ (argT c 0) (argT c 1) (evO t d) (evO t s) = some r) : ∃ v us, κ v us = some r ∧ OpOk G o t look nid v us := by
  unfold appendE at h0
  split at h0
  · rename_i e hu
    split at h0
    · rename_i k i hk hi
      obtain ⟨hcc, h0⟩ := cond_none h0
      simp only [Bool.and_eq_true] at hcc
      obtain ⟨c1, c2⟩ := hcc
      have c1 := Nat.eq_of_beq_eq_true c1
      have c2 := intZero_ok c2
      obtain ⟨_, _, hargs⟩ := hat _ rfl
      have hca : c.args = #[d, s] := by
        have : c.args.toList = (#[d, s] : Array Operand).toList := ha
        exact Array.toList_inj.1 this
      have hxs0 : ∃ xs, appendX look nid κ k i xs (evO t d) = some r ∧ ∀ (X : Fx) h L w x, X.G = G → Inv X h L w → lookOk look h → Val (cx X h L w) (evO t s) x → ApSrc X.G.P w k (argT c 1) xs x := by
        split at h0
        · rename_i k1 k2 n hu1 hsv
          obtain ⟨c4, h0⟩ := cond_none h0
          have c4 := of_decide_eq_true c4
          refine ⟨_, h0, fun X h L w x hG _ _ hv => .inr ?_⟩
          rw [hsv] at hv
          obtain ⟨rfl, _⟩ := hv
          exact ⟨k1, k2, n, by rw [hG]; exact hu1, rfl, by rw [List.length_replicate]; omega, by rw [List.length_replicate]⟩
        · obtain ⟨c3, h0⟩ := cond_none h0
          split at h0
          · rename_i xs hsrc
            exact ⟨xs, h0, fun X h L w x hG I hl hv => .inl ⟨by rw [hG]; exact c3, srcE_run hsrc X h L w x I hl hv⟩⟩
          · cases h0
      clear h0
      obtain ⟨xs, h0, hsrc⟩ := hxs0
      · unfold appendX at h0
        have run : ∀ (a : Act) (w : World) (cv : Value) (w' : World), (Builtin.append_ #[argT c 0, argT c 1] o.type #[a.eval d, a.eval s]).run G.P w = .ok cv w' → (execOp a.eval o).run G.P w = .ok (.value cv) w' := by
          intro a w cv w' hrun
          simp only [execOp, ho, resolve, hc, hca, hargs, Sem.run_bind, Sem.run_pure, Result.andThen_ok, invoke, builtin]
          simp [hrun]
        have hops : ∀ (x : Operand), x = d ∨ x = s → x ∈ o.op.operands.toList := by
          intro x hx
          simp only [ho, Op.operands, Call.operands, hc, hca]
          simpa using hx
        split at h0
        · rename_i had
          obtain ⟨b1, h1⟩ := cond_none h0
          obtain ⟨b2, h2⟩ := cond_none h1
          have b1 := of_decide_eq_true b1
          have b2 := of_decide_eq_true b2
          refine ⟨_, _, h2, fun X hXG => ?_⟩
          subst hXG
          refine fun h L a w next Q I hvv hl hr hk' => .inl ?_
          have hn := hr 0 (by simp [resv, ho, hc])
          simp only [Nat.add_zero] at hn
          have e1 := hvv d (hops d (.inl rfl))
          have e2 := hvv s (hops s (.inr rfl))
          rw [had] at e1
          obtain ⟨a0, e1⟩ := e1
          have hsr := hsrc X h L w _ rfl I hl e2
          unfold Oper.wp
          cases xs with
          | nil =>
            rw [run a w _ w (by rw [e1]; exact run_append_nil' hu hi c1 hsr)]
            obtain ⟨I', hle⟩ := I.nilRow hn k
            have hlt := getElem?_lt hn
            obtain ⟨p, hp⟩ := I.loc hn
            exact hk' _ L w (by simpa [applyU] using I') (by simpa [applyU] using hle) (by
              simp only [applyU, List.isEmpty_nil]
              exact own_nil (List.getElem?_set_self hlt) hp)
          | cons x xs =>
            obtain ⟨cv, L', w', g1, g2, g3, g4⟩ := append_any (ty := o.type) (old := []) (base := a0) (sCap := 0) I hu hi c1 c2 hsr hn (by simp) (by simpa using b1) (by simpa using b2) (by simp [NN]) (fun w' _ => by cases a0 <;> simp [Builtin.firstCells, loadCells, loadCellsFrom])
            rw [run a w cv w' (by rw [e1]; exact g1)]
            exact hk' cv L' w' (by simpa [applyU] using g2) (by simpa [applyU] using g3) (by simpa [applyU] using g4)
        · rename_i had
          obtain ⟨b1, h1⟩ := cond_none h0
          obtain ⟨b2, h2⟩ := cond_none h1
          have b1 := of_decide_eq_true b1
          have b2 := of_decide_eq_true b2
          refine ⟨_, _, h2, fun X hXG => ?_⟩
          subst hXG
          refine fun h L a w next Q I hvv hl hr hk' => .inl ?_
          have hn := hr 0 (by simp [resv, ho, hc])
          simp only [Nat.add_zero] at hn
          have e1 := hvv d (hops d (.inl rfl))
          have e2 := hvv s (hops s (.inr rfl))
          rw [had] at e1
          have e1 : a.eval d = .slice none 0 0 := e1
          have hsr := hsrc X h L w _ rfl I hl e2
          unfold Oper.wp
          cases xs with
          | nil =>
            rw [run a w _ w (by rw [e1]; exact run_append_nil' hu hi c1 hsr)]
            obtain ⟨I', hle⟩ := I.nilRow hn k
            have hlt := getElem?_lt hn
            obtain ⟨p, hp⟩ := I.loc hn
            exact hk' _ L w (by simpa [applyU] using I') (by simpa [applyU] using hle) (by
              simp only [applyU, List.isEmpty_nil]
              exact own_nil (List.getElem?_set_self hlt) hp)
          | cons x xs =>
            obtain ⟨cv, L', w', g1, g2, g3, g4⟩ := append_any (ty := o.type) (old := []) (base := none) (sCap := 0) I hu hi c1 c2 hsr hn (by simp) (by simpa using b1) (by simpa using b2) (by simp [NN]) (fun w' _ => by simp [Builtin.firstCells])
            rw [run a w cv w' (by rw [e1]; exact g1)]
            exact hk' cv L' w' (by simpa [applyU] using g2) (by simpa [applyU] using g3) (by simpa [applyU] using g4)
        · rename_i id path off len had
          split at h0
          · rename_i k' nl l hb
            obtain ⟨hkk, h1⟩ := cond_none h0
            clear h0
            have hkk := of_decide_eq_true hkk
            subst hkk
            simp only at h1
            obtain ⟨b1, h2⟩ := cond_none h1
            obtain ⟨b2, h3⟩ := cond_none h2
            have b1 := of_decide_eq_true b1
            have b2 := of_decide_eq_true b2
            refine ⟨_, _, h3, fun X hXG => ?_⟩
            subst hXG
            refine fun h L a w next Q I hvv hl hr hk' => .inl ?_
            have hn := hr 0 (by simp [resv, ho, hc])
            simp only [Nat.add_zero] at hn
            have e1 := hvv d (hops d (.inl rfl))
            have e2 := hvv s (hops s (.inr rfl))
            rw [had] at e1
            have hsr := hsrc X h L w _ rfl I hl e2
            have hcont : cont look k (.own id [] off len) = some (cut len off l) := by simp [cont, hb]
            have hC := cont_run hcont X h L w _ I hl e1
            have hb' := lookOk.get hl hb (by simp)
            have hne : id ≠ nid := by rintro rfl; rw [hb'] at hn; simp at hn
            obtain ⟨p, hp, g1, g2, g3⟩ := own_row I hb' e1
            have hold : ∀ i (hi : i < (cut len off l).length), ∃ hm : off + i < l.length, (cut len off l)[i] = l[off + i] := by
              cases len with
              | none => intro i hi; simp [cut] at hi; exact ⟨by omega, by simp [cut]⟩
              | some n => intro i hi; simp [cut] at hi; exact ⟨by omega, by simp [cut]⟩
            have holen : (cut len off l).length = olen len l.length off := by
              cases len with
              | none => simp [olen, cut]
              | some n => simp [olen, cut] at g1 ⊢; omega
            generalize hold' : (cut len off l) = old at *
            obtain ⟨hon, ca, ccap, cx1, cx2, cx3, cx4⟩ := hC
            have hfc : ∀ w', (∀ a : Addr, w'.cell? a = w.cell? a) → (Builtin.firstCells 1 old.length (.slice ca old.length ccap)).run X.G.P w' = .ok (old.map (Value.int k)).toArray w' := by
              intro w' hw
              cases ca with
              | none => have := cx3 rfl; subst this; simp [Builtin.firstCells]
              | some q =>
                have := run_loadCells_ints (w := w') (P := X.G.P) (k := k) (l := old) (p := q) (fun i hi => ⟨(cx4 q rfl i hi).1, by rw [hw]; exact (cx4 q rfl i hi).2⟩)
                simp only [Builtin.firstCells, Nat.mul_one, this]
            unfold Oper.wp
            have hkill := I.kill id
            have hn' : (h.set id .dead)[nid]? = some .rsv := by rw [List.getElem?_set_ne hne]; exact hn
            by_cases hroom : old.length + xs.length ≤ ccap
            · cases nl with
              | true =>
                obtain ⟨⟨a0, q1⟩, q2⟩ := g2 rfl
                rw [q1] at cx1
                simp only [Value.slice.injEq] at cx1
                obtain ⟨rfl, _, rfl⟩ := cx1
                have hxs : xs = [] := List.length_eq_zero_iff.1 (by omega)
                have hol : old = [] := List.length_eq_zero_iff.1 (by omega)
                subst hxs; subst hol
                rw [run a w _ w (by rw [q1]; exact run_append_nil' hu hi c1 hsr)]
                obtain ⟨I', hle⟩ := hkill.1.nilRow hn' k
                have hlt := getElem?_lt hn'
                obtain ⟨p', hp'⟩ := I.loc hn
                exact hk' _ L w (by simpa [applyU] using I') (by simpa [applyU] using hkill.2.trans hle) (by
                  simp only [applyU, List.isEmpty_nil, Bool.true_and, List.append_nil]
                  exact own_nil (List.getElem?_set_self hlt) hp')
              | false =>
                obtain ⟨q, q1, q2, q3⟩ := g3 rfl
                rw [q1] at cx1
                simp only [Value.slice.injEq] at cx1
                obtain ⟨rfl, hle1, rfl⟩ := cx1
                obtain ⟨I', hle, hsome, hfr⟩ := I.moveRow (xs := xs) hb' hp hn hold hroom hsr.nn hon
                have hqq : xs ≠ [] → q = ⟨p.b, p.o + off, none⟩ := fun hxs => q3 (by have := List.length_pos_iff.2 hxs; omega)
                have hrun := run_append_room' (ty := o.type) (q := q) (sLen := old.length) (sCap := p.cap - off) hu hi c1 c2 hsr (by have := Nat.mul_le_mul_right i.bytes (show xs.length ≤ old.length + xs.length by omega); omega) hroom (fun hxs => by
                  rw [hqq hxs]
                  exact ⟨rfl, hsome, hfr⟩)
                have hw' : w.setCells q.block (q.off + old.length) (xs.map (Value.int k)) = w.setCells p.b (p.o + off + old.length) (xs.map (Value.int k)) := by
                  by_cases hxs : xs = []
                  · subst hxs; rfl
                  · rw [hqq hxs]
                rw [run a w _ _ (by rw [q1, hle1]; exact hrun), hw']
                have hlt := getElem?_lt hn'
                have hlt2 : nid < L.length := by rw [I.len]; exact getElem?_lt hn
                exact hk' _ _ _ (by simpa [applyU] using I') (by simpa [applyU] using hle) (by
                  simp only [applyU, Bool.and_false]
                  exact own_mk (List.getElem?_set_self hlt) (List.getElem?_set_self hlt2) (by simp) rfl q2 (fun hh => by rw [q3 (by simp only at hh; omega)]))
            · obtain ⟨cv, L', w', r1, r2, r3, r4⟩ := append_any (ty := o.type) (old := old) (base := ca) (sCap := ccap) hkill.1 hu hi c1 c2 hsr hn' (by omega) b1 b2 hon hfc
              rw [run a w cv w' (by rw [cx1]; exact r1)]
              have hnl : (xs.isEmpty && nl) = false := by
                cases nl with
                | false => exact Bool.and_false _
                | true =>
                  obtain ⟨⟨a0, q1⟩, q2⟩ := g2 rfl
                  rw [q1] at cx1
                  simp only [Value.slice.injEq] at cx1
                  cases xs with
                  | nil => simp at hroom; omega
                  | cons => rfl
              exact hk' cv L' w' (by simpa [applyU, hnl] using r2) (by simpa [applyU, hnl] using hkill.2.trans r3) (by simpa [applyU, hnl] using r4)
          · cases h0
        · cases h0
    · cases h0
  · cases h0
end Go.Ev
namespace Go.Ev
set_option linter.unusedSimpArgs false
set_option linter.unusedVariables false
theorem bytesE_ok {G : Gi} {R : Type} {κ : Kop R} {r : R} {o : Oper} {src dst : TypeId} {x : Operand} {t : List AV} {look : Nat → Blk} {nid : Nat} (ho : o.op = .convert src dst x)
    (h0 : bytesE G nid κ src dst (evO t x) = some r) : ∃ v us, κ v us = some r ∧ OpOk G o t look nid v us := by
  unfold bytesE at h0
  split at h0
  · rename_i d e l hs hd hax
    split at h0
    · rename_i he
      refine ⟨_, _, h0, fun X hXG => ?_⟩
      subst hXG
      refine fun h L a w next Q I hvv hl hr hk' => .inl ?_
      have hn := hr 0 (by simp [resv, ho])
      simp only [Nat.add_zero] at hn
      have e1 := hvv x (by simp [ho, Op.operands])
      rw [hax] at e1
      have e1 : a.eval x = .string ⟨l.toArray⟩ := e1
      have hge : l.length ≤ (Question.appendCap l.length 0 e).cut (w.tape w.drawn (Question.appendCap l.length 0 e)) := by simp [Question.cut]
      generalize hcap : (Question.appendCap l.length 0 e).cut (w.tape w.drawn (Question.appendCap l.length 0 e)) = cap at *
      have hsz : (ByteArray.mk l.toArray).size = l.length := rfl
      have hfz : ∀ (W : World) (c : Array Value), c.size = cap → (W.alloc (.cells c e)).freeze ⟨W.heap.size, cap, none⟩ 1 = W.alloc (.cells c e (cap, cap + 1)) := by
        intro W c hc
        simp only [World.freeze, World.alloc, Nat.one_ne_zero, if_false]
        congr 1
        apply Array.ext
        · simp
        · intro i h1 h2
          by_cases hi : W.heap.size = i
          · subst hi; simp [Array.getElem_modify]
          · have hlt : i < W.heap.size := by simp at h2; omega
            simp [Array.getElem_modify, Array.getElem_push, hi, hlt]
      have hrun : (Conv.stringToBytes e ⟨l.toArray⟩).run X.G.P w = .ok (.slice (some ⟨w.heap.size, 0, none⟩) l.length cap)
          (w.drew.alloc (.cells ((l.toArray.map fun (b : UInt8) => Value.int .u8 b.toNat) ++ Array.replicate (cap - l.length) (Value.int .u8 0)) e (cap, cap + 1))) := by
        have hs1 : ((l.toArray.map fun (b : UInt8) => Value.int .u8 b.toNat) ++ Array.replicate (cap - l.length) (Value.int .u8 0)).size = cap := by simp; omega
        rw [← hfz w.drew _ hs1]
        have hsh : (w.drew.alloc (.cells ((l.toArray.map fun (b : UInt8) => Value.int .u8 b.toNat) ++ Array.replicate (cap - l.length) (Value.int .u8 0)) e)).shape? w.heap.size = some (e, cap) := by
          simp only [World.shape?, World.alloc, World.size_drew, Array.getElem?_push_size]
          have : w.drew.heap = w.heap := rfl
          rw [this]
          simp
          omega
        simp only [Conv.stringToBytes, hsz, Sem.run_bind, run_choose, Question.forced, Bool.false_eq_true, if_false, hcap, Result.andThen_ok, newRow, run_newObj, World.drew_eq, World.alloc_eq, World.size_drew, Sem.run_pure, markStringish, run_shape, hsh, run_freeze]
      obtain ⟨L', I', hle, hval⟩ := I.newRowF hn (k := .u8) (l := ofStr l) (fun _ z hz => by obtain ⟨b, _, rfl⟩ := List.mem_map.1 hz; exact Int.natCast_nonneg _) e
        (cs := (l.toArray.map fun (b : UInt8) => Value.int .u8 b.toNat) ++ Array.replicate (cap - l.length) (Value.int .u8 0)) (fun i hi => by
          simp only [ofStr, List.length_map] at hi
          rw [Array.getElem?_append_left (by simpa using hi)]
          simp [ofStr, hi]) (by simp [ofStr]) cap (by simpa [ofStr] using hge) (by simp; omega) w.drew (.inr rfl) (cap, cap + 1) (fun i hi => by simp; omega) (.inr (by simp; omega))
      unfold Oper.wp
      have hex : (execOp a.eval o).run X.G.P w = .ok (.value (.slice (some ⟨w.heap.size, 0, none⟩) l.length cap))
          (w.drew.alloc (.cells ((l.toArray.map fun (b : UInt8) => Value.int .u8 b.toNat) ++ Array.replicate (cap - l.length) (Value.int .u8 0)) e (cap, cap + 1))) := by
        simp only [execOp, ho, e1, convert, Sem.run_bind, run_underlying' hs, run_underlying' hd, Result.andThen_ok, run_underlying' he, hrun, Sem.run_pure]
      rw [hex]
      have hl' : (ofStr l).length = l.length := by simp [ofStr]
      rw [hl'] at hval
      exact hk' _ L' _ (by simpa [applyU] using I') (by simpa [applyU] using hle) (by simpa [applyU] using hval)
    · cases h0
  · cases h0
theorem cell_freeze (w : World) (a : Addr) (n : Nat) (b : Addr) : (w.freeze a n).cell? b = w.cell? b := by
  by_cases hn : n = 0
  · unfold World.freeze; rw [if_pos hn]
  · unfold World.freeze World.cell?
    simp only [if_neg hn, Array.getElem?_modify]
    by_cases hab : a.block = b.block
    · simp only [if_pos hab]
      cases w.heap[b.block]? with
      | none => rfl
      | some x => cases x <;> rfl
    · simp only [if_neg hab]
theorem Inv.frz {X : Fx} {h : List Blk} {L : List Loc} {w : World} (I : Inv X h L w) {b : Nat} {c : Array Value} {e : TypeId} {f : Nat × Nat} (hb : w.heap[b]? = some (.cells c e f)) (hw : X.w0.heap.size ≤ b) :
    Inv X h L (w.freeze ⟨b, c.size, none⟩ 1) ∧ Cx.Le (cx X h L w) (cx X h L (w.freeze ⟨b, c.size, none⟩ 1)) := by
  have hcl := I.stp.cln b c e f hw hb
  have hcell : ∀ q, (w.freeze ⟨b, c.size, none⟩ 1).cell? q = w.cell? q := cell_freeze w _ 1
  obtain ⟨lo, hi⟩ := f
  have hne : ∀ j, j ≠ b → (w.freeze ⟨b, c.size, none⟩ 1).heap[j]? = w.heap[j]? := fun j hj => by
    simp only [World.freeze, Nat.one_ne_zero, if_false, Array.getElem?_modify]
    rw [if_neg (Ne.symm hj)]
  have heq : ∃ f', clean c.size f' ∧ (w.freeze ⟨b, c.size, none⟩ 1).heap[b]? = some (.cells c e f') := by
    simp only [World.freeze, Nat.one_ne_zero, if_false, Array.getElem?_modify, if_true, hb, Option.map_some]
    refine ⟨_, ?_, rfl⟩
    by_cases hl : lo = hi
    · simp only [hl, beq_self_eq_true, if_true]; exact .inr (Nat.le_refl _)
    · have : (lo == hi) = false := by simpa using hl
      rw [this]
      rcases hcl with q | q
      · exact absurd q hl
      · exact .inr (by simp only [Bool.false_eq_true, if_false]; simp only at q; omega)
  obtain ⟨f', hf', heq⟩ := heq
  have hsz : (w.freeze ⟨b, c.size, none⟩ 1).heap.size = w.heap.size := by simp [World.freeze]
  have hfz : ∀ j o x, w.cell? ⟨j, o, none⟩ = some x → w.frozen? ⟨j, o, none⟩ = false → (w.freeze ⟨b, c.size, none⟩ 1).frozen? ⟨j, o, none⟩ = false := fun j o x hx hfr => by
    by_cases hj : j = b
    · subst hj
      have ho : o < c.size := by
        unfold World.cell? at hx
        rw [hb] at hx
        simp only [Option.isSome_none, Bool.false_eq_true, if_false] at hx
        rcases Nat.lt_or_ge o c.size with q | q
        · exact q
        · simp [Array.getElem?_eq_none q] at hx
      unfold World.frozen?
      simp only [heq]
      obtain ⟨l1, l2⟩ := f'
      rcases hf' with q | q
      · simp only at q ⊢
        simp; omega
      · simp only at q ⊢
        simp; omega
    · unfold World.frozen? at hfr ⊢
      simp only [hne j hj]
      exact hfr
  have hle : Cx.Le (cx X h L w) (cx X h L (w.freeze ⟨b, c.size, none⟩ 1)) :=
    ⟨rfl, fun j o v hv hA => ⟨(hcell _).trans hv, hA⟩, fun id s hs _ => .inl ⟨hs, rfl⟩⟩
  refine ⟨⟨I.eok, I.len, fun id bk p hbk hp => ?_, I.dis, I.out, I.new, I.obd, ⟨?_, ?_, ?_, ?_, fun j hj => ?_, fun j c1 e1 f1 hj q => ?_⟩, fun g v hg => ?_, I.lone⟩, hle⟩
  · have := I.blk id bk p hbk hp
    cases bk with
    | rsv => trivial
    | dead => trivial
    | var v =>
      obtain ⟨cs, g1, g2⟩ := this
      refine ⟨cs, Cells.le hle v cs g1, fun i hi => ?_⟩
      obtain ⟨g3, g4⟩ := g2 i hi
      exact ⟨(hcell _).trans g3, hfz _ _ _ g3 g4⟩
    | row k nl l =>
      obtain ⟨g1, g2, g3⟩ := this
      refine ⟨g1, g2, fun hn => ?_⟩
      obtain ⟨g4, g5, g6⟩ := g3 hn
      refine ⟨g4, fun i hi => (hcell _).trans (g5 i hi), fun i hi => ?_⟩
      obtain ⟨⟨x, g7⟩, g8⟩ := g6 i hi
      exact ⟨⟨x, (hcell _).trans g7⟩, hfz _ _ _ g7 g8⟩
    | gro t nl l =>
      obtain ⟨g1, g2, g3⟩ := this
      refine ⟨g1, g2, fun hn => ?_⟩
      obtain ⟨g4, g5, g6⟩ := g3 hn
      refine ⟨g4, fun i hi => ?_, fun i hi => ?_⟩
      · obtain ⟨cs, r1, r2⟩ := g5 i hi
        exact ⟨cs, Fz.le hle t _ cs r1, fun j hj => (hcell _).trans (r2 j hj)⟩
      · obtain ⟨⟨x, g7⟩, g8⟩ := g6 i hi
        exact ⟨⟨x, (hcell _).trans g7⟩, hfz _ _ _ g7 g8⟩
  · exact I.stp.os
  · exact I.stp.tape
  · exact I.stp.output
  · rw [hsz]; exact I.stp.size
  · rw [hne j (by omega)]; exact I.stp.blk j hj
  · by_cases hjb : j = b
    · subst hjb
      rw [heq] at q
      simp only [Option.some.injEq, Obj.cells.injEq] at q
      obtain ⟨rfl, rfl, rfl⟩ := q
      exact hf'
    · rw [hne j hjb] at q; exact I.stp.cln j c1 e1 f1 hj q
  · obtain ⟨cs, g1, g2⟩ := I.glb g v hg
    exact ⟨cs, Cells.le hle v cs g1, fun i hi => ⟨(hcell _).trans (g2 i hi).1, (g2 i hi).2⟩⟩
theorem sameE_ok {G : Gi} {R : Type} {κ : Kop R} {r : R} {o : Oper} {src dst : TypeId} {x : Operand} {t : List AV} {look : Nat → Blk} {nid : Nat} (ho : o.op = .convert src dst x)
    (h0 : sameE G look κ src dst (evO t x) = some r) : ∃ v us, κ v us = some r ∧ OpOk G o t look nid v us := by
  unfold sameE at h0
  split at h0
  · rename_i e id hd hax
    split at h0
    · rename_i he
      split at h0
      · rename_i k l hlk
        obtain ⟨hc, h1⟩ := cond_none h0
        simp only [Bool.and_eq_true, Bool.not_eq_true'] at hc
        obtain ⟨hlone, hsd, hne⟩ := hc
        have hsd := Nat.eq_of_beq_eq_true hsd
        subst hsd
        refine ⟨_, _, h1, fun X hXG => ?_⟩
        subst hXG
        refine fun h L a w next Q I hvv hl hr hk' => .inl ?_
        have hbk := lookOk.get hl hlk (by simp)
        obtain ⟨p, hp⟩ := I.loc hbk
        obtain ⟨_, _, g3⟩ := I.blk id _ p hbk hp
        obtain ⟨g4, g5, g6⟩ := g3 rfl
        have hpos : 0 < p.cap := by
          cases l with
          | nil => cases hne
          | cons _ _ => simp only [List.length_cons] at g4; omega
        obtain ⟨⟨x0, hx0⟩, _⟩ := g6 0 hpos
        have hx0 : w.cell? ⟨p.b, p.o + 0, none⟩ = some x0 := hx0
        have hnew : X.w0.heap.size ≤ p.b := by
          rcases I.new p.b (p.o + 0) ⟨id, .row k false l.length, p, by rw [List.getElem?_map, hbk]; rfl, hp, rfl, rfl, by omega, by omega⟩ with q | q
          · exact q
          · exact absurd q (I.lone hlone _ _)
        have hval := hvv x (by simp [ho, Op.operands])
        rw [hax] at hval
        have hval0 := hval
        rw [Val_leaf rfl (by simp) (by simp)] at hval
        have hL : (cx X h L w).L[id]? = some p := hp
        simp only [leaf, cx_S hbk, Blk.sh, hL, Bool.false_eq_true, if_false] at hval
        obtain ⟨_, _, q, e1, ⟨e2, e3⟩, _⟩ := hval
        have hcells : ∃ c e1 f, w.heap[p.b]? = some (.cells c e1 f) := by
          unfold World.cell? at hx0
          split at hx0
          · rename_i c e1 f hh; exact ⟨c, e1, f, hh⟩
          · cases hx0
        obtain ⟨c, e1', f, hh⟩ := hcells
        obtain ⟨I', hle⟩ := I.frz hh hnew
        unfold Oper.wp
        have hsh : w.shape? p.b = some (e1', c.size) := by unfold World.shape?; rw [hh]
        have hex : (execOp a.eval o).run X.G.P w = .ok (.value (a.eval x)) (w.freeze ⟨p.b, c.size, none⟩ 1) := by
          simp only [execOp, ho, e1, convert, Sem.run_bind, run_underlying' hd, Result.andThen_ok, run_underlying' he, Sem.run_pure, beq_self_eq_true, markStringish, run_shape, hsh, run_freeze, e2]
        rw [hex]
        exact hk' _ L _ (by simpa [applyU] using I') (by simpa [applyU] using hle) (by simpa [applyU] using Val.le hle _ _ hval0)
      · cases h0
    · cases h0
  · cases h0
end Go.Ev
namespace Go.Ev
set_option linter.unusedSimpArgs false
set_option linter.unusedVariables false
theorem foldl_splice : ∀ (vs : List Value) (k off : Nat) (pre old post : List Value), pre.length = off + k → old.length = vs.length →
    (vs.zipIdx k).foldl (fun (cs : Array Value) (p : Value × Nat) => cs.setIfInBounds (off + p.2) p.1) (pre ++ old ++ post).toArray = (pre ++ vs ++ post).toArray
  | [], k, off, pre, old, post, h1, h2 => by
    have : old = [] := List.length_eq_zero_iff.1 h2
    subst this; rfl
  | v :: vs, k, off, pre, [], post, h1, h2 => by simp at h2
  | v :: vs, k, off, pre, o :: old, post, h1, h2 => by
    simp only [List.zipIdx_cons, List.foldl_cons]
    have : (pre ++ o :: old ++ post).toArray.setIfInBounds (off + k) v = ((pre ++ [v]) ++ old ++ post).toArray := by
      rw [List.setIfInBounds_toArray]
      congr 1
      rw [← h1]
      simp
    rw [this, foldl_splice vs (k + 1) off (pre ++ [v]) old post (by simp; omega) (by simpa using h2)]
    simp
theorem fillE_ok {c : Cx} (he : EOk c) {place : Nat → Option (Nat × Nat)} {vals : Operand → Value} : ∀ (ps : List (Nat × Operand)) (t : List AV) (z v : AV) (cs : List Value),
    fillE place (ps.map fun p => (p.1, evO t p.2)) z = some v → Cells c z cs → (∀ p ∈ ps, Val c (evO t p.2) (vals p.2)) →
    ∃ cs', Instr.fill place cs.toArray (ps.map fun p => (p.1, vals p.2)) = some cs'.toArray ∧ Cells c v cs'
  | [], t, z, v, cs, h, hc, _ => by
    simp only [List.map_nil, fillE, Option.some.injEq] at h
    subst h
    exact ⟨cs, rfl, hc⟩
  | p :: ps, t, z, v, cs, h, hc, hv => by
    simp only [List.map_cons, fillE] at h
    split at h
    · rename_i off size o s hpl hat
      obtain ⟨hcc, h⟩ := cond_none h
      simp only [Bool.and_eq_true] at hcc
      obtain ⟨⟨⟨⟨c1, c2⟩, c3⟩, c4⟩, c5⟩ := hcc
      have c1 := Nat.eq_of_beq_eq_true c1
      have c2 := Nat.eq_of_beq_eq_true c2
      have c3 := shbeq _ _ c3
      split at h
      · rename_i z' hset
        have hx := Cells_of_Val he (hv p (by simp)) c4
        have hg : ∃ old, getP z [p.1] = some old := by
          cases z <;> simp [sh, Sh.at] at hat
          · exact ⟨_, rfl⟩
          · rename_i l
            simp only [shL_eq, List.getElem?_map] at hat
            cases hl : l[p.1]? with
            | none => simp [hl] at hat
            | some x => exact ⟨x, by simp [getP, hl]⟩
        obtain ⟨old, hg⟩ := hg
        obtain ⟨pre, cold, post, rfl, hpre, q1, q2, q3⟩ := Cells_at [p.1] z old cs o s hc hg hat
        obtain ⟨r1, r2⟩ := q3 _ _ z' hx c3 hset c5
        obtain ⟨cs', g1, g2⟩ := fillE_ok he ps t z' v _ h r1 (fun p hp => hv p (by simp [hp]))
        refine ⟨cs', ?_, g2⟩
        have hl1 : (vals p.2).cells.size = size := by
          have := Cells_len _ _ hx
          rw [c3, Array.length_toList] at this
          omega
        have hl2 : cold.length = (vals p.2).cells.toList.length := by rw [Cells_len _ _ q1, q2, Array.length_toList]; omega
        simp only [List.map_cons, Instr.fill, hpl]
        rw [if_neg (by simp; simp at hl2; omega)]
        have hz : (vals p.2).cells.zipIdx.foldl (fun cs x => cs.setIfInBounds (off + x.2) x.1) (pre ++ cold ++ post).toArray = (pre ++ (vals p.2).cells.toList ++ post).toArray := by
          rw [← Array.foldl_toList, Array.toList_zipIdx]
          exact foldl_splice _ 0 off pre cold post (by omega) hl2
        rw [hz]
        exact g1
      · cases h
    · cases h
theorem places_run {P : Program} {w : World} : ∀ (fs : List Field) (l : List (Nat × Nat)), places P fs = some l → (fs.mapM fun f => do pure (f.offset, ← sizeOf f.type) : Sem (List (Nat × Nat))).run P w = .ok l w
  | [], l, h => by simp only [places, Option.some.injEq] at h; subst h; rfl
  | f :: fs, l, h => by
    simp only [places] at h
    split at h
    · rename_i i l' hi hl
      simp only [Option.some.injEq] at h
      subst h
      have := places_run (w := w) fs l' hl
      simp only [List.mapM_cons, Sem.run_bind, sizeOf, typeInfo, run_program, Result.andThen_ok, hi, Sem.run_pure] at this ⊢
      simp only [this, Result.andThen_ok, Sem.run_pure]
    · cases h
theorem buildE_ok {G : Gi} {R : Type} {κ : Kop R} {r : R} {o : Oper} {ty : TypeId} {parts : Array (Nat × Operand)} {t : List AV} {look : Nat → Blk} {nid : Nat} (ho : o.op = .build ty parts)
    (h0 : buildE G κ ty (parts.toList.map fun p => (p.1, evO t p.2)) = some r) : ∃ v us, κ v us = some r ∧ OpOk G o t look nid v us := by
  have hops : ∀ (X : Fx) (h : List Blk) (L : List Loc) (a : Act) (w : World), (∀ x ∈ o.op.operands.toList, Val (cx X h L w) (evO t x) (a.eval x)) → ∀ p ∈ parts.toList, Val (cx X h L w) (evO t p.2) (a.eval p.2) :=
    fun X h L a w hv p hp => hv p.2 (by simp only [ho, Op.operands, List.mem_map]; exact ⟨p, hp, rfl⟩)
  unfold buildE at h0
  split at h0
  · cases h0
  · rename_i z hz
    split at h0
    · rename_i fs hu
      split at h0
      · rename_i l hl
        split at h0
        · rename_i v hf
          obtain ⟨hag, h0⟩ := cond_none h0
          refine ⟨v, [], h0, OpOk.pure fun X hXG => ?_⟩
          subst hXG
          refine fun h L a w I hv _ => ?_
          obtain ⟨zv, q1, q2⟩ := zeroAV_ok (c := cx X h L w) I.eok.w hz w
          obtain ⟨cs', g1, g2⟩ := fillE_ok (c := cx X h L w) I.eok.w (vals := a.eval) parts.toList t z v _ hf q2 (hops X h L a w hv)
          rw [Array.toArray_toList] at g1
          refine ⟨.agg cs'.toArray, ?_, Val_of_Cells_ag g2 hag⟩
          have hm := places_run (P := X.G.P) (w := w) fs.toList l hl
          have hm' : (fs.mapM fun f => do pure (f.offset, ← sizeOf f.type) : Sem (Array (Nat × Nat))).run X.G.P w = .ok l.toArray w := by
            rw [Array.mapM_eq_mapM_toList]
            simp only [Sem.run_map, hm, Result.andThen_ok]
          have hpl : (fun (i : Nat) => (l.toArray : Array (Nat × Nat))[i]?) = (fun (i : Nat) => l[i]?) := by funext i; simp
          simp only [execOp, ho, Instr.build, Sem.run_bind, q1, Result.andThen_ok, run_underlying' hu, hm', hpl]
          simp only [Array.toList_map, g1, Sem.run_pure, Result.andThen_ok]
        · cases h0
      · cases h0
    · rename_i n e hu
      obtain ⟨hs, h0⟩ := cond_none h0
      split at h0
      · rename_i v hf
        obtain ⟨hag, h0⟩ := cond_none h0
        refine ⟨v, [], h0, OpOk.pure fun X hXG => ?_⟩
        subst hXG
        refine fun h L a w I hv _ => ?_
        obtain ⟨zv, q1, q2⟩ := zeroAV_ok (c := cx X h L w) I.eok.w hz w
        obtain ⟨cs', g1, g2⟩ := fillE_ok (c := cx X h L w) I.eok.w (vals := a.eval) parts.toList t z v _ hf q2 (hops X h L a w hv)
        rw [Array.toArray_toList] at g1
        refine ⟨.agg cs'.toArray, ?_, Val_of_Cells_ag g2 hag⟩
        simp only [execOp, ho, Instr.build, Sem.run_bind, q1, Result.andThen_ok, run_underlying' hu, run_sizeOf' hs, Nat.mul_one]
        simp only [Array.toList_map, g1, Sem.run_pure, Result.andThen_ok]
      · cases h0
    · cases h0
end Go.Ev
namespace Go.Ev
set_option linter.unusedSimpArgs false
set_option linter.unusedVariables false
theorem run_part_int {P : Program} {w : World} {e : TypeId} {k : IntKind} {l : List Int} {i : Nat} (he : P.underlying e = some (.int k)) (hi : i < l.length) :
    (part e (l.map (Value.int k)).toArray (i * 1)).run P w = .ok (.int k (l.getD i 0)) w := by
  have : (l.map (Value.int k)).toArray[i * 1]? = some (.int k (l.getD i 0)) := by simp [List.getElem?_eq_getElem hi, List.getD]
  simp only [part, Sem.run_bind, isAgg, run_underlying' he, Result.andThen_ok, Sem.run_pure, Bool.false_eq_true, if_false, this]
theorem forIn_eq_run {P : Program} {w : World} {e : TypeId} {k : IntKind} {d : Nat} (he : P.underlying e = some (.int k)) (xs ys : List Int) (hl : xs.length = ys.length) : ∀ (m i : Nat), i + m = xs.length →
    (forIn (List.range' i m) ((none : Option Bool), ()) fun i __s => (do
              let a ← part e (xs.map (Value.int k)).toArray (i * 1)
              let b ← part e (ys.map (Value.int k)).toArray (i * 1)
              let r ← Op.equalIn (d + 1) e a b
              if (!r) = true then pure (ForInStep.done (some false, ())) else pure (ForInStep.yield (none, ())) : Sem (ForInStep (Option Bool × Unit)))).run P w =
      .ok ((if xs.drop i == ys.drop i then none else some false), ()) w
  | 0, i, h => by
    have h1 : xs.drop i = [] := List.drop_eq_nil_of_le (by omega)
    have h2 : ys.drop i = [] := List.drop_eq_nil_of_le (by omega)
    simp [h1, h2]
  | m + 1, i, h => by
    have hx : i < xs.length := by omega
    have hy : i < ys.length := by omega
    have ih := forIn_eq_run (w := w) (d := d) he xs ys hl m (i + 1) (by omega)
    rw [List.range'_succ, List.forIn_cons]
    simp only [Sem.run_bind, run_part_int he hx, run_part_int he hy, Result.andThen_ok, run_equalIn_int w d e k k _ _ he]
    have hdx : xs.drop i = xs.getD i 0 :: xs.drop (i + 1) := by rw [List.drop_eq_getElem_cons hx]; simp [List.getD, hx]
    have hdy : ys.drop i = ys.getD i 0 :: ys.drop (i + 1) := by rw [List.drop_eq_getElem_cons hy]; simp [List.getD, hy]
    rw [hdx, hdy]
    generalize xs.getD i 0 = A
    generalize ys.getD i 0 = B
    by_cases hab : A = B
    · have hb : (A == B) = true := by simp [hab]
      simp only [hb, Bool.not_true, Bool.false_eq_true, if_false, Sem.run_pure, Result.andThen_ok]
      rw [ih]
      simp [hab]
    · have hb : (A == B) = false := by simp [hab]
      simp only [hb, Bool.not_false, if_true, Sem.run_pure, Result.andThen_ok]
      have : (A :: xs.drop (i + 1) == B :: ys.drop (i + 1)) = false := by simp [hab]
      rw [this]
      simp
theorem run_equalIn_ints {P : Program} {w : World} {t e : TypeId} {k : IntKind} {n d : Nat} (hu : P.underlying t = some (.array n e)) (he : P.underlying e = some (.int k)) (hs : szIs P e 1 = true) (xs ys : List Int)
    (hx : xs.length = n) (hy : ys.length = n) : (Op.equalIn (d + 1 + 1) t (.agg (xs.map (Value.int k)).toArray) (.agg (ys.map (Value.int k)).toArray)).run P w = .ok (xs == ys) w := by
  have := forIn_eq_run (P := P) (w := w) (d := d) he xs ys (by omega) n 0 (by omega)
  conv => lhs; unfold Op.equalIn
  simp only [Sem.run_bind, run_underlying' hu, Result.andThen_ok, Std.Legacy.Range.forIn_eq_forIn_range', Std.Legacy.Range.size, run_sizeOf' hs]
  have hz : (n - 0 + 1 - 1) / 1 = n := by simp
  rw [hz, this]
  simp only [List.drop_zero, Result.andThen_ok]
  by_cases hxy : xs = ys
  · subst hxy; simp
  · have : (xs == ys) = false := by simp [hxy]
    simp [this]
theorem run_part_ag {P : Program} {w : World} {t m e : TypeId} {n : Nat} (hu : P.underlying t = some (.array m e)) (hs : szIs P t n = true) (cs : Array Value) (o : Nat) : (part t cs o).run P w = .ok (.agg (cs.extract o (o + n))) w := by
  simp only [part, Sem.run_bind, isAgg, run_underlying' hu, Result.andThen_ok, Sem.run_pure, if_true, run_sizeOf' hs]
theorem extract_mid (a b c : List Value) : (a ++ (b ++ c)).toArray.extract a.length (a.length + b.length) = b.toArray := by
  rw [List.extract_toArray, List.extract_eq_take_drop, List.drop_left' rfl, Nat.add_sub_cancel_left, List.take_left' rfl]
theorem run_part_one {P : Program} {w : World} {t : TypeId} {k : IntKind} (hu : P.underlying t = some (.int k)) {cs : Array Value} {o : Nat} {v : Value} (h : cs[o]? = some v) : (part t cs o).run P w = .ok v w := by
  simp only [part, Sem.run_bind, isAgg, run_underlying' hu, Result.andThen_ok, Sem.run_pure, Bool.false_eq_true, if_false, h]
theorem run_eqFields {P : Program} {c : Cx} {d : Nat} : ∀ (fs : List Field) (o : Nat) (a b : List AV) (p q xs ys : List Value), eqFit P fs o a b = true → p.length = o → q.length = o → CellsL c a xs → CellsL c b ys →
    (Op.eqFields (d + 1 + 1) (p ++ xs).toArray (q ++ ys).toArray fs).run P c.w = .ok (eqVal a b) c.w := by
  intro fs
  induction fs with
  | nil =>
    intro o a b p q xs ys h hp hq ha hb
    cases a with
    | nil => cases b with
      | nil => simp [Op.eqFields, eqVal]
      | cons => simp [eqFit] at h
    | cons => simp [eqFit] at h
  | cons f fs ih =>
    intro o a b p q xs ys h hp hq ha hb
    cases a with
    | nil => simp [eqFit] at h
    | cons A a => cases b with
    | nil => cases A <;> simp [eqFit] at h
    | cons B b =>
    by_cases hAB : ∃ k n la k' n' lb, A = .ints k n la ∧ B = .ints k' n' lb
    · obtain ⟨k, n, la, k', n', lb, rfl, rfl⟩ := hAB
      unfold eqFit at h
      rw [Bool.and_eq_true] at h
      obtain ⟨h1, h2⟩ := h
      split at h1
      · rename_i m e hu
        split at h1
        · rename_i k'' he
          simp only [Bool.and_eq_true, Bool.not_eq_true', decide_eq_true_eq] at h1
          obtain ⟨⟨⟨⟨⟨⟨⟨hn, ho⟩, rfl⟩, rfl⟩, c1⟩, c2⟩, c3⟩, c4⟩ := h1
          have ho := Nat.eq_of_beq_eq_true ho
          have c1 := Nat.eq_of_beq_eq_true c1
          have c2 := Nat.eq_of_beq_eq_true c2
          subst c1; subst c2
          have hn : f.name ≠ "_" := by simpa using hn
          obtain ⟨x1, x2, rfl, ⟨hx, _, rfl⟩, hx2⟩ := ha
          obtain ⟨y1, y2, rfl, ⟨hy, _, rfl⟩, hy2⟩ := hb
          have ex : (p ++ (la.map (Value.int k) ++ x2)).toArray.extract f.offset (f.offset + n) = (la.map (Value.int k)).toArray := by
            have := extract_mid p (la.map (Value.int k)) x2
            rw [List.length_map, hx, hp, ← ho] at this
            exact this
          have ey : (q ++ (lb.map (Value.int k) ++ y2)).toArray.extract f.offset (f.offset + n) = (lb.map (Value.int k)).toArray := by
            have := extract_mid q (lb.map (Value.int k)) y2
            rw [List.length_map, hy, hq, ← ho] at this
            exact this
          have ih := ih (o + n) a b (p ++ la.map (Value.int k)) (q ++ lb.map (Value.int k)) x2 y2 h2 (by simp [hp, hx]) (by simp [hq, hy]) hx2 hy2
          simp only [List.append_assoc] at ih
          simp only [Op.eqFields, hn, ne_eq, not_false_eq_true, if_true, Sem.run_bind, run_part_ag hu c4, Result.andThen_ok, ex, ey, run_equalIn_ints hu he c3 la lb hx hy, eqVal]
          cases hab : (la == lb)
          · simp
          · simp [ih]
        · cases h1
      · cases h1
    · by_cases hAI : ∃ k x k' y, A = .int k x ∧ B = .int k' y
      · obtain ⟨k, x, k', y, rfl, rfl⟩ := hAI
        unfold eqFit at h
        rw [Bool.and_eq_true] at h
        obtain ⟨h1, h2⟩ := h
        split at h1
        · rename_i k'' hu
          simp only [Bool.and_eq_true, Bool.not_eq_true', decide_eq_true_eq] at h1
          obtain ⟨⟨⟨hn, ho⟩, rfl⟩, rfl⟩ := h1
          have ho := Nat.eq_of_beq_eq_true ho
          have hn : f.name ≠ "_" := by simpa using hn
          obtain ⟨x1, x2, rfl, ⟨v1, rfl, rfl, _⟩, hx2⟩ := ha
          obtain ⟨y1, y2, rfl, ⟨v2, rfl, rfl, _⟩, hy2⟩ := hb
          have ex : (p ++ ([Value.int k x] ++ x2)).toArray[f.offset]? = some (.int k x) := by rw [ho, ← hp]; simp
          have ey : (q ++ ([Value.int k y] ++ y2)).toArray[f.offset]? = some (.int k y) := by rw [ho, ← hq]; simp
          have ih := ih (o + 1) a b (p ++ [Value.int k x]) (q ++ [Value.int k y]) x2 y2 h2 (by simp [hp]) (by simp [hq]) hx2 hy2
          simp only [List.append_assoc, List.singleton_append] at ih
          simp only [Op.eqFields, hn, ne_eq, not_false_eq_true, if_true, Sem.run_bind, run_part_one hu ex, run_part_one hu ey, Result.andThen_ok, run_equalIn_int c.w (d + 1) f.type k k _ _ hu, eqVal]
          cases hab : (x == y)
          · simp
          · simp [ih]
        · cases h1
      · exfalso
        cases A <;> cases B <;> first | (simp [eqFit] at h; done) | exact hAB ⟨_, _, _, _, _, _, rfl, rfl⟩ | exact hAI ⟨_, _, _, _, rfl, rfl⟩
theorem run_equal_ints {P : Program} {w : World} {t e : TypeId} {k : IntKind} {n : Nat} (hu : P.underlying t = some (.array n e)) (he : P.underlying e = some (.int k)) (hs : szIs P e 1 = true) (xs ys : List Int)
    (hx : xs.length = n) (hy : ys.length = n) : (Op.equal t (.agg (xs.map (Value.int k)).toArray) (.agg (ys.map (Value.int k)).toArray)).run P w = .ok (xs == ys) w := by
  refine run_equal_of ?_
  have := forIn_eq_run (P := P) (w := w) (d := 9998) he xs ys (by omega) n 0 (by omega)
  unfold Op.equalIn
  simp only [Sem.run_bind, run_underlying' hu, Result.andThen_ok, Std.Legacy.Range.forIn_eq_forIn_range', Std.Legacy.Range.size, run_sizeOf' hs]
  have hz : (n - 0 + 1 - 1) / 1 = n := by simp
  rw [hz, this]
  simp only [List.drop_zero, Result.andThen_ok]
  by_cases hxy : xs = ys
  · subst hxy; simp
  · have : (xs == ys) = false := by simp [hxy]
    simp [this]
theorem eqGuard_ints {P : Program} {t e : TypeId} {k : IntKind} {n : Nat} (hu : P.underlying t = some (.array n e)) (he : P.underlying e = some (.int k)) : P.eqGuardType P.depth t = false := by
  have : P.depth = (2 * (P.types.size + Made.depth)) + 1 + 1 := rfl
  rw [this]
  simp [Program.eqGuardType, hu, he]
theorem binE_run' {R : Type} {G : Gi} {κ : Kop R} {r : R} {op : BinOp} {ty : TypeId} {av bv : AV} (h : binE G κ op ty av bv = some r) : ∃ v, κ v [] = some r ∧ BinRun G.P op ty av bv v := by
  by_cases h1 : ∃ k n l, av = .ints k n l
  · obtain ⟨k, n, l, rfl⟩ := h1
    unfold binE at h
    split at h
    · contradiction
    · contradiction
    · contradiction
    · rename_i k1 n1 a k2 n2 b q1
      simp only [AV.ints.injEq] at q1
      obtain ⟨rfl, rfl, rfl⟩ := q1
      split at h
      · rename_i m e hu
        split at h
        · rename_i k'' he
          obtain ⟨hc, hz⟩ := cond_none h
          clear h
          simp only [Bool.and_eq_true, decide_eq_true_eq] at hc
          obtain ⟨⟨⟨⟨rfl, rfl⟩, c3⟩, c4⟩, c5⟩ := hc
          have h := hz
          clear hz
          have c3 := Nat.eq_of_beq_eq_true c3
          have c4 := Nat.eq_of_beq_eq_true c4
          subst c3; subst c4
          have key : ∀ (c : Cx) (x y : Value) (xo yo : Operand), Val c (.ints k n l) x → Val c (.ints k n b) y → (eqGuard op ty xo yo x y).run G.P c.w = .ok () c.w ∧ (Op.equal ty x y).run G.P c.w = .ok (l == b) c.w ∧ (∃ xs ys, x = .agg xs ∧ y = .agg ys) := by
            rintro c x y xo yo ⟨hx, _, rfl⟩ ⟨hy, _, rfl⟩
            exact ⟨run_eqGuard_agg c.w op ty xo yo _ _ (eqGuard_ints hu he), run_equal_ints hu he c5 l b hx hy, _, _, rfl, rfl⟩
          split at h
          · refine ⟨_, h, fun c x y xo yo hx hy => ?_⟩
            obtain ⟨q1, q2, xs, ys, rfl, rfl⟩ := key c x y xo yo hx hy
            refine ⟨.bool (l == b), q1, ?_, rfl⟩
            simp only [binOp, Sem.run_bind, q2, Result.andThen_ok, Sem.run_pure]
          · refine ⟨_, h, fun c x y xo yo hx hy => ?_⟩
            obtain ⟨q1, q2, xs, ys, rfl, rfl⟩ := key c x y xo yo hx hy
            refine ⟨.bool (!(l == b)), q1, ?_, rfl⟩
            simp only [binOp, Sem.run_bind, q2, Result.andThen_ok, Sem.run_pure]
          · cases h
        · cases h
      · cases h
    · contradiction
    · contradiction
    · cases h
  · by_cases h2 : ∃ k nl l, av = .isl k nl l
    · obtain ⟨k, nl, l, rfl⟩ := h2
      unfold binE at h
      split at h
      · contradiction
      · contradiction
      · contradiction
      · contradiction
      · rename_i k1 nl1 l1 q1
        simp only [AV.isl.injEq] at q1
        obtain ⟨rfl, rfl, rfl⟩ := q1
        split at h
        · rename_i e hu
          refine ⟨_, h, ?_⟩
          rintro c x y xo yo ⟨_, a, cap, rfl, _, hn, _⟩ rfl
          refine ⟨.bool nl1, run_eqGuard _ _ _ _ _ _ _ _ (.inl (by simp)) (.inl (by simp)), ?_, rfl⟩
          simp only [binOp, Sem.run_bind, run_equal_slice_nil c.w ty e a _ _ hu, Result.andThen_ok, Sem.run_pure, hn nl1 rfl]
        · rename_i e hu
          refine ⟨_, h, ?_⟩
          rintro c x y xo yo ⟨_, a, cap, rfl, _, hn, _⟩ rfl
          refine ⟨.bool (!nl1), run_eqGuard _ _ _ _ _ _ _ _ (.inl (by simp)) (.inl (by simp)), ?_, rfl⟩
          simp only [binOp, Sem.run_bind, run_equal_slice_nil c.w ty e a _ _ hu, Result.andThen_ok, Sem.run_pure, hn nl1 rfl]
        · cases h
      · contradiction
      · cases h
    · by_cases h3 : ∃ l, av = .agg l
      · obtain ⟨l, rfl⟩ := h3
        unfold binE at h
        split at h
        · contradiction
        · contradiction
        · contradiction
        · contradiction
        · contradiction
        · rename_i l1 b q1
          simp only [AV.agg.injEq] at q1
          obtain rfl := q1
          split at h
          · rename_i fs hu
            obtain ⟨hc, hz⟩ := cond_none h
            clear h
            simp only [Bool.and_eq_true, Bool.not_eq_true'] at hc
            obtain ⟨⟨c1, c2⟩, c3⟩ := hc
            have h := hz
            clear hz
            have hfs : G.P.fieldsOf ty = fs := by simp [Program.fieldsOf, hu]
            have key : ∀ (c : Cx) (x y : Value) (xo yo : Operand), Val c (.agg l) x → Val c (.agg b) y → (eqGuard op ty xo yo x y).run G.P c.w = .ok () c.w ∧ (Op.equal ty x y).run G.P c.w = .ok (eqVal l b) c.w ∧ (∃ xs ys, x = .agg xs ∧ y = .agg ys) := by
              rintro c x y xo yo ⟨xs, hx, rfl⟩ ⟨ys, hy, rfl⟩
              refine ⟨run_eqGuard_agg c.w op ty xo yo _ _ c3, run_equal_of ?_, _, _, rfl, rfl⟩
              rw [run_equalIn_struct c.w 9999 ty _ _ (by rw [hfs]; exact hu) c2, hfs]
              exact run_eqFields (d := 9997) fs.toList 0 l b [] [] xs ys c1 rfl rfl hx hy
            split at h
            · refine ⟨_, h, fun c x y xo yo hx hy => ?_⟩
              obtain ⟨q1, q2, xs, ys, rfl, rfl⟩ := key c x y xo yo hx hy
              refine ⟨.bool (eqVal l b), q1, ?_, rfl⟩
              simp only [binOp, Sem.run_bind, q2, Result.andThen_ok, Sem.run_pure]
            · refine ⟨_, h, fun c x y xo yo hx hy => ?_⟩
              obtain ⟨q1, q2, xs, ys, rfl, rfl⟩ := key c x y xo yo hx hy
              refine ⟨.bool (!(eqVal l b)), q1, ?_, rfl⟩
              simp only [binOp, Sem.run_bind, q2, Result.andThen_ok, Sem.run_pure]
            · cases h
          · cases h
        · cases h
      · exact binE_run (fun k n l e => h1 ⟨k, n, l, e⟩) (fun k n l e => h2 ⟨k, n, l, e⟩) (fun l e => h3 ⟨l, e⟩) h
theorem run_equalIn_err {P : Program} {t : TypeId} {ms : Array (String × TypeId)} (hu : P.underlying t = some (.interface ms)) (d : Nat) (x : Value) (hx : x = .nilIface ∨ ∃ T v, x = .iface T v) (w : World) :
    (Op.equalIn (d + 1) t x .nilIface).run P w = .ok (match x with | .nilIface => true | _ => false) w := by
  rcases hx with rfl | ⟨T, v, rfl⟩ <;> simp only [Op.equalIn, Sem.run_bind, run_underlying' hu, Result.andThen_ok, Sem.run_pure]
theorem errE_run {R : Type} {G : Gi} {κ : Kop R} {r : R} {op : BinOp} {ty : TypeId} {av bv : AV} {xo yo : Operand} (h : errE G κ op ty av bv xo yo = some r) :
    ∃ v, κ v [] = some r ∧ ∀ (c : Cx) (x y : Value), EOk c → Val c av x → Val c bv y → (∃ u, yo = .const u) ∧ ∃ cv, (eqGuard op ty xo yo x y).run G.P c.w = .ok () c.w ∧ (binOp op ty x y).run G.P c.w = .ok cv c.w ∧ Val c v cv := by
  have key : ∀ (n : Nat) (u : Value) (ms : Array (String × TypeId)) (c : Cx) (x y : Value), G.P.underlying ty = some (.interface ms) → EOk c → Val c (.err n) x → Val c (.err 0) y →
      (eqGuard op ty xo (.const u) x y).run G.P c.w = .ok () c.w ∧ (Op.equal ty x y).run G.P c.w = .ok (Nat.beq n 0) c.w ∧ y = .nilIface ∧ (x = .nilIface ∨ ∃ T v, x = .iface T v) := by
    intro n u ms c x y hu he hx hy
    have hy : y = .nilIface := by
      have hy : y = c.eps 0 := hy
      rw [hy, he.1]
    have hx : x = c.eps n := hx
    subst hy
    have hxx : x = .nilIface ∨ ∃ T v, x = .iface T v := by
      by_cases hn : n = 0
      · subst hn; exact .inl (hx.trans he.1)
      · obtain ⟨T, v, hv⟩ := he.2 n hn; exact .inr ⟨T, v, hx.trans hv⟩
    refine ⟨?_, ?_, rfl, hxx⟩
    · rcases hxx with rfl | ⟨T, v, rfl⟩
      · unfold eqGuard
        cases op <;> simp
      · exact run_eqGuard _ _ _ _ _ _ _ _ (.inl (by simp)) (.inl (by simp))
    · refine run_equal_of ((run_equalIn_err hu 9999 x hxx c.w).trans ?_)
      by_cases hn : n = 0
      · subst hn
        have : x = .nilIface := hx.trans he.1
        subst this
        rfl
      · obtain ⟨T, v, hv⟩ := he.2 n hn
        have : x = .iface T v := hx.trans hv
        subst this
        cases n with
        | zero => exact absurd rfl hn
        | succ n => rfl
  unfold errE at h
  split at h
  · rename_i n u ms hu
    refine ⟨_, h, fun c x y he hx hy => ⟨⟨u, rfl⟩, ?_⟩⟩
    obtain ⟨q1, q2, rfl, q3⟩ := key n u ms c x y hu he hx hy
    refine ⟨.bool (Nat.beq n 0), q1, ?_, rfl⟩
    rcases q3 with rfl | ⟨T, v, rfl⟩ <;> simp only [binOp, Sem.run_bind, q2, Result.andThen_ok, Sem.run_pure]
  · rename_i n u ms hu
    refine ⟨_, h, fun c x y he hx hy => ⟨⟨u, rfl⟩, ?_⟩⟩
    obtain ⟨q1, q2, rfl, q3⟩ := key n u ms c x y hu he hx hy
    refine ⟨.bool (!Nat.beq n 0), q1, ?_, rfl⟩
    rcases q3 with rfl | ⟨T, v, rfl⟩ <;> simp only [binOp, Sem.run_bind, q2, Result.andThen_ok, Sem.run_pure]
  · cases h
theorem run_copy' {P : Program} {w : World} {t ts e ty : TypeId} {k : IntKind} {xs : List Int} {x : Value} (ht : P.underlying t = some (.slice e)) (hs : szIs P e 1 = true) (hr : SrcRun P w k xs x) {q : Addr} {dLen dCap : Nat}
    (hq : 0 < min xs.length dLen → q.spot = none ∧ (∀ j, j < min xs.length dLen → (w.cell? ⟨q.block, q.off + j, none⟩).isSome = true) ∧ (∀ j, j < min xs.length dLen → w.frozen? ⟨q.block, q.off + j, none⟩ = false)) :
    (Builtin.copy_ #[t, ts] ty #[.slice (some q) dLen dCap, x]).run P w = .ok (.int .i64 (min xs.length dLen : Nat)) (w.setCells q.block q.off ((xs.take (min xs.length dLen)).map (Value.int k))) := by
  obtain ⟨_, r1, r2⟩ := hr
  have r2 := r2 w (fun _ => rfl) (min xs.length dLen) (Nat.min_le_left _ _)
  have hst : (storeCells q (((xs.take (min xs.length dLen)).map (Value.int k)).toArray).toList).run P w = .ok () (w.setCells q.block q.off ((xs.take (min xs.length dLen)).map (Value.int k))) := by
    by_cases h0 : min xs.length dLen = 0
    · rw [h0]; rfl
    · obtain ⟨h1, h2, h3⟩ := hq (by omega)
      have hl : ((xs.take (min xs.length dLen)).map (Value.int k)).length = min xs.length dLen := by simp
      have := run_storeCells_cells (P := P) q.block q.off ((xs.take (min xs.length dLen)).map (Value.int k)) 0 w (by rw [hl]; simpa using h2) (by rw [hl]; simpa using h3) (fun v hv => by obtain ⟨z, _, rfl⟩ := List.mem_map.1 hv; rfl)
      have hqq : q = ⟨q.block, q.off, none⟩ := by cases q; simp_all
      rw [← hqq] at this
      simpa using this
  have hmin : Nat.min xs.length dLen = min xs.length dLen := rfl
  simp only [Builtin.copy_, List.getElem?_toArray, List.getElem?_cons_zero, List.getElem?_cons_succ, Sem.run_bind, run_underlying' ht, Result.andThen_ok, r1, hmin, run_sizeOf' hs, r2, hst, Sem.run_pure, goInt]
theorem run_copy_nil' {P : Program} {w : World} {t ts e ty : TypeId} {k : IntKind} {xs : List Int} {x : Value} {a0 : Option Addr} (ht : P.underlying t = some (.slice e)) (hs : szIs P e 1 = true) (hr : SrcRun P w k xs x) :
    (Builtin.copy_ #[t, ts] ty #[.slice a0 0 0, x]).run P w = .ok (.int .i64 0) w := by
  obtain ⟨_, r1, r2⟩ := hr
  have r2 := r2 w (fun _ => rfl) 0 (Nat.zero_le _)
  have hmin : Nat.min xs.length 0 = 0 := Nat.min_zero _
  simp only [Builtin.copy_, List.getElem?_toArray, List.getElem?_cons_zero, List.getElem?_cons_succ, Sem.run_bind, run_underlying' ht, Result.andThen_ok, r1, hmin, run_sizeOf' hs, r2, Sem.run_pure, goInt]
  cases a0 <;> simp [storeCells]
theorem get3 {α : Type} (a b c : List α) (i : Nat) : (a ++ b ++ c)[i]? = if i < a.length then a[i]? else if i < a.length + b.length then b[i - a.length]? else c[i - a.length - b.length]? := by
  by_cases h1 : i < a.length
  · rw [if_pos h1, List.append_assoc, List.getElem?_append_left h1]
  · rw [if_neg h1, List.append_assoc, List.getElem?_append_right (by omega)]
    by_cases h2 : i < a.length + b.length
    · rw [if_pos h2, List.getElem?_append_left (by omega)]
    · rw [if_neg h2, List.getElem?_append_right (by omega)]
theorem splice_get {l ys : List Int} {off i : Nat} (h : off + ys.length ≤ l.length) (hi : i < (l.take off ++ (ys ++ l.drop (off + ys.length))).length) :
    ∃ hi' : i < l.length, (l.take off ++ (ys ++ l.drop (off + ys.length)))[i] = (if h : off ≤ i ∧ i < off + ys.length then ys[i - off]'(by omega) else l[i]) := by
  have hlen : (l.take off ++ (ys ++ l.drop (off + ys.length))).length = l.length := by simp; omega
  refine ⟨by omega, ?_⟩
  simp only [List.getElem_append, List.length_take, Nat.min_eq_left (show off ≤ l.length by omega)]
  by_cases h1 : i < off
  · rw [dif_pos h1, dif_neg (by omega)]; simp
  · rw [dif_neg h1]
    by_cases h2 : i < off + ys.length
    · rw [dif_pos (by omega), dif_pos ⟨by omega, h2⟩]
    · rw [dif_neg (by omega), dif_neg (by omega)]
      rw [List.getElem_drop]
      congr 1; omega
theorem Inv.putRow {X : Fx} {h : List Blk} {L : List Loc} {w : World} (I : Inv X h L w) {id off : Nat} {k : IntKind} {l ys : List Int} {p : Loc} (hb : h[id]? = some (.row k false l)) (hp : L[id]? = some p) (hlen : off + ys.length ≤ l.length) (hy : NN k ys) :
    Inv X (h.set id (.row k false (l.take off ++ (ys ++ l.drop (off + ys.length))))) L (w.setCells p.b (p.o + off) (ys.map (Value.int k))) ∧
      Cx.Le (cx X h L w) (cx X (h.set id (.row k false (l.take off ++ (ys ++ l.drop (off + ys.length))))) L (w.setCells p.b (p.o + off) (ys.map (Value.int k)))) ∧
      (∀ j, j < ys.length → (w.cell? ⟨p.b, p.o + off + j, none⟩).isSome = true) ∧ (∀ j, j < ys.length → w.frozen? ⟨p.b, p.o + off + j, none⟩ = false) := by
  obtain ⟨g1, g2, g3⟩ := I.blk id _ p hb hp
  obtain ⟨q1, q2, q3⟩ := g3 rfl
  have hsome : ∀ j, j < ys.length → (w.cell? ⟨p.b, p.o + off + j, none⟩).isSome = true := fun j hj => by
    obtain ⟨⟨x, hx⟩, _⟩ := q3 (off + j) (by omega)
    have hx : w.cell? _ = _ := hx
    rw [show p.o + off + j = p.o + (off + j) by omega, hx]; rfl
  have hfr : ∀ j, j < ys.length → w.frozen? ⟨p.b, p.o + off + j, none⟩ = false := fun j hj => by
    have hx : w.frozen? _ = _ := (q3 (off + j) (by omega)).2
    rw [show p.o + off + j = p.o + (off + j) by omega, hx]
  have hl2 : (l.take off ++ (ys ++ l.drop (off + ys.length))).length = l.length := by simp; omega
  obtain ⟨I', hle⟩ := I.write (b := .row k false (l.take off ++ (ys ++ l.drop (off + ys.length)))) (w' := w.setCells p.b (p.o + off) (ys.map (Value.int k))) hb hp (by simp only [Blk.sh, hl2])
    (Step.setCells _ _ _ _ fun j hj => ⟨rfl, rfl, by omega, by simp at hj; omega⟩) (fun hle => by
      refine ⟨fun hk z hz => ?_, by simp, fun _ => ⟨by omega, fun i hi => ?_, fun i hi => ⟨?_, ?_⟩⟩⟩
      · rcases List.mem_append.1 hz with hz | hz
        · exact g1 hk _ (List.mem_of_mem_take hz)
        · rcases List.mem_append.1 hz with hz | hz
          · exact hy hk _ hz
          · exact g1 hk _ (List.mem_of_mem_drop hz)
      · show (w.setCells p.b (p.o + off) (ys.map (Value.int k))).cell? _ = _
        obtain ⟨hi', he⟩ := splice_get hlen hi
        rw [he]
        by_cases hin : off ≤ i ∧ i < off + ys.length
        · rw [dif_pos hin]
          have := World.cell?_setCells_in p.b (ys.map (Value.int k)) (p.o + off) w (by simpa using hsome) (i - off) (by simp; omega)
          rw [show p.o + off + (i - off) = p.o + i by omega] at this
          rw [this]; simp
        · rw [dif_neg hin, World.cell?_setCells_out _ _ _ _ _ (fun _ _ => by simp; omega)]
          exact q2 i hi'
      · by_cases hin : off ≤ i ∧ i < off + ys.length
        · have := World.cell?_setCells_in p.b (ys.map (Value.int k)) (p.o + off) w (by simpa using hsome) (i - off) (by simp; omega)
          rw [show p.o + off + (i - off) = p.o + i by omega] at this
          exact ⟨_, this⟩
        · obtain ⟨⟨x, hx⟩, _⟩ := q3 i hi
          refine ⟨x, ?_⟩
          show (w.setCells p.b (p.o + off) (ys.map (Value.int k))).cell? _ = _
          rw [World.cell?_setCells_out _ _ _ _ _ (fun _ _ => by simp; omega)]
          exact hx
      · show (w.setCells p.b (p.o + off) (ys.map (Value.int k))).frozen? _ = _
        rw [World.frozen?_setCells]; exact (q3 i hi).2)
  exact ⟨I', hle, hsome, hfr⟩
theorem Inv.putArr {X : Fx} {h : List Blk} {L : List Loc} {w : World} (I : Inv X h L w) {id off o : Nat} {path : List Nat} {k : IntKind} {n : Nat} {v v' : AV} {l ys : List Int} {p : Loc} (hb : h[id]? = some (.var v)) (hp : L[id]? = some p)
    (hg : getP v path = some (.ints k n l)) (hat : Sh.at (sh v) path = some (o, .ints n)) (hlen : off + ys.length ≤ l.length) (hy : NN k ys)
    (hset : setP v path (.ints k n (l.take off ++ (ys ++ l.drop (off + ys.length)))) = some v') :
    Inv X (h.set id (.var v')) L (w.setCells p.b (p.o + o + off) (ys.map (Value.int k))) ∧ Cx.Le (cx X h L w) (cx X (h.set id (.var v')) L (w.setCells p.b (p.o + o + off) (ys.map (Value.int k)))) ∧
      (∀ j, j < ys.length → (w.cell? ⟨p.b, p.o + o + off + j, none⟩).isSome = true) ∧ (∀ j, j < ys.length → w.frozen? ⟨p.b, p.o + o + off + j, none⟩ = false) := by
  obtain ⟨cs, g1, g2⟩ := I.blk id _ p hb hp
  obtain ⟨pre, cold, post, rfl, hpre, q1, q2, q3⟩ := Cells_at path v _ cs o _ g1 hg hat
  obtain ⟨hl, hnn, rfl⟩ := q1
  have hl2 : (l.take off ++ (ys ++ l.drop (off + ys.length))).length = l.length := by simp; omega
  have hcy : Cells (cx X h L w) (.ints k n (l.take off ++ (ys ++ l.drop (off + ys.length)))) ((l.take off ++ (ys ++ l.drop (off + ys.length))).map (Value.int k)) := by
    refine ⟨by omega, fun hk z hz => ?_, rfl⟩
    rcases List.mem_append.1 hz with hz | hz
    · exact hnn hk _ (List.mem_of_mem_take hz)
    · rcases List.mem_append.1 hz with hz | hz
      · exact hy hk _ hz
      · exact hnn hk _ (List.mem_of_mem_drop hz)
  have hkind : ∀ (p : List Nat) (v : AV) (m : List Int), getP v p = some (.ints k n l) → kindOk v p (.ints k n m) = true := by
    intro p
    induction p with
    | nil => intro v m _; cases v <;> rfl
    | cons i p ih =>
      intro v m hg
      cases v with
      | ints k' n' l' => cases p <;> simp [getP] at hg
      | agg l' =>
        simp only [getP] at hg
        simp only [kindOk]
        cases hv : l'[i]? with
        | none => simp [hv] at hg
        | some v0 => simp only [hv] at hg ⊢; exact ih v0 m hg
      | _ => simp [getP] at hg
  obtain ⟨r1, r2⟩ := q3 _ _ v' hcy rfl hset (hkind path v _ hg)
  have hclen := Cells_len _ _ g1
  have hin : ∀ j, j < l.length → o + j < (pre ++ l.map (Value.int k) ++ post).length := fun j hj => by simp [hpre]; omega
  have hsome : ∀ j, j < ys.length → (w.cell? ⟨p.b, p.o + o + off + j, none⟩).isSome = true := fun j hj => by
    have : w.cell? _ = _ := (g2 (o + (off + j)) (hin _ (by omega))).1
    rw [show p.o + o + off + j = p.o + (o + (off + j)) by omega, this]; rfl
  have hfr : ∀ j, j < ys.length → w.frozen? ⟨p.b, p.o + o + off + j, none⟩ = false := fun j hj => by
    have : w.frozen? _ = _ := (g2 (o + (off + j)) (hin _ (by omega))).2
    rw [show p.o + o + off + j = p.o + (o + (off + j)) by omega, this]
  obtain ⟨I', hle⟩ := I.write (b := .var v') (w' := w.setCells p.b (p.o + o + off) (ys.map (Value.int k))) hb hp (by simp [Blk.sh, r2]) (Step.setCells _ _ _ _ fun j hj => by
      refine ⟨rfl, by omega, ?_⟩
      have := hin (off + j) (by simp at hj; omega)
      rw [hclen] at this
      omega) (fun hle => by
    refine ⟨_, Cells.le hle _ _ r1, fun i hi => ?_⟩
    have hi' : i < (pre ++ l.map (Value.int k) ++ post).length := by simp at hi ⊢; omega
    have hold := g2 i hi'
    simp only [cx] at hold
    refine ⟨?_, ?_⟩
    · show (w.setCells p.b (p.o + o + off) (ys.map (Value.int k))).cell? _ = _
      by_cases hi1 : o + off ≤ i ∧ i < o + off + ys.length
      · have := World.cell?_setCells_in p.b (ys.map (Value.int k)) (p.o + o + off) w (by simpa using hsome) (i - (o + off)) (by simp; omega)
        rw [show p.o + o + off + (i - (o + off)) = p.o + i by omega] at this
        rw [this]
        have hi2 : i - o < (l.take off ++ (ys ++ l.drop (off + ys.length))).length := by omega
        obtain ⟨_, he⟩ := splice_get hlen hi2
        have e : (pre ++ (l.take off ++ (ys ++ l.drop (off + ys.length))).map (Value.int k) ++ post)[i]? = some (.int k ((l.take off ++ (ys ++ l.drop (off + ys.length)))[i - o])) := by
          rw [List.append_assoc, List.getElem?_append_right (by omega), List.getElem?_append_left (by simp only [List.length_map]; omega), hpre, List.getElem?_map, List.getElem?_eq_getElem hi2]
          rfl
        rw [← List.getElem?_eq_getElem, ← List.getElem?_eq_getElem, e, he, dif_pos (by omega)]
        simp only [List.getElem?_map, List.getElem?_eq_getElem (show i - (o + off) < ys.length by omega), Option.map_some]
        congr 2
        congr 1; omega
      · rw [World.cell?_setCells_out _ _ _ _ _ (fun _ _ => by simp; omega), hold.1]
        have e : (pre ++ (l.take off ++ (ys ++ l.drop (off + ys.length))).map (Value.int k) ++ post)[i]? = (pre ++ l.map (Value.int k) ++ post)[i]? := by
          rw [get3, get3, hpre]
          simp only [List.length_map, hl2]
          by_cases h1 : i < o
          · rw [if_pos h1, if_pos h1]
          · rw [if_neg h1, if_neg h1]
            by_cases h2 : i < o + l.length
            · rw [if_pos h2, if_pos h2]
              have hi2 : i - o < (l.take off ++ (ys ++ l.drop (off + ys.length))).length := by omega
              obtain ⟨hh, he⟩ := splice_get hlen hi2
              rw [List.getElem?_map, List.getElem?_map, List.getElem?_eq_getElem hi2, List.getElem?_eq_getElem hh, he, dif_neg (by omega)]
            · rw [if_neg h2, if_neg h2]
        rw [← List.getElem?_eq_getElem, ← List.getElem?_eq_getElem, e]
    · show (w.setCells p.b (p.o + o + off) (ys.map (Value.int k))).frozen? _ = _
      rw [World.frozen?_setCells]; exact hold.2)
  exact ⟨I', hle, hsome, hfr⟩
theorem copyE_ok {G : Gi} {R : Type} {κ : Kop R} {r : R} {o : Oper} {c : Call} {d s : Operand} {t : List AV} {look : Nat → Blk} {nid : Nat} (ho : o.op = .call c) (hc : c.callee = .builtin .copy) (ha : c.args.toList = [d, s])
    (hat : ∃ ts, c.argTypes = #[argT c 0, ts]) (h0 : copyE G look κ (argT c 0) (evO t d) (evO t s) = some r) : ∃ v us, κ v us = some r ∧ OpOk G o t look nid v us := by
  obtain ⟨ts, hargs⟩ := hat
  have hca : c.args = #[d, s] := by
    have : c.args.toList = (#[d, s] : Array Operand).toList := ha
    exact Array.toList_inj.1 this
  have hops : ∀ (x : Operand), x = d ∨ x = s → x ∈ o.op.operands.toList := by
    intro x hx
    simp only [ho, Op.operands, Call.operands, hc, hca]
    simpa using hx
  have run : ∀ (a : Act) (w : World) (cv : Value) (w' : World), (Builtin.copy_ #[argT c 0, ts] o.type #[a.eval d, a.eval s]).run G.P w = .ok cv w' → (execOp a.eval o).run G.P w = .ok (.value cv) w' := by
    intro a w cv w' hrun
    simp only [execOp, ho, resolve, hc, hca, hargs, Sem.run_bind, Sem.run_pure, Result.andThen_ok, invoke, builtin]
    simp [hrun]
  unfold copyE at h0
  split at h0
  · rename_i e hu
    split at h0
    · rename_i k hk
      obtain ⟨hs, h1⟩ := cond_none h0
      clear h0
      split at h1
      · rename_i xs id path off len hsrc hd
        split at h1
        · rename_i k' nl l hb
          split at h1
          · obtain ⟨hkk, h2⟩ := cond_none h1
            clear h1
            have hkk := of_decide_eq_true hkk
            subst hkk
            refine ⟨_, _, h2, fun X hXG => ?_⟩
            subst hXG
            refine fun h L a w next Q I hvv hl _ hk' => .inl ?_
            have hb' := lookOk.get hl hb (by simp)
            have e1 := hvv d (hops d (.inl rfl))
            have e2 := hvv s (hops s (.inr rfl))
            rw [hd] at e1
            have hsr := srcE_run hsrc X h L w _ I hl e2
            obtain ⟨p, hp, g1, g2, g3⟩ := own_row I hb' e1
            unfold Oper.wp
            cases nl with
            | true =>
              obtain ⟨⟨a0, q1⟩, rfl⟩ := g2 rfl
              have hz : olen len ([] : List Int).length off = 0 := by simp only [List.length_nil] at g1 ⊢; omega
              have hoff : off = 0 := by simp only [List.length_nil] at g1; omega
              rw [run a w _ w (by rw [q1]; exact run_copy_nil' hu hs hsr)]
              refine hk' _ L w ?_ ?_ ?_
              · simp only [applyU, hz, Nat.min_zero, List.take_zero, List.take_nil, List.drop_nil, List.append_nil]
                rw [list_set_self _ _ _ hb']; exact I
              · simp only [applyU, hz, Nat.min_zero, List.take_zero, List.take_nil, List.drop_nil, List.append_nil]
                rw [list_set_self _ _ _ hb']; exact Cx.Le.refl _
              · simp only [hz, Nat.min_zero]
                exact ⟨rfl, by simp [NN, IntKind.signed]⟩
            | false =>
              obtain ⟨q, q1, q2, q3⟩ := g3 rfl
              have hylen : (xs.take (min xs.length (olen len l.length off))).length = min xs.length (olen len l.length off) := by simp
              obtain ⟨I', hle, hsome, hfr⟩ := I.putRow (off := off) (ys := xs.take (min xs.length (olen len l.length off))) hb' hp (by rw [hylen]; omega) (hsr.1.sub fun z hz => List.mem_of_mem_take hz)
              obtain ⟨rr1, rr2, rr3⟩ := (I.blk id _ p hb' hp).2.2 rfl
              have hqq : 0 < min xs.length (olen len l.length off) → q = ⟨p.b, p.o + off, none⟩ := fun hh => q3 (by omega)
              have hrun := run_copy' (ty := o.type) (ts := ts) (q := q) (dLen := olen len l.length off) (dCap := p.cap - off) hu hs hsr (fun hh => by
                rw [hqq hh]
                rw [hylen] at hsome hfr
                exact ⟨rfl, hsome, hfr⟩)
              have hw' : w.setCells q.block q.off ((xs.take (min xs.length (olen len l.length off))).map (Value.int k)) = w.setCells p.b (p.o + off) ((xs.take (min xs.length (olen len l.length off))).map (Value.int k)) := by
                by_cases hh : 0 < min xs.length (olen len l.length off)
                · rw [hqq hh]
                · have : min xs.length (olen len l.length off) = 0 := by omega
                  rw [this]; rfl
              rw [run a w _ _ (by rw [q1]; exact hrun), hw']
              rw [hylen] at I' hle
              exact hk' _ L _ (by simpa only [applyU] using I') (by simpa only [applyU] using hle) ⟨rfl, by simp [NN, IntKind.signed]⟩
          · cases h1
        · rename_i v hb
          split at h1
          · rename_i k' m l hg
            obtain ⟨hkk, h2⟩ := cond_none h1
            clear h1
            have hkk := of_decide_eq_true hkk
            subst hkk
            simp only at h2
            split at h2
            · rename_i v' hset
              refine ⟨_, _, h2, fun X hXG => ?_⟩
              subst hXG
              refine fun h L a w next Q I hvv hl _ hk' => .inl ?_
              have hb' := lookOk.get hl hb (by simp)
              have e1 := hvv d (hops d (.inl rfl))
              have e2 := hvv s (hops s (.inr rfl))
              rw [hd] at e1
              have hsr := srcE_run hsrc X h L w _ I hl e2
              obtain ⟨p, oo, hp, hat, hml, hnn, g1, ⟨q, q1, q2, q3⟩, g3⟩ := own_arr I hb' hg e1
              have hylen : (xs.take (min xs.length (olen len m off))).length = min xs.length (olen len m off) := by simp
              obtain ⟨I', hle, hsome, hfr⟩ := I.putArr (off := off) (ys := xs.take (min xs.length (olen len m off))) hb' hp hg hat (by rw [hylen]; omega) (hsr.1.sub fun z hz => List.mem_of_mem_take hz) (by rw [hylen]; exact hset)
              have hqq : 0 < min xs.length (olen len m off) → q = ⟨p.b, p.o + oo + off, none⟩ := fun hh => q3 (by omega)
              have hrun := run_copy' (ty := o.type) (ts := ts) (q := q) (dLen := olen len m off) (dCap := m - off) hu hs hsr (fun hh => by
                rw [hqq hh]
                rw [hylen] at hsome hfr
                exact ⟨rfl, hsome, hfr⟩)
              have hw' : w.setCells q.block q.off ((xs.take (min xs.length (olen len m off))).map (Value.int k)) = w.setCells p.b (p.o + oo + off) ((xs.take (min xs.length (olen len m off))).map (Value.int k)) := by
                by_cases hh : 0 < min xs.length (olen len m off)
                · rw [hqq hh]
                · have : min xs.length (olen len m off) = 0 := by omega
                  rw [this]; rfl
              unfold Oper.wp
              rw [run a w _ _ (by rw [q1]; exact hrun), hw']
              exact hk' _ L _ (by simpa only [applyU] using I') (by simpa only [applyU] using hle) ⟨rfl, by simp [NN, IntKind.signed]⟩
            · cases h2
          · cases h1
        · cases h1
      · rename_i xs hsrc hd
        refine ⟨_, _, h1, fun X hXG => ?_⟩
        subst hXG
        refine fun h L a w next Q I hvv hl _ hk' => .inl ?_
        have e1 := hvv d (hops d (.inl rfl))
        have e2 := hvv s (hops s (.inr rfl))
        rw [hd] at e1
        have e1 : a.eval d = .slice none 0 0 := e1
        have hsr := srcE_run hsrc X h L w _ I hl e2
        unfold Oper.wp
        rw [run a w _ w (by rw [e1]; exact run_copy_nil' hu hs hsr)]
        exact hk' _ L w I (Cx.Le.refl _) ⟨rfl, by simp [NN, IntKind.signed]⟩
      · cases h1
    · cases h0
  · cases h0
end Go.Ev
namespace Go.Ev
def RO (c c' : Cx) : Prop := ∀ b o v, c.w.cell? ⟨b, o, none⟩ = some v → ¬ c.A b o → c'.w.cell? ⟨b, o, none⟩ = some v ∧ ¬ c'.A b o
theorem Lies.ro {c c' : Cx} (h : RO c c') {k : IntKind} {l : List Int} {a : Addr} (g : Lies c.w c.A k l a) : Lies c'.w c'.A k l a :=
  ⟨g.1, fun i hi => h _ _ _ (g.2 i hi).1 (g.2 i hi).2⟩
theorem IsSl.ro {c c' : Cx} (h : RO c c') {k : IntKind} {nl : Option Bool} {l : List Int} {v : Value} (g : IsSl c.w c.A k nl l v) : IsSl c'.w c'.A k nl l v := by
  obtain ⟨h0, a, cap, h1, h2, h3, h4, h5⟩ := g
  exact ⟨h0, a, cap, h1, h2, h3, h4, fun p hp => (h5 p hp).ro h⟩
theorem IsRw.ro {c c' : Cx} (h : RO c c') {α : Type} {n : Nat} {F F' : α → List Value → Prop} {l : List α} {v : Value} (hF : ∀ x cs, F x cs → F' x cs) (g : IsRw c.w c.A n F l v) : IsRw c'.w c'.A n F' l v := by
  obtain ⟨a, cap, h1, h2, h3, h4⟩ := g
  refine ⟨a, cap, h1, h2, h3, fun p hp => ⟨(h4 p hp).1, fun i hi => ?_⟩⟩
  obtain ⟨cs, q1, q2, q3⟩ := (h4 p hp).2 i hi
  exact ⟨cs, hF _ _ q1, q2, fun j hj => h _ _ _ (q3 j hj).1 (q3 j hj).2⟩
mutual
theorem Fz.ro {c c' : Cx} (h : RO c c') : ∀ (t : T) (x : Den t) (cs : List Value), Fz c.w c.A t x cs → Fz c'.w c'.A t x cs
  | .int _, _, _, g => g
  | .bool, _, _, g => g
  | .str, _, _, g => g
  | .arr _ _, _, _, g => g
  | .sl _, _, _, ⟨v, e, g⟩ => ⟨v, e, g.ro h⟩
  | .rw (.int _), _, _, ⟨v, e, g⟩ => ⟨v, e, IsSl.ro h g⟩
  | .rw .bool, _, _, ⟨v, e, g⟩ => ⟨v, e, g.ro h (Fz.ro h .bool)⟩
  | .rw .str, _, _, ⟨v, e, g⟩ => ⟨v, e, g.ro h (Fz.ro h .str)⟩
  | .rw (.arr k n), _, _, ⟨v, e, g⟩ => ⟨v, e, g.ro h (Fz.ro h (.arr k n))⟩
  | .rw (.sl k), _, _, ⟨v, e, g⟩ => ⟨v, e, g.ro h (Fz.ro h (.sl k))⟩
  | .rw (.rw t), _, _, ⟨v, e, g⟩ => ⟨v, e, g.ro h (Fz.ro h (.rw t))⟩
  | .rw (.st ts), _, _, ⟨v, e, g⟩ => ⟨v, e, g.ro h (Fz.ro h (.st ts))⟩
  | .st ts, x, cs, g => FzL.ro h ts x cs g
theorem FzL.ro {c c' : Cx} (h : RO c c') : ∀ (ts : List T) (x : DenL ts) (cs : List Value), FzL c.w c.A ts x cs → FzL c'.w c'.A ts x cs
  | [], _, _, g => g
  | t :: ts, x, _, ⟨c1, c2, e, g1, g2⟩ => ⟨c1, c2, e, Fz.ro h t x.1 c1 g1, FzL.ro h ts x.2 c2 g2⟩
end
def AV.isRef : AV → Bool
  | .own .. => true
  | .ptr .. => true
  | .asl .. => true
  | _ => false
structure TrOk (c c' : Cx) (look : Nat → Blk) (snap : Bool) (ρ : Ren) : Prop where
  eps : c'.eps = c.eps
  ref : ∀ x x' v, x.isRef = true → trA look snap ρ x = some x' → leaf c x v → leaf c' x' v
theorem IsRp.ro {c c' : Cx} (h : RO c c') {t : T} {x : Den t} {v : Value} (g : IsRp c t x v) : IsRp c' t x v := by
  obtain ⟨p, cs, e, s, q1, q2⟩ := g
  exact ⟨p, cs, e, s, Fz.ro h t x cs q1, fun j hj => h _ _ _ (q2 j hj).1 (q2 j hj).2⟩
theorem Caps.ro {c c' : Cx} (h : RO c c') : ∀ (l : List ((t : T) × Den t)) (vs : List Value), Caps c l vs → Caps c' l vs
  | [], _, g => g
  | _ :: l, _, ⟨y, r, e, g1, g2⟩ => ⟨y, r, e, g1.ro h, Caps.ro h l r g2⟩
theorem tr_leaf {c c' : Cx} {look : Nat → Blk} {snap : Bool} {ρ : Ren} (T : TrOk c c' look snap ρ) {x x' : AV} {v : Value} (hs : slf x = true ∨ RO c c')
    (hx : trA look snap ρ x = some x') (g : leaf c x v) : leaf c' x' v := by
  cases x with
  | own a b d e => exact T.ref _ _ v rfl hx g
  | ptr a b => exact T.ref _ _ v rfl hx g
  | asl a b => exact T.ref _ _ v rfl hx g
  | agg l => exact g.elim
  | tup l => exact g.elim
  | isl k nl l =>
    simp only [trA, Option.some.injEq] at hx; subst hx
    rcases hs with hs | hs
    · simp [slf] at hs
    · exact IsSl.ro hs g
  | rsl k ll =>
    simp only [trA, Option.some.injEq] at hx; subst hx
    rcases hs with hs | hs
    · simp [slf] at hs
    · obtain ⟨a, cap, h1, h2, h4, h5⟩ := g
      refine ⟨a, cap, h1, h2, h4, fun p hp => ⟨(h5 p hp).1, fun i hi => ?_⟩⟩
      obtain ⟨y, q1, q2, q3⟩ := (h5 p hp).2 i hi
      obtain ⟨r1, r2⟩ := hs _ _ _ q1 q2
      exact ⟨y, r1, r2, q3.ro hs⟩
  | gsl t l =>
    simp only [trA, Option.some.injEq] at hx; subst hx
    rcases hs with hs | hs
    · simp [slf] at hs
    · exact IsRw.ro hs (Fz.ro hs t) g
  | rpg t x =>
    simp only [trA, Option.some.injEq] at hx; subst hx
    rcases hs with hs | hs
    · simp [slf] at hs
    · exact IsRp.ro hs g
  | cls f l =>
    simp only [trA, Option.some.injEq] at hx; subst hx
    rcases hs with hs | hs
    · simp [slf] at hs
    · obtain ⟨vs, e, q⟩ := g
      exact ⟨vs, e, Caps.ro hs l vs q⟩
  | rpi k n =>
    simp only [trA, Option.some.injEq] at hx; subst hx
    rcases hs with hs | hs
    · simp [slf] at hs
    · obtain ⟨h0, p, e, s, q1, q2⟩ := g
      obtain ⟨r1, r2⟩ := hs _ _ _ q1 q2
      exact ⟨h0, p, e, s, r1, r2⟩
  | rps k l =>
    simp only [trA, Option.some.injEq] at hx; subst hx
    rcases hs with hs | hs
    · simp [slf] at hs
    · obtain ⟨p, x, e, s, q1, q2, q3⟩ := g
      obtain ⟨r1, r2⟩ := hs _ _ _ q1 q2
      exact ⟨p, x, e, s, r1, r2, q3.ro hs⟩
  | esl l =>
    simp only [trA, Option.some.injEq] at hx; subst hx
    rcases hs with hs | hs
    · simp [slf] at hs
    · obtain ⟨a, cap, h1, h2, h4, h5⟩ := g
      refine ⟨a, cap, h1, h2, h4, fun p hp => ⟨(h5 p hp).1, fun i hi => ?_⟩⟩
      obtain ⟨q1, q2⟩ := (h5 p hp).2 i hi
      rw [T.eps]
      exact hs _ _ _ q1 q2
  | rpe n =>
    simp only [trA, Option.some.injEq] at hx; subst hx
    rcases hs with hs | hs
    · simp [slf] at hs
    · obtain ⟨p, e, s, q1, q2⟩ := g
      obtain ⟨r1, r2⟩ := hs _ _ _ q1 q2
      exact ⟨p, e, s, by rw [T.eps]; exact r1, r2⟩
  | capv a b => simp [trA] at hx
  | ownx a b => simp [trA] at hx
  | err n => simp only [trA, Option.some.injEq] at hx; subst hx; simp only [leaf] at g ⊢; rw [T.eps]; exact g
  | _ => simp only [trA, Option.some.injEq] at hx; subst hx; exact g
theorem tr_own {look : Nat → Blk} {snap : Bool} {ρ : Ren} {id off : Nat} {path : List Nat} {len : Option Nat} {x' : AV} (h : trA look snap ρ (.own id path off len) = some x') :
    (∃ j q, ρ id path = some (j, q) ∧ x' = .own j q off len) ∨ (ρ id path = none ∧ snap = true ∧ ∃ k l, x' = .isl k none l ∧ cont look k (.own id path off len) = some l ∧
      ((∃ nl m, look id = .row k nl m) ∨ ∃ v n m, look id = .var v ∧ getP v path = some (.ints k n m))) ∨
    (ρ id path = none ∧ snap = true ∧ path = [] ∧ ∃ t nl m, look id = .gro t nl m ∧ x' = mkRow t (cut len off m)) := by
  simp only [trA] at h
  cases hr : ρ id path with
  | some jq => obtain ⟨j, q⟩ := jq; simp only [hr, Option.some.injEq] at h; exact .inl ⟨j, q, rfl, h.symm⟩
  | none =>
    simp only [hr] at h
    obtain ⟨hs, h⟩ := cond_none h
    cases hl : look id with
    | rsv => simp [hl] at h
    | dead => simp [hl] at h
    | gro t nl m =>
      simp only [hl] at h
      cases path with
      | nil => simp only [Option.some.injEq] at h; exact .inr (.inr ⟨rfl, hs, rfl, t, nl, m, rfl, h.symm⟩)
      | cons a b => simp at h
    | row k nl m =>
      refine .inr (.inl ⟨rfl, hs, ?_⟩)
      simp only [hl] at h
      cases hc : cont look k (.own id path off len) with
      | none => simp [hc] at h
      | some l => simp only [hc, Option.some.injEq] at h; exact ⟨k, l, h.symm, hc, .inl ⟨nl, m, rfl⟩⟩
    | var v =>
      refine .inr (.inl ⟨rfl, hs, ?_⟩)
      simp only [hl] at h
      cases hg : getP v path with
      | none => simp [hg] at h
      | some y =>
        cases y <;> simp only [hg, reduceCtorEq] at h
        rename_i k n m
        cases hc : cont look k (.own id path off len) with
        | none => simp [hc] at h
        | some l => simp only [hc, Option.some.injEq] at h; exact ⟨k, l, h.symm, hc, .inr ⟨v, n, m, rfl, hg⟩⟩
theorem tr_ptr {look : Nat → Blk} {snap : Bool} {ρ : Ren} {id : Nat} {path : List Nat} {x' : AV} (h : trA look snap ρ (.ptr id path) = some x') :
    ∃ j q, ρ id path = some (j, q) ∧ x' = .ptr j q := by
  simp only [trA] at h
  cases hr : ρ id path with
  | some jq => obtain ⟨j, q⟩ := jq; simp only [hr, Option.some.injEq] at h; exact ⟨j, q, rfl, h.symm⟩
  | none => simp [hr] at h
theorem tr_asl {look : Nat → Blk} {snap : Bool} {ρ : Ren} {id n : Nat} {x' : AV} (h : trA look snap ρ (.asl id n) = some x') :
    snap = true ∧ ∃ l ll, look id = .var (.agg l) ∧ contL look .u8 l = some ll ∧ ll.length = n ∧ x' = .rsl .u8 ll ∧ ∀ i ∈ id :: refsL l, ρ i [] = none := by
  simp only [trA] at h
  obtain ⟨hs, h⟩ := cond_none h
  refine ⟨hs, ?_⟩
  split at h
  · rename_i l hl
    obtain ⟨ha, h⟩ := cond_none h
    split at h
    · rename_i ll hc
      obtain ⟨hb, h⟩ := cond_none h
      simp only [Option.some.injEq] at h
      refine ⟨l, ll, hl, hc, Nat.eq_of_beq_eq_true hb, h.symm, fun i hi => ?_⟩
      have := List.all_eq_true.1 ha i hi
      simpa using this
    · cases h
  · cases h
theorem trL_cons {look : Nat → Blk} {snap : Bool} {ρ : Ren} {v : AV} {l m : List AV} (h : trL look snap ρ (v :: l) = some m) :
    ∃ v' l', m = v' :: l' ∧ trA look snap ρ v = some v' ∧ trL look snap ρ l = some l' := by
  simp only [trL] at h
  cases h1 : trA look snap ρ v with
  | none => simp [h1] at h
  | some v' =>
    cases h2 : trL look snap ρ l with
    | none => simp [h1, h2] at h
    | some l' => simp only [h1, h2, Option.some.injEq] at h; exact ⟨v', l', h.symm, rfl, rfl⟩
theorem trL_nil {look : Nat → Blk} {snap : Bool} {ρ : Ren} {m : List AV} (h : trL look snap ρ [] = some m) : m = [] := by simpa [trL] using h.symm
theorem trA_agg {look : Nat → Blk} {snap : Bool} {ρ : Ren} {l : List AV} {x : AV} (h : trA look snap ρ (.agg l) = some x) : ∃ l', x = .agg l' ∧ trL look snap ρ l = some l' := by
  simp only [trA] at h
  cases h1 : trL look snap ρ l with
  | none => simp [h1] at h
  | some l' => simp only [h1, Option.some.injEq] at h; exact ⟨l', h.symm, rfl⟩
theorem trA_tup {look : Nat → Blk} {snap : Bool} {ρ : Ren} {l : List AV} {x : AV} (h : trA look snap ρ (.tup l) = some x) : ∃ l', x = .tup l' ∧ trL look snap ρ l = some l' := by
  simp only [trA] at h
  cases h1 : trL look snap ρ l with
  | none => simp [h1] at h
  | some l' => simp only [h1, Option.some.injEq] at h; exact ⟨l', h.symm, rfl⟩
theorem tr_flat {look : Nat → Blk} {snap : Bool} {ρ : Ren} {x x' : AV} (h : trA look snap ρ x = some x') (h1 : ∀ l, x ≠ .agg l) (h2 : ∀ l, x ≠ .tup l) (h3 : ∀ k n l, x ≠ .ints k n l) :
    (∀ l, x' ≠ .agg l) ∧ (∀ l, x' ≠ .tup l) ∧ (∀ k n l, x' ≠ .ints k n l) ∧ (x' = .dead ↔ x = .dead) := by
  cases x with
  | own a b d e =>
    rcases tr_own h with ⟨j, q, _, rfl⟩ | ⟨_, _, k, l, rfl, _⟩ | ⟨_, _, _, t, _, _, _, rfl⟩
    · simp
    · simp
    · cases t <;> simp [mkRow]
  | ptr a b => obtain ⟨j, q, _, rfl⟩ := tr_ptr h; simp
  | agg l => exact absurd rfl (h1 l)
  | tup l => exact absurd rfl (h2 l)
  | ints k n l => exact absurd rfl (h3 k n l)
  | capv a b => simp [trA] at h
  | ownx a b => simp [trA] at h
  | asl a b => obtain ⟨_, l, ll, _, _, _, rfl, _⟩ := tr_asl h; simp
  | _ => simp only [trA, Option.some.injEq] at h; subst h; simp
theorem Cells_flat {c : Cx} {x : AV} (h1 : ∀ l, x ≠ .agg l) (h3 : ∀ k n l, x ≠ .ints k n l) (cs : List Value) : Cells c x cs ↔ ∃ y, cs = [y] ∧ leaf c x y := by
  cases x with
  | agg l => exact absurd rfl (h1 l)
  | ints k n l => exact absurd rfl (h3 k n l)
  | _ => exact Iff.rfl
theorem Val_flat {c : Cx} {x : AV} (h1 : ∀ l, x ≠ .agg l) (h2 : ∀ l, x ≠ .tup l) (h3 : ∀ k n l, x ≠ .ints k n l) (h4 : x ≠ .dead) (y : Value) : Val c x y ↔ leaf c x y := by
  cases x with
  | agg l => exact absurd rfl (h1 l)
  | tup l => exact absurd rfl (h2 l)
  | ints k n l => exact absurd rfl (h3 k n l)
  | dead => exact absurd rfl h4
  | _ => exact Iff.rfl
theorem slf_agg {l : List AV} (h : slf (.agg l) = true) : slfL l = true := by simpa [slf] using h
theorem slf_tup {l : List AV} (h : slf (.tup l) = true) : slfL l = true := by simpa [slf] using h
theorem slfL_cons {v : AV} {l : List AV} (h : slfL (v :: l) = true) : slf v = true ∧ slfL l = true := by simpa [slfL] using h
mutual
theorem tr_Cells {c c' : Cx} {look : Nat → Blk} {snap : Bool} {ρ : Ren} (T : TrOk c c' look snap ρ) : ∀ (x x' : AV) (cs : List Value), (slf x = true ∨ RO c c') → trA look snap ρ x = some x' → Cells c x cs → Cells c' x' cs
  | .agg l, x', cs, hs, hx, g => by
    obtain ⟨l', rfl, hl⟩ := trA_agg hx
    exact tr_CellsL T l l' cs (hs.imp slf_agg id) hl g
  | .ints k n l, x', cs, _, hx, g => by
    simp only [trA, Option.some.injEq] at hx; subst hx; exact g
  | .dead, x', cs, hs, hx, ⟨y, e, g⟩ | .int .., x', cs, hs, hx, ⟨y, e, g⟩ | .bool _, x', cs, hs, hx, ⟨y, e, g⟩ | .str _, x', cs, hs, hx, ⟨y, e, g⟩ | .tup _, x', cs, hs, hx, ⟨y, e, g⟩ | .nils, x', cs, hs, hx, ⟨y, e, g⟩
  | .isl .., x', cs, hs, hx, ⟨y, e, g⟩ | .rsl .., x', cs, hs, hx, ⟨y, e, g⟩ | .own .., x', cs, hs, hx, ⟨y, e, g⟩ | .ptr .., x', cs, hs, hx, ⟨y, e, g⟩ | .rpi .., x', cs, hs, hx, ⟨y, e, g⟩ | .rps .., x', cs, hs, hx, ⟨y, e, g⟩ | .esl .., x', cs, hs, hx, ⟨y, e, g⟩ | .rpe .., x', cs, hs, hx, ⟨y, e, g⟩ | .capv .., x', cs, hs, hx, ⟨y, e, g⟩ | .ownx .., x', cs, hs, hx, ⟨y, e, g⟩ | .asl .., x', cs, hs, hx, ⟨y, e, g⟩ | .ige .., x', cs, hs, hx, ⟨y, e, g⟩ | .emp, x', cs, hs, hx, ⟨y, e, g⟩
  | .nilp, x', cs, hs, hx, ⟨y, e, g⟩ | .err _, x', cs, hs, hx, ⟨y, e, g⟩ | .glo _, x', cs, hs, hx, ⟨y, e, g⟩ | .fn _, x', cs, hs, hx, ⟨y, e, g⟩ | .gsl .., x', cs, hs, hx, ⟨y, e, g⟩ | .rpg .., x', cs, hs, hx, ⟨y, e, g⟩ | .cls .., x', cs, hs, hx, ⟨y, e, g⟩ => by
    subst e
    first
      | exact g.elim
      | (have hf := tr_flat hx (by simp) (by simp) (by simp)
         exact (Cells_flat hf.1 hf.2.2.1 _).2 ⟨y, rfl, tr_leaf T hs hx g⟩)
theorem tr_CellsL {c c' : Cx} {look : Nat → Blk} {snap : Bool} {ρ : Ren} (T : TrOk c c' look snap ρ) : ∀ (l l' : List AV) (cs : List Value), (slfL l = true ∨ RO c c') → trL look snap ρ l = some l' → CellsL c l cs → CellsL c' l' cs
  | [], l', cs, _, hx, g => by rw [trL_nil hx]; exact g
  | v :: l, l', cs, hs, hx, ⟨c1, c2, e, g1, g2⟩ => by
    obtain ⟨v', m, rfl, h1, h2⟩ := trL_cons hx
    exact ⟨c1, c2, e, tr_Cells T v v' c1 (hs.imp (fun h => (slfL_cons h).1) id) h1 g1, tr_CellsL T l m c2 (hs.imp (fun h => (slfL_cons h).2) id) h2 g2⟩
end
mutual
theorem tr_Val {c c' : Cx} {look : Nat → Blk} {snap : Bool} {ρ : Ren} (T : TrOk c c' look snap ρ) : ∀ (x x' : AV) (v : Value), (slf x = true ∨ RO c c') → trA look snap ρ x = some x' → Val c x v → Val c' x' v
  | .agg l, x', v, hs, hx, ⟨cs, g, e⟩ => by
    obtain ⟨l', rfl, hl⟩ := trA_agg hx
    exact ⟨cs, tr_CellsL T l l' cs (hs.imp slf_agg id) hl g, e⟩
  | .tup l, x', v, hs, hx, ⟨vs, g, e⟩ => by
    obtain ⟨l', rfl, hl⟩ := trA_tup hx
    exact ⟨vs, tr_ValL T l l' vs (hs.imp slf_tup id) hl g, e⟩
  | .ints k n l, x', v, _, hx, g => by
    simp only [trA, Option.some.injEq] at hx; subst hx; exact g
  | .dead, x', v, _, hx, _ => by
    simp only [trA, Option.some.injEq] at hx; subst hx; trivial
  | .int .., x', v, hs, hx, g | .bool _, x', v, hs, hx, g | .str _, x', v, hs, hx, g | .nils, x', v, hs, hx, g
  | .isl .., x', v, hs, hx, g | .rsl .., x', v, hs, hx, g | .own .., x', v, hs, hx, g | .ptr .., x', v, hs, hx, g | .rpi .., x', v, hs, hx, g | .rps .., x', v, hs, hx, g | .esl .., x', v, hs, hx, g | .rpe .., x', v, hs, hx, g | .capv .., x', v, hs, hx, g | .ownx .., x', v, hs, hx, g | .asl .., x', v, hs, hx, g | .ige .., x', v, hs, hx, g | .emp, x', v, hs, hx, g
  | .nilp, x', v, hs, hx, g | .err _, x', v, hs, hx, g | .glo _, x', v, hs, hx, g | .fn _, x', v, hs, hx, g | .gsl .., x', v, hs, hx, g | .rpg .., x', v, hs, hx, g | .cls .., x', v, hs, hx, g => by
    have hf := tr_flat hx (by simp) (by simp) (by simp)
    exact (Val_flat hf.1 hf.2.1 hf.2.2.1 (fun e => by have := hf.2.2.2.1 e; simp at this) v).2 (tr_leaf T hs hx g)
theorem tr_ValL {c c' : Cx} {look : Nat → Blk} {snap : Bool} {ρ : Ren} (T : TrOk c c' look snap ρ) : ∀ (l l' : List AV) (vs : List Value), (slfL l = true ∨ RO c c') → trL look snap ρ l = some l' → ValL c l vs → ValL c' l' vs
  | [], l', vs, _, hx, g => by rw [trL_nil hx]; exact g
  | v :: l, l', vs, hs, hx, ⟨y, r, e, g1, g2⟩ => by
    obtain ⟨v', m, rfl, h1, h2⟩ := trL_cons hx
    exact ⟨y, r, e, tr_Val T v v' y (hs.imp (fun h => (slfL_cons h).1) id) h1 g1, tr_ValL T l m r (hs.imp (fun h => (slfL_cons h).2) id) h2 g2⟩
end
mutual
theorem tr_sh {look : Nat → Blk} {snap : Bool} {ρ : Ren} : ∀ (x x' : AV), trA look snap ρ x = some x' → sh x' = sh x
  | .agg l, x', hx => by
    obtain ⟨l', rfl, hl⟩ := trA_agg hx
    simp only [sh, tr_shL l l' hl]
  | .tup l, x', hx => by
    obtain ⟨l', rfl, hl⟩ := trA_tup hx
    rfl
  | .capv .., x', hx | .ownx .., x', hx => by simp [trA] at hx
  | .own .., x', hx => by rcases tr_own hx with ⟨j, q, _, rfl⟩ | ⟨_, _, k, l, rfl, _⟩ | ⟨_, _, _, t, _, _, _, rfl⟩ <;> first | rfl | (cases t <;> rfl)
  | .ptr .., x', hx => by obtain ⟨j, q, _, rfl⟩ := tr_ptr hx; rfl
  | .asl .., x', hx => by obtain ⟨_, l, ll, _, _, _, rfl, _⟩ := tr_asl hx; rfl
  | .dead, x', hx | .int .., x', hx | .bool _, x', hx | .str _, x', hx | .nils, x', hx | .ints .., x', hx
  | .isl .., x', hx | .rsl .., x', hx | .rpi .., x', hx | .rps .., x', hx | .esl .., x', hx | .rpe .., x', hx | .ige .., x', hx | .emp, x', hx
  | .nilp, x', hx | .err _, x', hx | .glo _, x', hx | .fn _, x', hx | .gsl .., x', hx | .rpg .., x', hx | .cls .., x', hx => by simp only [trA, Option.some.injEq] at hx; subst hx; rfl
theorem tr_shL {look : Nat → Blk} {snap : Bool} {ρ : Ren} : ∀ (l l' : List AV), trL look snap ρ l = some l' → shL l' = shL l
  | [], l', hx => by rw [trL_nil hx]
  | v :: l, l', hx => by
    obtain ⟨v', m, rfl, h1, h2⟩ := trL_cons hx
    simp only [shL, tr_sh v v' h1, tr_shL l m h2]
end
theorem at_app : ∀ (p q : List Nat) (s t u : Sh) (o o' : Nat), Sh.at s p = some (o, t) → Sh.at t q = some (o', u) → Sh.at s (p ++ q) = some (o + o', u) := by
  intro p
  induction p with
  | nil =>
    intro q s t u o o' h1 h2
    have : o = 0 ∧ t = s := by cases s <;> simp_all [Sh.at]
    obtain ⟨rfl, rfl⟩ := this
    simpa using h2
  | cons i p ih =>
    intro q s t u o o' h1 h2
    cases s with
    | leaf => simp [Sh.at] at h1
    | ints n =>
      cases p with
      | cons j p => simp [Sh.at] at h1
      | nil =>
        simp only [Sh.at] at h1
        split at h1
        · rename_i hi
          simp only [Option.some.injEq, Prod.mk.injEq] at h1
          obtain ⟨rfl, rfl⟩ := h1
          cases q with
          | nil =>
            simp only [Sh.at, Option.some.injEq, Prod.mk.injEq] at h2
            obtain ⟨rfl, rfl⟩ := h2
            simp [Sh.at, hi]
          | cons j q => simp [Sh.at] at h2
        · simp at h1
    | agg l =>
      simp only [Sh.at] at h1
      cases hl : l[i]? with
      | none => simp [hl] at h1
      | some s' =>
        simp only [hl] at h1
        cases ha : Sh.at s' p with
        | none => simp [ha] at h1
        | some ot =>
          obtain ⟨o1, t1⟩ := ot
          simp only [ha, Option.some.injEq, Prod.mk.injEq] at h1
          obtain ⟨rfl, rfl⟩ := h1
          have := ih q s' t1 u o1 o' ha h2
          simp only [List.cons_append, Sh.at, hl, this, Option.some.injEq, Prod.mk.injEq, and_true]
          omega
theorem pathBeq_eq : ∀ {p q : List Nat}, pathBeq p q = true → p = q
  | [], [], _ => rfl
  | [], _ :: _, h => by simp [pathBeq] at h
  | _ :: _, [], h => by simp [pathBeq] at h
  | a :: l, b :: m, h => by
    simp only [pathBeq, Bool.and_eq_true] at h
    rw [Nat.eq_of_beq_eq_true h.1, pathBeq_eq h.2]
theorem memN_iff {n : Nat} : ∀ {l : List Nat}, memN n l = true ↔ n ∈ l
  | [] => by simp [memN]
  | m :: l => by simp [memN, memN_iff (l := l)]
theorem nodupN_iff : ∀ {l : List Nat}, nodupN l = true ↔ l.Nodup
  | [] => by simp [nodupN]
  | n :: l => by
    simp only [nodupN, Bool.and_eq_true, nodupN_iff (l := l), List.nodup_cons, Bool.not_eq_true']
    constructor
    · rintro ⟨h1, h2⟩
      exact ⟨fun h => by rw [memN_iff.2 h] at h1; simp at h1, h2⟩
    · rintro ⟨h1, h2⟩
      exact ⟨by cases h : memN n l; rfl; exact absurd (memN_iff.1 h) h1, h2⟩
theorem findE_some {id : Nat} {path : List Nat} : ∀ {E : List (Nat × List Nat)} {j0 j : Nat} {q : List Nat}, findE id path E j0 = some (j, q) → q = [] ∧ ∃ i, j = j0 + i ∧ E[i]? = some (id, path)
  | [], _, _, _, h => by simp [findE] at h
  | (i, p) :: l, j0, j, q, h => by
    simp only [findE] at h
    cases hb : (Nat.beq id i && pathBeq path p) with
    | true =>
      simp only [hb, cond_true, Option.some.injEq, Prod.mk.injEq] at h
      simp only [Bool.and_eq_true] at hb
      obtain ⟨rfl, rfl⟩ := h
      refine ⟨rfl, 0, rfl, ?_⟩
      simp [Nat.eq_of_beq_eq_true hb.1, pathBeq_eq hb.2]
    | false =>
      simp only [hb, cond_false] at h
      obtain ⟨h1, i', h2, h3⟩ := findE_some h
      exact ⟨h1, i' + 1, by omega, by simpa using h3⟩
def updOf : List (Nat × Blk) → Nat → Option Blk
  | [], _ => none
  | (i, b) :: us, id => match updOf us id with
    | some b' => some b'
    | none => if i = id then some b else none
theorem updOf_append (a b : List (Nat × Blk)) (id : Nat) : updOf (a ++ b) id = match updOf b id with | some x => some x | none => updOf a id := by
  induction a with
  | nil => cases h : updOf b id <;> simp [updOf, h]
  | cons x a ih =>
    obtain ⟨i, c⟩ := x
    simp only [List.cons_append, updOf, ih]
    cases h : updOf b id <;> simp
theorem updOf_kills (l : List Nat) (id : Nat) : updOf (kills l) id = if id ∈ l then some .dead else none := by
  induction l with
  | nil => simp [kills, updOf]
  | cons i l ih =>
    have ih' : updOf (List.map (fun id => (id, Blk.dead)) l) id = if id ∈ l then some .dead else none := ih
    simp only [kills, List.map_cons, updOf, ih', List.mem_cons]
    by_cases h1 : id ∈ l
    · simp [h1]
    · by_cases h2 : i = id
      · simp [h1, h2]
      · simp [h1, h2, Ne.symm h2]
theorem applyU_length : ∀ (us : List (Nat × Blk)) (h : List Blk), (applyU h us).length = h.length
  | [], _ => rfl
  | (i, b) :: us, h => by simp [applyU, applyU_length us]
theorem applyU_get : ∀ (us : List (Nat × Blk)) (h : List Blk) (id : Nat), (applyU h us)[id]? = match updOf us id with | some b => if id < h.length then some b else none | none => h[id]?
  | [], _, _ => rfl
  | (i, b) :: us, h, id => by
    simp only [applyU, applyU_get us, updOf, List.length_set]
    cases hu : updOf us id with
    | some b' => rfl
    | none =>
      by_cases hi : i = id
      · subst hi; simp [List.getElem?_set]
      · simp [hi]
mutual
theorem noRefs_tr {look : Nat → Blk} {ρ : Ren} : ∀ (v : AV), noRefs v = true → trA look false ρ v = some v
  | .agg l, h => by simp only [noRefs] at h; simp only [trA, noRefsL_tr l h]
  | .tup l, h => by simp only [noRefs] at h; simp only [trA, noRefsL_tr l h]
  | .own .., h => by simp [noRefs] at h
  | .ptr .., h => by simp [noRefs] at h
  | .capv .., h => by simp [noRefs] at h
  | .ownx .., h => by simp [noRefs] at h
  | .asl .., h => by simp [noRefs] at h
  | .dead, _ | .int .., _ | .bool _, _ | .str _, _ | .ints .., _ | .nils, _ | .isl .., _ | .rsl .., _ | .rpi .., _ | .rps .., _ | .esl .., _ | .rpe .., _ | .ige .., _ | .emp, _ | .nilp, _ | .err _, _ | .glo _, _ | .fn _, _ | .gsl .., _ | .rpg .., _ | .cls .., _ => by simp only [trA]
theorem noRefsL_tr {look : Nat → Blk} {ρ : Ren} : ∀ (l : List AV), noRefsL l = true → trL look false ρ l = some l
  | [], _ => by simp only [trL]
  | v :: l, h => by
    simp only [noRefsL, Bool.and_eq_true] at h
    simp only [trL, noRefs_tr v h.1, noRefsL_tr l h.2]
end
end Go.Ev
