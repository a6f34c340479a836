/- The evaluator's soundness, the first part: the state of a run. -/
import Derived.Test.YtllnbcibleeogaaDoorEvC
import Derived.Laws.World
import Derived.Laws.Sem
import Derived.Laws.Cells
namespace Go.Ev

/-! ### worlds further on -/

structure Step (A : Nat → Nat → Prop) (w w' : World) : Prop where
  os : w'.os = w.os
  tape : w'.tape = w.tape
  output : w'.output = w.output
  size : w.heap.size ≤ w'.heap.size
  blk : ∀ b, b < w.heap.size → w'.heap[b]? = w.heap[b]? ∨ ∃ c c' e f, w.heap[b]? = some (.cells c e f) ∧ w'.heap[b]? = some (.cells c' e f) ∧
    c'.size = c.size ∧ ∀ o, ¬ A b o → c'[o]? = c[o]?

theorem Step.refl (A : Nat → Nat → Prop) (w : World) : Step A w w := ⟨rfl, rfl, rfl, Nat.le_refl _, fun _ _ => .inl rfl⟩

theorem Step.trans {A : Nat → Nat → Prop} {u v w : World} (h : Step A u v) (k : Step A v w) : Step A u w := by
  refine ⟨k.os.trans h.os, k.tape.trans h.tape, k.output.trans h.output, Nat.le_trans h.size k.size, fun b hb => ?_⟩
  rcases h.blk b hb with h1 | ⟨c, c', e, f, h1, h2, h3, h4⟩
  · rcases k.blk b (Nat.lt_of_lt_of_le hb h.size) with k1 | ⟨c, c', e, f, k1, k2, k3, k4⟩
    · exact .inl (k1.trans h1)
    · exact .inr ⟨c, c', e, f, h1 ▸ k1, k2, k3, k4⟩
  · rcases k.blk b (Nat.lt_of_lt_of_le hb h.size) with k1 | ⟨d, d', e', f', k1, k2, k3, k4⟩
    · exact .inr ⟨c, c', e, f, h1, k1.trans h2, h3, h4⟩
    · rw [h2] at k1
      simp only [Option.some.injEq, Obj.cells.injEq] at k1
      obtain ⟨rfl, rfl, rfl⟩ := k1
      exact .inr ⟨c, d', e, f, h1, k2, k3.trans h3, fun o ho => (k4 o ho).trans (h4 o ho)⟩

theorem Step.mono {A B : Nat → Nat → Prop} {w w' : World} (h : Step A w w') (hb : ∀ b o, b < w.heap.size → A b o → B b o) : Step B w w' :=
  ⟨h.os, h.tape, h.output, h.size, fun b hlt => (h.blk b hlt).imp id fun ⟨c, c', e, f, h1, h2, h3, h4⟩ => ⟨c, c', e, f, h1, h2, h3, fun o ho => h4 o fun ha => ho (hb b o hlt ha)⟩⟩

theorem Step.alloc (A : Nat → Nat → Prop) (w : World) (o : Obj) : Step A w (w.alloc o) :=
  ⟨rfl, rfl, rfl, by simp, fun b hb => .inl (by show (w.heap.push o)[b]? = _; rw [Array.getElem?_push, if_neg (by omega)])⟩

theorem Step.drew (A : Nat → Nat → Prop) (w : World) (n : Nat) : Step A w { w with drawn := n } := ⟨rfl, rfl, rfl, Nat.le_refl _, fun _ _ => .inl rfl⟩

theorem Step.setCell {A : Nat → Nat → Prop} (w : World) (a : Addr) (v : Value) (h : A a.block a.off) : Step A w (w.setCell a v) := by
  refine ⟨rfl, rfl, rfl, by simp, fun b hb => ?_⟩
  simp only [World.setCell, Array.getElem?_modify]
  by_cases hab : a.block = b
  · subst hab
    simp only [if_true]
    cases hh : w.heap[a.block]? with
    | none => exact .inl rfl
    | some x =>
      cases x with
      | cells c e f =>
        refine .inr ⟨c, _, e, f, rfl, rfl, ?_, fun o ho => ?_⟩
        · split <;> simp
        · split
          · rfl
          · rw [Array.getElem?_setIfInBounds_ne]
            rintro rfl; exact ho h
      | _ => exact .inl rfl
  · rw [if_neg hab]; exact .inl rfl

theorem Step.cell {A : Nat → Nat → Prop} {w w' : World} (h : Step A w w') {b o : Nat} (hb : b < w.heap.size) (ho : ¬ A b o) : w'.cell? ⟨b, o, none⟩ = w.cell? ⟨b, o, none⟩ := by
  unfold World.cell?
  rcases h.blk b hb with h1 | ⟨c, c', e, f, h1, h2, h3, h4⟩
  · simp only [h1]
  · simp only [h1, h2]; simpa using h4 o ho

theorem Step.frozen {A : Nat → Nat → Prop} {w w' : World} (h : Step A w w') {b o : Nat} (hb : b < w.heap.size) : w'.frozen? ⟨b, o, none⟩ = w.frozen? ⟨b, o, none⟩ := by
  unfold World.frozen?
  rcases h.blk b hb with h1 | ⟨c, c', e, f, h1, h2, h3, h4⟩
  · simp only [h1]
  · simp only [h1, h2]

theorem Step.some {A : Nat → Nat → Prop} {w w' : World} (h : Step A w w') {b o : Nat} {x : Value} (hx : w.cell? ⟨b, o, none⟩ = some x) : ∃ y, w'.cell? ⟨b, o, none⟩ = some y := by
  have hb := World.block_lt_of_cell? w _ hx
  unfold World.cell? at hx ⊢
  rcases h.blk b hb with h1 | ⟨c, c', e, f, h1, h2, h3, h4⟩
  · exact ⟨x, by simpa only [h1] using hx⟩
  · simp only [h1] at hx
    simp only [h2]
    have : o < c.size := by
      rcases Nat.lt_or_ge o c.size with q | q
      · exact q
      · simp [Array.getElem?_eq_none q] at hx
    exact ⟨c'[o]'(by omega), by simp⟩

/-! ### the state -/

structure Fx where
  G : Gi
  eps : Nat → Value
  O : Nat → Nat → Prop
  pin : Nat → Nat → Prop
  w0 : World

def Fx.av (X : Fx) (S : List BSh) (L : List Loc) : Nat → Nat → Prop := fun b o => X.O b o ∨ own S L b o

def cx (X : Fx) (h : List Blk) (L : List Loc) (w : World) : Cx := ⟨X.eps, w, X.av (h.map Blk.sh) L, h.map Blk.sh, L⟩

def BlkOK (c : Cx) : Blk → Loc → Prop
  | .rsv, _ => True
  | .dead, _ => True
  | .var v, p => ∃ cs, Cells c v cs ∧ ∀ i (h : i < cs.length), c.w.cell? ⟨p.b, p.o + i, none⟩ = some cs[i] ∧ c.w.frozen? ⟨p.b, p.o + i, none⟩ = false
  | .row k nl l, p => NN k l ∧ (nl = true → l = []) ∧ (nl = false → l.length ≤ p.cap ∧ (∀ i (h : i < l.length), c.w.cell? ⟨p.b, p.o + i, none⟩ = some (.int k l[i])) ∧
      ∀ i, i < p.cap → (∃ x, c.w.cell? ⟨p.b, p.o + i, none⟩ = some x) ∧ c.w.frozen? ⟨p.b, p.o + i, none⟩ = false)

structure Inv (X : Fx) (h : List Blk) (L : List Loc) (w : World) : Prop where
  eok : X.eps 0 = .nilIface ∧ ∀ n, n ≠ 0 → ∃ T v, X.eps n = .iface T v
  len : L.length = h.length
  blk : ∀ (id : Nat) b p, h[id]? = some b → L[id]? = some p → BlkOK (cx X h L w) b p
  dis : ∀ (i j : Nat) s t p q b o, i ≠ j → (h.map Blk.sh)[i]? = some s → (h.map Blk.sh)[j]? = some t → L[i]? = some p → L[j]? = some q → s.owns p b o → t.owns q b o → False
  out : ∀ b o, own (h.map Blk.sh) L b o → ¬ X.O b o
  new : ∀ b o, own (h.map Blk.sh) L b o → X.w0.heap.size ≤ b ∨ X.pin b o
  obd : ∀ b o, X.O b o → b < X.w0.heap.size
  stp : Step X.pin X.w0 w
  glb : ∀ g v, X.G.gt g = some v → ∃ cs, Cells (cx X h L w) v cs ∧ ∀ i (hi : i < cs.length), w.cell? ⟨g, i, none⟩ = some cs[i] ∧ ¬ (cx X h L w).A g i

structure Rel (X : Fx) (st : St) (L : List Loc) (a : Act) (w : World) : Prop where
  inv : Inv X st.h L w
  tmp : st.t.length = a.tmps.size ∧ ∀ (i : Nat) v x, st.t[i]? = some v → a.tmps[i]? = some x → Val (cx X st.h L w) v x
  dfr : a.defers = []

/-! ### cells, places -/

mutual
theorem Cells_len {c : Cx} : ∀ (v : AV) (cs : List Value), Cells c v cs → cs.length = (sh v).len
  | .ints k n l, cs, ⟨h1, _, h2⟩ => by subst h2; simp [sh, Sh.len, h1]
  | .agg l, cs, h => by simpa [sh, Sh.len] using CellsL_len l cs h
  | .dead, _, ⟨y, e, g⟩ | .int .., _, ⟨y, e, g⟩ | .bool _, _, ⟨y, e, g⟩ | .str _, _, ⟨y, e, g⟩ | .tup _, _, ⟨y, e, g⟩ | .nils, _, ⟨y, e, g⟩ | .isl .., _, ⟨y, e, g⟩
  | .rsl .., _, ⟨y, e, g⟩ | .own .., _, ⟨y, e, g⟩ | .ptr .., _, ⟨y, e, g⟩ | .rpi .., _, ⟨y, e, g⟩ | .rps .., _, ⟨y, e, g⟩ | .nilp, _, ⟨y, e, g⟩ | .err _, _, ⟨y, e, g⟩
  | .glo _, _, ⟨y, e, g⟩ | .fn _, _, ⟨y, e, g⟩ => by subst e; rfl
theorem CellsL_len {c : Cx} : ∀ (l : List AV) (cs : List Value), CellsL c l cs → cs.length = Sh.lenL (shL l)
  | [], cs, h => by simp only [CellsL] at h; subst h; rfl
  | v :: l, cs, ⟨c1, c2, e, g1, g2⟩ => by subst e; simp [shL, Sh.lenL, Cells_len v c1 g1, CellsL_len l c2 g2]
end

theorem shL_eq (l : List AV) : shL l = l.map sh := by
  induction l with
  | nil => rfl
  | cons v l ih => simp [shL, ih]

theorem lenL_append (l m : List Sh) : Sh.lenL (l ++ m) = Sh.lenL l + Sh.lenL m := by
  induction l with
  | nil => simp [Sh.lenL]
  | cons a l ih => simp [Sh.lenL, ih]; omega

theorem CellsL_append {c : Cx} (l m : List AV) (cs : List Value) : CellsL c (l ++ m) cs ↔ ∃ c1 c2, cs = c1 ++ c2 ∧ CellsL c l c1 ∧ CellsL c m c2 := by
  induction l generalizing cs with
  | nil =>
    simp only [List.nil_append, CellsL]
    exact ⟨fun h => ⟨[], cs, rfl, rfl, h⟩, fun ⟨c1, c2, e, e1, h⟩ => by subst e1; subst e; exact h⟩
  | cons v l ih =>
    simp only [List.cons_append, CellsL, ih]
    constructor
    · rintro ⟨c1, _, rfl, h1, c2, c3, rfl, h2, h3⟩
      exact ⟨c1 ++ c2, c3, by simp, ⟨c1, c2, rfl, h1, h2⟩, h3⟩
    · rintro ⟨_, c3, rfl, ⟨c1, c2, rfl, h1, h2⟩, h3⟩
      exact ⟨c1, c2 ++ c3, by simp, h1, c2, c3, rfl, h2, h3⟩

theorem list_split {α : Type} (l : List α) (i : Nat) (v : α) (h : l[i]? = some v) : l = l.take i ++ v :: l.drop (i + 1) ∧ i < l.length := by
  have hi : i < l.length := by
    rcases Nat.lt_or_ge i l.length with q | q
    · exact q
    · simp [List.getElem?_eq_none q] at h
  refine ⟨?_, hi⟩
  have : v = l[i] := by simpa [List.getElem?_eq_getElem hi] using h.symm
  subst this
  simp

theorem list_set_split {α : Type} (l : List α) (i : Nat) (v : α) (h : i < l.length) : l.set i v = l.take i ++ v :: l.drop (i + 1) := by
  rw [List.set_eq_take_append_cons_drop, if_pos h]

/-- What lies at a place: ahead of it, it, behind it; and what it is when another thing of its shape is laid there. -/
theorem Cells_at {c : Cx} : ∀ (p : List Nat) (v x : AV) (cs : List Value) (o : Nat) (s : Sh), Cells c v cs → getP v p = some x → Sh.at (sh v) p = some (o, s) →
    ∃ pre cx post, cs = pre ++ cx ++ post ∧ pre.length = o ∧ Cells c x cx ∧ sh x = s ∧
      ∀ y cy v', Cells c y cy → sh y = s → setP v p y = some v' → kindOk v p y = true → Cells c v' (pre ++ cy ++ post) ∧ sh v' = sh v := by
  intro p
  induction p with
  | nil =>
    intro v x cs o s hc hg hs
    have h1 : x = v := by cases v <;> simp_all [getP]
    have h2 : o = 0 ∧ s = sh v := by cases hv : sh v <;> simp_all [Sh.at]
    obtain ⟨rfl, rfl⟩ := h2
    subst h1
    refine ⟨[], cs, [], by simp, rfl, hc, rfl, fun y cy v' hy hs' hset _ => ?_⟩
    have : v' = y := by cases x <;> simp_all [setP]
    subst this
    exact ⟨by simpa using hy, hs'⟩
  | cons i p ih =>
    intro v x cs o s hc hg hs
    cases v with
    | ints k n l =>
      cases p with
      | cons j p => simp [getP] at hg
      | nil =>
        simp only [getP, Option.some.injEq] at hg
        simp only [sh, Sh.at] at hs
        split at hs
        · rename_i hi
          simp only [Option.some.injEq, Prod.mk.injEq] at hs
          obtain ⟨rfl, rfl⟩ := hs
          subst hg
          obtain ⟨hl, hn, rfl⟩ := hc
          have hil : i < l.length := by omega
          have hx : l.getD i 0 = l[i] := by simp [List.getD, List.getElem?_eq_getElem hil]
          refine ⟨(l.take i).map (Value.int k), [.int k (l.getD i 0)], (l.drop (i + 1)).map (Value.int k), ?_, by simp; omega, ⟨_, rfl, rfl, fun hk y hy => ?_⟩, rfl, ?_⟩
          · rw [hx]
            have := (list_split (l.map (Value.int k)) i (Value.int k l[i]) (by simp [List.getElem?_eq_getElem hil])).1
            simpa using this
          · rw [List.mem_singleton] at hy; subst hy; rw [hx]; exact hn hk _ (List.getElem_mem hil)
          · intro y cy v' hy hsy hset hk
            cases y <;> simp only [setP, reduceCtorEq, Option.some.injEq] at hset
            rename_i k' z
            subst hset
            obtain ⟨yv, rfl, rfl, hz⟩ := hy
            simp only [kindOk, AV.intK, decide_eq_true_eq] at hk
            subst hk
            refine ⟨⟨by simp [hl], fun hks y hy => ?_, ?_⟩, by simp [sh]⟩
            · rw [list_set_split l i z hil] at hy
              simp only [List.mem_append, List.mem_cons] at hy
              rcases hy with hy | rfl | hy
              · exact hn hks _ (List.mem_of_mem_take hy)
              · exact hz hks _ (by simp)
              · exact hn hks _ (List.mem_of_mem_drop hy)
            · rw [list_set_split l i z hil]; simp
        · simp at hs
    | agg l =>
      simp only [getP] at hg
      simp only [sh, Sh.at, shL_eq, List.getElem?_map] at hs
      cases hv : l[i]? with
      | none => simp [hv] at hg
      | some v0 =>
        simp only [hv] at hg
        simp only [hv, Option.map_some] at hs
        cases hat : Sh.at (sh v0) p with
        | none => simp [hat] at hs
        | some os =>
          obtain ⟨o', s'⟩ := os
          simp only [hat, Option.some.injEq, Prod.mk.injEq] at hs
          obtain ⟨rfl, rfl⟩ := hs
          obtain ⟨hl, hi⟩ := list_split l i v0 hv
          have hc' : CellsL c (l.take i ++ v0 :: l.drop (i + 1)) cs := by rw [← hl]; exact hc
          rw [CellsL_append] at hc'
          obtain ⟨c1, c2, rfl, g1, c3, c4, rfl, g2, g3⟩ := hc'
          obtain ⟨pre, cx, post, rfl, hpre, hx, hsx, hset⟩ := ih v0 x c3 o' s' g2 hg hat
          refine ⟨c1 ++ pre, cx, post ++ c4, by simp, ?_, hx, hsx, ?_⟩
          · have := CellsL_len _ _ g1
            rw [shL_eq, List.map_take] at this
            simp [this, hpre]
          · intro y cy v' hy hsy hset' hk
            simp only [setP, hv] at hset'
            cases hq : setP v0 p y with
            | none => simp [hq] at hset'
            | some v1 =>
              simp only [hq, Option.some.injEq] at hset'
              subst hset'
              simp only [kindOk, hv] at hk
              obtain ⟨r1, r2⟩ := hset y cy v1 hy hsy hq hk
              constructor
              · show CellsL c (l.set i v1) _
                rw [list_set_split l i v1 hi, CellsL_append]
                exact ⟨c1, pre ++ cy ++ post ++ c4, by simp, g1, _, _, by simp, r1, g3⟩
              · simp only [sh, shL_eq, Sh.agg.injEq]
                rw [List.map_set, r2]
                apply List.ext_getElem?
                intro j
                by_cases hj : i = j
                · subst hj
                  have : l[i] = v0 := by simpa [List.getElem?_eq_getElem hi] using hv
                  simp [hi, this]
                · simp [List.getElem?_set_ne hj]
    | _ => simp [getP] at hg

end Go.Ev
