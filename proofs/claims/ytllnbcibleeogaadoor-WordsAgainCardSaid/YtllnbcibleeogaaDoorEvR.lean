/- The evaluator's soundness: a function's contract; a call. -/
import Derived.Test.YtllnbcibleeogaaDoorEvQ
namespace Go.Ev

def KeepV (bs bs' : List Blk) (L L' : List Loc) : Prop := ∀ (i : Nat) v, bs[i]? = some (.var v) → ∃ v', bs'[i]? = some (.var v') ∧ sh v' = sh v ∧ L'[i]? = L[i]?

/-- How a call comes back. -/
def Back (X : Fx) (bs : List Blk) (L : List Loc) (v : AV) (bs' : List Blk) : Ending → World → Prop
  | .returned cv, w' => ∃ L', Inv X bs' L' w' ∧ KeepV bs bs' L L' ∧ Val (cx X bs' L' w') v cv
  | .outgrown, _ => False
  | .panicked _, _ => False

def SoundC (P : Program) (gt : Nat → Option AV) (f : Nat) (C : Con) : Prop :=
  ∀ (R : Type) (args : List AV) (bs : List Blk) (κ : AV → List Blk → Option R) (r : R), C R args bs κ = some r → ∃ v bs', κ v bs' = some r ∧
    ∀ (X : Fx) (L : List Loc) (w : World) (cargs : Array Value), X.G.P = P → X.G.gt = gt → X.w0 = w → (∀ b o, X.pin b o ↔ own (bs.map Blk.sh) L b o) → Inv X bs L w →
      All2 (Val (cx X bs L w)) args cargs.toList → Calls P f cargs w (Back X bs L v bs')

structure GOk (G : Gi) : Prop where
  gtr : ∀ g v, G.gt g = some v → trA noLook false (fun _ _ => none) v = some v
  con : ∀ f C, G.con f = some C → SoundC G.P G.gt f C ∧ ∃ fn, G.P.funcs[f]? = some fn ∧ (fn.name == "runtime.NumGoroutine") = false ∧ fn.body.isNone = false

/-! ### what a call hands on -/

theorem entBlks_get {look lookS : Nat → Blk} {ρ : Ren} : ∀ {E : List (Nat × List Nat)} {bs : List Blk}, entBlks look lookS ρ E = some bs → bs.length = E.length ∧
    ∀ (j : Nat) e, E[j]? = some e → ∃ b, bs[j]? = some b ∧ ((∃ v x x', look e.1 = .var v ∧ getP v e.2 = some x ∧ trA lookS true ρ x = some x' ∧ b = .var x') ∨ (∃ k nl r, look e.1 = .row k nl r ∧ e.2 = [] ∧ b = .row k nl r))
  | [], bs, h => by simp only [entBlks, Option.some.injEq] at h; subst h; simp
  | (id, path) :: l, bs, h => by
    simp only [entBlks] at h
    cases h1 : entBlks look lookS ρ l with
    | none => simp [h1] at h
    | some bs1 =>
      simp only [h1] at h
      obtain ⟨q1, q2⟩ := entBlks_get h1
      have fin : ∀ b, bs = b :: bs1 → ((∃ v x x', look id = .var v ∧ getP v path = some x ∧ trA lookS true ρ x = some x' ∧ b = .var x') ∨ (∃ k nl r, look id = .row k nl r ∧ path = [] ∧ b = .row k nl r)) →
          bs.length = ((id, path) :: l).length ∧ ∀ (j : Nat) e, ((id, path) :: l)[j]? = some e → ∃ b, bs[j]? = some b ∧ ((∃ v x x', look e.1 = .var v ∧ getP v e.2 = some x ∧ trA lookS true ρ x = some x' ∧ b = .var x') ∨ (∃ k nl r, look e.1 = .row k nl r ∧ e.2 = [] ∧ b = .row k nl r)) := by
        rintro b rfl hb
        refine ⟨by simp [q1], fun j e he => ?_⟩
        cases j with
        | zero => simp at he; subst he; exact ⟨b, rfl, hb⟩
        | succ j => simpa using q2 j e (by simpa using he)
      cases hl : look id with
      | rsv => simp [hl] at h
      | dead => simp [hl] at h
      | row k nl r =>
        simp only [hl] at h
        cases path with
        | nil => simp only [Option.some.injEq] at h; exact fin _ h.symm (.inr ⟨k, nl, r, hl, rfl, rfl⟩)
        | cons a p => simp at h
      | var v =>
        simp only [hl] at h
        cases hg : getP v path with
        | none => simp [hg] at h
        | some x =>
          simp only [hg] at h
          cases ht : trA lookS true ρ x with
          | none => simp [ht] at h
          | some x' => simp only [ht, Option.some.injEq] at h; exact fin _ h.symm (.inl ⟨v, x, x', hl, hg, ht, rfl⟩)

theorem rowIds_nil : (∀ (v : AV), ∀ e ∈ rowIds v, e.2 = []) ∧ ∀ (l : List AV), ∀ e ∈ rowIdsL l, e.2 = [] := by
  have hL : ∀ (l : List AV), (∀ v ∈ l, ∀ e ∈ rowIds v, e.2 = []) → ∀ e ∈ rowIdsL l, e.2 = [] := by
    intro l
    induction l with
    | nil => intro _ e he; simp [rowIdsL] at he
    | cons v l ih =>
      intro h e he
      simp only [rowIdsL, List.mem_append] at he
      rcases he with he | he
      · exact h v (by simp) e he
      · exact ih (fun v hv => h v (by simp [hv])) e he
  have hV : ∀ (v : AV), ∀ e ∈ rowIds v, e.2 = [] := by
    intro v
    induction v using AV.rec (motive_2 := fun l => ∀ v ∈ l, ∀ e ∈ rowIds v, e.2 = []) with
    | agg l ih => intro e he; simp only [rowIds] at he; exact hL l ih e he
    | own id path off len =>
      intro e he
      cases path with
      | nil => simp only [rowIds, List.mem_singleton] at he; subst he; rfl
      | cons a p => simp [rowIds] at he
    | nil => rename_i x hx e he; simp at hx
    | cons v l h1 h2 => rename_i x hx e he; simp only [List.mem_cons] at hx; rcases hx with rfl | hx; exact h1 e he; exact h2 x hx e he
    | _ => intro e he; simp [rowIds] at he
  exact ⟨hV, fun l => hL l fun v _ => hV v⟩

theorem entRows_nil {look : Nat → Blk} : ∀ (E : List (Nat × List Nat)), ∀ e ∈ entRows look E, e.2 = []
  | [], e, h => by simp [entRows] at h
  | (id, path) :: l, e, h => by
    simp only [entRows, List.mem_append] at h
    rcases h with h | h
    · split at h
      · split at h
        · exact rowIds_nil.1 _ e h
        · simp at h
      · simp at h
    · exact entRows_nil l e h

theorem ptrs_mem : ∀ {l : List AV} {e : Nat × List Nat}, e ∈ ptrs l → AV.ptr e.1 e.2 ∈ l
  | [], e, h => by simp [ptrs] at h
  | v :: l, e, h => by
    cases v with
    | ptr id path =>
      simp only [ptrs, List.mem_cons] at h
      rcases h with rfl | h
      · simp
      · simp [ptrs_mem h]
    | _ => simp only [ptrs] at h; simp [ptrs_mem h]

theorem All2_mem {α β : Type} {r : α → β → Prop} : ∀ {l : List α} {m : List β}, All2 r l m → ∀ x ∈ l, ∃ y ∈ m, r x y
  | [], [], _, x, hx => by simp at hx
  | a :: l, b :: m, ⟨h1, h2⟩, x, hx => by
    simp only [List.mem_cons] at hx
    rcases hx with rfl | hx
    · exact ⟨b, by simp, h1⟩
    · obtain ⟨y, hy, h⟩ := All2_mem h2 x hx; exact ⟨y, by simp [hy], h⟩
  | [], _ :: _, h, _, _ => h.elim
  | _ :: _, [], h, _, _ => h.elim

theorem newBlks_upd {ρ : Ren} : ∀ {bs : List Blk} {nid : Nat} {ns : List (Nat × Blk)}, newBlks ρ nid bs = some ns → ns.length = bs.length ∧
    ∀ id, (nid ≤ id ∧ id < nid + bs.length → ∃ b b', bs[id - nid]? = some b ∧ trB noLook false ρ b = some b' ∧ updOf ns id = some b') ∧ (¬(nid ≤ id ∧ id < nid + bs.length) → updOf ns id = none)
  | [], nid, ns, h => by simp only [newBlks, Option.some.injEq] at h; subst h; exact ⟨rfl, fun id => ⟨fun h => by simp at h; omega, fun _ => rfl⟩⟩
  | b :: bs, nid, ns, h => by
    simp only [newBlks] at h
    cases h1 : trB noLook false ρ b with
    | none => simp [h1] at h
    | some b' =>
      cases h2 : newBlks ρ (nid + 1) bs with
      | none => simp [h1, h2] at h
      | some us =>
        simp only [h1, h2, Option.some.injEq] at h
        subst h
        obtain ⟨q1, q2⟩ := newBlks_upd h2
        refine ⟨by simp [q1], fun id => ⟨fun hid => ?_, fun hid => ?_⟩⟩
        · simp only [List.length_cons] at hid
          by_cases he : id = nid
          · subst he
            refine ⟨b, b', by simp, h1, ?_⟩
            simp only [updOf]
            rw [(q2 id).2 (by omega)]
            simp
          · obtain ⟨c, c', r1, r2, r3⟩ := (q2 id).1 (by omega)
            refine ⟨c, c', ?_, r2, by simp only [updOf, r3]⟩
            rw [show id - nid = (id - (nid + 1)) + 1 by omega]
            simpa using r1
        · simp only [List.length_cons] at hid
          simp only [updOf]
          rw [(q2 id).2 (by omega), if_neg (by omega)]

theorem backBlks_upd {look : Nat → Blk} {ρ : Ren} : ∀ {E : List (Nat × List Nat)} {bl : List Blk} {us : List (Nat × Blk)}, backBlks look ρ E bl = some us → (E.map (·.1)).Nodup →
    (∀ (j : Nat) e, E[j]? = some e → ∃ v x x' v', look e.1 = .var v ∧ bl[j]? = some (.var x) ∧ trA noLook false ρ x = some x' ∧ setP v e.2 x' = some v' ∧ kindOk v e.2 x' = true ∧ updOf us e.1 = some (.var v')) ∧
    ∀ id, id ∉ E.map (·.1) → updOf us id = none
  | [], bl, us, h, _ => by simp only [backBlks, Option.some.injEq] at h; subst h; exact ⟨fun j e he => by simp at he, fun _ _ => rfl⟩
  | (id, path) :: l, [], us, h, _ => by simp [backBlks] at h
  | (id, path) :: l, b :: bl, us, h, hnd => by
    simp only [backBlks] at h
    simp only [List.map_cons, List.nodup_cons] at hnd
    cases h1 : backBlks look ρ l bl with
    | none => simp [h1] at h
    | some us1 =>
      simp only [h1] at h
      obtain ⟨q1, q2⟩ := backBlks_upd h1 hnd.2
      cases hl : look id with
      | rsv => simp [hl] at h
      | dead => simp [hl] at h
      | row k nl r => simp [hl] at h
      | var v =>
        cases b with
        | rsv => simp [hl] at h
        | dead => simp [hl] at h
        | row k nl r => simp [hl] at h
        | var x =>
          simp only [hl] at h
          cases ht : trA noLook false ρ x with
          | none => simp [ht] at h
          | some x' =>
            simp only [ht] at h
            cases hs : setP v path x' with
            | none => simp [hs] at h
            | some v' =>
              simp only [hs] at h
              obtain ⟨hk, h⟩ := cond_none h
              simp only [Bool.and_eq_true] at hk
              simp only [Option.some.injEq] at h
              subst h
              refine ⟨fun j e he => ?_, fun i hi => ?_⟩
              · cases j with
                | zero =>
                  simp only [List.getElem?_cons_zero, Option.some.injEq] at he
                  subst he
                  refine ⟨v, x, x', v', hl, rfl, ht, hs, hk.2, ?_⟩
                  simp only [updOf]
                  rw [q2 id hnd.1]
                  simp
                | succ j =>
                  simp only [List.getElem?_cons_succ] at he
                  obtain ⟨v1, x1, x1', v1', r1, r2, r3, r4, r5, r6⟩ := q1 j e he
                  exact ⟨v1, x1, x1', v1', r1, by simpa using r2, r3, r4, r5, by simp only [updOf, r6]⟩
              · simp only [List.map_cons, List.mem_cons, not_or] at hi
                simp only [updOf]
                rw [q2 i hi.2]
                simp [Ne.symm hi.1]

/-! ### shapes -/

theorem lenL_take_get (l : List Sh) (i : Nat) (s : Sh) (h : l[i]? = some s) : Sh.lenL (l.take i) + s.len ≤ Sh.lenL l := by
  obtain ⟨e, _⟩ := list_split l i s h
  have : Sh.lenL l = Sh.lenL (l.take i ++ s :: l.drop (i + 1)) := by rw [← e]
  rw [this, lenL_append]
  simp only [Sh.lenL]
  omega

theorem at_len : ∀ (p : List Nat) (s t : Sh) (o : Nat), Sh.at s p = some (o, t) → o + t.len ≤ s.len
  | [], s, t, o, h => by
    have : o = 0 ∧ t = s := by cases s <;> simp_all [Sh.at]
    obtain ⟨rfl, rfl⟩ := this; omega
  | i :: p, s, t, o, h => by
    cases s with
    | leaf => simp [Sh.at] at h
    | ints n =>
      cases p with
      | cons j p => simp [Sh.at] at h
      | nil =>
        simp only [Sh.at] at h
        split at h
        · simp only [Option.some.injEq, Prod.mk.injEq] at h
          obtain ⟨rfl, rfl⟩ := h
          simp only [Sh.len]; omega
        · simp at h
    | agg l =>
      simp only [Sh.at] at h
      cases hl : l[i]? with
      | none => simp [hl] at h
      | some s' =>
        simp only [hl] at h
        cases ha : Sh.at s' p with
        | none => simp [ha] at h
        | some ot =>
          obtain ⟨o1, t1⟩ := ot
          simp only [ha, Option.some.injEq, Prod.mk.injEq] at h
          obtain ⟨rfl, rfl⟩ := h
          have h1 := at_len p s' t1 o1 ha
          have h2 := lenL_take_get l i s' hl
          simp only [Sh.len]; omega

theorem setP_sh : ∀ (p : List Nat) (v y v' : AV) (o : Nat) (s : Sh), setP v p y = some v' → Sh.at (sh v) p = some (o, s) → sh y = s → sh v' = sh v
  | [], v, y, v', o, s, h, ha, hy => by
    have e1 : v' = y := by cases v <;> simp_all [setP]
    have e2 : s = sh v := by cases hv : sh v <;> simp_all [Sh.at]
    rw [e1, hy, e2]
  | i :: p, v, y, v', o, s, h, ha, hy => by
    cases v with
    | ints k n l =>
      cases p with
      | cons j p => simp [setP] at h
      | nil =>
        cases y <;> simp only [setP, reduceCtorEq, Option.some.injEq] at h
        subst h; simp [sh]
    | agg l =>
      simp only [setP] at h
      cases hl : l[i]? with
      | none => simp [hl] at h
      | some v0 =>
        simp only [hl] at h
        cases hq : setP v0 p y with
        | none => simp [hq] at h
        | some v1 =>
          simp only [hq, Option.some.injEq] at h
          subst h
          simp only [sh, Sh.at, shL_eq, List.getElem?_map, hl, Option.map_some] at ha
          cases hat : Sh.at (sh v0) p with
          | none => simp [hat] at ha
          | some os =>
            obtain ⟨o1, s1⟩ := os
            simp only [hat, Option.some.injEq, Prod.mk.injEq] at ha
            obtain ⟨rfl, rfl⟩ := ha
            have := setP_sh p v0 y v1 o1 s1 hq hat hy
            simp only [sh, shL_eq, Sh.agg.injEq]
            rw [List.map_set, this]
            exact list_set_self _ _ _ (by simp [hl])
    | _ => simp [setP] at h

/-! ### whose a cell is -/

def Own1 (h : List Blk) (L : List Loc) (id b o : Nat) : Prop := ∃ s p, (h.map Blk.sh)[id]? = some s ∧ L[id]? = some p ∧ s.owns p b o

theorem Own1.own {h : List Blk} {L : List Loc} {id b o : Nat} (g : Own1 h L id b o) : Ev.own (h.map Blk.sh) L b o := by
  obtain ⟨s, p, h1, h2, h3⟩ := g; exact ⟨id, s, p, h1, h2, h3⟩

theorem Own1.unique {X : Fx} {h : List Blk} {L : List Loc} {w : World} (I : Inv X h L w) {i j b o : Nat} (hi : Own1 h L i b o) (hj : Own1 h L j b o) : i = j := by
  obtain ⟨s, p, h1, h2, h3⟩ := hi
  obtain ⟨t, q, g1, g2, g3⟩ := hj
  rcases Nat.decEq i j with hne | rfl
  · exact (I.dis i j s t p q b o hne h1 g1 h2 g2 h3 g3).elim
  · rfl

theorem shAt {h : List Blk} {id : Nat} {b : Blk} (hb : h[id]? = some b) : (h.map Blk.sh)[id]? = some b.sh := by simp [hb]

theorem shAt' {h : List Blk} {id : Nat} {s : BSh} (hb : (h.map Blk.sh)[id]? = some s) : ∃ b, h[id]? = some b ∧ b.sh = s := by
  rw [List.getElem?_map] at hb
  cases e : h[id]? with
  | none => simp [e] at hb
  | some b => simp only [e, Option.map_some, Option.some.injEq] at hb; exact ⟨b, rfl, hb⟩

theorem BlkOK.tr {c c' : Cx} {look : Nat → Blk} {snap : Bool} {ρ : Ren} (T : TrOk c c' look snap ρ) (hw : c'.w = c.w) {b b' : Blk} {p : Loc} (hs : slfB b = true ∨ RO c c')
    (ht : trB look snap ρ b = some b') (h : BlkOK c b p) : BlkOK c' b' p := by
  cases b with
  | var v =>
    simp only [trB] at ht
    cases h1 : trA look snap ρ v with
    | none => simp [h1] at ht
    | some v' =>
      simp only [h1, Option.some.injEq] at ht
      subst ht
      obtain ⟨cs, g1, g2⟩ := h
      exact ⟨cs, tr_Cells T v v' cs (hs.imp (fun h => h) id) h1 g1, by rw [hw]; exact g2⟩
  | row k nl l => simp only [trB, Option.some.injEq] at ht; subst ht; simp only [BlkOK] at h ⊢; rw [hw]; exact h
  | rsv => simp only [trB, Option.some.injEq] at ht; subst ht; trivial
  | dead => simp only [trB, Option.some.injEq] at ht; subst ht; trivial

theorem trB_sh {look : Nat → Blk} {snap : Bool} {ρ : Ren} {b b' : Blk} (ht : trB look snap ρ b = some b') : b'.sh = b.sh := by
  cases b with
  | var v =>
    simp only [trB] at ht
    cases h1 : trA look snap ρ v with
    | none => simp [h1] at ht
    | some v' =>
      simp only [h1, Option.some.injEq] at ht
      subst ht
      simp only [Blk.sh, tr_sh v v' h1]
  | _ => simp only [trB, Option.some.injEq] at ht; subst ht; rfl

/-- A slice as it reads now. -/
theorem snap_ok {X : Fx} {h : List Blk} {L : List Loc} {w : World} (I : Inv X h L w) {look : Nat → Blk} (hl : lookOk look h) {k : IntKind} {id off : Nat} {path : List Nat} {len : Option Nat} {l : List Int} {x : Value}
    (hc : cont look k (.own id path off len) = some l) (hsrc : (∃ nl m, look id = .row k nl m) ∨ ∃ v n m, look id = .var v ∧ getP v path = some (.ints k n m))
    (hv : Val (cx X h L w) (.own id path off len) x) (A : Nat → Nat → Prop) (hA : ∀ b o, Own1 h L id b o → ¬ A b o) : IsSl w A k none l x := by
  obtain ⟨hn, a, cap, hx, h2, h3, h4⟩ := cont_run hc X h L w x I hl hv
  rcases hsrc with ⟨nl, m, hb⟩ | ⟨v, n, m, hb, hg⟩
  · have hb := hl.get hb (by simp)
    have hp0 : path = [] := by
      have hv' := (Val_leaf rfl (by simp) (by simp)).1 hv
      obtain ⟨p, hp⟩ := I.loc hb
      have hL : (cx X h L w).L[id]? = some p := hp
      simp only [leaf, cx_S hb, Blk.sh, hL] at hv'
      exact hv'.1
    subst hp0
    obtain ⟨p, hp, q1, q2, q3⟩ := own_row I hb hv
    cases nl with
    | true =>
      obtain ⟨e, hm⟩ := q2 rfl
      rw [hx] at e
      simp only [Value.slice.injEq] at e
      obtain ⟨e1, e2, e3⟩ := e
      have : l = [] := List.length_eq_zero_iff.1 e2
      exact ⟨hn, a, cap, hx, h2, fun b hb => (by cases hb), fun _ => ⟨this, e3⟩, fun p hp => by rw [e1] at hp; cases hp⟩
    | false =>
      obtain ⟨q, e, hq, hq2⟩ := q3 rfl
      rw [hx] at e
      simp only [Value.slice.injEq] at e
      obtain ⟨rfl, e2, e3⟩ := e
      refine ⟨hn, _, cap, hx, h2, fun b hb => (by cases hb), fun e => (by cases e), fun p' hp' => ?_⟩
      simp only [Option.some.injEq] at hp'
      subst hp'
      refine ⟨hq.2, fun i hi => ⟨(h4 q rfl i hi).2, hA _ _ ?_⟩⟩
      obtain ⟨g1, g2, g3⟩ := I.blk id _ p hb hp
      have := (g3 rfl).1
      have hlt : off < p.cap := by omega
      have := hq2 hlt
      subst this
      exact ⟨_, p, shAt hb, hp, rfl, rfl, by simp; omega, by simp; omega⟩
  · have hb := hl.get hb (by simp)
    obtain ⟨p, o, hp, hat, q1, q2, q3, ⟨q, e, hq, hq2⟩, _⟩ := own_arr I hb hg hv
    rw [hx] at e
    simp only [Value.slice.injEq] at e
    obtain ⟨rfl, e2, e3⟩ := e
    refine ⟨hn, _, cap, hx, h2, fun b hb => (by cases hb), fun e => (by cases e), fun p' hp' => ?_⟩
    simp only [Option.some.injEq] at hp'
    subst hp'
    refine ⟨hq.2, fun i hi => ⟨(h4 q rfl i hi).2, hA _ _ ?_⟩⟩
    have hlt : off < n := by omega
    have := hq2 hlt
    subst this
    have hbd := at_len _ _ _ _ hat
    simp only [Sh.len] at hbd
    exact ⟨_, p, shAt hb, hp, rfl, by simp; omega, by simp; omega⟩

end Go.Ev
