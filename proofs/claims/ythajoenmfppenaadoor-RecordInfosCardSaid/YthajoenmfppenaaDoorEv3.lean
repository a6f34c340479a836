/- An evaluator over abstract values: that calls and regions are as the model says. -/
import Derived.Test.YthajoenmfppenaaDoorEv2
import Derived.OrdersIn
import Derived.RangeFuncCalls
namespace Go.Ev
def KeepV (bs bs' : List Blk) (L L' : List Loc) : Prop := ∀ (i : Nat) v, bs[i]? = some (.var v) → ∃ v', bs'[i]? = some (.var v') ∧ sh v' = sh v ∧ L'[i]? = L[i]?
def KeepR (bs bs' : List Blk) (L L' : List Loc) : Prop := ∀ (i : Nat) k nl l, bs[i]? = some (.row k nl l) → (∃ l', bs'[i]? = some (.row k nl l') ∧ l'.length = l.length ∧ L'[i]? = L[i]?) ∨ bs'[i]? = some .dead
def Back (X : Fx) (bs : List Blk) (L : List Loc) (v : AV) (bs' : List Blk) : Ending → World → Prop
  | .returned cv, w' => ∃ L', Inv X bs' L' w' ∧ KeepV bs bs' L L' ∧ KeepR bs bs' L L' ∧ Val (cx X bs' L' w') v cv
  | .outgrown, _ => False
  | .panicked _, _ => False
def SoundC (P : Program) (gt : Nat → Option AV) (f : Nat) (C : Con) : Prop :=
  ∀ (R : Type) (args : List AV) (bs : List Blk) (κ : AV → List Blk → Option R) (r : R), C R args bs κ = some r → ∃ v bs', κ v bs' = some r ∧
    ∀ (X : Fx) (L : List Loc) (w : World) (cargs : Array Value), X.G.P = P → X.G.gt = gt → X.w0 = w → (∀ b o, X.pin b o ↔ own (bs.map Blk.sh) L b o) → Inv X bs L w →
      All2 (Val (cx X bs L w)) args cargs.toList → Calls P f cargs w (Back X bs L v bs')
structure GOk (G : Gi) : Prop where
  gtr : ∀ g v, G.gt g = some v → trA noLook false (fun _ _ => none) v = some v
  con : ∀ f C, G.con f = some C → SoundC G.P G.gt f C ∧ ∃ fn, G.P.funcs[f]? = some fn ∧ (fn.name == "runtime.NumGoroutine") = false ∧ fn.body.isNone = false
theorem entBlks_get {look lookS : Nat → Blk} {ρ : Ren} : ∀ {E : List (Nat × List Nat)} {bs : List Blk}, entBlks look lookS ρ E = some bs → bs.length = E.length ∧
    ∀ (j : Nat) e, E[j]? = some e → ∃ b, bs[j]? = some b ∧ ((∃ v x x', look e.1 = .var v ∧ getP v e.2 = some x ∧ trA lookS true ρ x = some x' ∧ b = .var x') ∨ (∃ k nl r, look e.1 = .row k nl r ∧ e.2 = [] ∧ b = .row k nl r) ∨ ∃ t nl r, look e.1 = .gro t nl r ∧ e.2 = [] ∧ b = .gro t nl r)
  | [], bs, h => by simp only [entBlks, Option.some.injEq] at h; subst h; simp
  | (id, path) :: l, bs, h => by
    simp only [entBlks] at h
    cases h1 : entBlks look lookS ρ l with
    | none => simp [h1] at h
    | some bs1 =>
      simp only [h1] at h
      obtain ⟨q1, q2⟩ := entBlks_get h1
      have fin : ∀ b, bs = b :: bs1 → ((∃ v x x', look id = .var v ∧ getP v path = some x ∧ trA lookS true ρ x = some x' ∧ b = .var x') ∨ (∃ k nl r, look id = .row k nl r ∧ path = [] ∧ b = .row k nl r) ∨ ∃ t nl r, look id = .gro t nl r ∧ path = [] ∧ b = .gro t nl r) →
          bs.length = ((id, path) :: l).length ∧ ∀ (j : Nat) e, ((id, path) :: l)[j]? = some e → ∃ b, bs[j]? = some b ∧ ((∃ v x x', look e.1 = .var v ∧ getP v e.2 = some x ∧ trA lookS true ρ x = some x' ∧ b = .var x') ∨ (∃ k nl r, look e.1 = .row k nl r ∧ e.2 = [] ∧ b = .row k nl r) ∨ ∃ t nl r, look e.1 = .gro t nl r ∧ e.2 = [] ∧ b = .gro t nl r) := by
        rintro b rfl hb
        refine ⟨by simp [q1], fun j e he => ?_⟩
        cases j with
        | zero => simp at he; subst he; exact ⟨b, rfl, hb⟩
        | succ j => simpa using q2 j e (by simpa using he)
      cases hl : look id with
      | rsv => simp [hl] at h
      | dead => simp [hl] at h
      | row k nl r =>
        simp only [hl] at h
        cases path with
        | nil => simp only [Option.some.injEq] at h; exact fin _ h.symm (.inr (.inl ⟨k, nl, r, hl, rfl, rfl⟩))
        | cons a p => simp at h
      | gro t nl r =>
        simp only [hl] at h
        cases path with
        | nil => simp only [Option.some.injEq] at h; exact fin _ h.symm (.inr (.inr ⟨t, nl, r, hl, rfl, rfl⟩))
        | cons a p => simp at h
      | var v =>
        simp only [hl] at h
        cases hg : getP v path with
        | none => simp [hg] at h
        | some x =>
          simp only [hg] at h
          cases ht : trA lookS true ρ x with
          | none => simp [ht] at h
          | some x' => simp only [ht, Option.some.injEq] at h; exact fin _ h.symm (.inl ⟨v, x, x', hl, hg, ht, rfl⟩)
theorem rowIds_nil : (∀ (v : AV), ∀ e ∈ rowIds v, e.2 = []) ∧ ∀ (l : List AV), ∀ e ∈ rowIdsL l, e.2 = [] := by
  have hL : ∀ (l : List AV), (∀ v ∈ l, ∀ e ∈ rowIds v, e.2 = []) → ∀ e ∈ rowIdsL l, e.2 = [] := by
    intro l
    induction l with
    | nil => intro _ e he; simp [rowIdsL] at he
    | cons v l ih =>
      intro h e he
      simp only [rowIdsL, List.mem_append] at he
      rcases he with he | he
      · exact h v (by simp) e he
      · exact ih (fun v hv => h v (by simp [hv])) e he
  have hV : ∀ (v : AV), ∀ e ∈ rowIds v, e.2 = [] := by
    intro v
    induction v using AV.rec (motive_2 := fun l => ∀ v ∈ l, ∀ e ∈ rowIds v, e.2 = []) with
    | agg l ih => intro e he; simp only [rowIds] at he; exact hL l ih e he
    | own id path off len =>
      intro e he
      cases path with
      | nil => simp only [rowIds, List.mem_singleton] at he; subst he; rfl
      | cons a p => simp [rowIds] at he
    | nil => rename_i x hx e he; simp at hx
    | cons v l h1 h2 => rename_i x hx e he; simp only [List.mem_cons] at hx; rcases hx with rfl | hx; exact h1 e he; exact h2 x hx e he
    | _ => intro e he; simp [rowIds] at he
  exact ⟨hV, fun l => hL l fun v _ => hV v⟩
theorem entRows_nil {look : Nat → Blk} : ∀ (E : List (Nat × List Nat)), ∀ e ∈ entRows look E, e.2 = []
  | [], e, h => by simp [entRows] at h
  | (id, path) :: l, e, h => by
    simp only [entRows, List.mem_append] at h
    rcases h with h | h
    · split at h
      · split at h
        · exact rowIds_nil.1 _ e h
        · simp at h
      · simp at h
    · exact entRows_nil l e h
theorem ptrs_mem : ∀ {l : List AV} {e : Nat × List Nat}, e ∈ ptrs l → AV.ptr e.1 e.2 ∈ l
  | [], e, h => by simp [ptrs] at h
  | v :: l, e, h => by
    cases v with
    | ptr id path =>
      simp only [ptrs, List.mem_cons] at h
      rcases h with rfl | h
      · simp
      · simp [ptrs_mem h]
    | _ => simp only [ptrs] at h; simp [ptrs_mem h]
theorem All2_mem {α β : Type} {r : α → β → Prop} : ∀ {l : List α} {m : List β}, All2 r l m → ∀ x ∈ l, ∃ y ∈ m, r x y
  | [], [], _, x, hx => by simp at hx
  | a :: l, b :: m, ⟨h1, h2⟩, x, hx => by
    simp only [List.mem_cons] at hx
    rcases hx with rfl | hx
    · exact ⟨b, by simp, h1⟩
    · obtain ⟨y, hy, h⟩ := All2_mem h2 x hx; exact ⟨y, by simp [hy], h⟩
  | [], _ :: _, h, _, _ => h.elim
  | _ :: _, [], h, _, _ => h.elim
theorem newBlks_upd {ρ : Ren} : ∀ {bs : List Blk} {nid : Nat} {ns : List (Nat × Blk)}, newBlks ρ nid bs = some ns → ns.length = bs.length ∧
    ∀ id, (nid ≤ id ∧ id < nid + bs.length → ∃ b b', bs[id - nid]? = some b ∧ trB noLook false ρ b = some b' ∧ updOf ns id = some b') ∧ (¬(nid ≤ id ∧ id < nid + bs.length) → updOf ns id = none)
  | [], nid, ns, h => by simp only [newBlks, Option.some.injEq] at h; subst h; exact ⟨rfl, fun id => ⟨fun h => by simp at h; omega, fun _ => rfl⟩⟩
  | b :: bs, nid, ns, h => by
    simp only [newBlks] at h
    cases h1 : trB noLook false ρ b with
    | none => simp [h1] at h
    | some b' =>
      cases h2 : newBlks ρ (nid + 1) bs with
      | none => simp [h1, h2] at h
      | some us =>
        simp only [h1, h2, Option.some.injEq] at h
        subst h
        obtain ⟨q1, q2⟩ := newBlks_upd h2
        refine ⟨by simp [q1], fun id => ⟨fun hid => ?_, fun hid => ?_⟩⟩
        · simp only [List.length_cons] at hid
          by_cases he : id = nid
          · subst he
            refine ⟨b, b', by simp, h1, ?_⟩
            simp only [updOf]
            rw [(q2 id).2 (by omega)]
            simp
          · obtain ⟨c, c', r1, r2, r3⟩ := (q2 id).1 (by omega)
            refine ⟨c, c', ?_, r2, by simp only [updOf, r3]⟩
            rw [show id - nid = (id - (nid + 1)) + 1 by omega]
            simpa using r1
        · simp only [List.length_cons] at hid
          simp only [updOf]
          rw [(q2 id).2 (by omega), if_neg (by omega)]
theorem backBlks_upd {look : Nat → Blk} {ρ : Ren} : ∀ {E : List (Nat × List Nat)} {bl : List Blk} {us : List (Nat × Blk)}, backBlks look ρ E bl = some us → (E.map (·.1)).Nodup →
    (∀ (j : Nat) e, E[j]? = some e → ∃ v x x' v', look e.1 = .var v ∧ bl[j]? = some (.var x) ∧ trA noLook false ρ x = some x' ∧ setP v e.2 x' = some v' ∧ kindOk v e.2 x' = true ∧ updOf us e.1 = some (.var v')) ∧
    ∀ id, id ∉ E.map (·.1) → updOf us id = none
  | [], bl, us, h, _ => by simp only [backBlks, Option.some.injEq] at h; subst h; exact ⟨fun j e he => by simp at he, fun _ _ => rfl⟩
  | (id, path) :: l, [], us, h, _ => by simp [backBlks] at h
  | (id, path) :: l, b :: bl, us, h, hnd => by
    simp only [backBlks] at h
    simp only [List.map_cons, List.nodup_cons] at hnd
    cases h1 : backBlks look ρ l bl with
    | none => simp [h1] at h
    | some us1 =>
      simp only [h1] at h
      obtain ⟨q1, q2⟩ := backBlks_upd h1 hnd.2
      cases hl : look id with
      | rsv => simp [hl] at h
      | dead => simp [hl] at h
      | row k nl r => simp [hl] at h
      | gro t nl r => simp [hl] at h
      | var v =>
        cases b with
        | rsv => simp [hl] at h
        | dead => simp [hl] at h
        | row k nl r => simp [hl] at h
        | gro t nl r => simp [hl] at h
        | var x =>
          simp only [hl] at h
          cases ht : trA noLook false ρ x with
          | none => simp [ht] at h
          | some x' =>
            simp only [ht] at h
            cases hs : setP v path x' with
            | none => simp [hs] at h
            | some v' =>
              simp only [hs] at h
              obtain ⟨hk, h⟩ := cond_none h
              simp only [Bool.and_eq_true] at hk
              simp only [Option.some.injEq] at h
              subst h
              refine ⟨fun j e he => ?_, fun i hi => ?_⟩
              · cases j with
                | zero =>
                  simp only [List.getElem?_cons_zero, Option.some.injEq] at he
                  subst he
                  refine ⟨v, x, x', v', hl, rfl, ht, hs, hk.2, ?_⟩
                  simp only [updOf]
                  rw [q2 id hnd.1]
                  simp
                | succ j =>
                  simp only [List.getElem?_cons_succ] at he
                  obtain ⟨v1, x1, x1', v1', r1, r2, r3, r4, r5, r6⟩ := q1 j e he
                  exact ⟨v1, x1, x1', v1', r1, by simpa using r2, r3, r4, r5, by simp only [updOf, r6]⟩
              · simp only [List.map_cons, List.mem_cons, not_or] at hi
                simp only [updOf]
                rw [q2 i hi.2]
                simp [Ne.symm hi.1]
theorem lenL_take_get (l : List Sh) (i : Nat) (s : Sh) (h : l[i]? = some s) : Sh.lenL (l.take i) + s.len ≤ Sh.lenL l := by
  obtain ⟨e, _⟩ := list_split l i s h
  have : Sh.lenL l = Sh.lenL (l.take i ++ s :: l.drop (i + 1)) := by rw [← e]
  rw [this, lenL_append]
  simp only [Sh.lenL]
  omega
theorem at_len : ∀ (p : List Nat) (s t : Sh) (o : Nat), Sh.at s p = some (o, t) → o + t.len ≤ s.len
  | [], s, t, o, h => by
    have : o = 0 ∧ t = s := by cases s <;> simp_all [Sh.at]
    obtain ⟨rfl, rfl⟩ := this; omega
  | i :: p, s, t, o, h => by
    cases s with
    | leaf => simp [Sh.at] at h
    | ints n =>
      cases p with
      | cons j p => simp [Sh.at] at h
      | nil =>
        simp only [Sh.at] at h
        split at h
        · simp only [Option.some.injEq, Prod.mk.injEq] at h
          obtain ⟨rfl, rfl⟩ := h
          simp only [Sh.len]; omega
        · simp at h
    | agg l =>
      simp only [Sh.at] at h
      cases hl : l[i]? with
      | none => simp [hl] at h
      | some s' =>
        simp only [hl] at h
        cases ha : Sh.at s' p with
        | none => simp [ha] at h
        | some ot =>
          obtain ⟨o1, t1⟩ := ot
          simp only [ha, Option.some.injEq, Prod.mk.injEq] at h
          obtain ⟨rfl, rfl⟩ := h
          have h1 := at_len p s' t1 o1 ha
          have h2 := lenL_take_get l i s' hl
          simp only [Sh.len]; omega
theorem setP_sh : ∀ (p : List Nat) (v y v' : AV) (o : Nat) (s : Sh), setP v p y = some v' → Sh.at (sh v) p = some (o, s) → sh y = s → sh v' = sh v
  | [], v, y, v', o, s, h, ha, hy => by
    have e1 : v' = y := by cases v <;> simp_all [setP]
    have e2 : s = sh v := by cases hv : sh v <;> simp_all [Sh.at]
    rw [e1, hy, e2]
  | i :: p, v, y, v', o, s, h, ha, hy => by
    cases v with
    | ints k n l =>
      cases p with
      | cons j p => simp [setP] at h
      | nil =>
        cases y <;> simp only [setP, reduceCtorEq, Option.some.injEq] at h
        subst h; simp [sh]
    | agg l =>
      simp only [setP] at h
      cases hl : l[i]? with
      | none => simp [hl] at h
      | some v0 =>
        simp only [hl] at h
        cases hq : setP v0 p y with
        | none => simp [hq] at h
        | some v1 =>
          simp only [hq, Option.some.injEq] at h
          subst h
          simp only [sh, Sh.at, shL_eq, List.getElem?_map, hl, Option.map_some] at ha
          cases hat : Sh.at (sh v0) p with
          | none => simp [hat] at ha
          | some os =>
            obtain ⟨o1, s1⟩ := os
            simp only [hat, Option.some.injEq, Prod.mk.injEq] at ha
            obtain ⟨rfl, rfl⟩ := ha
            have := setP_sh p v0 y v1 o1 s1 hq hat hy
            simp only [sh, shL_eq, Sh.agg.injEq]
            rw [List.map_set, this]
            exact list_set_self _ _ _ (by simp [hl])
    | _ => simp [setP] at h
def Own1 (h : List Blk) (L : List Loc) (id b o : Nat) : Prop := ∃ s p, (h.map Blk.sh)[id]? = some s ∧ L[id]? = some p ∧ s.owns p b o
theorem Own1.own {h : List Blk} {L : List Loc} {id b o : Nat} (g : Own1 h L id b o) : Ev.own (h.map Blk.sh) L b o := by
  obtain ⟨s, p, h1, h2, h3⟩ := g; exact ⟨id, s, p, h1, h2, h3⟩
theorem Own1.unique {X : Fx} {h : List Blk} {L : List Loc} {w : World} (I : Inv X h L w) {i j b o : Nat} (hi : Own1 h L i b o) (hj : Own1 h L j b o) : i = j := by
  obtain ⟨s, p, h1, h2, h3⟩ := hi
  obtain ⟨t, q, g1, g2, g3⟩ := hj
  rcases Nat.decEq i j with hne | rfl
  · exact (I.dis i j s t p q b o hne h1 g1 h2 g2 h3 g3).elim
  · rfl
theorem shAt {h : List Blk} {id : Nat} {b : Blk} (hb : h[id]? = some b) : (h.map Blk.sh)[id]? = some b.sh := by simp [hb]
theorem shAt' {h : List Blk} {id : Nat} {s : BSh} (hb : (h.map Blk.sh)[id]? = some s) : ∃ b, h[id]? = some b ∧ b.sh = s := by
  rw [List.getElem?_map] at hb
  cases e : h[id]? with
  | none => simp [e] at hb
  | some b => simp only [e, Option.map_some, Option.some.injEq] at hb; exact ⟨b, rfl, hb⟩
theorem BlkOK.tr {c c' : Cx} {look : Nat → Blk} {snap : Bool} {ρ : Ren} (T : TrOk c c' look snap ρ) (hw : c'.w = c.w) {b b' : Blk} {p : Loc} (hs : slfB b = true ∨ RO c c')
    (ht : trB look snap ρ b = some b') (h : BlkOK c b p) : BlkOK c' b' p := by
  cases b with
  | var v =>
    simp only [trB] at ht
    cases h1 : trA look snap ρ v with
    | none => simp [h1] at ht
    | some v' =>
      simp only [h1, Option.some.injEq] at ht
      subst ht
      obtain ⟨cs, g1, g2⟩ := h
      exact ⟨cs, tr_Cells T v v' cs (hs.imp (fun h => h) id) h1 g1, by rw [hw]; exact g2⟩
  | row k nl l => simp only [trB, Option.some.injEq] at ht; subst ht; simp only [BlkOK] at h ⊢; rw [hw]; exact h
  | gro t nl l =>
    simp only [trB, Option.some.injEq] at ht; subst ht
    rcases hs with hs | hs
    · simp [slfB] at hs
    · obtain ⟨h0, h1, h2⟩ := h
      refine ⟨h0, h1, fun hn => ?_⟩
      obtain ⟨q1, q2, q3⟩ := h2 hn
      refine ⟨q1, fun i hi => ?_, by rw [hw]; exact q3⟩
      obtain ⟨cs, r1, r2⟩ := q2 i hi
      exact ⟨cs, Fz.ro hs t _ cs r1, by rw [hw]; exact r2⟩
  | rsv => simp only [trB, Option.some.injEq] at ht; subst ht; trivial
  | dead => simp only [trB, Option.some.injEq] at ht; subst ht; trivial
theorem trB_sh {look : Nat → Blk} {snap : Bool} {ρ : Ren} {b b' : Blk} (ht : trB look snap ρ b = some b') : b'.sh = b.sh := by
  cases b with
  | var v =>
    simp only [trB] at ht
    cases h1 : trA look snap ρ v with
    | none => simp [h1] at ht
    | some v' =>
      simp only [h1, Option.some.injEq] at ht
      subst ht
      simp only [Blk.sh, tr_sh v v' h1]
  | _ => simp only [trB, Option.some.injEq] at ht; subst ht; rfl
theorem snap_ok {X : Fx} {h : List Blk} {L : List Loc} {w : World} (I : Inv X h L w) {look : Nat → Blk} (hl : lookOk look h) {k : IntKind} {id off : Nat} {path : List Nat} {len : Option Nat} {l : List Int} {x : Value}
    (hc : cont look k (.own id path off len) = some l) (hsrc : (∃ nl m, look id = .row k nl m) ∨ ∃ v n m, look id = .var v ∧ getP v path = some (.ints k n m))
    (hv : Val (cx X h L w) (.own id path off len) x) (A : Nat → Nat → Prop) (hA : ∀ b o, Own1 h L id b o → ¬ A b o) : IsSl w A k none l x := by
  obtain ⟨hn, a, cap, hx, h2, h3, h4⟩ := cont_run hc X h L w x I hl hv
  rcases hsrc with ⟨nl, m, hb⟩ | ⟨v, n, m, hb, hg⟩
  · have hb := hl.get hb (by simp)
    have hp0 : path = [] := by
      have hv' := (Val_leaf rfl (by simp) (by simp)).1 hv
      obtain ⟨p, hp⟩ := I.loc hb
      have hL : (cx X h L w).L[id]? = some p := hp
      simp only [leaf, cx_S hb, Blk.sh, hL] at hv'
      exact hv'.1
    subst hp0
    obtain ⟨p, hp, q1, q2, q3⟩ := own_row I hb hv
    cases nl with
    | true =>
      obtain ⟨⟨a0, e⟩, hm⟩ := q2 rfl
      rw [hx] at e
      simp only [Value.slice.injEq] at e
      obtain ⟨e1, e2, e3⟩ := e
      have : l = [] := List.length_eq_zero_iff.1 e2
      exact ⟨hn, a, cap, hx, h2, fun b hb => (by cases hb), fun _ => ⟨this, e3⟩, fun p hp => by subst this; exact ⟨fun h => absurd rfl h, fun i hi => absurd hi (by simp)⟩⟩
    | false =>
      obtain ⟨q, e, hq, hq2⟩ := q3 rfl
      rw [hx] at e
      simp only [Value.slice.injEq] at e
      obtain ⟨rfl, e2, e3⟩ := e
      refine ⟨hn, _, cap, hx, h2, fun b hb => (by cases hb), fun e => (by cases e), fun p' hp' => ?_⟩
      simp only [Option.some.injEq] at hp'
      subst hp'
      refine ⟨fun _ => hq.2, fun i hi => ⟨(h4 q rfl i hi).2, hA _ _ ?_⟩⟩
      obtain ⟨g1, g2, g3⟩ := I.blk id _ p hb hp
      have := (g3 rfl).1
      have hlt : off < p.cap := by omega
      have := hq2 hlt
      subst this
      exact ⟨_, p, shAt hb, hp, rfl, rfl, by simp; omega, by simp; omega⟩
  · have hb := hl.get hb (by simp)
    obtain ⟨p, o, hp, hat, q1, q2, q3, ⟨q, e, hq, hq2⟩, _⟩ := own_arr I hb hg hv
    rw [hx] at e
    simp only [Value.slice.injEq] at e
    obtain ⟨rfl, e2, e3⟩ := e
    refine ⟨hn, _, cap, hx, h2, fun b hb => (by cases hb), fun e => (by cases e), fun p' hp' => ?_⟩
    simp only [Option.some.injEq] at hp'
    subst hp'
    refine ⟨fun _ => hq.2, fun i hi => ⟨(h4 q rfl i hi).2, hA _ _ ?_⟩⟩
    have hlt : off < n := by omega
    have := hq2 hlt
    subst this
    have hbd := at_len _ _ _ _ hat
    simp only [Sh.len] at hbd
    exact ⟨_, p, shAt hb, hp, rfl, by simp; omega, by simp; omega⟩
theorem cut_len {α : Type} (len : Option Nat) (off : Nat) (l : List α) (h : off + olen len l.length off ≤ l.length) : (cut len off l).length = olen len l.length off := by
  cases len with
  | none => simp [cut, olen]
  | some n => simp only [olen] at h; simp [cut, olen]; omega
theorem cut_get {α : Type} (len : Option Nat) (off : Nat) (l : List α) (i : Nat) (hi : i < (cut len off l).length) : ∃ h : off + i < l.length, (cut len off l)[i] = l[off + i] := by
  cases len with
  | none => simp only [cut, List.length_drop] at hi; exact ⟨by omega, by simp [cut]⟩
  | some n => simp only [cut, List.length_take, List.length_drop] at hi; exact ⟨by omega, by simp [cut]⟩
theorem snapG_ok {X : Fx} {h : List Blk} {L : List Loc} {w : World} (I : Inv X h L w) {look : Nat → Blk} (hl : lookOk look h) {t : T} {id off : Nat} {len : Option Nat} {nl : Bool} {m : List (Den t)} {x : Value}
    (hb : look id = .gro t nl m) (hv : Val (cx X h L w) (.own id [] off len) x) {c' : Cx} (hw : c'.w = w) (hro : RO (cx X h L w) c') (hA : ∀ b o, Own1 h L id b o → ¬ c'.A b o) : leaf c' (mkRow t (cut len off m)) x := by
  refine mkRow_leaf ?_
  have hb := hl.get hb (by simp)
  obtain ⟨p, hp, _, q1, q2, q3⟩ := own_gro I hb hv
  have hcl := cut_len len off m q1
  obtain ⟨g0, g1, g2⟩ := I.blk id _ p hb hp
  cases nl with
  | true =>
    obtain ⟨⟨a0, rfl⟩, rfl⟩ := q2 rfl
    have e0 : cut len off ([] : List (Den t)) = [] := by cases len <;> simp [cut]
    rw [e0]
    exact ⟨a0, 0, rfl, Nat.le_refl _, fun _ => ⟨rfl, rfl⟩, fun p _ => ⟨fun h => absurd rfl h, fun i hi => absurd hi (by simp)⟩⟩
  | false =>
    obtain ⟨q, rfl, hq, hq2⟩ := q3 rfl
    obtain ⟨r1, r2, r3⟩ := g2 rfl
    refine ⟨some q, _, by rw [hcl], by omega, fun e => (by cases e), fun p' hp' => ?_⟩
    simp only [Option.some.injEq] at hp'
    subst hp'
    refine ⟨fun _ => hq.2, fun i hi => ?_⟩
    obtain ⟨hm, he⟩ := cut_get len off m i hi
    obtain ⟨cs, s1, s2⟩ := r2 (off + i) hm
    have hlen := Fz_len t _ cs s1
    have := hq2 (by omega)
    subst this
    refine ⟨cs, by rw [he]; exact Fz.ro hro t _ cs s1, hlen, fun j hj => ⟨?_, hA _ _ ⟨_, p, shAt hb, hp, rfl, rfl, by simp only; omega, ?_⟩⟩⟩
    · rw [hw]
      have := s2 j hj
      rw [Nat.mul_add] at this
      have e : w.cell? _ = _ := this
      simp only
      rw [show p.o + t.len * off + t.len * i + j = p.o + (t.len * off + t.len * i) + j by omega]
      exact e
    · have a1 : t.len * (off + i + 1) ≤ t.len * (p.cap / t.len) := Nat.mul_le_mul_left _ (by omega)
      have a2 := Nat.mul_div_le p.cap t.len
      rw [Nat.mul_succ, Nat.mul_add] at a1
      simp only
      omega
theorem cont_src {look : Nat → Blk} {k : IntKind} {id off : Nat} {path : List Nat} {len : Option Nat} {l : List Int} (hc : cont look k (.own id path off len) = some l) :
    (∃ nl m, look id = .row k nl m) ∨ ∃ v n m, look id = .var v ∧ getP v path = some (.ints k n m) := by
  simp only [cont] at hc
  split at hc
  · rename_i k' nl m hb
    split at hc
    · obtain ⟨hk, _⟩ := cond_none hc
      have hk := of_decide_eq_true hk
      subst hk
      exact .inl ⟨nl, m, hb⟩
    · cases hc
  · rename_i v hb
    split at hc
    · rename_i k' n m hg
      obtain ⟨hk, _⟩ := cond_none hc
      have hk := of_decide_eq_true hk
      subst hk
      exact .inr ⟨v, n, m, hb, hg⟩
    · cases hc
  · cases hc
theorem contL_get {look : Nat → Blk} {k : IntKind} : ∀ {l : List AV} {ll : List (List Int)}, contL look k l = some ll → ll.length = l.length ∧ ∀ (i : Nat) x, ll[i]? = some x → ∃ v, l[i]? = some v ∧ cont look k v = some x
  | [], ll, h => by simp only [contL, Option.some.injEq] at h; subst h; exact ⟨rfl, fun i x hx => by simp at hx⟩
  | v :: l, ll, h => by
    simp only [contL] at h
    cases h1 : cont look k v with
    | none => simp [h1] at h
    | some x =>
      cases h2 : contL look k l with
      | none => simp [h1, h2] at h
      | some ll' =>
        simp only [h1, h2, Option.some.injEq] at h
        subst h
        obtain ⟨q1, q2⟩ := contL_get h2
        refine ⟨by simp [q1], fun i y hy => ?_⟩
        cases i with
        | zero => simp only [List.getElem?_cons_zero, Option.some.injEq] at hy; subst hy; exact ⟨v, rfl, h1⟩
        | succ i => simpa using q2 i y (by simpa using hy)
theorem CellsL_get {c : Cx} : ∀ (l : List AV) (cs : List Value), (∀ x ∈ l, sh x = .leaf) → CellsL c l cs → ∀ (i : Nat) v, l[i]? = some v → ∃ y, cs[i]? = some y ∧ Cells c v [y]
  | [], cs, _, _, i, v, hv => by simp at hv
  | x :: l, cs, hl, ⟨c1, c2, e, g1, g2⟩, i, v, hv => by
    have hlen := Cells_len x c1 g1
    rw [hl x (by simp)] at hlen
    obtain ⟨y, rfl⟩ : ∃ y, c1 = [y] := by
      match c1, hlen with
      | [y], _ => exact ⟨y, rfl⟩
    subst e
    cases i with
    | zero => simp only [List.getElem?_cons_zero, Option.some.injEq] at hv; subst hv; exact ⟨y, rfl, g1⟩
    | succ i =>
      obtain ⟨z, q1, q2⟩ := CellsL_get l c2 (fun x hx => hl x (by simp [hx])) g2 i v (by simpa using hv)
      exact ⟨z, by simpa using q1, q2⟩
theorem refsL_mem : ∀ {l : List AV} {v : AV} {i : Nat}, v ∈ l → i ∈ refs v → i ∈ refsL l
  | [], _, _, h, _ => by simp at h
  | x :: l, v, i, h, hi => by
    simp only [refsL, List.mem_append]
    rcases List.mem_cons.1 h with rfl | h
    · exact .inl hi
    · exact .inr (refsL_mem h hi)
theorem asl_ok {X : Fx} {h : List Blk} {L : List Loc} {w : World} (I : Inv X h L w) {look : Nat → Blk} (hl : lookOk look h) {id n : Nat} {l : List AV} {ll : List (List Int)} {x : Value}
    (hb : look id = .var (.agg l)) (hc : contL look .u8 l = some ll) (hn : ll.length = n) (g : leaf (cx X h L w) (.asl id n) x) {c' : Cx} (hw : c'.w = w) (hro : RO (cx X h L w) c')
    (hA : ∀ i ∈ id :: refsL l, ∀ b o, look i ≠ .rsv → Own1 h L i b o → ¬ c'.A b o) : leaf c' (.rsl .u8 ll) x := by
  have hb0 := hl.get hb (by simp)
  obtain ⟨p, hp⟩ := I.loc hb0
  have hL : (cx X h L w).L[id]? = some p := hp
  simp only [leaf, cx_S hb0, Blk.sh, hL] at g
  obtain ⟨hsh, rfl⟩ := g
  simp only [sh, Sh.agg.injEq] at hsh
  rw [shL_eq] at hsh
  have hleaf : ∀ x ∈ l, sh x = .leaf := fun x hx => by
    have : sh x ∈ l.map sh := List.mem_map.2 ⟨x, hx, rfl⟩
    rw [hsh] at this
    exact (List.mem_replicate.1 this).2
  obtain ⟨cs, g1, g2⟩ := I.blk id _ p hb0 hp
  obtain ⟨q1, q2⟩ := contL_get hc
  have hlen : cs.length = n := by
    have := Cells_len _ cs g1
    rw [this]
    simp only [sh, Sh.len]
    rw [shL_eq, hsh]
    clear hsh this
    induction n with
    | zero => rfl
    | succ n ih => simp only [List.replicate_succ, Sh.lenL, Sh.len]; have : ∀ m, Sh.lenL (List.replicate m .leaf) = m := fun m => by induction m with | zero => rfl | succ m ih => simp [List.replicate_succ, Sh.lenL, Sh.len, ih]; omega
                   rw [this]; omega
  refine ⟨some ⟨p.b, p.o, none⟩, n, by rw [hn], by omega, fun e => (by cases e), fun p' hp' => ⟨fun _ => ?_, fun i hi => ?_⟩⟩
  · simp only [Option.some.injEq] at hp'; subst hp'; rfl
  · simp only [Option.some.injEq] at hp'; subst hp'
    obtain ⟨v, r1, r2⟩ := q2 i ll[i] (List.getElem?_eq_getElem hi)
    obtain ⟨y, r3, r4⟩ := CellsL_get l cs hleaf g1 i v r1
    have hic : i < cs.length := by omega
    have hcell := (g2 i hic).1
    rw [List.getElem?_eq_getElem hic, Option.some.injEq] at r3
    rw [r3] at hcell
    refine ⟨y, by rw [hw]; exact hcell, hA id (List.mem_cons_self ..) _ _ (by rw [hb]; simp) ⟨_, p, shAt hb0, hp, rfl, by simp, ?_⟩, ?_⟩
    · have := Cells_len _ cs g1
      simp only at this ⊢
      omega
    · cases v with
      | nils =>
        obtain ⟨y', e, rfl⟩ := r4
        simp only [List.cons.injEq, and_true] at e
        subst e
        simp only [cont, Option.some.injEq] at r2
        rw [← r2]
        exact ⟨by simp [NN], none, 0, rfl, Nat.le_refl _, by simp, fun _ => ⟨rfl, rfl⟩, fun p hp => by cases hp⟩
      | isl k nl z =>
        obtain ⟨y', e, r5⟩ := r4
        simp only [List.cons.injEq, and_true] at e
        subst e
        simp only [cont] at r2
        obtain ⟨hk, r6⟩ := cond_none r2
        clear r2
        have hk := of_decide_eq_true hk
        subst hk
        simp only [Option.some.injEq] at r6
        rw [← r6]
        obtain ⟨h0, a, cap, h1, h2, _, h4, h5⟩ := IsSl.ro hro r5
        exact ⟨h0, a, cap, h1, h2, by simp, h4, h5⟩
      | own i2 path off len =>
        obtain ⟨y', e, r5⟩ := r4
        simp only [List.cons.injEq, and_true] at e
        subst e
        rw [hw]
        have hsrc := cont_src r2
        refine snap_ok I hl r2 hsrc r5 c'.A fun b o ho => hA i2 (List.mem_cons_of_mem _ (refsL_mem (List.mem_of_getElem? r1) (by simp [refs]))) b o ?_ ho
        rcases hsrc with ⟨nl, m, e⟩ | ⟨v, n, m, e, _⟩ <;> rw [e] <;> simp
      | _ => simp [cont] at r2
end Go.Ev
namespace Go.Ev
def Ent (h : List Blk) (L : List Loc) (look lookS : Nat → Blk) (ρ : Ren) (bs : List Blk) (Lc : List Loc) (j : Nat) (e : Nat × List Nat) : Prop :=
  (∃ v x x' o hp, look e.1 = .var v ∧ h[e.1]? = some (.var v) ∧ L[e.1]? = some hp ∧ getP v e.2 = some x ∧ Sh.at (sh v) e.2 = some (o, sh x) ∧ trA lookS true ρ x = some x' ∧ bs[j]? = some (.var x') ∧
    Lc[j]? = some ⟨hp.b, hp.o + o, 0⟩) ∨
  (∃ k nl r hp, h[e.1]? = some (.row k nl r) ∧ L[e.1]? = some hp ∧ e.2 = [] ∧ bs[j]? = some (.row k nl r) ∧ Lc[j]? = some hp) ∨
  (∃ t nl r hp, h[e.1]? = some (.gro t nl r) ∧ L[e.1]? = some hp ∧ e.2 = [] ∧ bs[j]? = some (.gro t nl r) ∧ Lc[j]? = some hp)
def locOf (h : List Blk) (L : List Loc) (e : Nat × List Nat) : Loc := match h[e.1]?, L[e.1]? with
  | some (.var v), some p => match Sh.at (sh v) e.2 with
    | some (o, _) => ⟨p.b, p.o + o, 0⟩
    | none => p
  | _, some p => p
  | _, none => default
def Snap (h : List Blk) (L : List Loc) (sids : List Nat) (b o : Nat) : Prop := ∃ id ∈ sids, Own1 h L id b o
def calleeFx (X : Fx) (h : List Blk) (L : List Loc) (w : World) (bs : List Blk) (Lc : List Loc) (sids : List Nat) : Fx :=
  { G := { X.G with lone := false }, eps := X.eps, O := fun b o => b < w.heap.size ∧ X.av (h.map Blk.sh) L b o ∧ ¬ own (bs.map Blk.sh) Lc b o ∧ ¬ Snap h L sids b o, pin := own (bs.map Blk.sh) Lc, w0 := w }
theorem own_lt {X : Fx} {h : List Blk} {L : List Loc} {w : World} (I : Inv X h L w) {b o : Nat} (g : own (h.map Blk.sh) L b o) : b < w.heap.size := by
  rcases Nat.lt_or_ge b w.heap.size with q | q
  · exact q
  · exact absurd g (not_own_of_fresh I q)
theorem own_ent {h : List Blk} {L : List Loc} {look lookS : Nat → Blk} {ρ : Ren} {bs : List Blk} {Lc : List Loc} {E : List (Nat × List Nat)} (hlen : bs.length = E.length)
    (hE : ∀ (j : Nat) e, E[j]? = some e → Ent h L look lookS ρ bs Lc j e) {j b o : Nat} (g : Own1 bs Lc j b o) : ∃ e, E[j]? = some e ∧ Own1 h L e.1 b o := by
  obtain ⟨s, p, h1, h2, h3⟩ := g
  obtain ⟨bb, hb, rfl⟩ := shAt' h1
  have hj : j < E.length := by have := getElem?_lt hb; omega
  refine ⟨E[j], by simp [hj], ?_⟩
  rcases hE j E[j] (by simp [hj]) with ⟨v, x, x', o', hp, _, q1, q2, q3, q4, q5, q6, q7⟩ | ⟨k, nl, r, hp, q1, q2, q3, q4, q5⟩ | ⟨k, nl, r, hp, q1, q2, q3, q4, q5⟩
  · rw [hb] at q6; simp only [Option.some.injEq] at q6; subst q6
    rw [h2] at q7; simp only [Option.some.injEq] at q7; subst q7
    obtain ⟨r1, r2, r3⟩ := h3
    have hbd := at_len _ _ _ _ q4
    rw [tr_sh _ _ q5] at r3
    simp only at r1 r2 r3
    exact ⟨_, hp, shAt q1, q2, r1, by omega, by omega⟩
  · rw [hb] at q4; simp only [Option.some.injEq] at q4; subst q4
    rw [h2] at q5; simp only [Option.some.injEq] at q5; subst q5
    exact ⟨_, _, shAt q1, q2, h3⟩
  · rw [hb] at q4; simp only [Option.some.injEq] at q4; subst q4
    rw [h2] at q5; simp only [Option.some.injEq] at q5; subst q5
    exact ⟨_, _, shAt q1, q2, h3⟩
theorem nodup_idx {E : List (Nat × List Nat)} (hnd : (E.map (·.1)).Nodup) {i j : Nat} {e e' : Nat × List Nat} (hi : E[i]? = some e) (hj : E[j]? = some e') (h : e.1 = e'.1) : i = j := by
  have h1 : (E.map (·.1))[i]? = some e.1 := by simp [hi]
  have h2 : (E.map (·.1))[j]? = some e.1 := by simp [hj, h]
  have hi' := getElem?_lt h1
  have hj' := getElem?_lt h2
  rw [List.getElem?_eq_getElem hi', Option.some.injEq] at h1
  rw [List.getElem?_eq_getElem hj', Option.some.injEq] at h2
  have hp := List.pairwise_iff_getElem.1 hnd
  have he := h1.trans h2.symm
  rcases Nat.lt_trichotomy i j with q | q | q
  · exact absurd he (hp i j hi' hj' q)
  · exact q
  · exact absurd he.symm (hp j i hj' hi' q)
theorem trL_all2 {c c' : Cx} {look : Nat → Blk} {snap : Bool} {ρ : Ren} (T : TrOk c c' look snap ρ) (hs : RO c c') : ∀ {l l' : List AV} {m : List Value}, trL look snap ρ l = some l' → All2 (Val c) l m → All2 (Val c') l' m
  | [], l', [], h, _ => by rw [trL_nil h]; trivial
  | v :: l, l', y :: m, h, ⟨g1, g2⟩ => by
    obtain ⟨v', l1, rfl, q1, q2⟩ := trL_cons h
    exact ⟨tr_Val T v v' y (.inr hs) q1 g1, trL_all2 T hs q2 g2⟩
  | [], _, _ :: _, _, h => h.elim
  | _ :: _, _, [], _, h => h.elim
theorem call_in {X : Fx} {h : List Blk} {L : List Loc} {w : World} (hG : GOk X.G) (I : Inv X h L w) {look : Nat → Blk} (hl : lookOk look h) {args : List AV} {cargs : List Value} (hargs : All2 (Val (cx X h L w)) args cargs)
    {Er : List (Nat × List Nat)} (hEr : ∀ e ∈ Er, e.2 = []) (hnd : ((ptrs args ++ Er).map (·.1)).Nodup) {sids : List Nat} (hsids : ∀ id ∈ sids, id ∉ (ptrs args ++ Er).map (·.1))
    {lookS : Nat → Blk} (hlS : lookS = fun id => cond (memN id sids) (look id) .rsv) {ρ : Ren} (hρ : ρ = fun id path => findE id path (ptrs args ++ Er) 0)
    {bs : List Blk} {as : List AV} (hbs : entBlks look lookS ρ (ptrs args ++ Er) = some bs) (has : trL lookS true ρ args = some as) :
    ∃ Lc, Lc.length = bs.length ∧ bs.length = (ptrs args ++ Er).length ∧ (∀ (j : Nat) e, (ptrs args ++ Er)[j]? = some e → Ent h L look lookS ρ bs Lc j e) ∧ (∀ e ∈ ptrs args, ∃ v, h[e.1]? = some (.var v)) ∧
      Inv (calleeFx X h L w bs Lc sids) bs Lc w ∧ All2 (Val (cx (calleeFx X h L w bs Lc sids) bs Lc w)) as cargs := by
  obtain ⟨hlen, hget⟩ := entBlks_get hbs
  let Lc := (ptrs args ++ Er).map (locOf h L)
  have hLc : ∀ (j : Nat) e, (ptrs args ++ Er)[j]? = some e → Lc[j]? = some (locOf h L e) := fun j e he => by simp only [Lc, List.getElem?_map, he, Option.map_some]
  have hptr : ∀ e ∈ ptrs args, (∀ v, h[e.1]? = some (.var v) → ∃ o t, Sh.at (sh v) e.2 = some (o, t)) ∧ (∀ k nl r, h[e.1]? = some (.row k nl r) → e.2 ≠ []) ∧ ∀ t nl r, h[e.1]? = some (.gro t nl r) → e.2 ≠ [] := by
    intro e he
    obtain ⟨y, _, hy⟩ := All2_mem hargs _ (ptrs_mem he)
    have hy := (Val_leaf rfl (by simp) (by simp)).1 hy
    refine ⟨fun v hv => ?_, fun k nl r hv => ?_, fun k nl r hv => ?_⟩
    · obtain ⟨p, hp⟩ := I.loc hv
      have hL : (cx X h L w).L[e.1]? = some p := hp
      simp only [leaf, cx_S hv, Blk.sh, hL] at hy
      obtain ⟨o, t, h1, _⟩ := hy
      exact ⟨o, t, h1⟩
    · obtain ⟨p, hp⟩ := I.loc hv
      have hL : (cx X h L w).L[e.1]? = some p := hp
      simp only [leaf, cx_S hv, Blk.sh, hL] at hy
      obtain ⟨_, i, h1, _⟩ := hy
      rw [h1]; simp
    · obtain ⟨p, hp⟩ := I.loc hv
      have hL : (cx X h L w).L[e.1]? = some p := hp
      simp only [leaf, cx_S hv, Blk.sh, hL] at hy
      obtain ⟨_, i, h1, _⟩ := hy
      rw [h1]; simp
  have hEnt : ∀ (j : Nat) e, (ptrs args ++ Er)[j]? = some e → Ent h L look lookS ρ bs Lc j e := by
    intro j e he
    obtain ⟨b, hb, hc⟩ := hget j e he
    rcases hc with ⟨v, x, x', q1, q2, q3, rfl⟩ | ⟨k, nl, r, q1, q2, rfl⟩ | ⟨k, nl, r, q1, q2, rfl⟩
    · have hv := hl.get q1 (by simp)
      obtain ⟨p, hp⟩ := I.loc hv
      have hat : ∃ o t, Sh.at (sh v) e.2 = some (o, t) := by
        rcases List.mem_append.1 (List.mem_of_getElem? he) with hm | hm
        · exact (hptr e hm).1 v hv
        · rw [hEr e hm]; exact ⟨0, sh v, by cases hs : sh v <;> rfl⟩
      obtain ⟨o, t, hat⟩ := hat
      have := sh_getP _ _ _ _ _ q2 hat
      subst this
      refine .inl ⟨v, x, x', o, p, q1, hv, hp, q2, hat, q3, hb, ?_⟩
      rw [hLc j e he]
      simp only [locOf, hv, hp, hat]
    · have hv := hl.get q1 (by simp)
      obtain ⟨p, hp⟩ := I.loc hv
      refine .inr (.inl ⟨k, nl, r, p, hv, hp, q2, hb, ?_⟩)
      rw [hLc j e he]
      simp only [locOf, hv, hp]
    · have hv := hl.get q1 (by simp)
      obtain ⟨p, hp⟩ := I.loc hv
      refine .inr (.inr ⟨k, nl, r, p, hv, hp, q2, hb, ?_⟩)
      rw [hLc j e he]
      simp only [locOf, hv, hp]
  have hvar : ∀ e ∈ ptrs args, ∃ v, h[e.1]? = some (.var v) := by
    intro e he
    obtain ⟨j, hj⟩ := List.getElem?_of_mem he
    have hj' : (ptrs args ++ Er)[j]? = some e := by rw [List.getElem?_append_left (getElem?_lt hj)]; exact hj
    rcases hEnt j e hj' with ⟨v, x, x', o, hp, _, q1, _⟩ | ⟨k, nl, r, hp, q1, q2, q3, q4, q5⟩ | ⟨k, nl, r, hp, q1, q2, q3, q4, q5⟩
    · exact ⟨v, q1⟩
    · exact absurd q3 ((hptr e he).2.1 k nl r q1)
    · exact absurd q3 ((hptr e he).2.2 k nl r q1)
  let X' := calleeFx X h L w bs Lc sids
  have hownIn : ∀ b o, own (bs.map Blk.sh) Lc b o → ∃ (j : Nat) (e : Nat × List Nat), (ptrs args ++ Er)[j]? = some e ∧ Own1 h L e.1 b o ∧ Own1 bs Lc j b o := by
    rintro b o ⟨j, s, p, h1, h2, h3⟩
    have g : Own1 bs Lc j b o := ⟨s, p, h1, h2, h3⟩
    obtain ⟨e, q1, q2⟩ := own_ent hlen hEnt g
    exact ⟨j, e, q1, q2, g⟩
  have hAsub : ∀ b o, (cx X' bs Lc w).A b o → (cx X h L w).A b o := by
    rintro b o (q | q)
    · exact q.2.1
    · obtain ⟨j, e, _, g, _⟩ := hownIn b o q
      exact .inr g.own
  have hro : RO (cx X h L w) (cx X' bs Lc w) := fun b o v hv hA => ⟨hv, fun q => hA (hAsub b o q)⟩
  have T : TrOk (cx X h L w) (cx X' bs Lc w) lookS true ρ := by
    refine ⟨rfl, fun x x' v hx ht g => ?_⟩
    cases x <;> simp only [AV.isRef, Bool.false_eq_true] at hx
    · rename_i id path off len
      rcases tr_own ht with ⟨j, q, hr, rfl⟩ | ⟨hr, _, k, l, rfl, hc, hsrc⟩ | ⟨hr, _, hpa, tt, nn, mm, hgr, rfl⟩
      · rw [hρ] at hr
        obtain ⟨rfl, i, hi, hE⟩ := findE_some hr
        simp only [Nat.zero_add] at hi; subst hi
        rcases hEnt _ _ hE with ⟨v0, x, x', o, hp, _, q1, q2, q3, q4, q5, q6, q7⟩ | ⟨k, nl, r, hp, q1, q2, q3, q4, q5⟩ | ⟨k, nl, r, hp, q1, q2, q3, q4, q5⟩
        · have hL : (cx X h L w).L[id]? = some hp := q2
          have hL' : (cx X' bs Lc w).L[j]? = some _ := q7
          simp only [leaf, cx_S q1, Blk.sh, hL] at g
          simp only [leaf, cx_S q6, Blk.sh, hL']
          obtain ⟨o1, n, g1, g2, qq, g3, g4, g5⟩ := g
          simp only at q4
          rw [q4] at g1
          simp only [Option.some.injEq, Prod.mk.injEq] at g1
          obtain ⟨rfl, g1⟩ := g1
          refine ⟨0, n, ?_, g2, qq, g3, g4, fun hlt => ?_⟩
          · rw [tr_sh _ _ q5, g1]; rfl
          · simpa using g5 hlt
        · have hL : (cx X h L w).L[id]? = some hp := q2
          have hL' : (cx X' bs Lc w).L[j]? = some _ := q5
          simp only [leaf, cx_S q1, Blk.sh, hL] at g
          simp only [leaf, cx_S q4, Blk.sh, hL']
          exact ⟨by trivial, g.2⟩
        · have hL : (cx X h L w).L[id]? = some hp := q2
          have hL' : (cx X' bs Lc w).L[j]? = some _ := q5
          simp only [leaf, cx_S q1, Blk.sh, hL] at g
          simp only [leaf, cx_S q4, Blk.sh, hL']
          exact ⟨by trivial, g.2⟩
      · subst hlS
        have hm : memN id sids = true := by
          cases hb : memN id sids with
          | true => rfl
          | false => rcases hsrc with ⟨nl, m, e⟩ | ⟨v, n, m, e, _⟩ <;> simp [hb] at e
        have hlo : lookOk (fun id => cond (memN id sids) (look id) .rsv) h := by
          intro id hn
          cases hb : memN id sids with
          | true => simp only [hb, cond_true] at hn ⊢; exact hl id hn
          | false => simp [hb] at hn
        refine snap_ok I hlo hc hsrc ((Val_leaf rfl (by simp) (by simp)).2 g) _ fun b o ho hA => ?_
        have hid := memN_iff.1 hm
        rcases hA with q | q
        · exact q.2.2.2 ⟨id, hid, ho⟩
        · obtain ⟨j, e, hj, g1, _⟩ := hownIn b o q
          have := Own1.unique I ho g1
          refine hsids id hid ?_
          rw [this]
          exact List.mem_map.2 ⟨e, List.mem_of_getElem? hj, rfl⟩
      · subst hlS
        subst hpa
        have hm : memN id sids = true := by
          cases hb : memN id sids with
          | true => rfl
          | false => simp [hb] at hgr
        have hlo : lookOk (fun id => cond (memN id sids) (look id) .rsv) h := by
          intro id hn
          cases hb : memN id sids with
          | true => simp only [hb, cond_true] at hn ⊢; exact hl id hn
          | false => simp [hb] at hn
        refine snapG_ok (c' := cx X' bs Lc w) I hlo hgr ((Val_leaf rfl (by simp) (by simp)).2 g) rfl hro fun b o ho hA => ?_
        have hid := memN_iff.1 hm
        rcases hA with q | q
        · exact q.2.2.2 ⟨id, hid, ho⟩
        · obtain ⟨j, e, hj, g1, _⟩ := hownIn b o q
          have := Own1.unique I ho g1
          refine hsids id hid ?_
          rw [this]
          exact List.mem_map.2 ⟨e, List.mem_of_getElem? hj, rfl⟩
    · rename_i id path
      obtain ⟨j, q, hr, rfl⟩ := tr_ptr ht
      rw [hρ] at hr
      obtain ⟨rfl, i, hi, hE⟩ := findE_some hr
      simp only [Nat.zero_add] at hi; subst hi
      rcases hEnt _ _ hE with ⟨v0, x, x', o, hp, _, q1, q2, q3, q4, q5, q6, q7⟩ | ⟨k, nl, r, hp, q1, q2, q3, q4, q5⟩ | ⟨k, nl, r, hp, q1, q2, q3, q4, q5⟩
      · have hL : (cx X h L w).L[id]? = some hp := q2
        have hL' : (cx X' bs Lc w).L[j]? = some _ := q7
        simp only [leaf, cx_S q1, Blk.sh, hL] at g
        simp only [leaf, cx_S q6, Blk.sh, hL']
        obtain ⟨o1, n, g1, rfl⟩ := g
        simp only at q4
        rw [q4] at g1
        simp only [Option.some.injEq, Prod.mk.injEq] at g1
        obtain ⟨rfl, g1⟩ := g1
        exact ⟨0, sh x', by cases hs : sh x' <;> rfl, by simp⟩
      · have hL : (cx X h L w).L[id]? = some hp := q2
        simp only [leaf, cx_S q1, Blk.sh, hL] at g
        obtain ⟨_, i, g1, _⟩ := g
        simp only at q3
        rw [q3] at g1
        simp at g1
      · have hL : (cx X h L w).L[id]? = some hp := q2
        simp only [leaf, cx_S q1, Blk.sh, hL] at g
        obtain ⟨_, i, g1, _⟩ := g
        simp only at q3
        rw [q3] at g1
        simp at g1
    · rename_i id n
      obtain ⟨_, l, ll, hb, hc, hn, rfl, _⟩ := tr_asl ht
      subst hlS
      have hlo : lookOk (fun id => cond (memN id sids) (look id) .rsv) h := by
        intro id hn
        cases hb : memN id sids with
        | true => simp only [hb, cond_true] at hn ⊢; exact hl id hn
        | false => simp [hb] at hn
      refine asl_ok I hlo hb hc hn g rfl hro fun i _ b o hi ho hA => ?_
      have hid : i ∈ sids := by
        cases hm : memN i sids with
        | true => exact memN_iff.1 hm
        | false => simp [hm] at hi
      rcases hA with q | q
      · exact q.2.2.2 ⟨i, hid, ho⟩
      · obtain ⟨j, e, hj, g1, _⟩ := hownIn b o q
        have := Own1.unique I ho g1
        refine hsids i hid ?_
        rw [this]
        exact List.mem_map.2 ⟨e, List.mem_of_getElem? hj, rfl⟩
  have T0 : TrOk (cx X h L w) (cx X' bs Lc w) noLook false (fun _ _ => none) := by
    refine ⟨rfl, fun x x' v hx ht g => ?_⟩
    cases x <;> simp only [AV.isRef, Bool.false_eq_true] at hx <;> simp [trA] at ht
  refine ⟨Lc, by simp [Lc, hlen], hlen, hEnt, hvar, ⟨I.eok.step I.stp, by simp [Lc, hlen], fun j b p hb hp => ?_, fun i j s t p q b o hij hs ht hp hq o1 o2 => ?_, fun b o q hO => hO.2.2.1 q, fun b o q => .inr q, fun b o q => q.1, Step.refl _ _, fun g v hg => ?_, fun q => by cases q⟩, ?_⟩
  · have hj : j < (ptrs args ++ Er).length := by have := getElem?_lt hb; omega
    rcases hEnt j _ (List.getElem?_eq_getElem hj) with ⟨v0, x, x', o, hp', _, q1, q2, q3, q4, q5, q6, q7⟩ | ⟨k, nl, r, hp', q1, q2, q3, q4, q5⟩ | ⟨k, nl, r, hp', q1, q2, q3, q4, q5⟩
    · rw [hb] at q6; simp only [Option.some.injEq] at q6; subst q6
      rw [hp] at q7; simp only [Option.some.injEq] at q7; subst q7
      obtain ⟨cs, g1, g2⟩ := I.blk _ _ _ q1 q2
      obtain ⟨pre, c1, post, rfl, hpre, r1, r2, _⟩ := Cells_at _ _ _ _ _ _ g1 q3 q4
      refine ⟨c1, tr_Cells T x x' c1 (.inr hro) q5 r1, fun i hi => ?_⟩
      have := g2 (o + i) (by simp [hpre]; omega)
      simp only [cx] at this ⊢
      rw [show hp'.o + o + i = hp'.o + (o + i) by omega]
      refine ⟨?_, this.2⟩
      rw [this.1]
      have e : (pre ++ c1 ++ post)[o + i]? = some c1[i] := by
        rw [List.append_assoc, List.getElem?_append_right (by omega), List.getElem?_append_left (by omega)]
        simp [hpre, hi]
      rw [← List.getElem?_eq_getElem, e]
    · rw [hb] at q4; simp only [Option.some.injEq] at q4; subst q4
      rw [hp] at q5; simp only [Option.some.injEq] at q5; subst q5
      exact I.blk _ _ _ q1 q2
    · rw [hb] at q4; simp only [Option.some.injEq] at q4; subst q4
      rw [hp] at q5; simp only [Option.some.injEq] at q5; subst q5
      obtain ⟨h0, h1, h2⟩ := I.blk _ _ _ q1 q2
      refine ⟨h0, h1, fun hn => ?_⟩
      obtain ⟨r1, r2, r3⟩ := h2 hn
      refine ⟨r1, fun i hi => ?_, r3⟩
      obtain ⟨cs, s1, s2⟩ := r2 i hi
      exact ⟨cs, Fz.ro hro k _ cs s1, s2⟩
  · obtain ⟨e, he, g1⟩ := own_ent hlen hEnt (show Own1 bs Lc i b o from ⟨s, p, hs, hp, o1⟩)
    obtain ⟨e', he', g2⟩ := own_ent hlen hEnt (show Own1 bs Lc j b o from ⟨t, q, ht, hq, o2⟩)
    exact hij (nodup_idx hnd he he' (Own1.unique I g1 g2))
  · obtain ⟨cs, g1, g2⟩ := I.glb g v hg
    refine ⟨cs, tr_Cells T0 v v cs (.inr hro) (hG.gtr g v hg) g1, fun i hi => ⟨(g2 i hi).1, fun q => (g2 i hi).2 (hAsub _ _ q)⟩⟩
  · exact trL_all2 T hro has hargs
end Go.Ev
namespace Go.Ev
theorem call_out {X : Fx} {h : List Blk} {L : List Loc} {w : World} (I : Inv X h L w) {look lookS : Nat → Blk} {ρ : Ren}
    {E0 Er : List (Nat × List Nat)} (hnd : ((E0 ++ Er).map (·.1)).Nodup) {sids : List Nat} (hsids : ∀ id ∈ sids, id ∉ (E0 ++ Er).map (·.1))
    {bs : List Blk} {Lc : List Loc} (hlen : bs.length = (E0 ++ Er).length) (hEnt : ∀ (j : Nat) e, (E0 ++ Er)[j]? = some e → Ent h L look lookS ρ bs Lc j e) (hvar : ∀ e ∈ E0, ∃ v, h[e.1]? = some (.var v))
    {bs' : List Blk} {L1 : List Loc} {w' : World} (I2 : Inv (calleeFx X h L w bs Lc sids) bs' L1 w') (keep : KeepV bs bs' Lc L1)
    {nid : Nat} {us ns : List (Nat × Blk)} {v v' : AV} (hus : backBlks look (backE E0 nid) E0 (bs'.take E0.length) = some us) (hns : newBlks (backE E0 nid) nid (bs'.drop E0.length) = some ns)
    (hv : trA noLook false (backE E0 nid) v = some v') (hnl : ns.length ≤ maxNew) (hel : E0.length ≤ bs'.length) (hrsv : ∀ i, i < maxNew → h[nid + i]? = some .rsv)
    {ks : List Nat} (hks : (slf v = true ∧ bs'.all slfB = true) ∨ ks = sids) (hks' : ∀ id ∈ ks, id ∈ sids) :
    ∃ L', Inv X (applyU h (kills ks ++ (us ++ (kills (Er.map (·.1)) ++ ns)))) L' w' ∧ Cx.Le (cx X h L w) (cx X (applyU h (kills ks ++ (us ++ (kills (Er.map (·.1)) ++ ns)))) L' w') ∧
      ∀ cv, Val (cx (calleeFx X h L w bs Lc sids) bs' L1 w') v cv → Val (cx X (applyU h (kills ks ++ (us ++ (kills (Er.map (·.1)) ++ ns)))) L' w') v' cv := by
  obtain ⟨hnsl, hnu⟩ := newBlks_upd hns
  have hnd0 : (E0.map (·.1)).Nodup := by rw [List.map_append] at hnd; exact (List.nodup_append.1 hnd).1
  have hdis0 : ∀ id, id ∈ E0.map (·.1) → id ∉ Er.map (·.1) := by
    rw [List.map_append] at hnd
    intro id h1 h2
    exact (List.nodup_append.1 hnd).2.2 id h1 id h2 rfl
  obtain ⟨hbu, hbn⟩ := backBlks_upd hus hnd0
  simp only [List.length_drop] at hnu hnsl
  generalize hm : bs'.length - E0.length = m at hnu hnsl
  let h' := applyU h (kills ks ++ (us ++ (kills (Er.map (·.1)) ++ ns)))
  let L' : List Loc := (List.range L.length).map fun id => if nid ≤ id ∧ id < nid + m then L1.getD (E0.length + (id - nid)) default else L.getD id default
  have hL'len : L'.length = h'.length := by simp [L', h', applyU_length, I.len]
  have hL'new : ∀ k, k < m → nid + k < h.length → L'[nid + k]? = L1[E0.length + k]? := by
    intro k hk hlt
    have e1 : L'[nid + k]? = some (L1.getD (E0.length + k) default) := by
      simp only [L', List.getElem?_map]
      rw [List.getElem?_range (by rw [I.len]; exact hlt)]
      simp only [Option.map_some]
      rw [if_pos (by omega)]
      congr 3; omega
    have hlt1 : E0.length + k < L1.length := by rw [I2.len]; omega
    rw [e1, List.getD, List.getElem?_eq_getElem hlt1]; rfl
  have hL'old : ∀ id, ¬(nid ≤ id ∧ id < nid + m) → L'[id]? = L[id]? := by
    intro id hid
    rcases Nat.lt_or_ge id L.length with hlt | hge
    · simp only [L', List.getElem?_map]
      rw [List.getElem?_range hlt]
      simp only [Option.map_some]
      rw [if_neg hid, List.getD, List.getElem?_eq_getElem hlt]; rfl
    · rw [List.getElem?_eq_none hge, List.getElem?_eq_none (by simpa [L'] using hge)]
  have hrs : ∀ k, k < m → h[nid + k]? = some .rsv := fun k hk => hrsv k (by omega)
  have hnew : ∀ k, k < m → ∃ b b', bs'[E0.length + k]? = some b ∧ trB noLook false (backE E0 nid) b = some b' ∧ h'[nid + k]? = some b' := by
    intro k hk
    obtain ⟨b, b', q1, q2, q3⟩ := (hnu (nid + k)).1 (by omega)
    refine ⟨b, b', ?_, q2, ?_⟩
    · rw [List.getElem?_drop] at q1
      rw [show nid + k - nid = k by omega] at q1
      exact q1
    · simp only [h', applyU_get, updOf_append, q3]
      rw [if_pos (getElem?_lt (hrs k hk))]
  have hold : ∀ id, ¬(nid ≤ id ∧ id < nid + m) → id < h.length → h'[id]? = (if id ∈ Er.map (·.1) then some .dead else match updOf us id with | some b => some b | none => if id ∈ ks then some .dead else h[id]?) := by
    intro id hid hlt
    simp only [h', applyU_get, updOf_append, updOf_kills, (hnu id).2 hid]
    by_cases h1 : id ∈ Er.map (·.1)
    · simp only [h1, if_true, hlt]
    · simp only [h1, if_false]
      cases hu : updOf us id with
      | some b => simp only [hlt, if_true]
      | none =>
        by_cases h2 : id ∈ ks
        · simp only [h2, if_true, hlt]
        · simp only [h2, if_false]
  have hnotnew : ∀ id b, h[id]? = some b → b ≠ .rsv → ¬(nid ≤ id ∧ id < nid + m) := by
    intro id b hb hn hid
    have := hrs (id - nid) (by omega)
    rw [show nid + (id - nid) = id by omega, hb] at this
    simp only [Option.some.injEq] at this
    exact hn this
  -- what came in by a pointer
  have hE0 : ∀ (j : Nat) e, E0[j]? = some e → ∃ v0 x y y' v1 o hp, h[e.1]? = some (.var v0) ∧ L[e.1]? = some hp ∧ getP v0 e.2 = some x ∧ Sh.at (sh v0) e.2 = some (o, sh x) ∧ bs'[j]? = some (.var y) ∧ sh y = sh x ∧
      L1[j]? = some ⟨hp.b, hp.o + o, 0⟩ ∧ trA noLook false (backE E0 nid) y = some y' ∧ setP v0 e.2 y' = some v1 ∧ kindOk v0 e.2 y' = true ∧ h'[e.1]? = some (.var v1) ∧ sh v1 = sh v0 ∧
      (∃ x', bs[j]? = some (.var x') ∧ sh x' = sh x) ∧ Lc[j]? = some ⟨hp.b, hp.o + o, 0⟩ := by
    intro j e he
    have hj : j < E0.length := getElem?_lt he
    have he' : (E0 ++ Er)[j]? = some e := by rw [List.getElem?_append_left hj]; exact he
    obtain ⟨vv, hvv⟩ := hvar e (List.mem_of_getElem? he)
    rcases hEnt j e he' with ⟨v0, x, x', o, hp, q0, q1, q2, q3, q4, q5, q6, q7⟩ | ⟨k, nl, r, hp, q1, q2, q3, q4, q5⟩ | ⟨k, nl, r, hp, q1, q2, q3, q4, q5⟩
    · obtain ⟨v2, y, y', v1, r1, r2, r3, r4, r5, r6⟩ := hbu j e he
      rw [q0] at r1
      simp only [Blk.var.injEq] at r1
      subst r1
      have r2' : bs'[j]? = some (.var y) := by rw [List.getElem?_take, if_pos hj] at r2; exact r2
      obtain ⟨y2, k1, k2, k3⟩ := keep j x' q6
      rw [r2'] at k1
      simp only [Option.some.injEq, Blk.var.injEq] at k1
      subst k1
      have hsy : sh y = sh x := by rw [k2, tr_sh _ _ q5]
      have hsv1 : sh v1 = sh v0 := setP_sh _ _ _ _ _ _ r4 q4 (by rw [tr_sh _ _ r3, hsy])
      refine ⟨v0, x, y, y', v1, o, hp, q1, q2, q3, q4, r2', hsy, by rw [k3, q7], r3, r4, r5, ?_, hsv1, ⟨x', q6, tr_sh _ _ q5⟩, q7⟩
      rw [hold _ (hnotnew _ _ q1 (by simp)) (getElem?_lt q1), if_neg (hdis0 _ (List.mem_map.2 ⟨e, List.mem_of_getElem? he, rfl⟩)), r6]
    · rw [hvv] at q1; simp at q1
    · rw [hvv] at q1; simp at q1
  have hownIn : ∀ b o, own (bs.map Blk.sh) Lc b o → ∃ (j : Nat) (e : Nat × List Nat), (E0 ++ Er)[j]? = some e ∧ Own1 h L e.1 b o ∧ Own1 bs Lc j b o := by
    rintro b o ⟨j, s, p, h1, h2, h3⟩
    have g : Own1 bs Lc j b o := ⟨s, p, h1, h2, h3⟩
    obtain ⟨e, q1, q2⟩ := own_ent hlen hEnt g
    exact ⟨j, e, q1, q2, g⟩
  have hmemE : ∀ (j : Nat) e, (E0 ++ Er)[j]? = some e → e.1 ∈ (E0 ++ Er).map (·.1) := fun j e he => List.mem_map.2 ⟨e, List.mem_of_getElem? he, rfl⟩
  -- a cell that came in by a pointer is the callee's then too
  have hstay : ∀ (j : Nat) e b o, E0[j]? = some e → Own1 bs Lc j b o → Own1 bs' L1 j b o := by
    rintro j e b o he ⟨s, p, g1, g2, g3⟩
    obtain ⟨v0, x, y, y', v1, o1, hp, q1, q2, q3, q4, q5, q6, q7, _, _, _, _, _, ⟨x', r1, r2⟩, r3⟩ := hE0 j e he
    rw [shAt r1] at g1; simp only [Option.some.injEq] at g1; subst g1
    rw [r3] at g2; simp only [Option.some.injEq] at g2; subst g2
    refine ⟨_, _, shAt q5, q7, ?_⟩
    simp only [Blk.sh, BSh.owns] at g3 ⊢
    rw [q6, ← r2]; exact g3
  -- whose a cell is afterwards
  have hcase : ∀ id b o, Own1 h' L' id b o → ((nid ≤ id ∧ id < nid + m) ∧ Own1 bs' L1 (E0.length + (id - nid)) b o) ∨
      (¬(nid ≤ id ∧ id < nid + m) ∧ Own1 h L id b o ∧ id ∉ Er.map (·.1) ∧ (id ∉ ks)) := by
    rintro id b o ⟨s, p, g1, g2, g3⟩
    obtain ⟨bb, hb, rfl⟩ := shAt' g1
    have hlt : id < h.length := by have := getElem?_lt hb; simpa [h', applyU_length] using this
    by_cases hid : nid ≤ id ∧ id < nid + m
    · refine .inl ⟨hid, ?_⟩
      obtain ⟨b0, b1, q1, q2, q3⟩ := hnew (id - nid) (by omega)
      rw [show nid + (id - nid) = id by omega] at q3
      rw [hb] at q3; simp only [Option.some.injEq] at q3; subst q3
      have q4 := hL'new (id - nid) (by omega) (by omega)
      rw [show nid + (id - nid) = id by omega, g2] at q4
      refine ⟨_, p, shAt q1, q4.symm, ?_⟩
      rw [← trB_sh q2]; exact g3
    · refine .inr ⟨hid, ?_⟩
      rw [hL'old id hid] at g2
      rw [hold id hid hlt] at hb
      by_cases h1 : id ∈ Er.map (·.1)
      · rw [if_pos h1] at hb; simp only [Option.some.injEq] at hb; subst hb; exact g3.elim
      · rw [if_neg h1] at hb
        by_cases h0 : id ∈ E0.map (·.1)
        · obtain ⟨e, he, rfl⟩ := List.mem_map.1 h0
          obtain ⟨j, hj⟩ := List.getElem?_of_mem he
          obtain ⟨v0, x, y, y', v1, o1, hp, q1, q2, q3, q4, q5, q6, q7, r1, r2, r3, r4, r5, _⟩ := hE0 j e hj
          have hb' : h'[e.1]? = some bb := by rw [hold _ hid hlt, if_neg h1]; exact hb
          rw [r4] at hb'; simp only [Option.some.injEq] at hb'; subst hb'
          refine ⟨⟨_, p, shAt q1, g2, ?_⟩, h1, fun hk => hsids _ (hks' _ hk) (hmemE j e (by rw [List.getElem?_append_left (getElem?_lt hj)]; exact hj))⟩
          simp only [Blk.sh, BSh.owns] at g3 ⊢
          rw [← r5]; exact g3
        · rw [hbn id h0] at hb
          by_cases h2 : id ∈ ks
          · simp only [h2, if_true, Option.some.injEq] at hb; subst hb; exact g3.elim
          · simp only [h2, if_false] at hb
            exact ⟨⟨_, p, shAt hb, g2, g3⟩, h1, h2⟩
  have I2new : ∀ k b o, Own1 bs' L1 k b o → w.heap.size ≤ b ∨ own (bs.map Blk.sh) Lc b o := fun k b o g => I2.new b o g.own
  -- new and old are apart
  have hapart : ∀ i j b o, (nid ≤ i ∧ i < nid + m) → Own1 bs' L1 (E0.length + (i - nid)) b o → Own1 h L j b o → j ∉ Er.map (·.1) → False := by
    intro i j b o hi g1 g2 hj
    rcases I2new _ b o g1 with q | q
    · exact not_own_of_fresh I q g2.own
    · obtain ⟨k, e, q1, q2, q3⟩ := hownIn b o q
      have := Own1.unique I q2 g2
      subst this
      have hk : k < E0.length := by
        rcases Nat.lt_or_ge k E0.length with q | q
        · exact q
        · rw [List.getElem?_append_right q] at q1
          exact absurd (List.mem_map.2 ⟨e, List.mem_of_getElem? q1, rfl⟩) hj
      rw [List.getElem?_append_left hk] at q1
      have := Own1.unique I2 (hstay k e b o q1 q3) g1
      omega
  have hS : ∀ (id : Nat) s, (h.map Blk.sh)[id]? = some s → s ≠ .rsv → ((h'.map Blk.sh)[id]? = some s ∧ L'[id]? = L[id]?) ∨ (h'.map Blk.sh)[id]? = some .dead := by
    intro id s hs hr
    obtain ⟨b, hb, rfl⟩ := shAt' hs
    have hid := hnotnew id b hb (fun e => by subst e; exact hr rfl)
    have hlt := getElem?_lt hb
    rw [hL'old id hid]
    by_cases h1 : id ∈ Er.map (·.1)
    · exact .inr (shAt (b := .dead) (by rw [hold id hid hlt, if_pos h1]))
    · by_cases h0 : id ∈ E0.map (·.1)
      · obtain ⟨e, he, rfl⟩ := List.mem_map.1 h0
        obtain ⟨j, hj⟩ := List.getElem?_of_mem he
        obtain ⟨v0, x, y, y', v1, o1, hp, q1, q2, q3, q4, q5, q6, q7, r1, r2, r3, r4, r5, _⟩ := hE0 j e hj
        rw [q1] at hb; simp only [Option.some.injEq] at hb; subst hb
        refine .inl ⟨?_, rfl⟩
        rw [shAt r4]; simp only [Blk.sh, r5]
      · by_cases h2 : id ∈ ks
        · refine .inr (shAt (b := .dead) ?_)
          rw [hold id hid hlt, if_neg h1, hbn id h0]; simp only [h2, if_true]
        · refine .inl ⟨shAt ?_, rfl⟩
          rw [hold id hid hlt, if_neg h1, hbn id h0]; simp only [h2, if_false]; exact hb
  have T2 : TrOk (cx (calleeFx X h L w bs Lc sids) bs' L1 w') (cx X h' L' w') noLook false (backE E0 nid) := by
    refine ⟨rfl, fun z z' u hz ht g => ?_⟩
    have hin : ∀ (j : Nat) e p, E0[j]? = some e → backE E0 nid j p = some (e.1, e.2 ++ p) := fun j e p he => by simp only [backE, he]
    have hout : ∀ (j : Nat) p, E0.length ≤ j → backE E0 nid j p = some (nid + (j - E0.length), p) := fun j p hj => by simp only [backE, List.getElem?_eq_none hj]
    have hbj : ∀ (j : Nat), E0.length ≤ j → ∀ s, (cx (calleeFx X h L w bs Lc sids) bs' L1 w').S[j]? = some s → (cx X h' L' w').S[nid + (j - E0.length)]? = some s ∧ (cx X h' L' w').L[nid + (j - E0.length)]? = (cx (calleeFx X h L w bs Lc sids) bs' L1 w').L[j]? := by
      intro j hj s hs
      obtain ⟨b, hb, rfl⟩ := shAt' hs
      have hjl := getElem?_lt hb
      obtain ⟨b0, b1, q1, q2, q3⟩ := hnew (j - E0.length) (by omega)
      rw [show E0.length + (j - E0.length) = j by omega] at q1
      rw [hb] at q1; simp only [Option.some.injEq] at q1; subst q1
      refine ⟨?_, ?_⟩
      · show (h'.map Blk.sh)[_]? = _
        rw [shAt q3, trB_sh q2]
      · show L'[_]? = L1[j]?
        rw [hL'new (j - E0.length) (by omega) (getElem?_lt (hrs _ (by omega)))]
        congr 1; omega
    cases z <;> simp only [AV.isRef, Bool.false_eq_true] at hz
    · rename_i j p off len
      obtain ⟨j', q', hr, rfl⟩ : ∃ j' q', backE E0 nid j p = some (j', q') ∧ z' = .own j' q' off len := by
        rcases tr_own ht with q | ⟨_, q, _⟩ | ⟨_, q, _⟩
        · exact q
        · cases q
        · cases q
      rcases Nat.lt_or_ge j E0.length with hj | hj
      · obtain ⟨v0, x, y, y', v1, o, hp, q1, q2, q3, q4, q5, q6, q7, r1, r2, r3, r4, r5, _⟩ := hE0 j _ (List.getElem?_eq_getElem hj)
        rw [hin j _ p (List.getElem?_eq_getElem hj)] at hr
        simp only [Option.some.injEq, Prod.mk.injEq] at hr
        obtain ⟨rfl, rfl⟩ := hr
        have hL1 : (cx (calleeFx X h L w bs Lc sids) bs' L1 w').L[j]? = some _ := q7
        have hL2 : (cx X h' L' w').L[E0[j].1]? = some hp := by show L'[_]? = _; rw [hL'old _ (hnotnew _ _ q1 (by simp))]; exact q2
        simp only [leaf, cx_S q5, Blk.sh, hL1] at g
        have hS2 : (cx X h' L' w').S[E0[j].1]? = some (.var (sh v1)) := cx_S r4
        simp only [leaf, hS2, hL2]
        obtain ⟨o1, n, g1, g2, qq, g3, g4, g5⟩ := g
        refine ⟨o + o1, n, ?_, g2, qq, g3, g4, fun hlt => ?_⟩
        · rw [r5]; exact at_app _ _ _ _ _ _ _ q4 (by rw [← q6]; exact g1)
        · rw [g5 hlt]; simp [Nat.add_assoc]
      · rw [hout j p hj] at hr
        simp only [Option.some.injEq, Prod.mk.injEq] at hr
        obtain ⟨rfl, rfl⟩ := hr
        simp only [leaf] at g ⊢
        cases hs : (cx (calleeFx X h L w bs Lc sids) bs' L1 w').S[j]? with
        | none => simp [hs] at g
        | some s =>
          obtain ⟨e1, e2⟩ := hbj j hj s hs
          rw [e1, e2]; rw [hs] at g; exact g
    · rename_i j p
      obtain ⟨j', q', hr, rfl⟩ := tr_ptr ht
      rcases Nat.lt_or_ge j E0.length with hj | hj
      · obtain ⟨v0, x, y, y', v1, o, hp, q1, q2, q3, q4, q5, q6, q7, r1, r2, r3, r4, r5, _⟩ := hE0 j _ (List.getElem?_eq_getElem hj)
        rw [hin j _ p (List.getElem?_eq_getElem hj)] at hr
        simp only [Option.some.injEq, Prod.mk.injEq] at hr
        obtain ⟨rfl, rfl⟩ := hr
        have hL1 : (cx (calleeFx X h L w bs Lc sids) bs' L1 w').L[j]? = some _ := q7
        have hL2 : (cx X h' L' w').L[E0[j].1]? = some hp := by show L'[_]? = _; rw [hL'old _ (hnotnew _ _ q1 (by simp))]; exact q2
        simp only [leaf, cx_S q5, Blk.sh, hL1] at g
        have hS2 : (cx X h' L' w').S[E0[j].1]? = some (.var (sh v1)) := cx_S r4
        simp only [leaf, hS2, hL2]
        obtain ⟨o1, t, g1, rfl⟩ := g
        refine ⟨o + o1, t, ?_, by simp [Nat.add_assoc]⟩
        rw [r5]; exact at_app _ _ _ _ _ _ _ q4 (by rw [← q6]; exact g1)
      · rw [hout j p hj] at hr
        simp only [Option.some.injEq, Prod.mk.injEq] at hr
        obtain ⟨rfl, rfl⟩ := hr
        simp only [leaf] at g ⊢
        cases hs : (cx (calleeFx X h L w bs Lc sids) bs' L1 w').S[j]? with
        | none => simp [hs] at g
        | some s =>
          obtain ⟨e1, e2⟩ := hbj j hj s hs
          rw [e1, e2]; rw [hs] at g; exact g
    · simp [trA] at ht
  have hRO : ks = sids → RO (cx (calleeFx X h L w bs Lc sids) bs' L1 w') (cx X h' L' w') := by
    rintro rfl b o u hu hA
    refine ⟨hu, fun hA2 => hA ?_⟩
    rcases hA2 with q | ⟨id, s, p, g1, g2, g3⟩
    · refine .inl ⟨Nat.lt_of_lt_of_le (I.obd b o q) I.stp.size, .inl q, fun q2 => ?_, ?_⟩
      · obtain ⟨_, e, _, g, _⟩ := hownIn b o q2
        exact I.out b o g.own q
      · rintro ⟨id, _, g⟩; exact I.out b o g.own q
    · rcases hcase id b o ⟨s, p, g1, g2, g3⟩ with ⟨_, q⟩ | ⟨_, q, q1, q2⟩
      · exact .inr q.own
      · by_cases hb : own (bs.map Blk.sh) Lc b o
        · obtain ⟨k, e, r1, r2, r3⟩ := hownIn b o hb
          have := Own1.unique I r2 q
          subst this
          have hk : k < E0.length := by
            rcases Nat.lt_or_ge k E0.length with qq | qq
            · exact qq
            · rw [List.getElem?_append_right qq] at r1
              exact absurd (List.mem_map.2 ⟨e, List.mem_of_getElem? r1, rfl⟩) q1
          rw [List.getElem?_append_left hk] at r1
          exact .inr (hstay k e b o r1 r3).own
        · refine .inl ⟨own_lt I q.own, .inr q.own, hb, ?_⟩
          rintro ⟨id', h1, h2⟩
          have := Own1.unique I h2 q
          subst this
          exact q2 h1
  have hsv : slf v = true ∨ RO (cx (calleeFx X h L w bs Lc sids) bs' L1 w') (cx X h' L' w') := hks.imp (·.1) hRO
  have hsb : ∀ (k : Nat) b, bs'[k]? = some b → slfB b = true ∨ RO (cx (calleeFx X h L w bs Lc sids) bs' L1 w') (cx X h' L' w') := fun k b hb =>
    hks.imp (fun q => List.all_eq_true.1 q.2 b (List.mem_of_getElem? hb)) hRO
  obtain ⟨I3, hle⟩ := I.upd (own (bs.map Blk.sh) Lc) (L' := L') (h' := h') (w' := w') hL'len I2.stp
    (fun b o q => by obtain ⟨_, e, _, g, _⟩ := hownIn b o q; exact g.own) hS
    (by
      rintro b o ⟨id, s, p, g1, g2, g3⟩
      rcases hcase id b o ⟨s, p, g1, g2, g3⟩ with ⟨_, q⟩ | ⟨_, q, _⟩
      · rcases I2new _ b o q with r | r
        · exact .inr r
        · obtain ⟨_, e, _, g, _⟩ := hownIn b o r; exact .inl g.own
      · exact .inl q.own)
    (by
      intro i j s t p q b o hij hs ht hp hq o1 o2
      rcases hcase i b o ⟨s, p, hs, hp, o1⟩ with ⟨hi, g1⟩ | ⟨hi, g1, g2, _⟩ <;> rcases hcase j b o ⟨t, q, ht, hq, o2⟩ with ⟨hj, k1⟩ | ⟨hj, k1, k2, _⟩
      · have := Own1.unique I2 g1 k1; omega
      · exact hapart i j b o hi g1 k1 k2
      · exact hapart j i b o hj k1 g1 g2
      · exact hij (Own1.unique I g1 k1))
    (by
      intro hle id b p hb hp
      have hlt : id < h.length := by have := getElem?_lt hb; simpa [h', applyU_length] using this
      by_cases hid : nid ≤ id ∧ id < nid + m
      · obtain ⟨b0, b1, q1, q2, q3⟩ := hnew (id - nid) (by omega)
        rw [show nid + (id - nid) = id by omega] at q3
        rw [hb] at q3; simp only [Option.some.injEq] at q3; subst q3
        have q4 := hL'new (id - nid) (by omega) (by omega)
        rw [show nid + (id - nid) = id by omega, hp] at q4
        exact .inr (BlkOK.tr T2 rfl (hsb _ _ q1) q2 (I2.blk _ _ _ q1 q4.symm))
      · rw [hL'old id hid] at hp
        have hb0 := hb
        rw [hold id hid hlt] at hb
        by_cases h1 : id ∈ Er.map (·.1)
        · rw [if_pos h1] at hb; simp only [Option.some.injEq] at hb; subst hb; exact .inr trivial
        · rw [if_neg h1] at hb
          by_cases h0 : id ∈ E0.map (·.1)
          · obtain ⟨e, he, rfl⟩ := List.mem_map.1 h0
            obtain ⟨j, hj⟩ := List.getElem?_of_mem he
            obtain ⟨v0, x, y, y', v1, o1, hp1, q1, q2, q3, q4, q5, q6, q7, r1, r2, r3, r4, r5, ⟨x', r6, r6'⟩, r7⟩ := hE0 j e hj
            rw [r4] at hb0; simp only [Option.some.injEq] at hb0; subst hb0
            rw [q2] at hp; simp only [Option.some.injEq] at hp; subst hp
            refine .inr ?_
            obtain ⟨cs, g1, g2⟩ := I.blk _ _ _ q1 q2
            have g1' := Cells.le hle v0 cs g1
            obtain ⟨pre, c1, post, rfl, hpre, s1, s2, s3⟩ := Cells_at e.2 v0 x cs o1 (sh x) g1' q3 q4
            obtain ⟨cy, t1, t2⟩ := I2.blk _ _ _ q5 q7
            have t1' := tr_Cells T2 y y' cy ((hsb _ _ q5).imp (fun h => h) id) r1 t1
            obtain ⟨u1, u2⟩ := s3 y' cy v1 t1' (by rw [tr_sh _ _ r1, q6]) r2 r3
            refine ⟨_, u1, fun i hi => ?_⟩
            have l1 := Cells_len _ _ s1
            have l2 := Cells_len _ _ t1
            rw [q6] at l2
            -- the cells behind and ahead are as they were
            have side : ∀ i (hi : i < (pre ++ c1 ++ post).length), (i < o1 ∨ o1 + c1.length ≤ i) → w'.cell? ⟨hp1.b, hp1.o + i, none⟩ = some (pre ++ c1 ++ post)[i] ∧ w'.frozen? ⟨hp1.b, hp1.o + i, none⟩ = false := by
              intro i hi hor
              have := g2 i hi
              simp only [cx] at this
              have hblk := World.block_lt_of_cell? w _ this.1
              have hno : ¬ own (bs.map Blk.sh) Lc hp1.b (hp1.o + i) := by
                intro q
                obtain ⟨k, e', d1, d2, d3⟩ := hownIn _ _ q
                have hown0 : Own1 h L e.1 hp1.b (hp1.o + i) := ⟨_, hp1, shAt q1, q2, rfl, by omega, by
                  have := Cells_len _ _ g1; omega⟩
                have he1 := Own1.unique I d2 hown0
                have hj' : (E0 ++ Er)[j]? = some e := by rw [List.getElem?_append_left (getElem?_lt hj)]; exact hj
                have := nodup_idx hnd d1 hj' he1
                subst this
                obtain ⟨s, p, z1, z2, z3⟩ := d3
                rw [shAt r6] at z1; simp only [Option.some.injEq] at z1; subst z1
                rw [r7] at z2; simp only [Option.some.injEq] at z2; subst z2
                simp only [Blk.sh, BSh.owns, r6'] at z3
                omega
              exact ⟨(I2.stp.cell hblk hno).trans this.1, (I2.stp.frozen hblk).trans this.2⟩
            have key : ∀ z fr, (w'.cell? ⟨hp1.b, hp1.o + i, none⟩ = some z ∧ w'.frozen? ⟨hp1.b, hp1.o + i, none⟩ = fr) → (pre ++ cy ++ post)[i]? = some z → fr = false →
                (cx X h' L' w').w.cell? ⟨hp1.b, hp1.o + i, none⟩ = some (pre ++ cy ++ post)[i] ∧ (cx X h' L' w').w.frozen? ⟨hp1.b, hp1.o + i, none⟩ = false := by
              intro z fr h1 h2 h3
              subst h3
              refine ⟨?_, h1.2⟩
              rw [← List.getElem?_eq_getElem hi, h2]; exact h1.1
            simp only [List.length_append] at hi
            rcases Nat.lt_or_ge i o1 with hlo | hge
            · have hi' : i < (pre ++ c1 ++ post).length := by simp; omega
              refine key _ _ (side i hi' (.inl hlo)) ?_ rfl
              rw [← List.getElem?_eq_getElem hi', get3, get3, if_pos (by omega), if_pos (by omega)]
            · rcases Nat.lt_or_ge i (o1 + cy.length) with hmid | hge2
              · have := t2 (i - o1) (by omega)
                simp only [cx] at this
                rw [show hp1.o + o1 + (i - o1) = hp1.o + i by omega] at this
                refine key _ _ this ?_ rfl
                rw [get3, if_neg (by omega), if_pos (by omega), hpre]
                simp
              · have hi' : i < (pre ++ c1 ++ post).length := by simp; omega
                refine key _ _ (side i hi' (.inr (by omega))) ?_ rfl
                rw [← List.getElem?_eq_getElem hi', get3, get3, if_neg (by omega), if_neg (by omega), if_neg (by omega), if_neg (by omega), l1, l2]
          · rw [hbn id h0] at hb
            by_cases h2 : id ∈ ks
            · simp only [h2, if_true, Option.some.injEq] at hb; subst hb; exact .inr trivial
            · simp only [h2, if_false] at hb
              refine .inl ⟨hb, hp, fun b2 o2 hx hy => ?_⟩
              obtain ⟨k, e, d1, d2, _⟩ := hownIn _ _ hy
              have hown0 : Own1 h L id b2 o2 := ⟨_, p, shAt hb, hp, hx⟩
              have := Own1.unique I d2 hown0
              subst this
              have hin := hmemE k e d1
              rw [List.map_append, List.mem_append] at hin
              exact hin.elim h0 h1)
  exact ⟨L', I3, hle, fun cv hcv => tr_Val T2 v v' cv hsv hv hcv⟩
end Go.Ev
namespace Go.Ev
set_option linter.unusedSimpArgs false
set_option linter.unusedVariables false
theorem killL_get : ∀ (ks : List Nat) (h : List Blk) (j : Nat) (b : Blk), (applyU h (kills ks))[j]? = some b → (j ∈ ks ∧ b = .dead) ∨ (j ∉ ks ∧ h[j]? = some b)
  | [], h, j, b, q => .inr ⟨by simp, q⟩
  | k :: ks, h, j, b, q => by
    have q' : (applyU (h.set k .dead) (kills ks))[j]? = some b := q
    rcases killL_get ks _ j b q' with ⟨h1, h2⟩ | ⟨h1, h2⟩
    · exact .inl ⟨List.mem_cons_of_mem _ h1, h2⟩
    · rcases getElem?_set_cases h2 with ⟨rfl, rfl, _⟩ | ⟨hne, h3⟩
      · exact .inl ⟨List.mem_cons_self .., rfl⟩
      · exact .inr ⟨fun hm => (List.mem_cons.1 hm).elim (fun e => hne e.symm) h1, h3⟩
theorem killL_keep : ∀ (ks : List Nat) (h : List Blk) (j : Nat), j ∉ ks → (applyU h (kills ks))[j]? = h[j]?
  | [], h, j, _ => rfl
  | k :: ks, h, j, q => by
    have e : (applyU (h.set k .dead) (kills ks))[j]? = (h.set k .dead)[j]? := killL_keep ks _ j fun hm => q (List.mem_cons_of_mem _ hm)
    have hne : k ≠ j := fun e => q (e ▸ List.mem_cons_self ..)
    exact e.trans (List.getElem?_set_ne hne)
theorem applyU_app : ∀ (a b : List (Nat × Blk)) (h : List Blk), applyU h (a ++ b) = applyU (applyU h a) b
  | [], _, _ => rfl
  | (i, x) :: a, b, h => applyU_app a b (h.set i x)
theorem Inv.killL {X : Fx} {L : List Loc} {w : World} : ∀ (ks : List Nat) {h : List Blk}, Inv X h L w → Inv X (applyU h (kills ks)) L w ∧ Cx.Le (cx X h L w) (cx X (applyU h (kills ks)) L w)
  | [], _, I => ⟨I, Cx.Le.refl _⟩
  | k :: ks, h, I => by
    obtain ⟨I1, l1⟩ := I.kill k
    obtain ⟨I2, l2⟩ := Inv.killL ks I1
    exact ⟨I2, l1.trans l2⟩
theorem killed {X : Fx} {h : List Blk} {L : List Loc} {w : World} (I : Inv X h L w) {ks : List Nat} {i : Nat} (hi : i ∈ ks) {b o : Nat} (ho : Own1 h L i b o) : ¬ (cx X (applyU h (kills ks)) L w).A b o := by
  rintro (q | ⟨j, s, p, h1, h2, h3⟩)
  · exact I.out b o ho.own q
  · obtain ⟨bb, hb, rfl⟩ := shAt' h1
    rcases killL_get _ _ _ _ hb with ⟨_, rfl⟩ | ⟨g1, g2⟩
    · exact h3
    · have := Own1.unique I ho (show Own1 h L j b o from ⟨_, p, shAt g2, h2, h3⟩)
      exact g1 (this ▸ hi)
theorem RO.of_le {c c' : Cx} (h : c.Le c') : RO c c' := fun b o v h1 h2 => h.cell b o v h1 h2
theorem cont_frz {X : Fx} {h : List Blk} {L : List Loc} {w : World} (I : Inv X h L w) {look : Nat → Blk} (hl : lookOk look h) {k : IntKind} {v : AV} {x : List Int} {y : Value} (hc : cont look k v = some x) (hv : Val (cx X h L w) v y)
    {c' : Cx} (hw : c'.w = w) (hro : RO (cx X h L w) c') (hA : ∀ i ∈ refs v, ∀ b o, look i ≠ .rsv → Own1 h L i b o → ¬ c'.A b o) : IsSl c'.w c'.A k none x y := by
  cases v with
  | nils =>
    obtain rfl : y = .slice none 0 0 := hv
    simp only [cont, Option.some.injEq] at hc
    rw [← hc]
    exact ⟨by simp [NN], none, 0, rfl, Nat.le_refl _, by simp, fun _ => ⟨rfl, rfl⟩, fun p hp => by cases hp⟩
  | isl k' nl z =>
    simp only [cont] at hc
    obtain ⟨hk, r6⟩ := cond_none hc
    clear hc
    have hk := of_decide_eq_true hk
    subst hk
    simp only [Option.some.injEq] at r6
    rw [← r6]
    have hv : IsSl _ _ _ _ _ _ := hv
    obtain ⟨h0, a, cap, h1, h2, _, h4, h5⟩ := IsSl.ro hro hv
    exact ⟨h0, a, cap, h1, h2, by simp, h4, h5⟩
  | own i2 path off len =>
    rw [hw]
    have hsrc := cont_src hc
    refine snap_ok I hl hc hsrc hv c'.A fun b o ho => hA i2 (by simp [refs]) b o ?_ ho
    rcases hsrc with ⟨nl, m, e⟩ | ⟨v, n, m, e, _⟩ <;> rw [e] <;> simp
  | _ => simp [cont] at hc
theorem contL_frz {X : Fx} {h : List Blk} {L : List Loc} {w : World} (I : Inv X h L w) {look : Nat → Blk} (hl : lookOk look h) {k : IntKind} {c' : Cx} (hw : c'.w = w) (hro : RO (cx X h L w) c') :
    ∀ (l : List AV) (ll : List (List Int)) (ys : List Value), contL look k l = some ll → All2 (Val (cx X h L w)) l ys → (∀ i ∈ refsL l, ∀ b o, look i ≠ .rsv → Own1 h L i b o → ¬ c'.A b o) → FzR c'.w c'.A (.sl k) ll ys
  | [], ll, ys, hc, hv, _ => by
    simp only [contL, Option.some.injEq] at hc
    subst hc
    cases ys with
    | nil => rfl
    | cons y ys => exact hv.elim
  | v :: l, ll, ys, hc, hv, hA => by
    simp only [contL] at hc
    cases h1 : cont look k v with
    | none => simp [h1] at hc
    | some x =>
      cases h2 : contL look k l with
      | none => simp [h1, h2] at hc
      | some ll' =>
        simp only [h1, h2, Option.some.injEq] at hc
        subst hc
        cases ys with
        | nil => exact hv.elim
        | cons y ys =>
          obtain ⟨hv1, hv2⟩ := hv
          exact ⟨[y], ys, rfl, ⟨y, rfl, cont_frz I hl h1 hv1 hw hro fun i hi => hA i (by simp [refsL, hi])⟩, contL_frz I hl hw hro l ll' ys h2 hv2 fun i hi => hA i (by simp [refsL, hi])⟩
theorem FzR_ro {c c' : Cx} (h : RO c c') {t : T} : ∀ {l : List (Den t)} {cs : List Value}, FzR c.w c.A t l cs → FzR c'.w c'.A t l cs
  | [], _, g => g
  | x :: _, _, ⟨c1, c2, e, g1, g2⟩ => ⟨c1, c2, e, Fz.ro h t x c1 g1, FzR_ro h g2⟩
theorem ContsG.ro {c c' : Cx} (h : RO c c') (hw : c'.w = c.w) {t : T} {l : List (Den t)} {x : Value} (g : ContsG c.w c.A t l x) : ContsG c'.w c'.A t l x := by
  obtain ⟨a, cap, cs, h1, h2, h3, h4, h5⟩ := g
  exact ⟨a, cap, cs, h1, h2, h3, FzR_ro h h4, by rw [hw]; exact h5⟩
theorem gro_conts {X : Fx} {h : List Blk} {L : List Loc} {w : World} (I : Inv X h L w) {id off : Nat} {path : List Nat} {len : Option Nat} {t : T} {nl : Bool} {m : List (Den t)} {x : Value} (hb : h[id]? = some (.gro t nl m))
    (hv : Val (cx X h L w) (.own id path off len) x) : ContsG w (cx X h L w).A t (cut len off m) x := by
  obtain ⟨p, hp, _, q1, q2, q3⟩ := own_gro I hb hv
  have hcl := cut_len len off m q1
  obtain ⟨g0, g1, g2⟩ := I.blk id _ p hb hp
  cases nl with
  | true =>
    obtain ⟨⟨a0, rfl⟩, rfl⟩ := q2 rfl
    have e0 : cut len off ([] : List (Den t)) = [] := by cases len <;> simp [cut]
    rw [e0]
    exact ⟨a0, 0, [], rfl, Nat.le_refl _, fun _ => ⟨rfl, rfl⟩, rfl, fun p _ => ⟨fun h => absurd rfl h, fun i hi => absurd hi (by simp)⟩⟩
  | false =>
    obtain ⟨q, rfl, hq, hq2⟩ := q3 rfl
    obtain ⟨r1, r2, r3⟩ := g2 rfl
    obtain ⟨cs, s1, s2⟩ := FzR_of (w := w) (A := (cx X h L w).A) (fun j => w.cell? ⟨p.b, j, none⟩) (cut len off m) (p.o + t.len * off) (fun i hi => by
      obtain ⟨hm, he⟩ := cut_get len off m i hi
      obtain ⟨c, u1, u2⟩ := r2 (off + i) hm
      refine ⟨c, by rw [he]; exact u1, fun j hj => ?_⟩
      have := u2 j hj
      rw [Nat.mul_add] at this
      rw [show p.o + t.len * off + t.len * i + j = p.o + (t.len * off + t.len * i) + j by omega]
      exact this)
    refine ⟨some q, _, cs, by rw [hcl], by omega, fun e => (by cases e), s1, fun p' hp' => ?_⟩
    simp only [Option.some.injEq] at hp'
    subst hp'
    refine ⟨fun _ => hq.2, fun j hj => ?_⟩
    have hlen := FzR_len s1
    have hpos : 0 < (cut len off m).length := by
      rcases Nat.eq_zero_or_pos (cut len off m).length with q | q
      · rw [q] at hlen; omega
      · exact q
    have := hq2 (by omega)
    subst this
    exact s2 j hj
theorem contG_run {look : Nat → Blk} {te : T} {s : AV} {xs : List (Den te)} (h0 : contG look te s = some xs) {X : Fx} {h : List Blk} {L : List Loc} {w : World} {x : Value} (I : Inv X h L w) (hl : lookOk look h) (hv : Val (cx X h L w) s x) :
    ContsG w (cx X (applyU h (kills (aslRefs look s))) L w).A te xs x := by
  obtain ⟨I1, le1⟩ := I.killL (aslRefs look s)
  unfold contG at h0
  split at h0
  · rename_i id path off len
    split at h0
    · rename_i t' nl l hb
      obtain ⟨rfl, rfl⟩ := castL_eq h0
      exact gro_conts I (hl.get hb (by simp)) hv
    · cases h0
  · rename_i id n
    split at h0
    · rename_i l hb
      split at h0
      · rename_i k
        obtain ⟨hk, h0⟩ := cond_none h0
        have hk := of_decide_eq_true hk
        subst hk
        split at h0
        · rename_i ll hc
          obtain ⟨hn, h0⟩ := cond_none h0
          have hn := Nat.eq_of_beq_eq_true hn
          have h0 := Option.some.inj h0
          subst h0
          have e : aslRefs look (.asl id n) = id :: refsL l := by simp only [aslRefs, hb]
          have hv' : leaf (cx X h L w) (.asl id n) x := hv
          have := asl_ok (c' := cx X (applyU h (kills (aslRefs look (.asl id n)))) L w) I hl hb hc hn hv' rfl (RO.of_le le1) (fun i hi b o _ ho => killed I (by rw [e]; exact hi) ho)
          exact (rsl_rw this).conts
        · cases h0
      · cases h0
    · cases h0
  · have := contF_run (c := cx X h L w) h0 hv
    exact ContsG.ro (c := cx X h L w) (RO.of_le le1) rfl this.conts
theorem contsG_first {P : Program} {w : World} {A : Nat → Nat → Prop} {t : T} {l : List (Den t)} {x : Value} (g : ContsG w A t l x) : ∃ cs, FzR w A t l cs ∧ (Builtin.lenOf x).run P w = .ok l.length w ∧
    ∀ w', (∀ a : Addr, w'.cell? a = w.cell? a) → (Builtin.firstCells t.len l.length x).run P w' = .ok cs.toArray w' := by
  obtain ⟨a, cap, cs, rfl, h2, h3, h4, h5⟩ := g
  refine ⟨cs, h4, by simp [Builtin.lenOf], fun w' hw => ?_⟩
  have hlen := FzR_len h4
  cases a with
  | none =>
    obtain ⟨rfl, _⟩ := h3 rfl
    obtain rfl := h4
    simp [Builtin.firstCells]
  | some p =>
    obtain ⟨q1, q2⟩ := h5 p rfl
    by_cases hl0 : l = []
    · subst hl0
      obtain rfl := h4
      simp [Builtin.firstCells, loadCells, loadCellsFrom]
    · have hs := q1 hl0
      have hp : p = ⟨p.block, p.off, none⟩ := by cases p; simp_all
      have := run_loadCells_list (P := P) w' p cs fun j y hj => by
        rw [addr_add _ _ hs, hw]
        have hlt := getElem?_lt hj
        rw [List.getElem?_eq_getElem hlt, Option.some.injEq] at hj
        rw [q2 j hlt, hj]
      rw [hlen, Nat.mul_comm] at this
      simp only [Builtin.firstCells, this]
theorem run_appendG_room {P : Program} {w : World} {t tx ty e e' : TypeId} {i : TypeInfo} {x : Value} {n : Nat} {fl : List Value} (ht : P.underlying t = some (.slice e)) (hx : P.underlying tx = some (.slice e')) (hi : P.info? e = some i)
    (h1 : (Builtin.lenOf x).run P w = .ok n w) (h2 : (Builtin.firstCells i.size n x).run P w = .ok fl.toArray w) {q : Addr} {sLen sCap : Nat} (hroom : sLen + n ≤ sCap)
    (hq : fl ≠ [] → q.spot = none ∧ (∀ j, j < fl.length → (w.cell? ⟨q.block, q.off + sLen * i.size + j, none⟩).isSome = true) ∧ (∀ j, j < fl.length → w.frozen? ⟨q.block, q.off + sLen * i.size + j, none⟩ = false)) (hone : ∀ v ∈ fl, v.oneCell' = true) :
    (Builtin.append_ #[t, tx] ty #[.slice (some q) sLen sCap, x]).run P w = .ok (.slice (some q) (sLen + n) sCap) (w.setCells q.block (q.off + sLen * i.size) fl) := by
  have hst : (storeCells (q.add (sLen * i.size)) fl).run P w = .ok () (w.setCells q.block (q.off + sLen * i.size) fl) := by
    by_cases hxs : fl = []
    · subst hxs; rfl
    · obtain ⟨g1, g2, g3⟩ := hq hxs
      rw [addr_add _ _ g1]
      have := run_storeCells_cells (P := P) q.block (q.off + sLen * i.size) fl 0 w (by simpa using g2) (by simpa using g3) hone
      simpa using this
  simp [Builtin.append_, run_underlying' ht, run_underlying' hx, sizeOf, typeInfo, hi, h1, h2, hroom, hst]
theorem run_appendG_nil {P : Program} {w : World} {t tx ty e e' : TypeId} {i : TypeInfo} {x : Value} {a0 : Option Addr} (ht : P.underlying t = some (.slice e)) (hx : P.underlying tx = some (.slice e')) (hi : P.info? e = some i)
    (h1 : (Builtin.lenOf x).run P w = .ok 0 w) (h2 : (Builtin.firstCells i.size 0 x).run P w = .ok #[] w) : (Builtin.append_ #[t, tx] ty #[.slice a0 0 0, x]).run P w = .ok (.slice a0 0 0) w := by
  cases a0 <;> simp [Builtin.append_, run_underlying' ht, run_underlying' hx, sizeOf, typeInfo, hi, h1, h2, storeCells]
theorem run_appendG_grow {P : Program} {w : World} {t tx ty e e' : TypeId} {i : TypeInfo} {z x : Value} {n sLen sCap : Nat} {base : Option Addr} {ol fl : List Value} (ht : P.underlying t = some (.slice e)) (hx : P.underlying tx = some (.slice e')) (hi : P.info? e = some i)
    (hz : i.zero = some z) (h1 : (Builtin.lenOf x).run P w = .ok n w) (h2 : (Builtin.firstCells i.size n x).run P w.drew = .ok fl.toArray w.drew) (h3 : (Builtin.firstCells i.size sLen (.slice base sLen sCap)).run P w.drew = .ok ol.toArray w.drew)
    (hg : sCap < sLen + n) (hb : (sLen + n) * i.bytes ≤ 140737488355328) (h63 : sLen + n ≤ 140737488355328) :
    (Builtin.append_ #[t, tx] ty #[.slice base sLen sCap, x]).run P w = .ok (.slice (some ⟨w.heap.size, 0, none⟩) (sLen + n) (grownCap w (sLen + n) sCap e))
      (w.drew.alloc (.cells (ol.toArray ++ fl.toArray ++ Builtin.zeroCells z.cells (grownCap w (sLen + n) sCap e - (sLen + n))) e)) := by
  have hn : ¬ (sLen + n ≤ sCap) := by omega
  have h63' : ¬ (9223372036854775807 < ((sLen : Int) + (n : Int))) := by omega
  have h48' : ¬ (281474976710656 < Builtin.nextslicecap (sLen + n) sCap * i.bytes) := by have := growslice_fits hg hb; omega
  simp [Builtin.append_, run_underlying' ht, run_underlying' hx, sizeOf, typeInfo, zeroValue, hi, hz, h1, h2, h3, hn, h63', h48', Question.forced, newRow, grownCap]
  try (congr 2; apply Array.ext'; simp)
theorem zeroCells_size (z : Array Value) (n : Nat) : (Builtin.zeroCells z n).size = n * z.size := by simp [Builtin.zeroCells]
theorem Inv.moveGro {X : Fx} {h : List Blk} {L : List Loc} {w : World} (I : Inv X h L w) {id nid off : Nat} {t : T} {l old xs : List (Den t)} {fl : List Value} {p : Loc} (hb : h[id]? = some (.gro t false l)) (hp : L[id]? = some p) (hn : h[nid]? = some .rsv)
    (hold : ∀ i (hi : i < old.length), ∃ hm : off + i < l.length, old[i] = l[off + i]) (hroom : old.length + xs.length ≤ p.cap / t.len - off) (hxs : FzR w (cx X h L w).A t xs fl) :
    Inv X ((h.set id .dead).set nid (.gro t false (old ++ xs))) (L.set nid ⟨p.b, p.o + t.len * off, p.cap - t.len * off⟩) (w.setCells p.b (p.o + t.len * off + t.len * old.length) fl) ∧
      Cx.Le (cx X h L w) (cx X ((h.set id .dead).set nid (.gro t false (old ++ xs))) (L.set nid ⟨p.b, p.o + t.len * off, p.cap - t.len * off⟩) (w.setCells p.b (p.o + t.len * off + t.len * old.length) fl)) ∧
      (∀ j, j < fl.length → (w.cell? ⟨p.b, p.o + t.len * off + t.len * old.length + j, none⟩).isSome = true) ∧ (∀ j, j < fl.length → w.frozen? ⟨p.b, p.o + t.len * off + t.len * old.length + j, none⟩ = false) := by
  have hne : id ≠ nid := by rintro rfl; rw [hb] at hn; simp at hn
  obtain ⟨g1, g2, g3⟩ := I.blk id _ p hb hp
  obtain ⟨q1, q2, q3⟩ := g3 rfl
  have hfl := FzR_len hxs
  have hmul : t.len * (p.cap / t.len) ≤ p.cap := Nat.mul_div_le p.cap t.len
  have hB : t.len * off + t.len * old.length + t.len * xs.length ≤ p.cap ∨ xs = [] := by
    by_cases hx : xs = []
    · exact .inr hx
    · left
      have : 0 < xs.length := List.length_pos_iff.2 hx
      have a1 : t.len * (off + (old.length + xs.length)) ≤ t.len * (p.cap / t.len) := Nat.mul_le_mul_left _ (by omega)
      rw [Nat.mul_add, Nat.mul_add] at a1
      omega
  have hin : ∀ j, j < fl.length → t.len * off + t.len * old.length + j < p.cap := fun j hj => by
    rcases hB with q | rfl
    · omega
    · simp at hfl; subst hfl; simp at hj
  have hsome : ∀ j, j < fl.length → (w.cell? ⟨p.b, p.o + t.len * off + t.len * old.length + j, none⟩).isSome = true := fun j hj => by
    obtain ⟨⟨x, hx⟩, _⟩ := q3 (t.len * off + t.len * old.length + j) (hin j hj)
    have hx : w.cell? _ = _ := hx
    rw [show p.o + t.len * off + t.len * old.length + j = p.o + (t.len * off + t.len * old.length + j) by omega, hx]; rfl
  have hfr : ∀ j, j < fl.length → w.frozen? ⟨p.b, p.o + t.len * off + t.len * old.length + j, none⟩ = false := fun j hj => by
    have := (q3 (t.len * off + t.len * old.length + j) (hin j hj)).2
    have hx : w.frozen? _ = _ := this
    rw [show p.o + t.len * off + t.len * old.length + j = p.o + (t.len * off + t.len * old.length + j) by omega, hx]
  have hSid : (h.map Blk.sh)[id]? = some (.gro t.len false l.length) := by rw [List.getElem?_map, hb]; rfl
  have hSmap : ((h.set id .dead).set nid (.gro t false (old ++ xs))).map Blk.sh = ((h.map Blk.sh).set id .dead).set nid (.gro t.len false (old ++ xs).length) := by
    rw [map_set_sh, map_set_sh]; rfl
  have hsub : ∀ b o, BSh.owns (.gro t.len false (old ++ xs).length) ⟨p.b, p.o + t.len * off, p.cap - t.len * off⟩ b o → BSh.owns (.gro t.len false l.length) p b o := by
    rintro b o ⟨_, h1, h2, h3⟩
    exact ⟨rfl, h1, by simp at h2 ⊢; omega, by simp at h2 h3 ⊢; omega⟩
  obtain ⟨I', hle⟩ := I.upd (h' := (h.set id .dead).set nid (.gro t false (old ++ xs))) (L' := L.set nid ⟨p.b, p.o + t.len * off, p.cap - t.len * off⟩) (w' := w.setCells p.b (p.o + t.len * off + t.len * old.length) fl)
    (fun b o => BSh.owns (.gro t.len false l.length) p b o) (by simp [I.len]) (Step.setCells _ _ _ _ fun j hj => ⟨rfl, rfl, by omega, by have := hin j hj; omega⟩) (fun b o q => ⟨id, _, p, hSid, hp, q⟩)
    (by
      intro i s hs hr
      rw [hSmap]
      have hin : nid ≠ i := by rintro rfl; rw [List.getElem?_map, hn] at hs; simp at hs; exact hr hs.symm
      by_cases hid : id = i
      · subst hid
        refine .inr ?_
        rw [List.getElem?_set_ne hin, List.getElem?_set_self (by have := getElem?_lt hs; exact this)]
      · refine .inl ⟨?_, ?_⟩
        · rw [List.getElem?_set_ne hin, List.getElem?_set_ne hid]; exact hs
        · rw [List.getElem?_set_ne hin])
    (by
      rintro b o ⟨i, s, q, h1, h2, h3⟩
      rw [hSmap] at h1
      rcases getElem?_set_set hne h1 with ⟨rfl, rfl⟩ | ⟨rfl, rfl⟩ | ⟨r1, r2, r3⟩
      · rcases getElem?_set_cases h2 with ⟨_, rfl, _⟩ | ⟨hh, _⟩
        · exact .inl ⟨id, _, p, hSid, hp, hsub b o h3⟩
        · exact absurd rfl hh
      · exact h3.elim
      · rw [List.getElem?_set_ne (Ne.symm r2)] at h2
        exact .inl ⟨i, s, q, r3, h2, h3⟩)
    (by
      intro i j s u q1' q2' b o hij hs ht hq1 hq2 ho1 ho2
      rw [hSmap] at hs ht
      have red : ∀ (i : Nat) (s : BSh) (q : Loc), (((h.map Blk.sh).set id .dead).set nid (.gro t.len false (old ++ xs).length))[i]? = some s → (L.set nid ⟨p.b, p.o + t.len * off, p.cap - t.len * off⟩)[i]? = some q → s.owns q b o →
          (i = nid ∧ BSh.owns (.gro t.len false l.length) p b o) ∨ (i ≠ nid ∧ i ≠ id ∧ (h.map Blk.sh)[i]? = some s ∧ L[i]? = some q) := by
        intro i s q h1 h2 h3
        rcases getElem?_set_set hne h1 with ⟨rfl, rfl⟩ | ⟨rfl, rfl⟩ | ⟨r1, r2, r3⟩
        · rcases getElem?_set_cases h2 with ⟨_, rfl, _⟩ | ⟨hh, _⟩
          · exact .inl ⟨rfl, hsub b o h3⟩
          · exact absurd rfl hh
        · exact h3.elim
        · rw [List.getElem?_set_ne (Ne.symm r2)] at h2
          exact .inr ⟨r2, r1, r3, h2⟩
      rcases red i s q1' hs hq1 ho1 with ⟨rfl, a1⟩ | ⟨a1, a2, a3, a4⟩
      · rcases red j u q2' ht hq2 ho2 with ⟨rfl, b1⟩ | ⟨b1, b2, b3, b4⟩
        · exact hij rfl
        · exact I.dis id j _ u p q2' b o (Ne.symm b2) hSid b3 hp b4 a1 ho2
      · rcases red j u q2' ht hq2 ho2 with ⟨rfl, b1⟩ | ⟨b1, b2, b3, b4⟩
        · exact I.dis i id s _ q1' p b o a2 a3 hSid a4 hp ho1 b1
        · exact I.dis i j s u q1' q2' b o hij a3 b3 a4 b4 ho1 ho2)
    (by
      intro hle i b q hb' hq'
      rcases getElem?_set_set hne hb' with ⟨rfl, rfl⟩ | ⟨rfl, rfl⟩ | ⟨r1, r2, r3⟩
      · rcases getElem?_set_cases hq' with ⟨_, rfl, _⟩ | ⟨hh, _⟩
        · have hdiv : (p.cap - t.len * off) / t.len = p.cap / t.len - off := Nat.sub_mul_div _ _ _
          refine .inr ⟨g1, by simp, fun _ => ⟨by simp only [hdiv, List.length_append]; exact hroom, fun i hi => ?_, fun j hj => ⟨?_, ?_⟩⟩⟩
          · by_cases hio : i < old.length
            · obtain ⟨hm, he⟩ := hold i hio
              obtain ⟨cs, s1, s2⟩ := q2 (off + i) hm
              have hlen := Fz_len t _ cs s1
              refine ⟨cs, by rw [List.getElem_append_left hio, he]; exact Fz.le hle t _ cs s1, fun j hj => ?_⟩
              show (w.setCells p.b (p.o + t.len * off + t.len * old.length) fl).cell? _ = _
              have a1 : t.len * (i + 1) ≤ t.len * old.length := Nat.mul_le_mul_left _ (by omega)
              rw [Nat.mul_succ] at a1
              rw [World.cell?_setCells_out _ _ _ _ _ (fun _ _ => .inl (by simp; omega))]
              have := s2 j hj
              rw [Nat.mul_add] at this
              have e : w.cell? _ = _ := this
              simp only
              rw [show p.o + t.len * off + t.len * i + j = p.o + (t.len * off + t.len * i) + j by omega]
              exact e
            · have hi' : i - old.length < xs.length := by simp at hi; omega
              obtain ⟨c, s1, s2⟩ := FzR_get hxs (i - old.length) hi'
              refine ⟨c, by rw [List.getElem_append_right (by omega)]; exact Fz.le hle t _ c s1, fun j hj => ?_⟩
              show (w.setCells p.b (p.o + t.len * off + t.len * old.length) fl).cell? _ = _
              have e := s2 j hj
              have hlt := getElem?_lt e
              have := World.cell?_setCells_in p.b fl (p.o + t.len * off + t.len * old.length) w (by simpa using hsome) (t.len * (i - old.length) + j) hlt
              have a1 : t.len * old.length + t.len * (i - old.length) = t.len * i := by rw [← Nat.mul_add]; congr 1; omega
              simp only
              rw [show p.o + t.len * off + t.len * i + j = p.o + t.len * off + t.len * old.length + (t.len * (i - old.length) + j) by omega, this]
              rw [← e, List.getElem?_eq_getElem hlt]
          · simp only at hj
            by_cases hin2 : t.len * old.length ≤ j ∧ j < t.len * old.length + fl.length
            · have := World.cell?_setCells_in p.b fl (p.o + t.len * off + t.len * old.length) w (by simpa using hsome) (j - t.len * old.length) (by omega)
              rw [show p.o + t.len * off + t.len * old.length + (j - t.len * old.length) = p.o + t.len * off + j by omega] at this
              exact ⟨_, this⟩
            · obtain ⟨⟨x, hx⟩, _⟩ := q3 (t.len * off + j) (by omega)
              refine ⟨x, ?_⟩
              show (w.setCells p.b (p.o + t.len * off + t.len * old.length) fl).cell? _ = _
              rw [World.cell?_setCells_out _ _ _ _ _ (fun _ _ => by simp; omega)]
              have hx : w.cell? _ = _ := hx
              rw [show p.o + t.len * off + j = p.o + (t.len * off + j) by omega, hx]
          · show (w.setCells p.b (p.o + t.len * off + t.len * old.length) fl).frozen? _ = _
            rw [World.frozen?_setCells]
            have hx : w.frozen? _ = _ := (q3 (t.len * off + j) (by simp only at hj; omega)).2
            rw [show p.o + t.len * off + j = p.o + (t.len * off + j) by omega, hx]
        · exact absurd rfl hh
      · exact .inr trivial
      · rw [List.getElem?_set_ne (Ne.symm r2)] at hq'
        refine .inl ⟨r3, hq', fun x y h1 h2 => ?_⟩
        exact I.dis i id b.sh _ q p x y r1 (by rw [List.getElem?_map, r3]; rfl) hSid hq' hp h1 h2)
  exact ⟨I', hle, hsome, hfr⟩
theorem groMk {X : Fx} {h : List Blk} {L : List Loc} {w : World} {nid : Nat} {t : T} {l : List (Den t)} {p : Loc} {q : Addr} {n cap : Nat} (hb : h[nid]? = some (.gro t false l)) (hp : L[nid]? = some p)
    (hn : n = l.length) (hc : cap = p.cap / t.len) (hq : q.block = p.b ∧ q.spot = none) (hq2 : 0 < p.cap / t.len → q = ⟨p.b, p.o, none⟩) : Val (cx X h L w) (.own nid [] 0 none) (.slice (some q) n cap) := by
  rw [Val_leaf rfl (by simp) (by simp)]
  simp only [leaf, cx_S hb, Blk.sh]
  have hL' : (cx X h L w).L[nid]? = some p := hp
  rw [hL']
  refine ⟨by trivial, by simp [olen], ?_⟩
  simp only [Bool.false_eq_true, if_false]
  exact ⟨q, by simp [olen, hn, hc], hq, fun hh => by rw [hq2 hh]; simp⟩
theorem FzR_one {c : Cx} (he : EOk c) {t : T} : ∀ {l : List (Den t)} {cs : List Value}, FzR c.w c.A t l cs → ∀ x ∈ cs, x.oneCell' = true
  | [], _, h, x, hx => by obtain rfl := h; simp at hx
  | y :: l, _, ⟨c1, c2, e, g1, g2⟩, x, hx => by
    subst e
    rcases List.mem_append.1 hx with hx | hx
    · exact Cells_one he _ _ (Fz_Cells t y c1 g1) x hx
    · exact FzR_one he g2 x hx
theorem zLen_ok {i : TypeInfo} {n : Nat} (h : zLen i n = true) : ∃ z, i.zero = some z ∧ z.cells.size = n := by
  unfold zLen at h
  split at h
  · rename_i z hz; exact ⟨z, hz, Nat.eq_of_beq_eq_true h⟩
  · cases h
theorem appendG_any {X : Fx} {h : List Blk} {L : List Loc} {w : World} (I : Inv X h L w) {t tx ty e e' : TypeId} {i : TypeInfo} {te : T} {z x : Value} {old xs : List (Den te)} {ol fl : List Value} (ht : X.G.P.underlying t = some (.slice e)) (hx : X.G.P.underlying tx = some (.slice e'))
    (hi : X.G.P.info? e = some i) (hs : i.size = te.len) (h0 : 0 < te.len) (hz : i.zero = some z) (hzs : z.cells.size = te.len) {nid : Nat} (hn : h[nid]? = some .rsv) (h1 : (Builtin.lenOf x).run X.G.P w = .ok xs.length w)
    (h2 : ∀ w', (∀ a : Addr, w'.cell? a = w.cell? a) → (Builtin.firstCells te.len xs.length x).run X.G.P w' = .ok fl.toArray w') {base : Option Addr} {sCap : Nat} (hg : sCap < old.length + xs.length)
    (hb : (old.length + xs.length) * i.bytes ≤ 140737488355328) (h63 : old.length + xs.length ≤ 140737488355328) (hol : FzR w (cx X h L w).A te old ol) (hfl : FzR w (cx X h L w).A te xs fl)
    (h3 : ∀ w', (∀ a : Addr, w'.cell? a = w.cell? a) → (Builtin.firstCells te.len old.length (.slice base old.length sCap)).run X.G.P w' = .ok ol.toArray w') :
    ∃ cv L' w', (Builtin.append_ #[t, tx] ty #[.slice base old.length sCap, x]).run X.G.P w = .ok cv w' ∧ Inv X (h.set nid (.gro te false (old ++ xs))) L' w' ∧ Cx.Le (cx X h L w) (cx X (h.set nid (.gro te false (old ++ xs))) L' w') ∧
      Val (cx X (h.set nid (.gro te false (old ++ xs))) L' w') (.own nid [] 0 none) cv := by
  have hrun := run_appendG_grow (ty := ty) (P := X.G.P) ht hx hi hz h1 (by rw [hs]; exact h2 _ fun _ => rfl) (by rw [hs]; exact h3 _ fun _ => rfl) hg hb h63
  have hge := grownCap_ge w (old.length + xs.length) sCap e
  have hl1 := FzR_len hol
  have hl2 := FzR_len hfl
  obtain ⟨L', I', hle, hval⟩ := I.newGro hn (t := te) (l := old ++ xs) (fl := ol ++ fl) (cs := ol.toArray ++ fl.toArray ++ Builtin.zeroCells z.cells (grownCap w (old.length + xs.length) sCap e - (old.length + xs.length))) e h0 (FzR_append hol hfl)
    (fun j hj => by
      rw [Array.getElem?_append_left (by simp at hj ⊢; omega)]
      simp only [List.append_toArray, List.getElem?_toArray]
      exact List.getElem?_eq_getElem hj) (grownCap w (old.length + xs.length) sCap e) (by simp; omega)
    (by
      simp only [Array.size_append, List.size_toArray, zeroCells_size, hzs]
      rw [hl1, hl2, Nat.mul_comm _ te.len, Nat.mul_sub, Nat.mul_add]
      have := Nat.mul_le_mul_left te.len hge
      rw [Nat.mul_add] at this
      omega) w.drew (.inr rfl)
  exact ⟨_, L', _, hrun, I', hle, by simpa using hval⟩
theorem appendGE_ok {G : Gi} {R : Type} {κ : Kop R} {r : R} {o : Oper} {c : Call} {d s : Operand} {t : List AV} {look : Nat → Blk} {nid : Nat} (ho : o.op = .call c) (hc : c.callee = .builtin .append) (ha : c.args.toList = [d, s])
    (hat : ∀ tx, argT c 1 = tx → c.argTypes[0]? = some (argT c 0) ∧ c.argTypes[1]? = some (argT c 1) ∧ c.argTypes = #[argT c 0, argT c 1])
    (h0 : appendGE G look nid κ (argT c 0) (argT c 1) (evO t d) (evO t s) = some r) : ∃ v us, κ v us = some r ∧ OpOk G o t look nid v us := by
  unfold appendGE at h0
  split at h0
  · rename_i e e' hu hux
    split at h0
    · rename_i i te hi hte
      obtain ⟨hcc, h0⟩ := cond_none h0
      simp only [Bool.and_eq_true] at hcc
      obtain ⟨⟨c1, c2⟩, c3⟩ := hcc
      have c1 := Nat.eq_of_beq_eq_true c1
      have c2 : 0 < te.len := Nat.lt_of_lt_of_le Nat.zero_lt_one (Nat.le_of_ble_eq_true c2)
      obtain ⟨z, hz, hzs⟩ := zLen_ok c3
      obtain ⟨_, _, hargs⟩ := hat _ rfl
      have hca : c.args = #[d, s] := by
        have : c.args.toList = (#[d, s] : Array Operand).toList := ha
        exact Array.toList_inj.1 this
      have run : ∀ (a : Act) (w : World) (cv : Value) (w' : World), (Builtin.append_ #[argT c 0, argT c 1] o.type #[a.eval d, a.eval s]).run G.P w = .ok cv w' → (execOp a.eval o).run G.P w = .ok (.value cv) w' := by
        intro a w cv w' hrun
        simp only [execOp, ho, resolve, hc, hca, hargs, Sem.run_bind, Sem.run_pure, Result.andThen_ok, invoke, builtin]
        simp [hrun]
      have hops : ∀ (x : Operand), x = d ∨ x = s → x ∈ o.op.operands.toList := by
        intro x hx
        simp only [ho, Op.operands, Call.operands, hc, hca]
        simpa using hx
      split at h0
      · rename_i xs hxs
        unfold appendG at h0
        split at h0
        · rename_i had
          obtain ⟨b0, h0'⟩ := cond_none h0
          obtain ⟨b1, h1⟩ := cond_none h0'
          obtain ⟨b2, h2⟩ := cond_none h1
          have b1 := of_decide_eq_true b1
          have b2 := of_decide_eq_true b2
          have hnk : nid ∉ aslRefs look (evO t s) := fun hm => by rw [memN_iff.2 hm] at b0; cases b0
          refine ⟨_, _, h2, fun X hXG => ?_⟩
          subst hXG
          refine fun h L a w next Q I hvv hl hr hk' => .inl ?_
          have hn := hr 0 (by simp [resv, ho, hc])
          simp only [Nat.add_zero] at hn
          have e1 := hvv d (hops d (.inl rfl))
          have e2 := hvv s (hops s (.inr rfl))
          rw [had] at e1
          have e1 : a.eval d = .slice none 0 0 := e1
          have hcn := contG_run hxs I hl e2
          obtain ⟨I1, le1⟩ := I.killL (aslRefs look (evO t s))
          have hn1 : (applyU h (kills (aslRefs look (evO t s))))[nid]? = some .rsv := by
            rw [killL_keep _ _ _ hnk]; exact hn
          obtain ⟨fl, f1, f2, f3⟩ := contsG_first (P := X.G.P) hcn
          unfold Oper.wp
          simp only [applyU_app] at hk'
          cases xs with
          | nil =>
            obtain rfl := f1
            rw [run a w _ w (by rw [e1]; exact run_appendG_nil hu hux hi f2 (by rw [c1]; exact f3 w fun _ => rfl))]
            obtain ⟨I', hle⟩ := I1.nilGro hn1 te c2
            have hlt := getElem?_lt hn1
            obtain ⟨p, hp⟩ := I1.loc hn1
            exact hk' _ L w (by simpa [applyU] using I') (by simpa [applyU] using le1.trans hle) (by
              simp only [applyU, List.isEmpty_nil]
              rw [Val_leaf rfl (by simp) (by simp)]
              exact groNil (cx_S (List.getElem?_set_self hlt)) hp)
          | cons x xs =>
            obtain ⟨cv, L', w', g1, g2, g3, g4⟩ := appendG_any (ty := o.type) (old := []) (ol := []) (base := none) (sCap := 0) I1 hu hux hi c1 c2 hz hzs hn1 f2 f3 (by simp) (by simpa using b1) (by simpa using b2) rfl f1 (fun w' _ => by simp [Builtin.firstCells])
            rw [run a w cv w' (by rw [e1]; exact g1)]
            exact hk' cv L' w' (by simpa [applyU] using g2) (by simpa [applyU] using le1.trans g3) (by simpa [applyU] using g4)
        · rename_i id path off len had
          split at h0
          · rename_i t' nl l hb
            split at h0
            · rename_i old hold0
              obtain ⟨hmm, h1⟩ := cond_none h0
              clear h0
              obtain ⟨b1, h2⟩ := cond_none h1
              obtain ⟨b2, h3⟩ := cond_none h2
              have b1 := of_decide_eq_true b1
              have b2 := of_decide_eq_true b2
              simp only [Bool.and_eq_true, Bool.not_eq_true'] at hmm
              have hidk : id ∉ aslRefs look (evO t s) := fun hm => by rw [memN_iff.2 hm] at hmm; simp at hmm
              have hnk : nid ∉ aslRefs look (evO t s) := fun hm => by rw [memN_iff.2 hm] at hmm; simp at hmm
              obtain ⟨rfl, rfl⟩ := castL_eq hold0
              refine ⟨_, _, h3, fun X hXG => ?_⟩
              subst hXG
              refine fun h L a w next Q I hvv hl hr hk' => .inl ?_
              have hn := hr 0 (by simp [resv, ho, hc])
              simp only [Nat.add_zero] at hn
              have e1 := hvv d (hops d (.inl rfl))
              have e2 := hvv s (hops s (.inr rfl))
              rw [had] at e1
              have hcn := contG_run hxs I hl e2
              obtain ⟨I1, le1⟩ := I.killL (aslRefs look (evO t s))
              have hn1 : (applyU h (kills (aslRefs look (evO t s))))[nid]? = some .rsv := by
                rw [killL_keep _ _ _ hnk]; exact hn
              have hb0 := lookOk.get hl hb (by simp)
              have hb1 : (applyU h (kills (aslRefs look (evO t s))))[id]? = some (.gro t' nl l) := by
                rw [killL_keep _ _ _ hidk]; exact hb0
              obtain ⟨fl, f1, f2, f3⟩ := contsG_first (P := X.G.P) hcn
              have hne : id ≠ nid := by rintro rfl; rw [hb1] at hn1; simp at hn1
              have e1' := Val.le le1 _ _ e1
              obtain ⟨p, hp, hpa, g1, g2, g3⟩ := own_gro I1 hb1 e1'
              have hC := gro_conts I1 hb1 e1'
              have hholen := cut_len len off l g1
              obtain ⟨ol, o1, o2, o3⟩ := contsG_first (P := X.G.P) hC
              obtain ⟨ca, ccap, _, cx1, cx2, cx3, _, _⟩ := hC
              have hold := fun i hi => cut_get len off l i hi
              generalize cut len off l = old at *
              unfold Oper.wp
              simp only [applyU_app] at hk'
              have hkill := I1.kill id
              have hn' : ((applyU h (kills (aslRefs look (evO t s)))).set id .dead)[nid]? = some .rsv := by rw [List.getElem?_set_ne hne]; exact hn1
              by_cases hroom : old.length + xs.length ≤ ccap
              · cases nl with
                | true =>
                  obtain ⟨⟨a0, q1⟩, q2⟩ := g2 rfl
                  rw [q1] at cx1
                  simp only [Value.slice.injEq] at cx1
                  obtain ⟨rfl, _, rfl⟩ := cx1
                  have hxs0 : xs = [] := List.length_eq_zero_iff.1 (by omega)
                  have hol0 : old = [] := List.length_eq_zero_iff.1 (by omega)
                  subst hxs0; subst hol0
                  obtain rfl := f1
                  rw [run a w _ w (by rw [q1]; exact run_appendG_nil hu hux hi f2 (by rw [c1]; exact f3 w fun _ => rfl))]
                  obtain ⟨I', hle⟩ := hkill.1.nilGro hn' t' c2
                  have hlt := getElem?_lt hn'
                  obtain ⟨p', hp'⟩ := I1.loc hn1
                  exact hk' _ L w (by simpa [applyU] using I') (by simpa [applyU] using le1.trans (hkill.2.trans hle)) (by
                    simp only [applyU, List.isEmpty_nil, Bool.true_and, List.append_nil]
                    rw [Val_leaf rfl (by simp) (by simp)]
                    exact groNil (cx_S (List.getElem?_set_self hlt)) hp')
                | false =>
                  obtain ⟨q, q1, q2, q3⟩ := g3 rfl
                  rw [q1] at cx1
                  simp only [Value.slice.injEq] at cx1
                  obtain ⟨rfl, hle1, rfl⟩ := cx1
                  obtain ⟨I', hle, hsome, hfr⟩ := I1.moveGro hb1 hp hn1 hold hroom f1
                  have hfl := FzR_len f1
                  have hdiv : (p.cap - t'.len * off) / t'.len = p.cap / t'.len - off := Nat.sub_mul_div _ _ _
                  have hqq : fl ≠ [] → q = ⟨p.b, p.o + t'.len * off, none⟩ := fun hxs => q3 (by
                    have := List.length_pos_iff.2 hxs
                    have : 0 < xs.length := by
                      rcases Nat.eq_zero_or_pos xs.length with q | q
                      · rw [q] at hfl; omega
                      · exact q
                    omega)
                  have hrun := run_appendG_room (ty := o.type) (P := X.G.P) (q := q) (sLen := old.length) (sCap := p.cap / t'.len - off) hu hux hi f2 (by rw [c1]; exact f3 w fun _ => rfl) hroom (fun hxs => by
                    rw [hqq hxs, c1, Nat.mul_comm old.length t'.len]
                    exact ⟨rfl, hsome, hfr⟩) (FzR_one (c := cx X _ L w) I1.eok.w f1)
                  have hw' : w.setCells q.block (q.off + old.length * i.size) fl = w.setCells p.b (p.o + t'.len * off + t'.len * old.length) fl := by
                    by_cases hxs : fl = []
                    · subst hxs; rfl
                    · rw [hqq hxs, c1, Nat.mul_comm old.length t'.len]
                  rw [run a w _ _ (by rw [q1, hle1]; exact hrun), hw']
                  have hlt := getElem?_lt hn'
                  have hlt2 : nid < L.length := by rw [I1.len]; exact getElem?_lt hn1
                  exact hk' _ _ _ (by simpa [applyU] using I') (by simpa [applyU] using le1.trans hle) (by
                    simp only [applyU, Bool.and_false]
                    exact groMk (List.getElem?_set_self hlt) (List.getElem?_set_self hlt2) (by simp) (by simp only [hdiv]) q2 (fun hh => by rw [q3 (by simp only [hdiv] at hh; omega)]))
              · obtain ⟨cv, L', w', r1, r2, r3, r4⟩ := appendG_any (ty := o.type) (old := old) (base := ca) (sCap := ccap) hkill.1 hu hux hi c1 c2 hz hzs hn' f2 f3 (by omega) b1 b2 (FzR_le hkill.2 o1) (FzR_le hkill.2 f1) (by rw [← cx1]; exact o3)
                rw [run a w cv w' (by rw [cx1]; exact r1)]
                have hnl : (xs.isEmpty && nl) = false := by
                  cases nl with
                  | false => exact Bool.and_false _
                  | true =>
                    obtain ⟨⟨a0, q1⟩, q2⟩ := g2 rfl
                    rw [q1] at cx1
                    simp only [Value.slice.injEq] at cx1
                    cases xs with
                    | nil => simp at hroom; omega
                    | cons => rfl
                exact hk' cv L' w' (by simpa [applyU, hnl] using r2) (by simpa [applyU, hnl] using le1.trans (hkill.2.trans r3)) (by simpa [applyU, hnl] using r4)
            · cases h0
          · cases h0
        · cases h0
      · cases h0
    · cases h0
  · cases h0
theorem fill_order {sz : Nat} : ∀ (vs : List (Nat × Value)) (n : Nat) (pre post : List Value), (∀ j p, vs[j]? = some p → p.1 = n + j ∧ p.2.cells.size = sz) → pre.length = n * sz → post.length = vs.length * sz →
    Instr.fill (fun i => some (i * sz, sz)) (pre ++ post).toArray vs = some (pre ++ (vs.map fun p => p.2.cells.toList).flatten).toArray
  | [], n, pre, post, _, h2, h3 => by
    have : post = [] := List.length_eq_zero_iff.1 (by simpa using h3)
    subst this; rfl
  | (i, v) :: vs, n, pre, post, h1, h2, h3 => by
    obtain ⟨e1, e2⟩ := h1 0 (i, v) rfl
    simp only [Nat.add_zero] at e1 e2
    subst e1
    have hv : v.cells.toList.length = sz := by rw [Array.length_toList]; exact e2
    have hp : post = post.take sz ++ post.drop sz := (List.take_append_drop sz post).symm
    have hpl : (post.take sz).length = v.cells.toList.length := by
      rw [List.length_take, hv, h3, List.length_cons, Nat.add_mul]; omega
    simp only [Instr.fill]
    have hsz : ¬ (v.cells.size ≠ sz ∨ (pre ++ post).toArray.size < i * sz + v.cells.size) := by
      rw [e2]
      simp only [List.size_toArray, List.length_append, h2, h3, List.length_cons, Nat.add_mul]
      omega
    have hsz' : (decide (v.cells.size ≠ sz) || decide (i * sz + v.cells.size > (pre ++ post).toArray.size)) = false := by
      rw [Bool.or_eq_false_iff]
      exact ⟨decide_eq_false fun h => hsz (.inl h), decide_eq_false fun h => hsz (.inr h)⟩
    rw [if_neg (by rw [hsz']; simp)]
    have hfold : v.cells.zipIdx.foldl (fun (cs : Array Value) (x : Value × Nat) => cs.setIfInBounds (i * sz + x.2) x.1) (pre ++ post).toArray = (pre ++ v.cells.toList ++ post.drop sz).toArray := by
      have := foldl_splice v.cells.toList 0 (i * sz) pre (post.take sz) (post.drop sz) (by rw [h2]; omega) hpl
      rw [List.append_assoc, ← hp] at this
      rw [← this]
      cases v.cells with | mk l => simp
    rw [hfold]
    have := fill_order vs (i + 1) (pre ++ v.cells.toList) (post.drop sz) (fun j p hj => by
      have := h1 (j + 1) p (by simpa using hj)
      exact ⟨by omega, this.2⟩) (by rw [List.length_append, h2, hv, Nat.add_mul]; omega) (by rw [List.length_drop, h3, List.length_cons, Nat.add_mul]; omega)
    rw [this]
    simp
theorem buildG_run {P : Program} {w : World} {t e : TypeId} {i : TypeInfo} {z : Value} {len sz : Nat} {parts : Array (Nat × Value)} (ht : P.underlying t = some (.slice e)) (hi : P.info? e = some i) (hz : i.zero = some z) (hs : i.size = sz) (h0 : 0 < sz)
    (hlen : len * sz ≤ 100000) (hpl : parts.size = len) (hp : ∀ (j : Nat) (p : Nat × Value), parts.toList[j]? = some p → p.1 = j ∧ p.2.cells.size = sz) :
    (Instr.buildSlice t len parts).run P w = .ok (.slice (some ⟨w.heap.size, 0, none⟩) len len) (w.alloc (.cells ((parts.toList.map fun p => p.2.cells.toList).flatten).toArray e)) := by
  have n1 : ¬ 16777216 < len * sz := by omega
  have hf : ∀ (zc : Array Value), Instr.fill (fun i => some (i * sz, sz)) ((Array.range (len * sz)).map (fun j => zc[j % zc.size]!)) parts.toList = some ((parts.toList.map fun p => p.2.cells.toList).flatten).toArray := fun zc => by
    have := fill_order (sz := sz) parts.toList 0 [] ((Array.range (len * sz)).map (fun j => zc[j % zc.size]!)).toList (fun j p hj => by have := hp j p hj; exact ⟨by omega, this.2⟩) (by simp) (by simp [hpl])
    rw [List.nil_append, List.nil_append, Array.toArray_toList] at this
    exact this
  by_cases hl0 : len * sz = 0
  · have hf' := hf #[]
    simp [Instr.buildSlice, run_underlying' ht, sizeOf, typeInfo, hi, hs, n1, hl0, zeroValue, hz] at hf' ⊢
    simp [hf', newRow]
  · have hf' := hf z.cells
    simp [Instr.buildSlice, run_underlying' ht, sizeOf, typeInfo, hi, hs, n1, hl0, zeroValue, hz] at hf' ⊢
    simp [hf', newRow]
theorem inOrder_get {α : Type} (f : α → AV) : ∀ (ps : List (Nat × α)) (n : Nat), inOrder (ps.map fun p => (p.1, f p.2)) n = true → ∀ j p, ps[j]? = some p → p.1 = n + j
  | [], n, _, j, p, hj => by simp at hj
  | (i, a) :: ps, n, h, j, p, hj => by
    simp only [List.map_cons, inOrder, Bool.and_eq_true] at h
    cases j with
    | zero => simp at hj; subst hj; exact Nat.eq_of_beq_eq_true h.1
    | succ j =>
      have := inOrder_get f ps (n + 1) h.2 j p (by simpa using hj)
      omega
theorem decParts_ok {te : T} {α : Type} (f : α → AV) : ∀ (ps : List (Nat × α)) (n : Nat) (l : List (Den te)), decParts te (ps.map fun p => (p.1, f p.2)) n = some l → (∀ j p, ps[j]? = some p → p.1 = n + j) ∧ l.length = ps.length ∧ All2 (fun (p : Nat × α) (x : Den te) => decT te (f p.2) = some x) ps l
  | [], n, l, h => by
    simp only [List.map_nil, decParts] at h
    have h := Option.some.inj h
    subst h
    exact ⟨fun j p hj => by simp at hj, rfl, trivial⟩
  | (i, a) :: ps, n, l, h => by
    simp only [List.map_cons, decParts] at h
    obtain ⟨h1, h⟩ := cond_none h
    have h1 := Nat.eq_of_beq_eq_true h1
    split at h
    · rename_i x m hx hm
      have h := Option.some.inj h
      subst h
      obtain ⟨q1, q2, q3⟩ := decParts_ok f ps (n + 1) m hm
      refine ⟨fun j p hj => ?_, by simp [q2], hx, q3⟩
      cases j with
      | zero => simp at hj; subst hj; exact h1
      | succ j =>
        have := q1 j p (by simpa using hj)
        omega
    · cases h
theorem decParts_FzR {c : Cx} (he : EOk c) {te : T} {t : List AV} {a : Act} : ∀ (ps : List (Nat × Operand)) (l : List (Den te)), All2 (fun (p : Nat × Operand) (x : Den te) => decT te (evO t p.2) = some x) ps l → (∀ p ∈ ps, Val c (evO t p.2) (a.eval p.2)) →
    FzR c.w c.A te l (ps.map fun p => (a.eval p.2).cells.toList).flatten ∧ ∀ p ∈ ps, (a.eval p.2).cells.size = te.len
  | [], [], _, _ => ⟨rfl, fun p hp => by simp at hp⟩
  | p :: ps, x :: l, ⟨h1, h2⟩, hv => by
    have hz := decT_Fz te _ x _ h1 (Cells_of_Val he (hv p (by simp)) (decT_box h1))
    obtain ⟨q1, q2⟩ := decParts_FzR he ps l h2 fun p hp => hv p (by simp [hp])
    refine ⟨⟨_, _, by simp, hz, q1⟩, fun p' hp' => ?_⟩
    rcases List.mem_cons.1 hp' with rfl | hp'
    · have := Fz_len te x _ hz
      rw [Array.length_toList] at this
      exact this
    · exact q2 p' hp'
  | [], _ :: _, h, _ => h.elim
  | _ :: _, [], h, _ => h.elim
theorem sl_cells {c : Cx} {look : Nat → Blk} {k : IntKind} : ∀ (l : List AV) (ll : List (List Int)) (ys : List Value), contL look k l = some ll → All2 (Val c) l ys → (∀ y ∈ ys, y.cells = #[y]) ∧ ll.length = l.length
  | [], ll, [], h, _ => by
    simp only [contL, Option.some.injEq] at h
    subst h
    exact ⟨fun y hy => by simp at hy, rfl⟩
  | v :: l, ll, y :: ys, h, ⟨h1, h2⟩ => by
    simp only [contL] at h
    cases e1 : cont look k v with
    | none => simp [e1] at h
    | some x =>
      cases e2 : contL look k l with
      | none => simp [e1, e2] at h
      | some ll' =>
        simp only [e1, e2, Option.some.injEq] at h
        subst h
        obtain ⟨q1, q2⟩ := sl_cells l ll' ys e2 h2
        refine ⟨fun y' hy => ?_, by simp [q2]⟩
        rcases List.mem_cons.1 hy with rfl | hy
        · cases v <;> simp only [cont, reduceCtorEq] at e1
          · obtain rfl : y' = .slice none 0 0 := h1; rfl
          · obtain ⟨_, a, cap, rfl, _⟩ := h1; rfl
          · obtain ⟨a, n, m, rfl⟩ := leaf_own ((Val_leaf rfl (by simp) (by simp)).1 h1); rfl
        · exact q1 y' hy
  | [], _, _ :: _, _, h => h.elim
  | _ :: _, _, [], _, h => h.elim
theorem flat_ones : ∀ (ys : List Value), (∀ y ∈ ys, y.cells = #[y]) → (ys.map fun y => y.cells.toList).flatten = ys
  | [], _ => rfl
  | y :: ys, h => by
    rw [List.map_cons, List.flatten_cons, h y (by simp), flat_ones ys fun z hz => h z (by simp [hz])]
    rfl
theorem All2_map' {α β γ : Type} {r : β → γ → Prop} (f : α → β) (g : α → γ) : ∀ (l : List α), (∀ x ∈ l, r (f x) (g x)) → All2 r (l.map f) (l.map g)
  | [], _ => trivial
  | a :: l, h => ⟨h a (by simp), All2_map' f g l fun x hx => h x (by simp [hx])⟩
theorem buildGE_ok {G : Gi} {R : Type} {κ : Kop R} {r : R} {o : Oper} {ty : TypeId} {n : Nat} {parts : Array (Nat × Operand)} {t : List AV} {look : Nat → Blk} {nid : Nat} (ho : o.op = .buildSlice ty n parts)
    (h0 : buildGE G look nid κ ty n (parts.toList.map fun p => (p.1, evO t p.2)) = some r) : ∃ v us, κ v us = some r ∧ OpOk G o t look nid v us := by
  unfold buildGE at h0
  split at h0
  · rename_i e hu
    split at h0
    · rename_i i te hi hte
      obtain ⟨hcc, h1⟩ := cond_none h0
      clear h0
      simp only [Bool.and_eq_true] at hcc
      obtain ⟨⟨⟨⟨c1, c2⟩, c3⟩, c4⟩, c5⟩ := hcc
      have c1 := Nat.eq_of_beq_eq_true c1
      have c2 : 0 < te.len := Nat.lt_of_lt_of_le Nat.zero_lt_one (Nat.le_of_ble_eq_true c2)
      have c3 := Nat.eq_of_beq_eq_true c3
      rw [List.length_map, Array.length_toList] at c3
      obtain ⟨z, hz, hzs⟩ := zLen_ok c4
      have c5 := Nat.le_of_ble_eq_true c5
      have hval : ∀ {X : Fx} {h : List Blk} {L : List Loc} {a : Act} {w : World}, (∀ x ∈ o.op.operands.toList, Val (cx X h L w) (evO t x) (a.eval x)) → ∀ p ∈ parts.toList, Val (cx X h L w) (evO t p.2) (a.eval p.2) := fun hvv p hp => hvv p.2 (by
        simp only [ho, Op.operands, List.mem_map]; exact ⟨p, hp, rfl⟩)
      -- none of them
      have empty : (parts.toList.map fun p => (p.1, evO t p.2)).isEmpty = true → ∀ v us, v = .own nid [] 0 none → us = [(nid, Blk.gro te true [])] → κ v us = some r → ∃ v us, κ v us = some r ∧ OpOk G o t look nid v us := by
        rintro hem v us rfl rfl hk
        refine ⟨_, _, hk, fun X hXG => ?_⟩
        subst hXG
        refine fun h L a w next Q I hvv _ hr hk => .inl ?_
        have hn := hr 0 (by simp [resv, ho])
        simp only [Nat.add_zero] at hn
        have hp0 : parts.toList = [] := by rw [List.isEmpty_iff, List.map_eq_nil_iff] at hem; exact hem
        have hn0 : n = 0 := by
          have := congrArg List.length hp0
          rw [Array.length_toList] at this
          exact c3.symm.trans this
        subst hn0
        obtain ⟨I1, hle1⟩ := I.other (.cells #[] e)
        obtain ⟨I2, hle2⟩ := I1.nilGro hn te c2
        have hlt := getElem?_lt hn
        obtain ⟨p, hp⟩ := I1.loc hn
        unfold Oper.wp
        have : (execOp a.eval o).run X.G.P w = .ok (.value (.slice (some ⟨w.heap.size, 0, none⟩) 0 0)) (w.alloc (.cells #[] e)) := by
          have hpm : (parts.map fun p => (p.1, a.eval p.2)).toList = [] := by simp [hp0]
          have hrun := buildG_run (P := X.G.P) (w := w) (t := ty) (len := 0) (parts := parts.map fun p => (p.1, a.eval p.2)) hu hi hz c1 c2 (by simp) (by rw [Array.size_map]; exact c3) (fun j p hj => by rw [hpm] at hj; simp at hj)
          rw [hpm] at hrun
          simp only [execOp, ho, Sem.run_bind, hrun, Result.andThen_ok, Sem.run_pure]
          rfl
        rw [this]
        exact hk _ L _ (by simpa [applyU] using I2) (by simpa [applyU] using hle1.trans hle2) (by
          simp only [applyU]
          rw [Val_leaf rfl (by simp) (by simp)]
          exact groNil (cx_S (List.getElem?_set_self hlt)) hp)
      -- things that stay as they are
      have things : (match decParts te (parts.toList.map fun p => (p.1, evO t p.2)) 0 with
        | some l => cond G.gro (κ (.own nid [] 0 none) [(nid, .gro te false l)]) (κ (mkRow te l) [])
        | none => none) = some r → ∃ v us, κ v us = some r ∧ OpOk G o t look nid v us := by
        intro h2
        split at h2
        · rename_i l hl
          obtain ⟨q1, q2, q3⟩ := decParts_ok (fun x => evO t x) parts.toList 0 l hl
          have hrun : ∀ (P : Program) (a : Act) (w : World), P.underlying ty = some (.slice e) → P.info? e = some i → (∀ p ∈ parts.toList, (a.eval p.2).cells.size = te.len) →
              (execOp a.eval o).run P w = .ok (.value (.slice (some ⟨w.heap.size, 0, none⟩) n n)) (w.alloc (.cells ((parts.toList.map fun p => (a.eval p.2).cells.toList).flatten).toArray e)) := by
            intro P a w hu hi hsz
            have hpm : (parts.map fun p => (p.1, a.eval p.2)).toList = parts.toList.map fun p => (p.1, a.eval p.2) := Array.toList_map ..
            have := buildG_run (P := P) (w := w) (t := ty) (len := n) (parts := parts.map fun p => (p.1, a.eval p.2)) hu hi hz c1 c2 c5 (by rw [Array.size_map]; exact c3) (fun j p hj => by
              rw [hpm, List.getElem?_map] at hj
              cases hp : parts.toList[j]? with
              | none => simp [hp] at hj
              | some p0 =>
                simp only [hp, Option.map_some, Option.some.injEq] at hj
                subst hj
                exact ⟨by have := q1 j p0 hp; simpa using this, hsz p0 (List.mem_of_getElem? hp)⟩)
            rw [hpm, List.map_map] at this
            simp only [execOp, ho, Sem.run_bind, this, Result.andThen_ok, Sem.run_pure]
            rfl
          have hnl : l.length = n := by rw [q2, Array.length_toList]; exact c3
          cases hg : G.gro with
          | true =>
            rw [hg, cond_true] at h2
            refine ⟨_, _, h2, fun X hXG => ?_⟩
            subst hXG
            refine fun h L a w next Q I hvv _ hr hk => .inl ?_
            have hn := hr 0 (by simp [resv, ho])
            obtain ⟨f1, f2⟩ := decParts_FzR (c := cx X h L w) I.eok.w parts.toList l q3 (hval hvv)
            obtain ⟨L', I', hle, hv'⟩ := I.newGro (by simpa using hn) (cs := ((parts.toList.map fun p => (a.eval p.2).cells.toList).flatten).toArray) e c2 f1 (fun j hj => by simp [hj]) n (by omega) (by
              have := FzR_len f1
              simp only [List.size_toArray]
              rw [this, hnl]; exact Nat.le_refl _) w (.inl rfl)
            unfold Oper.wp
            rw [hrun X.G.P a w hu hi f2]
            rw [hnl] at hv'
            exact hk _ L' _ (by simpa [applyU] using I') (by simpa [applyU] using hle) (by simpa [applyU] using hv')
          | false =>
            rw [hg, cond_false] at h2
            refine ⟨_, _, h2, fun X hXG => ?_⟩
            subst hXG
            refine fun h L a w next Q I hvv _ hr hk => .inl ?_
            obtain ⟨f1, f2⟩ := decParts_FzR (c := cx X h L w) I.eok.w parts.toList l q3 (hval hvv)
            obtain ⟨I1, hle1⟩ := I.other (.cells ((parts.toList.map fun p => (a.eval p.2).cells.toList).flatten).toArray e)
            unfold Oper.wp
            rw [hrun X.G.P a w hu hi f2]
            refine hk _ L _ (by simpa [applyU] using I1) (by simpa [applyU] using hle1) ?_
            simp only [applyU]
            have hleaf : leaf (cx X h L (w.alloc (.cells ((parts.toList.map fun p => (a.eval p.2).cells.toList).flatten).toArray e))) (mkRow te l) (.slice (some ⟨w.heap.size, 0, none⟩) n n) := by
              refine mkRow_leaf ⟨some ⟨w.heap.size, 0, none⟩, n, by rw [hnl], by omega, fun e => (by cases e), fun p hp => ?_⟩
              simp only [Option.some.injEq] at hp
              subst hp
              refine ⟨fun _ => rfl, fun j hj => ?_⟩
              obtain ⟨c, s1, s2⟩ := FzR_get f1 j hj
              refine ⟨c, Fz.le hle1 te _ c s1, Fz_len te _ c s1, fun b hb => ⟨?_, not_av_fresh I (Nat.le_refl _)⟩⟩
              · show (w.alloc _).cell? _ = _
                rw [cell_new, Nat.zero_add]
                have := s2 b hb
                rw [List.getElem?_toArray]
                exact this
            cases te with
            | int k => exact hleaf
            | bool => exact hleaf
            | str => exact hleaf
            | arr k n => exact hleaf
            | sl k => exact hleaf
            | rw t => exact hleaf
            | st ts => exact hleaf
        · cases h2
      split at h1
      · cases h1
      · rename_i k _ _ _
        cases hem : (parts.toList.map fun p => (p.1, evO t p.2)).isEmpty with
        | true =>
          rw [hem, cond_true] at h1
          exact empty hem _ _ rfl rfl h1
        | false =>
          rw [hem, cond_false] at h1
          obtain ⟨hio, h2⟩ := cond_none h1
          clear h1
          simp only [Bool.and_eq_true, Bool.not_eq_true'] at hio
          obtain ⟨hio, hnk⟩ := hio
          have hmm : (parts.toList.map fun p => (p.1, evO t p.2)).map (·.2) = parts.toList.map fun p => evO t p.2 := by rw [List.map_map]; rfl
          rw [hmm] at h2 hnk
          split at h2
          · rename_i l hl
            have hnk : nid ∉ refsL (parts.toList.map fun p => evO t p.2) := fun hm => by rw [memN_iff.2 hm] at hnk; cases hnk
            refine ⟨_, _, h2, fun X hXG => ?_⟩
            subst hXG
            refine fun h L a w next Q I hvv hlk hr hk => .inl ?_
            have hn := hr 0 (by simp [resv, ho])
            simp only [Nat.add_zero] at hn
            obtain ⟨I1, le1⟩ := I.killL (refsL (parts.toList.map fun p => evO t p.2))
            have hn1 : (applyU h (kills (refsL (parts.toList.map fun p => evO t p.2))))[nid]? = some .rsv := by
              rw [killL_keep _ _ _ hnk]; exact hn
            have hall : All2 (Val (cx X h L w)) (parts.toList.map fun p => evO t p.2) (parts.toList.map fun p => a.eval p.2) := All2_map' _ _ _ (hval hvv)
            have f1 := contL_frz (c' := cx X (applyU h (kills (refsL (parts.toList.map fun p => evO t p.2)))) L w) I hlk rfl (RO.of_le le1) _ l _ hl hall (fun i hi b o _ ho => killed I hi ho)
            obtain ⟨f2, f3⟩ := sl_cells _ l _ hl hall
            have hnl : l.length = n := by rw [f3, List.length_map, Array.length_toList]; exact c3
            have hfl : (parts.toList.map fun p => (a.eval p.2).cells.toList).flatten = parts.toList.map fun p => a.eval p.2 := by
              have := flat_ones (parts.toList.map fun p => a.eval p.2) f2
              rw [List.map_map] at this
              exact this
            have hpm : (parts.map fun p => (p.1, a.eval p.2)).toList = parts.toList.map fun p => (p.1, a.eval p.2) := Array.toList_map ..
            have hrun := buildG_run (P := X.G.P) (w := w) (t := ty) (len := n) (parts := parts.map fun p => (p.1, a.eval p.2)) hu hi hz c1 c2 c5 (by rw [Array.size_map]; exact c3) (fun j p hj => by
              rw [hpm, List.getElem?_map] at hj
              cases hp : parts.toList[j]? with
              | none => simp [hp] at hj
              | some p0 =>
                simp only [hp, Option.map_some, Option.some.injEq] at hj
                subst hj
                refine ⟨by have := inOrder_get (fun x => evO t x) parts.toList 0 hio j p0 hp; simpa using this, ?_⟩
                simp only
                rw [f2 _ (List.mem_map.2 ⟨p0, List.mem_of_getElem? hp, rfl⟩)]; rfl)
            rw [hpm, List.map_map] at hrun
            have hrun : (Instr.buildSlice ty n (parts.map fun p => (p.1, a.eval p.2))).run X.G.P w = .ok (.slice (some ⟨w.heap.size, 0, none⟩) n n) (w.alloc (.cells ((parts.toList.map fun p => (a.eval p.2).cells.toList).flatten).toArray e)) := hrun
            rw [hfl] at hrun
            have hlen1 := FzR_len f1
            have hnl' : @List.length (Den (.sl k)) l = n := hnl
            obtain ⟨L', I', hle, hv'⟩ := I1.newGro hn1 (cs := (parts.toList.map fun p => a.eval p.2).toArray) e c2 f1 (fun j hj => by rw [List.getElem?_toArray]; exact List.getElem?_eq_getElem hj) n (by rw [hnl']; exact Nat.le_refl _) (by
              simp only [List.size_toArray]
              rw [hlen1, hnl']; exact Nat.le_refl _) w (.inl rfl)
            unfold Oper.wp
            have hex : (execOp a.eval o).run X.G.P w = .ok (.value (.slice (some ⟨w.heap.size, 0, none⟩) n n)) (w.alloc (.cells (parts.toList.map fun p => a.eval p.2).toArray e)) := by
              simp only [execOp, ho, Sem.run_bind, hrun, Result.andThen_ok, Sem.run_pure]
            rw [hex]
            rw [hnl'] at hv'
            simp only [applyU_app] at hk
            exact hk _ L' _ (by simpa [applyU] using I') (by simpa [applyU] using le1.trans hle) (by simpa [applyU] using hv')
          · cases h2
      · rename_i hk1 hk2
        cases hem : (parts.toList.map fun p => (p.1, evO t p.2)).isEmpty with
        | true =>
          rw [hem, cond_true] at h1
          exact empty hem _ _ rfl rfl h1
        | false =>
          rw [hem, cond_false] at h1
          exact things h1
    · cases h0
  · cases h0
end Go.Ev
namespace Go.Ev
theorem All2_map {α β γ : Type} {r : β → γ → Prop} (f : α → β) (g : α → γ) : ∀ (l : List α), (∀ x ∈ l, r (f x) (g x)) → All2 r (l.map f) (l.map g)
  | [], _ => trivial
  | a :: l, h => ⟨h a (by simp), All2_map f g l fun x hx => h x (by simp [hx])⟩
theorem coerce0_nil {c : Cx} {P : Program} {t : TypeId} {y : Value} (e : y = .slice none 0 0) : leaf c (coerce0 P t .nils) y ∧ ∃ x, coerce0 P t .nils = x ∧ (∀ cs, Cells c x cs ↔ ∃ z, cs = [z] ∧ leaf c x z) ∧ ∀ z, Val c x z ↔ leaf c x z := by
  have hi : ∀ k, leaf c (.isl k (some true) []) y := fun k => ⟨by simp [NN], none, 0, e, Nat.le_refl _, fun b hb => by simp at hb; simp [hb], fun _ => ⟨rfl, rfl⟩, fun p hp => by cases hp⟩
  have hr : ∀ k, leaf c (.rsl k []) y := fun k => ⟨none, 0, e, Nat.le_refl _, fun _ => ⟨rfl, rfl⟩, fun p hp => by cases hp⟩
  have hg : ∀ t, leaf c (.gsl t []) y := fun t => ⟨none, 0, e, Nat.le_refl _, fun _ => ⟨rfl, rfl⟩, fun p hp => by cases hp⟩
  have hn : leaf c .nils y := e
  simp only [coerce0]
  split
  · split
    · exact ⟨hi _, _, rfl, fun _ => Iff.rfl, fun _ => Iff.rfl⟩
    · split
      · exact ⟨hr _, _, rfl, fun _ => Iff.rfl, fun _ => Iff.rfl⟩
      · exact ⟨hn, _, rfl, fun _ => Iff.rfl, fun _ => Iff.rfl⟩
    · split
      · exact ⟨hg _, _, rfl, fun _ => Iff.rfl, fun _ => Iff.rfl⟩
      · exact ⟨hn, _, rfl, fun _ => Iff.rfl, fun _ => Iff.rfl⟩
    · split
      · exact ⟨hg _, _, rfl, fun _ => Iff.rfl, fun _ => Iff.rfl⟩
      · exact ⟨hn, _, rfl, fun _ => Iff.rfl, fun _ => Iff.rfl⟩
    · exact ⟨hn, _, rfl, fun _ => Iff.rfl, fun _ => Iff.rfl⟩
  · exact ⟨hn, _, rfl, fun _ => Iff.rfl, fun _ => Iff.rfl⟩
theorem coerce0_cells {c : Cx} {P : Program} {t : TypeId} {v : AV} {cs : List Value} (h : Cells c v cs) : Cells c (coerce0 P t v) cs := by
  cases v with
  | nils =>
    obtain ⟨y, rfl, e⟩ := h
    obtain ⟨h1, x, rfl, h2, _⟩ := coerce0_nil (c := c) (P := P) (t := t) (show y = .slice none 0 0 from e)
    exact (h2 _).2 ⟨y, rfl, h1⟩
  | _ => exact h
theorem coerce0_ok {c : Cx} {P : Program} {t : TypeId} {v : AV} {y : Value} (h : Val c v y) : Val c (coerce0 P t v) y := by
  cases v with
  | nils =>
    obtain ⟨h1, x, rfl, _, h2⟩ := coerce0_nil (c := c) (P := P) (t := t) (show y = .slice none 0 0 from h)
    exact (h2 _).2 h1
  | _ => exact h
theorem coerceFs_cells {c : Cx} {g : TypeId → AV → AV} (hg : ∀ t v cs, Cells c v cs → Cells c (g t v) cs) : ∀ (fs : List Field) (l : List AV) (cs : List Value), CellsL c l cs → CellsL c (coerceFs g fs l) cs
  | [], [], _, h => h
  | [], _ :: _, _, h => h
  | _ :: _, [], _, h => h
  | f :: fs, v :: l, _, ⟨c1, c2, e, h1, h2⟩ => ⟨c1, c2, e, hg _ _ _ h1, coerceFs_cells hg fs l _ h2⟩
theorem coerceD_cells {c : Cx} {P : Program} : ∀ (d : Nat) (t : TypeId) (v : AV) (cs : List Value), Cells c v cs → Cells c (coerceD P d t v) cs
  | 0, _, _, _, h => coerce0_cells h
  | d + 1, t, v, cs, h => by
    unfold coerceD
    split
    · split
      · exact coerceFs_cells (coerceD_cells d) _ _ _ h
      · exact h
    · exact coerce0_cells h
theorem coerce_ok {c : Cx} {P : Program} {t : TypeId} {x : AV} {y : Value} (h : Val c x y) : Val c (coerce P t x) y := by
  unfold coerce coerceD
  split
  · split
    · obtain ⟨cs, h1, e⟩ := h
      exact ⟨cs, coerceFs_cells (coerceD_cells 5) _ _ _ h1, e⟩
    · exact h
  · exact coerce0_ok h
theorem coerceL_ok {c : Cx} {P : Program} : ∀ {ts : List TypeId} {l : List AV} {m : List Value}, All2 (Val c) l m → All2 (Val c) (coerceL P ts l) m
  | [], l, m, h => by simpa [coerceL] using h
  | t :: ts, [], [], h => h
  | t :: ts, v :: l, y :: m, ⟨h1, h2⟩ => ⟨coerce_ok h1, coerceL_ok h2⟩
  | _ :: _, [], _ :: _, h => h.elim
  | _ :: _, _ :: _, [], h => h.elim
theorem All2_app {α β : Type} {r : α → β → Prop} : ∀ {l : List α} {m : List β} {l' : List α} {m' : List β}, All2 r l m → All2 r l' m' → All2 r (l ++ l') (m ++ m')
  | [], [], _, _, _, h => h
  | _ :: _, _ :: _, _, _, ⟨h1, h2⟩, h => ⟨h1, All2_app h2 h⟩
  | _ :: _, [], _, _, h1, _ => h1.elim
  | [], _ :: _, _, _, h1, _ => h1.elim
theorem Caps_all2 {c : Cx} : ∀ (l : List ((t : T) × Den t)) (vs : List Value), Caps c l vs → All2 (Val c) (l.map fun x => AV.rpg x.1 x.2) vs
  | [], _, h => by simp only [Caps] at h; subst h; trivial
  | _ :: l, _, ⟨y, r, e, g1, g2⟩ => by subst e; exact ⟨g1, Caps_all2 l r g2⟩
theorem callE_ok {G : Gi} {R : Type} {κ : Kop R} {r : R} {o : Oper} {c : Call} {f : Nat} {xf : Operand} {t : List AV} {look : Nat → Blk} {nid : Nat} (hG : GOk G) (ho : o.op = .call c) (hc : c.callee = .value xf) {ex : List AV}
    (hxf : ∀ (cc : Cx) (v : Value), Val cc (evO t xf) v → ∃ lb : List Value, v = .func (.func f) #[] lb.toArray ∧ All2 (Val cc) ex lb)
    (h0 : callE G look nid κ f (c.args.toList.map (evO t) ++ ex) = some r) : ∃ v us, κ v us = some r ∧ OpOk G o t look nid v us := by
  have hres : resv o = maxNew := by simp only [resv, ho, hc]
  unfold callE at h0
  split at h0
  · cases h0
  · rename_i C hC
    obtain ⟨hs, fn, hfn, hnm, hbd⟩ := hG.con f C hC
    simp only at h0
    obtain ⟨hnd, h0⟩ := cond_none h0
    have hnd := nodupN_iff.1 hnd
    split at h0
    · rename_i as bs has hbs
      obtain ⟨v, bs', h1, hcall⟩ := hs _ _ _ _ _ h0
      clear h0
      split at h1
      · rename_i v' us ns hv hus hns
        obtain ⟨hb, h1⟩ := cond_none h1
        simp only [Bool.and_eq_true] at hb
        have hb1 := Nat.le_of_ble_eq_true hb.1
        have hb2 := Nat.le_of_ble_eq_true hb.2
        -- what is snapped is none of what goes in
        have hsn : ∀ id ∈ snapIds look (ptrs (c.args.toList.map (evO t) ++ ex)) ((ptrs (c.args.toList.map (evO t) ++ ex) ++ entRows look (ptrs (c.args.toList.map (evO t) ++ ex))).map (·.1)) (c.args.toList.map (evO t) ++ ex),
            id ∉ (ptrs (c.args.toList.map (evO t) ++ ex) ++ entRows look (ptrs (c.args.toList.map (evO t) ++ ex))).map (·.1) := by
          intro id hid hm
          have := (List.mem_filter.1 hid).2
          rw [memN_iff.2 hm] at this
          simp at this
        have fin : ∀ ks : List Nat, ((slf v = true ∧ bs'.all slfB = true) ∨ ks = snapIds look (ptrs (c.args.toList.map (evO t) ++ ex)) ((ptrs (c.args.toList.map (evO t) ++ ex) ++ entRows look (ptrs (c.args.toList.map (evO t) ++ ex))).map (·.1)) (c.args.toList.map (evO t) ++ ex)) →
            (∀ id ∈ ks, id ∈ snapIds look (ptrs (c.args.toList.map (evO t) ++ ex)) ((ptrs (c.args.toList.map (evO t) ++ ex) ++ entRows look (ptrs (c.args.toList.map (evO t) ++ ex))).map (·.1)) (c.args.toList.map (evO t) ++ ex)) →
            OpOk G o t look nid v' (kills ks ++ (us ++ (kills ((entRows look (ptrs (c.args.toList.map (evO t) ++ ex))).map (·.1)) ++ ns))) := by
          intro ks hk1 hk2 X hXG
          subst hXG
          intro h L a w next Q I hops hlk hr hk
          obtain ⟨lb, he0, hlb⟩ := hxf (cx X h L w) (a.eval xf) (hops xf (by simp only [ho, Op.operands, Call.operands, hc]; simp))
          have hargs : All2 (Val (cx X h L w)) (c.args.toList.map (evO t) ++ ex) (c.args.toList.map a.eval ++ lb) := by
            refine All2_app (All2_map _ _ _ fun x hx => hops x ?_) hlb
            simp only [ho, Op.operands, Call.operands, hc]
            simp [hx]
          obtain ⟨Lc, hl1, hl2, hEnt, hvar, I1, hal⟩ := call_in hG I hlk hargs (fun e he => entRows_nil _ e he) hnd hsn rfl rfl hbs has
          have hargs' : All2 (Val (cx (calleeFx X h L w bs Lc (snapIds look (ptrs (c.args.toList.map (evO t) ++ ex)) ((ptrs (c.args.toList.map (evO t) ++ ex) ++ entRows look (ptrs (c.args.toList.map (evO t) ++ ex))).map (·.1)) (c.args.toList.map (evO t) ++ ex))) bs Lc w))
              (coerceL X.G.P (match X.G.P.funcs[f]? with | some fn => fn.params.toList | none => []) as) (c.args.map a.eval ++ lb.toArray).toList := by
            rw [Array.toList_append, Array.toList_map]; exact coerceL_ok hal
          have hcalls := hcall (calleeFx X h L w bs Lc _) Lc w (c.args.map a.eval ++ lb.toArray) rfl rfl rfl (fun b o => Iff.rfl) I1 hargs'
          refine .inl ?_
          have hrun : (execOp a.eval o).run X.G.P w = .ok (.enter f (c.args.map a.eval ++ lb.toArray)) w := by
            simp only [execOp, ho, resolve, hc, he0, Deferred.ofValue, Sem.run_bind, Sem.run_pure, Result.andThen_ok, invoke, callFunc, run_program, hfn, hnm, hbd, Array.empty_append, Array.append_empty]
            simp
          unfold Oper.wp
          rw [hrun, Oper.upon_enter]
          refine hcalls.mono fun e w' he => ?_
          cases e with
          | panicked ch => exact he.elim
          | outgrown => exact he.elim
          | returned cv =>
            obtain ⟨L1, I2, hkeep, _, hval⟩ := he
            obtain ⟨L', I3, hle, hval'⟩ := call_out I hnd hsn hl2 hEnt hvar I2 hkeep hus hns hv hb1 hb2 (fun i hi => hr i (by rw [hres]; exact hi)) hk1 hk2
            exact hk cv L' w' I3 hle (hval' cv hval)
        cases hsl : (slf v && bs'.all slfB) with
        | true =>
          simp only [hsl, cond_true] at h1
          simp only [Bool.and_eq_true] at hsl
          exact ⟨v', _, h1, fin [] (.inl hsl) (by simp)⟩
        | false =>
          simp only [hsl, cond_false] at h1
          exact ⟨v', _, h1, fin _ (.inr rfl) (fun _ h => h)⟩
      · cases h1
    · cases h0
theorem capOf_ok {X : Fx} {h : List Blk} {L : List Loc} {w : World} (I : Inv X h L w) {id : Nat} {b : Blk} {x : (t : T) × Den t} (hb : h[id]? = some b) (hx : capOf b = some x) {v : Value} (hv : Val (cx X h L w) (.ptr id []) v)
    {c' : Cx} (hw : c'.w = w) (hro : RO (cx X h L w) c') (hA : ∀ b o, Own1 h L id b o → ¬ c'.A b o) : IsRp c' x.1 x.2 v := by
  obtain ⟨p, hp⟩ := I.loc hb
  have main : ∀ (a : AV) (s : Value), b = .var a → sh a = .leaf → (∀ cs, Cells (cx X h L w) a cs → ∃ y, cs = [y] ∧ Fz c'.w c'.A x.1 x.2 [y]) → IsRp c' x.1 x.2 v := by
    rintro a _ rfl hs hc
    have hL : (cx X h L w).L[id]? = some p := hp
    have hv' : leaf (cx X h L w) (.ptr id []) v := hv
    simp only [leaf, cx_S hb, Blk.sh, hL] at hv'
    obtain ⟨o, t, g1, rfl⟩ := hv'
    simp only [Sh.at, Option.some.injEq, Prod.mk.injEq] at g1
    obtain ⟨rfl, rfl⟩ := g1
    obtain ⟨cs, q1, q2⟩ := I.blk id _ p hb hp
    obtain ⟨y, rfl, q3⟩ := hc cs q1
    refine ⟨_, [y], rfl, rfl, q3, fun j hj => ?_⟩
    have hj : j = 0 := Nat.lt_one_iff.1 hj
    subst hj
    refine ⟨by rw [hw]; exact (q2 0 (by simp)).1, hA _ _ ⟨_, p, shAt hb, hp, ?_⟩⟩
    show (BSh.var (sh a)).owns p p.b (p.o + 0 + 0)
    rw [hs]
    exact ⟨rfl, by omega, by show p.o + 0 + 0 < p.o + 1; omega⟩
  unfold capOf at hx
  split at hx
  · rename_i k n
    cases hx
    refine main _ .nilIface rfl rfl ?_
    rintro cs ⟨y, rfl, rfl, g⟩
    exact ⟨_, rfl, rfl, g⟩
  · rename_i q
    cases hx
    refine main _ .nilIface rfl rfl ?_
    rintro cs ⟨y, rfl, rfl⟩
    exact ⟨_, rfl, rfl⟩
  · rename_i k nl l
    cases hx
    refine main _ .nilIface rfl rfl ?_
    rintro cs ⟨y, rfl, g⟩
    have g : IsSl (cx X h L w).w (cx X h L w).A k nl l y := g
    obtain ⟨r0, a, cap, r1, r2, _, r4, r5⟩ := g
    exact ⟨y, rfl, y, rfl, IsSl.ro hro ⟨r0, a, cap, r1, r2, (fun _ q => by cases q), r4, r5⟩⟩
  · cases hx
    refine main _ .nilIface rfl rfl ?_
    rintro cs ⟨y, rfl, rfl⟩
    exact ⟨_, rfl, _, rfl, by simp [NN], none, 0, rfl, Nat.le_refl _, by simp, fun _ => ⟨rfl, rfl⟩, fun p hp => by cases hp⟩
  · cases hx
theorem capsOf_ok {X : Fx} {h : List Blk} {L : List Loc} {w : World} (I : Inv X h L w) {look : Nat → Blk} (hl : lookOk look h) {c' : Cx} (hw : c'.w = w) (hro : RO (cx X h L w) c') :
    ∀ (l : List AV) (ks : List Nat) (xs : List ((t : T) × Den t)) (vs : List Value), capsOf look l = some (ks, xs) → All2 (Val (cx X h L w)) l vs → (∀ i ∈ ks, ∀ b o, Own1 h L i b o → ¬ c'.A b o) → Caps c' xs vs
  | [], ks, xs, vs, hc, hv, _ => by
    simp only [capsOf, Option.some.injEq, Prod.mk.injEq] at hc
    obtain ⟨rfl, rfl⟩ := hc
    cases vs with
    | nil => rfl
    | cons => exact hv.elim
  | a :: l, ks, xs, vs, hc, hv, hA => by
    unfold capsOf at hc
    split at hc
    · rename_i q; cases q
    · rename_i id l' q
      cases q
      split at hc
      · rename_i x ks' xs' h1 h2
        cases hc
        cases vs with
        | nil => exact hv.elim
        | cons v vs =>
          obtain ⟨hv1, hv2⟩ := hv
          have hb : h[id]? = some (look id) := hl.get rfl (by intro e; rw [e] at h1; cases h1)
          exact ⟨v, vs, rfl, capOf_ok I hb h1 hv1 hw hro (hA id (by simp)), capsOf_ok I hl hw hro l ks' xs' vs h2 hv2 fun i hi => hA i (by simp [hi])⟩
      · cases hc
    · cases hc
theorem makeFuncE_ok {G : Gi} {R : Type} {κ : Kop R} {r : R} {o : Oper} {f : Nat} {first captured : Array Operand} {t : List AV} {look : Nat → Blk} {nid : Nat} (ho : o.op = .makeFunc (.func f) first captured) (hf : first.toList.isEmpty = true)
    (h0 : makeFuncE look κ f (captured.toList.map (evO t)) = some r) : ∃ v us, κ v us = some r ∧ OpOk G o t look nid v us := by
  unfold makeFuncE at h0
  split at h0
  · rename_i ks xs hc
    refine ⟨_, _, h0, ?_⟩
    intro X hXG
    subst hXG
    intro h L a w next Q I hops hlk hr hk
    refine .inl ?_
    have hf0 : first = #[] := by
      have : first.toList = [] := List.isEmpty_iff.1 hf
      exact Array.toList_eq_nil_iff.1 this
    subst hf0
    obtain ⟨I1, le1⟩ := Inv.killL ks I
    have hargs : All2 (Val (cx X h L w)) (captured.toList.map (evO t)) (captured.toList.map a.eval) := by
      refine All2_map _ _ _ fun x hx => hops x ?_
      simp only [ho, Op.operands]
      simp [hx]
    have hcaps := capsOf_ok (c' := cx X (applyU h (kills ks)) L w) I hlk rfl (RO.of_le le1) _ ks xs _ hc hargs fun i hi b o => killed I hi
    unfold Oper.wp
    have : (execOp a.eval o).run X.G.P w = .ok (.value (.func (.func f) #[] (captured.map a.eval))) w := by
      simp only [execOp, ho, Instr.makeFunc, Sem.run_bind, Sem.run_pure, Result.andThen_ok]
      simp
    rw [this]
    exact hk _ L w I1 le1 ⟨captured.toList.map a.eval, by rw [← Array.toList_map], hcaps⟩
  · cases h0
theorem varRp_ok {X : Fx} {h : List Blk} {L : List Loc} {w : World} (I : Inv X h L w) {id : Nat} {a : AV} {x : (t : T) × Den t} (hb : h[id]? = some (.var a)) (hx : decA a = some x) {v : Value} (hv : Val (cx X h L w) (.ptr id []) v)
    {c' : Cx} (hw : c'.w = w) (hro : RO (cx X h L w) c') (hA : ∀ b o, Own1 h L id b o → ¬ c'.A b o) : IsRp c' x.1 x.2 v := by
  obtain ⟨p, hp⟩ := I.loc hb
  have hL : (cx X h L w).L[id]? = some p := hp
  have hv' : leaf (cx X h L w) (.ptr id []) v := hv
  simp only [leaf, cx_S hb, Blk.sh, hL] at hv'
  obtain ⟨o, t, g1, rfl⟩ := hv'
  simp only [Sh.at, Option.some.injEq, Prod.mk.injEq] at g1
  obtain ⟨rfl, rfl⟩ := g1
  obtain ⟨cs, q1, q2⟩ := I.blk id _ p hb hp
  have q3 := Fz.ro hro x.1 x.2 cs (decA_ok a x cs hx q1)
  refine ⟨_, cs, rfl, rfl, q3, fun j hj => ?_⟩
  refine ⟨by rw [hw]; have q := (q2 j hj).1; exact q, hA _ _ ⟨_, p, shAt hb, hp, ?_⟩⟩
  show (BSh.var (sh a)).owns p p.b (p.o + 0 + j)
  have hl := Cells_len _ _ q1
  exact ⟨rfl, by omega, by omega⟩
theorem boxFE_ok {G : Gi} {R : Type} {κ : Kop R} {r : R} {o : Oper} {ty : TypeId} {x : Operand} {t : List AV} {look : Nat → Blk} {nid : Nat} (ho : o.op = .box ty x) (h0 : boxFE nid κ (evO t x) = some r) :
    ∃ v us, κ v us = some r ∧ OpOk G o t look nid v us := by
  unfold boxFE at h0
  split at h0
  · rename_i y hy
    obtain ⟨hb, h0⟩ := cond_none h0
    refine ⟨_, _, h0, fun X hXG => ?_⟩
    subst hXG
    refine fun h L a w next Q I hv _ hr hk => .inl ?_
    have hn := hr 0 (by simp [resv, ho])
    have hx := hv x (by simp [ho, Op.operands])
    have q2 := Cells_of_Val (c := cx X h L w) I.eok.w hx hb
    have hn' : h[nid]? = some .rsv := by simpa using hn
    obtain ⟨L', I', hle, hval⟩ := I.newVar hn' q2 ty
    obtain ⟨I1, le1⟩ := I'.kill nid
    have hlt : nid < h.length := (List.getElem?_eq_some_iff.1 hn').1
    have hnew : (h.set nid (.var (evO t x)))[nid]? = some (.var (evO t x)) := by rw [List.getElem?_set_self hlt]
    have e1 : (h.set nid (.var (evO t x))).set nid .dead = h.set nid .dead := by rw [List.set_set]
    rw [e1] at I1 le1
    have hrp := varRp_ok (c' := cx X (h.set nid .dead) L' (w.alloc (.cells (a.eval x).cells.toList.toArray ty))) I' hnew hy hval rfl (RO.of_le le1) (fun b o q => by
      have := killed (ks := [nid]) I' (List.mem_singleton.2 rfl) q
      have e2 : applyU (h.set nid (.var (evO t x))) (kills [nid]) = h.set nid .dead := e1
      rw [e2] at this
      exact this)
    unfold Oper.wp
    have : (execOp a.eval o).run X.G.P w = .ok (.value (.pointer (some ⟨w.heap.size, 0, none⟩))) (w.alloc (.cells (a.eval x).cells.toList.toArray ty)) := by
      simp [execOp, ho, Instr.box, newVar, newRow]
    rw [this]
    exact hk _ L' _ I1 (hle.trans le1) hrp
  · cases h0
theorem set_same {α : Type} : ∀ {l : List α} {i : Nat} {a : α}, l[i]? = some a → l.set i a = l
  | [], i, a, h => by simp at h
  | x :: l, 0, a, h => by simp at h; simp [h]
  | x :: l, i + 1, a, h => by simp at h; simp [set_same h]
theorem callRow_ok {G : Gi} {R : Type} {κ : Kop R} {r : R} {o : Oper} {c : Call} {f : Nat} {t : List AV} {look : Nat → Blk} {nid : Nat} (hG : GOk G) (ho : o.op = .call c) (hc : c.callee = .value (.func f))
    (h0 : callRowE G look κ f (c.args.toList.map (evO t)) = some r) : ∃ v us, κ v us = some r ∧ OpOk G o t look nid v us := by
  unfold callRowE at h0
  split at h0
  · rename_i C id hC hrow
    obtain ⟨hs, fn, hfn, hnm, hbd⟩ := hG.con f C hC
    split at h0
    · rename_i k nl l hlook
      split at h0
      · rename_i as has
        obtain ⟨v, bs', h1, hcall⟩ := hs _ _ _ _ _ h0
        clear h0
        split at h1
        · rename_i _ k' nl' l' rest
          obtain ⟨hb, h2⟩ := cond_none h1
          clear h1
          have h1 := h2
          clear h2
          simp only [Bool.and_eq_true] at hb
          obtain ⟨⟨⟨e1, e2⟩, e3⟩, e4⟩ := hb
          have e1 := of_decide_eq_true e1
          have e2 := eq_of_beq e2
          have e3 := Nat.eq_of_beq_eq_true e3
          subst e1; subst e2
          refine ⟨v, _, h1, ?_⟩
          intro X hXG
          subst hXG
          intro h L a w next Q I hops hlk hr hk
          have hb : h[id]? = some (.row k nl l) := lookOk.get hlk hlook (by simp)
          obtain ⟨p, hp⟩ := I.loc hb
          have hown1 : ∀ b o, own ([Blk.row k nl l].map Blk.sh) [p] b o → Own1 h L id b o := by
            rintro b o ⟨i, s, q, g1, g2, g3⟩
            cases i with
            | succ i => simp at g1
            | zero =>
              simp only [List.map_cons, List.map_nil, List.getElem?_cons_zero, Option.some.injEq] at g1 g2
              subst g1; subst g2
              exact ⟨_, _, shAt hb, hp, g3⟩
          have hown2 : ∀ b o, Own1 h L id b o → own ([Blk.row k nl l].map Blk.sh) [p] b o := by
            rintro b o ⟨s, q, g1, g2, g3⟩
            rw [shAt hb, Option.some.injEq] at g1
            rw [hp, Option.some.injEq] at g2
            subst g1; subst g2
            exact ⟨0, _, _, rfl, rfl, g3⟩
          let X1 : Fx := { G := { X.G with lone := false }, eps := X.eps, O := fun b o => b < w.heap.size ∧ X.av (h.map Blk.sh) L b o ∧ ¬ own ([Blk.row k nl l].map Blk.sh) [p] b o, pin := own ([Blk.row k nl l].map Blk.sh) [p], w0 := w }
          have hAsub : ∀ b o, (cx X1 [.row k nl l] [p] w).A b o → (cx X h L w).A b o := by
            rintro b o (q | q)
            · exact q.2.1
            · exact .inr (hown1 b o q).own
          have hro : RO (cx X h L w) (cx X1 [.row k nl l] [p] w) := fun b o v hv hA => ⟨hv, fun q => hA (hAsub b o q)⟩
          have T0 : ∀ {c c' : Cx}, c'.eps = c.eps → TrOk c c' noLook false (fun _ _ => none) := by
            intro c c' he
            refine ⟨he, fun x x' v hx ht g => ?_⟩
            cases x <;> simp only [AV.isRef, Bool.false_eq_true] at hx <;> simp [trA] at ht
          have I1 : Inv X1 [.row k nl l] [p] w := by
            refine ⟨I.eok.step I.stp, rfl, fun j b q hj hq => ?_, fun i j s t q q' b o hij hs ht _ _ _ _ => ?_, fun b o q hO => hO.2.2 q, fun b o q => .inr q, fun b o q => q.1, Step.refl _ _, fun g v hg => ?_, fun q => by cases q⟩
            · cases j with
              | succ j => simp at hj
              | zero =>
                simp only [List.getElem?_cons_zero, Option.some.injEq] at hj hq
                subst hj; subst hq
                exact I.blk _ _ _ hb hp
            · have := getElem?_lt hs
              have := getElem?_lt ht
              simp at *
              omega
            · obtain ⟨cs, g1, g2⟩ := I.glb g v hg
              exact ⟨cs, tr_Cells (T0 (c := cx X h L w) (c' := cx X1 [.row k nl l] [p] w) rfl) v v cs (.inr hro) (hG.gtr g v hg) g1, fun i hi => ⟨(g2 i hi).1, fun q => (g2 i hi).2 (hAsub _ _ q)⟩⟩
          have T1 : TrOk (cx X h L w) (cx X1 [.row k nl l] [p] w) noLook false (fun i p => cond (Nat.beq i id) (some (0, p)) none) := by
            refine ⟨rfl, fun x x' u hx ht g => ?_⟩
            have hL : (cx X h L w).L[id]? = some p := hp
            cases x <;> simp only [AV.isRef, Bool.false_eq_true] at hx
            · rename_i i path off len
              obtain ⟨j, q, hr, rfl⟩ : ∃ j q, (cond (Nat.beq i id) (some ((0 : Nat), path)) none) = some (j, q) ∧ x' = .own j q off len := by
                rcases tr_own ht with q | ⟨_, q, _⟩ | ⟨_, q, _⟩
                · exact q
                · cases q
                · cases q
              cases hi : Nat.beq i id with
              | false => rw [hi] at hr; cases hr
              | true =>
                rw [hi] at hr
                simp only [cond_true, Option.some.injEq, Prod.mk.injEq] at hr
                obtain ⟨rfl, rfl⟩ := hr
                have hi := Nat.eq_of_beq_eq_true hi
                subst hi
                simp only [leaf, cx_S hb, Blk.sh, hL] at g
                exact g
            · rename_i i path
              obtain ⟨j, q, hr, rfl⟩ := tr_ptr ht
              cases hi : Nat.beq i id with
              | false => simp only [hi] at hr; cases hr
              | true =>
                simp only [hi, cond_true, Option.some.injEq, Prod.mk.injEq] at hr
                obtain ⟨rfl, rfl⟩ := hr
                have hi := Nat.eq_of_beq_eq_true hi
                subst hi
                simp only [leaf, cx_S hb, Blk.sh, hL] at g
                exact g
            · simp [trA] at ht
          have hargs : All2 (Val (cx X h L w)) (c.args.toList.map (evO t)) (c.args.toList.map a.eval) := by
            refine All2_map _ _ _ fun x hx => hops x ?_
            simp only [ho, Op.operands, Call.operands, hc]
            simp [hx]
          have hargs' : All2 (Val (cx X1 [.row k nl l] [p] w)) (coerceL X.G.P (match X.G.P.funcs[f]? with | some fn => fn.params.toList | none => []) as) (c.args.map a.eval).toList := by
            rw [Array.toList_map]; exact coerceL_ok (trL_all2 T1 hro has hargs)
          have hcalls := hcall X1 [p] w (c.args.map a.eval) rfl rfl rfl (fun b o => Iff.rfl) I1 hargs'
          refine .inl ?_
          have hrun : (execOp a.eval o).run X.G.P w = .ok (.enter f (c.args.map a.eval)) w := by
            have he : a.eval (.func f) = .func (.func f) #[] #[] := rfl
            simp only [execOp, ho, resolve, hc, he, Deferred.ofValue, Sem.run_bind, Sem.run_pure, Result.andThen_ok, invoke, callFunc, run_program, hfn, hnm, hbd, Array.empty_append, Array.append_empty]
            simp
          unfold Oper.wp
          rw [hrun, Oper.upon_enter]
          refine hcalls.mono fun e w' he => ?_
          cases e with
          | panicked ch => exact he.elim
          | outgrown => exact he.elim
          | returned cv =>
            obtain ⟨L1, I2, _, hkeep, hval⟩ := he
            have hL1 : L1[0]? = some p := by
              rcases hkeep 0 k nl l rfl with ⟨l2, g1, g2, g3⟩ | g1
              · rw [g3]; rfl
              · simp at g1
            have hmap : (h.set id (.row k nl l')).map Blk.sh = h.map Blk.sh := by
              rw [List.map_set]
              have : (h.map Blk.sh)[id]? = some (Blk.sh (.row k nl l')) := by rw [shAt hb]; simp only [Blk.sh, e3]
              exact set_same this
            obtain ⟨I3, hle⟩ := I.upd (h' := h.set id (.row k nl l')) (L' := L) (w' := w') (own ([Blk.row k nl l].map Blk.sh) [p]) (by rw [List.length_set]; exact I.len) I2.stp
              (fun b o q => (hown1 b o q).own) (fun i s hs _ => .inl ⟨by rw [hmap]; exact hs, rfl⟩) (fun b o q => by rw [hmap] at q; exact .inl q)
              (fun i j s t q q' b o hij hs ht => by rw [hmap] at hs ht; exact I.dis i j s t q q' b o hij hs ht)
              (fun _ i b q hi hq => by
                rcases getElem?_set_cases hi with ⟨rfl, rfl, hlt⟩ | ⟨hne, hi'⟩
                · rw [hp, Option.some.injEq] at hq
                  subst hq
                  exact .inr (I2.blk 0 _ _ rfl hL1)
                · refine .inl ⟨hi', hq, fun x y ho hm => ?_⟩
                  obtain ⟨s, q2, g1, g2, g3⟩ := hown1 x y hm
                  exact I.dis id i s _ q2 q x y hne g1 (shAt hi') g2 hq g3 ho)
            have hRO : RO (cx X1 (.row k nl l' :: rest) L1 w') (cx X (h.set id (.row k nl l')) L w') := by
              intro b o u hu hA
              refine ⟨hu, fun hA2 => hA ?_⟩
              have hA2 : X.O b o ∨ own ((h.set id (.row k nl l')).map Blk.sh) L b o := hA2
              rw [hmap] at hA2
              rcases hA2 with q | q
              · exact .inl ⟨Nat.lt_of_lt_of_le (I.obd b o q) I.stp.size, .inl q, fun q2 => I.out b o (hown1 b o q2).own q⟩
              · by_cases hb2 : own ([Blk.row k nl l].map Blk.sh) [p] b o
                · obtain ⟨s, q2, g1, g2, g3⟩ := hown1 b o hb2
                  rw [shAt hb, Option.some.injEq] at g1
                  rw [hp, Option.some.injEq] at g2
                  subst g1; subst g2
                  refine .inr ⟨0, Blk.sh (.row k nl l'), _, rfl, hL1, ?_⟩
                  simp only [Blk.sh, e3]
                  exact g3
                · exact .inl ⟨own_lt I q, .inr q, hb2⟩
            exact hk cv L w' I3 hle (tr_Val (T0 (c := cx X1 (.row k nl l' :: rest) L1 w') (c' := cx X (h.set id (.row k nl l')) L w') rfl) v v cv (.inr hRO) (noRefs_tr v e4) hval)
        · cases h1
      · cases h0
    · cases h0
  · cases h0
theorem ownx_row {X : Fx} {h : List Blk} {L : List Loc} {w : World} (I : Inv X h L w) {id off : Nat} {k : IntKind} {nl : Bool} {l : List Int} {x : Value} (hb : h[id]? = some (.row k nl l))
    (hv : Val (cx X h L w) (.ownx id off) x) : ∃ p, L[id]? = some p ∧ nl = false ∧ off ≤ l.length ∧ ∃ q : Addr, x = .slice (some q) (p.cap - off) (p.cap - off) ∧ (q.block = p.b ∧ q.spot = none) ∧ (off < p.cap → q = ⟨p.b, p.o + off, none⟩) := by
  obtain ⟨p, hp⟩ := I.loc hb
  have hv' : leaf (cx X h L w) (.ownx id off) x := hv
  have hL : (cx X h L w).L[id]? = some p := hp
  simp only [leaf, cx_S hb, Blk.sh, hL] at hv'
  exact ⟨p, hp, hv'⟩
theorem row_cap {X : Fx} {h : List Blk} {L : List Loc} {w : World} (I : Inv X h L w) {id : Nat} {k : IntKind} {l : List Int} {p : Loc} (hb : h[id]? = some (.row k false l)) (hp : L[id]? = some p) : l.length ≤ p.cap := by
  obtain ⟨_, _, h3⟩ := I.blk id _ p hb hp
  exact (h3 rfl).1
theorem lenxE_run {R : Type} {κ : Kop R} {r : R} {look : Nat → Blk} {av : AV} (h0 : lenxE look κ av = some r) :
    ∃ v, κ v [] = some r ∧ ∀ (X : Fx) h L w x, Inv X h L w → lookOk look h → Val (cx X h L w) av x → ∃ (a : Option Addr) (n m : Nat), x = .slice a n m ∧ Val (cx X h L w) v (.int .i64 (n : Int)) := by
  unfold lenxE at h0
  split at h0
  · rename_i id off
    split at h0
    · rename_i k nl l hb
      cases nl with
      | true => cases h0
      | false =>
        refine ⟨_, h0, fun X h L w x I hl hx => ?_⟩
        have hb := hl.get hb (by simp)
        obtain ⟨p, hp, _, hle, q, rfl, _, _⟩ := ownx_row I hb hx
        have := row_cap I hb hp
        exact ⟨_, _, _, rfl, p.cap - off, rfl, by omega⟩
    · cases h0
  · cases h0
theorem capE_run {R : Type} {G : Gi} {κ : Kop R} {r : R} {look : Nat → Blk} {t : TypeId} {av : AV} (h0 : capE G look κ t av = some r) :
    ∃ v, κ v [] = some r ∧ ∀ (X : Fx) h L w x ty, X.G = G → Inv X h L w → lookOk look h → Val (cx X h L w) av x → ∃ cv, (Builtin.cap_ #[t] ty #[x]).run G.P w = .ok cv w ∧ Val (cx X h L w) v cv := by
  unfold capE at h0
  split at h0
  · rename_i e id off len hu
    split at h0
    · rename_i k nl l hb
      cases nl with
      | true => cases h0
      | false =>
        refine ⟨_, h0, fun X h L w x ty hG I hl hx => ?_⟩
        have hb := hl.get hb (by simp)
        obtain ⟨p, hp, _, _, h3⟩ := own_row I hb hx
        obtain ⟨q, rfl, _, _⟩ := h3 rfl
        refine ⟨.int .i64 ((p.cap - off : Nat) : Int), by simp [Builtin.cap_, run_underlying' hu, goInt], ?_⟩
        have hL : (cx X h L w).L[id]? = some p := hp
        show leaf (cx X h L w) (.capv id off) _
        simp only [leaf, cx_S hb, Blk.sh, hL]
        exact ⟨trivial, trivial⟩
    · cases h0
  · rename_i e hu
    refine ⟨_, h0, fun X h L w x ty hG I hl hx => ?_⟩
    have hx : x = .slice none 0 0 := hx
    subst hx
    exact ⟨.int .i64 0, by simp [Builtin.cap_, run_underlying' hu, goInt], rfl, by simp [NN]⟩
  · cases h0
theorem ixxE_run {R : Type} {G : Gi} {κ : Kop R} {r : R} {look : Nat → Blk} {t : TypeId} {av iv : AV} (h0 : ixxE G look κ t av iv = some r) :
    ∃ v, κ v [] = some r ∧ ∀ (X : Fx) h L w x y, X.G = G → Inv X h L w → lookOk look h → Val (cx X h L w) av x → Val (cx X h L w) iv y →
      ∃ cv, (Instr.indexAt t x y).run G.P w = .ok cv w ∧ Val (cx X h L w) v cv := by
  unfold ixxE at h0
  split at h0
  · rename_i e id off k i hu
    split at h0
    · rename_i k' nl l hb
      obtain ⟨c1, h1⟩ := cond_none h0
      cases nl with
      | true => cases h1
      | false =>
        simp only [cond_false] at h1
        obtain ⟨hi, h2⟩ := cond_none h1
        obtain ⟨hj, h3⟩ := cond_none h2
        have hi := of_decide_eq_true hi
        have hj := of_decide_eq_true hj
        refine ⟨_, h3, fun X h L w x y hG I hl hx hy => ?_⟩
        obtain ⟨rfl, _⟩ := hy
        have hb := hl.get hb (by simp)
        obtain ⟨p, hp, _, hle, q, rfl, q1, q2⟩ := ownx_row I hb hx
        have hcap := row_cap I hb hp
        refine ⟨_, run_indexAt_slice hu c1 hi (by omega), ?_⟩
        rw [q2 (by omega), addr_add _ _ rfl]
        have hL : (cx X h L w).L[id]? = some p := hp
        show leaf (cx X h L w) (.ptr id [off + i.toNat]) _
        simp only [leaf, cx_S hb, Blk.sh, hL]
        exact ⟨trivial, off + i.toNat, rfl, by omega, by simp [Nat.add_assoc]⟩
    · cases h0
  · cases h0
theorem slxE_run {R : Type} {G : Gi} {κ : Kop R} {r : R} {look : Nat → Blk} {t : TypeId} {av : AV} {lo hi : Option AV} (h0 : slxE G look κ t av lo hi = some r) :
    ∃ v, κ v [] = some r ∧ ∀ (X : Fx) h L w x lv hv, X.G = G → Inv X h L w → lookOk look h → Val (cx X h L w) av x →
      ((∀ x, lo = some x → ∃ y, lv = some y ∧ Val (cx X h L w) x y) ∧ (lo = none → lv = none)) → ((∀ x, hi = some x → ∃ y, hv = some y ∧ Val (cx X h L w) x y) ∧ (hi = none → hv = none)) →
      ∃ cv, (Instr.sliceAt t x lv hv none).run G.P w = .ok cv w ∧ Val (cx X h L w) v cv := by
  have bnd : ∀ (P : Program) (w : World) (c : Cx) (len cap : Nat) (m : Int), 0 ≤ m → m ≤ cap → (Instr.sliceBounds true len cap none (some (.int .i64 m)) none).run P w = .ok (0, m.toNat, cap) w ∧
      ∀ k, (Instr.sliceBounds true len cap none (some (.int k m)) none).run P w = .ok (0, m.toNat, cap) w := by
    intro P w c len cap m h0 h1
    have key : ∀ k, (Instr.sliceBounds true len cap none (some (.int k m)) none).run P w = .ok (0, m.toNat, cap) w := by
      intro k
      have hb : bndE (R := Nat × Nat) cap len none (some (.int k m)) (fun a b => some (a, b)) = some (0, m.toNat) := by
        simp [bndE, h0, h1]
      obtain ⟨a, b, g1, _, _, g4⟩ := bndE_ok hb
      simp only [Option.some.injEq, Prod.mk.injEq] at g1
      obtain ⟨rfl, rfl⟩ := g1
      cases hk : k.signed with
      | true => exact g4 P w c true cap none (some (.int k m)) (Nat.le_refl _) (fun x hx => by cases hx) (fun _ => rfl) (fun x hx => by
          simp only [Option.some.injEq] at hx; subst hx; exact ⟨_, rfl, rfl, fun h => by rw [hk] at h; cases h⟩) (fun h => by cases h)
      | false => exact g4 P w c true cap none (some (.int k m)) (Nat.le_refl _) (fun x hx => by cases hx) (fun _ => rfl) (fun x hx => by
          simp only [Option.some.injEq] at hx; subst hx; exact ⟨_, rfl, rfl, fun _ x hx => by rw [List.mem_singleton] at hx; subst hx; exact h0⟩) (fun h => by cases h)
    exact ⟨key _, key⟩
  unfold slxE at h0
  split at h0
  · rename_i e id off len id' off' hu
    split at h0
    · rename_i k nl l hb
      obtain ⟨hc, h1⟩ := cond_none h0
      simp only [Bool.and_eq_true] at hc
      obtain ⟨⟨⟨c1, c2⟩, c3⟩, c4⟩ := hc
      have c2 := Nat.eq_of_beq_eq_true c2
      have c3 := Nat.eq_of_beq_eq_true c3
      have c4 := Nat.le_of_ble_eq_true c4
      subst c2; subst c3
      cases nl with
      | true => cases h1
      | false =>
        refine ⟨_, h1, fun X h L w x lv hv hG I hl hx hlo hhi => ?_⟩
        have hb := hl.get hb (by simp)
        obtain ⟨p, hp, _, _, h3⟩ := own_row I hb hx
        obtain ⟨q, rfl, q1, q2⟩ := h3 rfl
        have hL : (cx X h L w).L[id]? = some p := hp
        obtain ⟨y, hy1, hy2⟩ := hhi.1 _ rfl
        have hy2 : leaf (cx X h L w) (.capv id off) y := hy2
        simp only [leaf, cx_S hb, Blk.sh, hL] at hy2
        obtain ⟨_, rfl⟩ := hy2
        have hlv := hlo.2 rfl
        subst hlv; subst hy1
        have hcap := row_cap I hb hp
        have hbd := (bnd G.P w (cx X h L w) (olen len l.length off) (p.cap - off) ((p.cap - off : Nat) : Int) (by omega) (Int.le_refl _)).1
        refine ⟨_, by
          simp only [Instr.sliceAt, Sem.run_bind, run_underlying' hu, Result.andThen_ok, Instr.slice, hbd, run_sizeOf' c1, Sem.run_pure]; rfl, ?_⟩
        show leaf (cx X h L w) (.ownx id off) _
        simp only [leaf, cx_S hb, Blk.sh, hL]
        refine ⟨trivial, c4, (if p.cap - off = 0 then q else q.add (0 * 1)), ?_, ?_, fun hlt => ?_⟩
        · simp; split <;> rfl
        · split
          · exact q1
          · have : q = ⟨p.b, p.o + off, none⟩ := q2 (by omega)
            rw [this, addr_add _ _ rfl]; exact ⟨rfl, rfl⟩
        · rw [if_neg (by omega), q2 hlt, addr_add _ _ rfl]; simp
    · cases h0
  · rename_i e id off k hh hu
    split at h0
    · rename_i k' nl l hb
      obtain ⟨c1, h1⟩ := cond_none h0
      cases nl with
      | true => cases h1
      | false =>
        simp only [cond_false] at h1
        obtain ⟨hi, h2⟩ := cond_none h1
        obtain ⟨hj, h3⟩ := cond_none h2
        have hi := of_decide_eq_true hi
        have hj := of_decide_eq_true hj
        refine ⟨_, h3, fun X h L w x lv hv hG I hl hx hlo hhi => ?_⟩
        have hb := hl.get hb (by simp)
        obtain ⟨p, hp, _, hle, q, rfl, q1, q2⟩ := ownx_row I hb hx
        have hL : (cx X h L w).L[id]? = some p := hp
        obtain ⟨y, hy1, hy2⟩ := hhi.1 _ rfl
        obtain ⟨rfl, _⟩ := hy2
        have hlv := hlo.2 rfl
        subst hlv; subst hy1
        have hcap := row_cap I hb hp
        have hbd := (bnd G.P w (cx X h L w) (p.cap - off) (p.cap - off) hh hi (by omega)).2 k
        refine ⟨_, by
          simp only [Instr.sliceAt, Sem.run_bind, run_underlying' hu, Result.andThen_ok, Instr.slice, hbd, run_sizeOf' c1, Sem.run_pure]; rfl, ?_⟩
        show leaf (cx X h L w) (.own id [] off (some hh.toNat)) _
        simp only [leaf, cx_S hb, Blk.sh, hL]
        refine ⟨by trivial, by simp [olen]; omega, ?_⟩
        simp only [Bool.false_eq_true, if_false]
        refine ⟨(if p.cap - off = 0 then q else q.add (0 * 1)), ?_, ?_, fun hlt => ?_⟩
        · simp [olen]; split <;> rfl
        · split
          · exact q1
          · have : q = ⟨p.b, p.o + off, none⟩ := q2 (by omega)
            rw [this, addr_add _ _ rfl]; exact ⟨rfl, rfl⟩
        · rw [if_neg (by omega), q2 hlt, addr_add _ _ rfl]; simp
    · cases h0
  · cases h0
theorem emp3E_run {R : Type} {G : Gi} {κ : Kop R} {r : R} {t : TypeId} {av mv : AV} {lo hi : Option AV} (h0 : emp3E G κ t av lo hi mv = some r) :
    ∃ v, κ v [] = some r ∧ ∀ (X : Fx) h L w x lv hv mx, X.G = G → Val (cx X h L w) av x →
      ((∀ x, lo = some x → ∃ y, lv = some y ∧ Val (cx X h L w) x y) ∧ (lo = none → lv = none)) → ((∀ x, hi = some x → ∃ y, hv = some y ∧ Val (cx X h L w) x y) ∧ (hi = none → hv = none)) → Val (cx X h L w) mv mx →
      ∃ cv, (Instr.sliceAt t x lv hv (some mx)).run G.P w = .ok cv w ∧ Val (cx X h L w) v cv := by
  unfold emp3E at h0
  split at h0
  · rename_i e k1 h k2 m hu
    obtain ⟨hc, h1⟩ := cond_none h0
    simp only [Bool.and_eq_true, decide_eq_true_eq] at hc
    obtain ⟨⟨c1, rfl⟩, rfl⟩ := hc
    have main : κ .emp [] = some r → (∀ (c : Cx) v, Val c av v → ∃ a n m, v = .slice a n m) → ∃ v, κ v [] = some r ∧ ∀ (X : Fx) h L w x lv hv mx, X.G = G → Val (cx X h L w) av x →
      ((∀ x, (none : Option AV) = some x → ∃ y, lv = some y ∧ Val (cx X h L w) x y) ∧ ((none : Option AV) = none → lv = none)) → ((∀ x, some (AV.int k1 0) = some x → ∃ y, hv = some y ∧ Val (cx X h L w) x y) ∧ (some (AV.int k1 0) = none → hv = none)) → Val (cx X h L w) (.int k2 0) mx →
      ∃ cv, (Instr.sliceAt t x lv hv (some mx)).run G.P w = .ok cv w ∧ Val (cx X h L w) v cv := by
      intro h1 hs
      refine ⟨_, h1, fun X h L w x lv hv mx hG hx hlo hhi hmx => ?_⟩
      obtain ⟨a, n, m, rfl⟩ := hs _ _ hx
      obtain ⟨y, hy1, hy2⟩ := hhi.1 _ rfl
      obtain ⟨rfl, _⟩ := hy2
      obtain ⟨rfl, _⟩ := hmx
      have hlv := hlo.2 rfl
      subst hlv; subst hy1
      refine ⟨.slice a 0 0, ?_, a, rfl⟩
      simp [Instr.sliceAt, run_underlying' hu, Instr.slice, Instr.sliceBounds, Instr.sliceBound, run_sizeOf' c1, asIntOf]
    split at h1
    · exact main h1 fun c v hv => by obtain ⟨_, a, cap, rfl, _⟩ := hv; exact ⟨_, _, _, rfl⟩
    · exact main h1 fun c v hv => leaf_own hv
    · exact main h1 fun c v hv => by have : v = .slice none 0 0 := hv; subst this; exact ⟨_, _, _, rfl⟩
    · exact main h1 fun c v hv => by obtain ⟨a, rfl⟩ := hv; exact ⟨_, _, _, rfl⟩
    · cases h1
  · cases h0
theorem igeE_run {R : Type} {G : Gi} {κ : Kop R} {r : R} {op : BinOp} {ty : TypeId} {av bv : AV} (h0 : igeE κ op av bv = some r) : ∃ v, κ v [] = some r ∧ BinRun G.P op ty av bv v := by
  unfold igeE at h0
  split at h0
  · rename_i n m
    obtain ⟨hc, h0⟩ := cond_none h0
    have hc := of_decide_eq_true hc
    refine ⟨_, h0, fun c x y xo yo hx hy => ?_⟩
    obtain ⟨z, rfl, hz⟩ := hx
    obtain ⟨rfl, _⟩ := hy
    refine ⟨.bool false, run_eqGuard _ _ _ _ _ _ _ _ (.inl (by simp)) (.inl (by simp)), ?_, rfl⟩
    rw [run_binOp_int G.P c.w .lss ty .i64 (z : Int) m ⟨by simp, by simp⟩]
    have : ¬ ((z : Int) < m) := by omega
    simp [Op.intCmp, this]
  · cases h0
theorem run_asBool {P : Program} {w : World} (b : Bool) : (asBool (.bool b)).run P w = .ok b w := rfl
theorem arr2 {α : Type} {a : Array α} {d : α} (h : Nat.beq a.size 2 = true) : a[0]? = some (a.getD 0 d) ∧ a[1]? = some (a.getD 1 d) ∧ a = #[a.getD 0 d, a.getD 1 d] := by
  have h := Nat.eq_of_beq_eq_true h
  obtain ⟨l⟩ := a
  rcases l with _ | ⟨x, _ | ⟨y, _ | ⟨z, l⟩⟩⟩ <;> simp at h
  simp
theorem arr1 {α : Type} {a : Array α} {d : α} (h : Nat.beq a.size 1 = true) : a = #[a.getD 0 d] := by
  have h := Nat.eq_of_beq_eq_true h
  obtain ⟨l⟩ := a
  rcases l with _ | ⟨x, _ | ⟨y, l⟩⟩ <;> simp at h
  simp
theorem stepE_ok {G : Gi} {R : Type} {κ : Kop R} {r : R} {o : Oper} {t : List AV} {look : Nat → Blk} {nid : Nat} (hG : GOk G) (h0 : stepE G o t look nid κ = some r) :
    ∃ v us, κ v us = some r ∧ OpOk G o t look nid v us := by
  unfold stepE at h0
  split at h0
  · -- move
    rename_i x ho
    refine ⟨_, _, h0, .pure fun X hXG h L a w I hv hl => ⟨a.eval x, ?_, hv x (by simp [ho, Op.operands])⟩⟩
    simp only [execOp, ho, Sem.run_pure]
  · rename_i x ho
    refine ⟨_, _, h0, .pure fun X hXG h L a w I hv hl => ⟨a.eval x, ?_, hv x (by simp [ho, Op.operands])⟩⟩
    simp only [execOp, ho, Sem.run_pure]
  · -- pick
    rename_i c a b ho
    split at h0
    · rename_i x hx
      have main : ∀ v, (∀ (cc : Cx) va vb, Val cc (evO t a) va → Val cc (evO t b) vb → Val cc v (if x then va else vb)) → OpOk G o t look nid v [] := by
        intro v hvv
        refine .pure fun X hXG h L ac w I hv hl => ⟨if x then ac.eval a else ac.eval b, ?_, ?_⟩
        · have := hv c (by simp [ho, Op.operands])
          rw [hx] at this
          have hcv : ac.eval c = .bool x := this
          simp only [execOp, ho, hcv, Sem.run_bind, run_asBool, Result.andThen_ok, Sem.run_pure]
        · exact hvv _ _ _ (hv a (by simp [ho, Op.operands])) (hv b (by simp [ho, Op.operands]))
      split at h0
      · rename_i p q hp hq
        refine ⟨_, _, h0, main _ fun cc va vb h1 h2 => ?_⟩
        rw [hp] at h1; rw [hq] at h2
        obtain rfl : va = .bool p := h1
        obtain rfl : vb = .bool q := h2
        cases x <;> exact rfl
      · cases x with
        | true => exact ⟨_, _, h0, main _ fun cc va vb h1 h2 => by simpa using h1⟩
        | false => exact ⟨_, _, h0, main _ fun cc va vb h1 h2 => by simpa using h2⟩
    · cases h0
  · rename_i e ho; exact allocE_ok ho h0
  · rename_i e x ho
    cases hf : (G.fzb && (decA (evO t x)).isSome) with
    | true => rw [hf] at h0; exact boxFE_ok ho h0
    | false => rw [hf] at h0; exact boxE_ok ho h0
  · rename_i ty parts ho; exact buildE_ok ho h0
  · rename_i ty n parts ho
    cases hg : useG G ty (parts.toList.map fun p => (p.1, evO t p.2)) with
    | true => rw [hg] at h0; exact buildGE_ok ho h0
    | false => rw [hg] at h0; exact buildSliceE_ok ho h0
  · -- load
    rename_i ty a ho
    obtain ⟨v, h1, h2⟩ := loadE_run h0
    refine ⟨v, [], h1, .pure fun X hXG => ?_⟩
    subst hXG
    refine fun h L ac w I hv hl => ?_
    obtain ⟨cv, q1, q2⟩ := h2 X h L w (ac.eval a) rfl I hl (hv a (by simp [ho, Op.operands]))
    exact ⟨cv, by simp only [execOp, ho, Sem.run_bind, q1, Result.andThen_ok, Sem.run_pure], q2⟩
  · rename_i ty a x ho; exact storeE_ok ho h0
  · -- nilCheck
    rename_i x ho
    obtain ⟨h1, h2⟩ := nilE_run h0
    refine ⟨_, _, h1, .pure fun X hXG h L ac w I hv hl => ⟨ac.eval x, ?_, hv x (by simp [ho, Op.operands])⟩⟩
    obtain ⟨p, hp⟩ := h2 _ _ (hv x (by simp [ho, Op.operands]))
    simp only [execOp, ho, hp, Sem.run_pure]
  · -- binOp
    rename_i op ty x y yt ho
    split at h0
    · rename_i n m hx hy
      obtain ⟨v, h1, h2⟩ := errE_run h0
      refine ⟨v, [], h1, .pure fun X hXG => ?_⟩
      subst hXG
      refine fun h L ac w I hv hl => ?_
      have hx' := hv x (by simp [ho, Op.operands])
      have hy' := hv y (by simp [ho, Op.operands])
      rw [hx] at hx'; rw [hy] at hy'
      obtain ⟨_, cv, q1, q2, q3⟩ := h2 (cx X h L w) (ac.eval x) (ac.eval y) I.eok.w hx' hy'
      have q1' : (eqGuard op ty x y (ac.eval x) (ac.eval y)).run X.G.P w = .ok () w := q1
      have q2' : (binOp op ty (ac.eval x) (ac.eval y)).run X.G.P w = .ok cv w := q2
      exact ⟨cv, by simp only [execOp, ho, Sem.run_bind, q1', q2', Result.andThen_ok, Sem.run_pure], q3⟩
    · have hb : ∃ v, κ v [] = some r ∧ BinRun G.P op ty (evO t x) (evO t y) v := by
        cases hX : (evO t x).isX with
        | true => rw [hX] at h0; exact igeE_run h0
        | false => rw [hX] at h0; exact binE_run' h0
      obtain ⟨v, h1, h2⟩ := hb
      refine ⟨v, [], h1, .pure fun X hXG => ?_⟩
      subst hXG
      refine fun h L ac w I hv hl => ?_
      obtain ⟨cv, q1, q2, q3⟩ := h2 (cx X h L w) (ac.eval x) (ac.eval y) x y (hv x (by simp [ho, Op.operands])) (hv y (by simp [ho, Op.operands]))
      have q1' : (eqGuard op ty x y (ac.eval x) (ac.eval y)).run X.G.P w = .ok () w := q1
      have q2' : (binOp op ty (ac.eval x) (ac.eval y)).run X.G.P w = .ok cv w := q2
      exact ⟨cv, by simp only [execOp, ho, Sem.run_bind, q1', q2', Result.andThen_ok, Sem.run_pure], q3⟩
  · -- unOp
    rename_i op ty x ho
    obtain ⟨v, h1, h2⟩ := unE_run (P := G.P) h0
    refine ⟨v, [], h1, .pure fun X hXG => ?_⟩
    subst hXG
    refine fun h L ac w I hv hl => ?_
    obtain ⟨cv, q1, q2⟩ := h2 (cx X h L w) (ac.eval x) (hv x (by simp [ho, Op.operands]))
    have q1' : (Op.unary op (ac.eval x)).run X.G.P w = .ok cv w := q1
    exact ⟨cv, by simp only [execOp, ho, Sem.run_bind, q1', Result.andThen_ok, Sem.run_pure], q2⟩
  · -- convert
    rename_i src dst x ho
    split at h0
    · cases ht : (evO t x).isOwn with
      | true => rw [ht] at h0; exact sameE_ok ho h0
      | false => rw [ht] at h0; exact bytesE_ok ho h0
    · obtain ⟨v, h1, h2⟩ := convE_run h0
      refine ⟨v, [], h1, .pure fun X hXG => ?_⟩
      subst hXG
      refine fun h L ac w I hv hl => ?_
      obtain ⟨cv, q1, q2⟩ := h2 X h L w (ac.eval x) rfl I hl (hv x (by simp [ho, Op.operands]))
      exact ⟨cv, by simp only [execOp, ho, Sem.run_bind, q1, Result.andThen_ok, Sem.run_pure], q2⟩
  · -- fieldAddr
    rename_i ty x f ho
    obtain ⟨v, h1, h2⟩ := fieldAddrE_run h0
    refine ⟨v, [], h1, .pure fun X hXG => ?_⟩
    subst hXG
    refine fun h L ac w I hv hl => ?_
    obtain ⟨cv, q1, q2⟩ := h2 X h L w (ac.eval x) rfl I hl (hv x (by simp [ho, Op.operands]))
    exact ⟨cv, by simp only [execOp, ho, Sem.run_bind, q1, Result.andThen_ok, Sem.run_pure], q2⟩
  · -- field
    rename_i ty x f ho
    obtain ⟨v, h1, h2⟩ := fieldE_run h0
    refine ⟨v, [], h1, .pure fun X hXG => ?_⟩
    subst hXG
    refine fun h L ac w I hv hl => ?_
    obtain ⟨cv, q1, q2⟩ := h2 (cx X h L w) (ac.eval x) (hv x (by simp [ho, Op.operands]))
    have q1' : (Instr.field ty (ac.eval x) f).run X.G.P w = .ok cv w := q1
    exact ⟨cv, by simp only [execOp, ho, Sem.run_bind, q1', Result.andThen_ok, Sem.run_pure], q2⟩
  · -- indexAddr
    rename_i ty x i ho
    have hb : ∃ v, κ v [] = some r ∧ ∀ (X : Fx) h L w a b, X.G = G → Inv X h L w → lookOk look h → Val (cx X h L w) (evO t x) a → Val (cx X h L w) (evO t i) b →
      ∃ cv, (Instr.indexAt ty a b).run G.P w = .ok cv w ∧ Val (cx X h L w) v cv := by
      cases hX : (evO t x).isX with
      | true => rw [hX] at h0; exact ixxE_run h0
      | false =>
        rw [hX] at h0
        obtain ⟨v, h1, h2⟩ := indexAddrE_run h0
        exact ⟨v, h1, fun X h L w a b q => by subst q; exact h2 X h L w a b rfl⟩
    obtain ⟨v, h1, h2⟩ := hb
    refine ⟨v, [], h1, .pure fun X hXG => ?_⟩
    subst hXG
    refine fun h L ac w I hv hl => ?_
    obtain ⟨cv, q1, q2⟩ := h2 X h L w (ac.eval x) (ac.eval i) rfl I hl (hv x (by simp [ho, Op.operands])) (hv i (by simp [ho, Op.operands]))
    exact ⟨cv, by simp only [execOp, ho, Sem.run_bind, q1, Result.andThen_ok, Sem.run_pure], q2⟩
  · -- index
    rename_i ty x i ho
    obtain ⟨v, h1, h2⟩ := indexE_run h0
    refine ⟨v, [], h1, .pure fun X hXG => ?_⟩
    subst hXG
    refine fun h L ac w I hv hl => ?_
    obtain ⟨cv, q1, q2⟩ := h2 (cx X h L w) (ac.eval x) (ac.eval i) (hv x (by simp [ho, Op.operands])) (hv i (by simp [ho, Op.operands]))
    have q1' : (Instr.index ty (ac.eval x) (ac.eval i)).run X.G.P w = .ok cv w := q1
    exact ⟨cv, by simp only [execOp, ho, Sem.run_bind, q1', Result.andThen_ok, Sem.run_pure], q2⟩
  · -- slice
    rename_i ty x lo hi ho
    have hb : ∃ v, κ v [] = some r ∧ ∀ (X : Fx) h L w a lv hv, X.G = G → Inv X h L w → lookOk look h → Val (cx X h L w) (evO t x) a →
      ((∀ y, lo.map (evO t) = some y → ∃ z, lv = some z ∧ Val (cx X h L w) y z) ∧ (lo.map (evO t) = none → lv = none)) →
      ((∀ y, hi.map (evO t) = some y → ∃ z, hv = some z ∧ Val (cx X h L w) y z) ∧ (hi.map (evO t) = none → hv = none)) →
      ∃ cv, (Instr.sliceAt ty a lv hv none).run G.P w = .ok cv w ∧ Val (cx X h L w) v cv := by
      rcases Bool.eq_false_or_eq_true ((evO t x).isX || optX (hi.map (evO t))) with hX | hX
      · rw [hX] at h0; exact slxE_run h0
      · rw [hX] at h0
        obtain ⟨v, h1, h2⟩ := sliceE_run h0
        exact ⟨v, h1, fun X h L w a lv hv q => by subst q; exact h2 X h L w a lv hv rfl⟩
    obtain ⟨v, h1, h2⟩ := hb
    refine ⟨v, [], h1, .pure fun X hXG => ?_⟩
    subst hXG
    refine fun h L ac w I hv hl => ?_
    obtain ⟨cv, q1, q2⟩ := h2 X h L w (ac.eval x) (lo.map ac.eval) (hi.map ac.eval) rfl I hl (hv x (by simp [ho, Op.operands]))
      ⟨fun y hy => by
        cases lo with
        | none => simp at hy
        | some l => simp at hy; subst hy; exact ⟨_, rfl, hv l (by simp [ho, Op.operands])⟩, fun hn => by cases lo <;> simp_all⟩
      ⟨fun y hy => by
        cases hi with
        | none => simp at hy
        | some l => simp at hy; subst hy; exact ⟨_, rfl, hv l (by simp [ho, Op.operands])⟩, fun hn => by cases hi <;> simp_all⟩
    exact ⟨cv, by simp only [execOp, ho, Sem.run_bind, Option.map_none, q1, Result.andThen_ok, Sem.run_pure], q2⟩
  · rename_i ty x lo hi mx ho
    obtain ⟨v, h1, h2⟩ := emp3E_run h0
    refine ⟨v, [], h1, .pure fun X hXG => ?_⟩
    subst hXG
    refine fun h L ac w I hv hl => ?_
    obtain ⟨cv, q1, q2⟩ := h2 X h L w (ac.eval x) (lo.map ac.eval) (hi.map ac.eval) (ac.eval mx) rfl (hv x (by simp [ho, Op.operands]))
      ⟨fun y hy => by
        cases lo with
        | none => simp at hy
        | some l => simp at hy; subst hy; exact ⟨_, rfl, hv l (by simp [ho, Op.operands])⟩, fun hn => by cases lo <;> simp_all⟩
      ⟨fun y hy => by
        cases hi with
        | none => simp at hy
        | some l => simp at hy; subst hy; exact ⟨_, rfl, hv l (by simp [ho, Op.operands])⟩, fun hn => by cases hi <;> simp_all⟩
      (hv mx (by simp [ho, Op.operands]))
    exact ⟨cv, by simp only [execOp, ho, Sem.run_bind, Option.map_some, q1, Result.andThen_ok, Sem.run_pure], q2⟩
  · rename_i ty l c ho; exact makeSliceE_ok ho h0
  · -- extract
    rename_i x i ho
    obtain ⟨v, h1, h2⟩ := extractE_run (P := G.P) h0
    refine ⟨v, [], h1, .pure fun X hXG => ?_⟩
    subst hXG
    refine fun h L ac w I hv hl => ?_
    obtain ⟨cv, q1, q2⟩ := h2 (cx X h L w) (ac.eval x) (hv x (by simp [ho, Op.operands]))
    have q1' : (Instr.extract (ac.eval x) i).run X.G.P w = .ok cv w := q1
    exact ⟨cv, by simp only [execOp, ho, Sem.run_bind, q1', Result.andThen_ok, Sem.run_pure], q2⟩
  · -- sliceToArrayPointer
    rename_i ty x ho
    obtain ⟨v, h1, h2⟩ := arrPE_run h0
    refine ⟨v, [], h1, .pure fun X hXG => ?_⟩
    subst hXG
    refine fun h L ac w I hv hl => ?_
    obtain ⟨cv, q1, q2⟩ := h2 (cx X h L w) (ac.eval x) (hv x (by simp [ho, Op.operands]))
    have q1' : (Instr.arrayAt ty (ac.eval x)).run X.G.P w = .ok cv w := q1
    exact ⟨cv, by simp only [execOp, ho, Sem.run_bind, q1', Result.andThen_ok, Sem.run_pure], q2⟩
  · -- makeFunc
    rename_i f first captured ho
    obtain ⟨hf, h0⟩ := cond_none h0
    exact makeFuncE_ok ho hf h0
  · -- call
    rename_i c ho
    split at h0
    · rename_i f hc
      cases hw : (G.own f && (rowOf (c.args.toList.map (evO t))).isSome) with
      | true => rw [hw] at h0; exact callRow_ok hG ho hc h0
      | false => rw [hw] at h0; exact callE_ok hG ho hc (ex := []) (fun _ v hv => ⟨[], hv, trivial⟩) (by rw [List.append_nil]; exact h0)
    · rename_i i hc
      split at h0
      · rename_i f hf
        exact callE_ok hG ho hc (ex := []) (fun _ v hv => by rw [hf] at hv; exact ⟨[], hv, trivial⟩) (by rw [List.append_nil]; exact h0)
      · rename_i f l hf
        exact callE_ok hG ho hc (fun _ v hv => by rw [hf] at hv; obtain ⟨vs, e, g⟩ := hv; exact ⟨vs, e, Caps_all2 l vs g⟩) h0
      · cases h0
    · rename_i hc
      split at h0
      · rename_i x ha
        obtain ⟨hsz, h0⟩ := cond_none h0
        have hb : ∃ v, κ v [] = some r ∧ ∀ (X : Fx) h L w a ty, X.G = G → Inv X h L w → lookOk look h → Val (cx X h L w) (evO t x) a → ∃ cv, (Builtin.len_ #[argT c 0] ty #[a]).run G.P w = .ok cv w ∧ Val (cx X h L w) v cv := by
          cases hX : (evO t x).isX with
          | true =>
            rw [hX] at h0
            obtain ⟨hu, h0⟩ := cond_none h0
            obtain ⟨v, h1, h2⟩ := lenxE_run h0
            refine ⟨v, h1, fun X h L w a ty hG I hl hv => ?_⟩
            obtain ⟨q, n, m, rfl, h3⟩ := h2 X h L w a I hl hv
            split at hu
            · rename_i e he
              exact ⟨_, by simp [Builtin.len_, run_underlying' he, goInt], h3⟩
            · cases hu
          | false =>
            rw [hX] at h0
            obtain ⟨v, h1, h2⟩ := lenE_run h0
            exact ⟨v, h1, fun X h L w a ty q => by subst q; exact h2 X h L w a ty rfl⟩
        obtain ⟨v, h1, h2⟩ := hb
        have hca : c.args = #[x] := by
          have : c.args.toList = (#[x] : Array Operand).toList := ha
          exact Array.toList_inj.1 this
        refine ⟨v, [], h1, .pure fun X hXG => ?_⟩
        subst hXG
        refine fun h L ac w I hv hl => ?_
        obtain ⟨cv, q1, q2⟩ := h2 X h L w (ac.eval x) o.type rfl I hl (hv x (by simp [ho, Op.operands, Call.operands, hc, hca]))
        refine ⟨cv, ?_, q2⟩
        have hat : c.argTypes = #[argT c 0] := arr1 hsz
        simp only [execOp, ho, resolve, hc, hca, Sem.run_bind, Sem.run_pure, Result.andThen_ok, invoke, builtin]
        rw [hat]
        simp [q1]
      · cases h0
    · rename_i hc
      split at h0
      · rename_i x y ha
        unfold minE at h0
        split at h0
        · rename_i k a k' b hx hy
          obtain ⟨hk, h0'⟩ := cond_none h0
          clear h0
          have hk := of_decide_eq_true hk
          subst hk
          have hca : c.args = #[x, y] := by
            have : c.args.toList = (#[x, y] : Array Operand).toList := ha
            exact Array.toList_inj.1 this
          refine ⟨_, [], h0', .pure fun X hXG => ?_⟩
          subst hXG
          refine fun h L ac w I hv hl => ?_
          have e1 := hv x (by simp [ho, Op.operands, Call.operands, hc, hca])
          have e2 := hv y (by simp [ho, Op.operands, Call.operands, hc, hca])
          rw [hx] at e1
          rw [hy] at e2
          obtain ⟨e1, n1⟩ := e1
          obtain ⟨e2, n2⟩ := e2
          refine ⟨.int k (min a b), ?_, rfl, fun hs z hz => ?_⟩
          · simp only [execOp, ho, resolve, hc, hca, Sem.run_bind, Sem.run_pure, Result.andThen_ok, invoke, builtin]
            have hm : (if b < a then b else a) = min a b := by split <;> omega
            simp [Builtin.min_, Builtin.min2, e1, e2, hm]
          · rw [List.mem_singleton] at hz
            subst hz
            have := n1 hs a (by simp)
            have := n2 hs b (by simp)
            omega
        · cases h0
      · cases h0
    · rename_i hc
      split at h0
      · rename_i x ha
        obtain ⟨hsz, h0⟩ := cond_none h0
        obtain ⟨v, h1, h2⟩ := capE_run h0
        have hca : c.args = #[x] := by
          have : c.args.toList = (#[x] : Array Operand).toList := ha
          exact Array.toList_inj.1 this
        refine ⟨v, [], h1, .pure fun X hXG => ?_⟩
        subst hXG
        refine fun h L ac w I hv hl => ?_
        obtain ⟨cv, q1, q2⟩ := h2 X h L w (ac.eval x) o.type rfl I hl (hv x (by simp [ho, Op.operands, Call.operands, hc, hca]))
        refine ⟨cv, ?_, q2⟩
        have hat : c.argTypes = #[argT c 0] := arr1 hsz
        simp only [execOp, ho, resolve, hc, hca, Sem.run_bind, Sem.run_pure, Result.andThen_ok, invoke, builtin]
        rw [hat]
        simp [q1]
      · cases h0
    · rename_i hc
      split at h0
      · rename_i d s ha
        obtain ⟨hsz, h0⟩ := cond_none h0
        cases hg : elemG G.P (argT c 0) with
        | true => rw [hg] at h0; exact appendGE_ok ho hc ha (fun tx _ => arr2 hsz) h0
        | false => rw [hg] at h0; exact appendE_ok ho hc ha (fun tx _ => arr2 hsz) h0
      · cases h0
    · rename_i hc
      split at h0
      · rename_i d s ha
        obtain ⟨hsz, h0⟩ := cond_none h0
        exact copyE_ok ho hc ha ⟨_, (arr2 hsz).2.2⟩ h0
      · cases h0
    · cases h0
  · cases h0
end Go.Ev
namespace Go.Ev
def fz (rd : Option Nat) : Fence := { Fence.wide with round := rd }
theorem fz_room (rd : Option Nat) (n : Nat) : (fz rd).room n := fun _ h => by simp [fz, Fence.wide] at h
theorem fz_depth (rd : Option Nat) {n : Nat} : (fz rd).depth.isSome = true → 1 ≤ n := fun h => by simp [fz, Fence.wide] at h
theorem fz_calls {rd : Option Nat} {n : Nat} {P : Program} {f : FuncId} {args : Array Value} {w : World} {R : Ending → World → Prop} (h : Calls P f args w R) : CallsIn (fz rd) n P f args w R := by
  have h1 : CallsIn Fence.wide n P f args w R := callsIn_wide.2 h
  cases rd with
  | none => exact h1
  | some l => exact CallsIn.inRound l h1
theorem fz_rows {rd : Option Nat} {n : Nat} {P : Program} {row : String} {args : Array Value} {w : World} {R : Value → World → Prop} (h : Rows P row args w R) : RowsIn (fz rd) n P row args w R := by
  intro fr cs _
  obtain ⟨v, w', h1, h2⟩ := h fr cs
  exact ⟨v, w', h1, stepsIn_wide.2 h2⟩
theorem toIn {rd : Option Nat} {P : Program} {o : Oper} {a : Act} {w : World} {next : Act → World → Prop} {Q : Exit → Act → World → Prop}
    (h : o.wp P a w (fun a' w' => next a' w' ∧ a'.defers = a.defers) (fun _ _ _ => False)) : o.wpIn (fz rd) 0 P a w next Q := by
  refine ⟨fun _ _ => trivial, ?_⟩
  by_cases hd : ∃ c, o.op = .defer c
  · exfalso
    obtain ⟨c, hc⟩ := hd
    unfold Oper.wp at h
    have he : execOp a.eval o = (do pure (.defer (← resolve a.eval c o.type)) : Sem Next) := by simp only [execOp, hc]
    rw [he] at h
    simp only [Sem.run_bind] at h
    cases hr : (resolve a.eval c o.type).run P w with
    | ok d w' =>
      simp only [hr, Result.andThen_ok, Sem.run_pure, Oper.upon] at h
      have h2 := h.2
      have h3 := congrArg List.length h2
      cases hdst : o.dst <;> simp [hdst, Act.put] at h3
    | halt x w' =>
      rw [hr] at h
      cases x <;> exact h
  · rw [Oper.semAt_eq _ _ _ (fun c hc => hd ⟨c, hc⟩)]
    unfold Oper.wp at h
    generalize (execOp a.eval o).run P w = r at h
    cases r with
    | ok x w' =>
      cases x <;> simp only [Oper.upon] at h <;> simp only [Oper.uponIn] <;>
        first
          | exact h.1
          | exact ⟨fz_depth rd, fz_calls (h.mono fun e w'' he => by cases e <;> first | exact he.1 | exact he.elim | (obtain ⟨_, _, h⟩ := he; exact h.elim))⟩
          | exact ⟨fz_depth rd, fz_rows (h.mono fun _ _ he => he.1)⟩
          | exact h.elim
    | halt x w' => cases x <;> first | exact h.elim | exact (h : False).elim
structure RelP (X : Fx) (b0 : List Blk) (L0 : List Loc) (st : St) (L : List Loc) (a : Act) (w : World) : Prop where
  rel : Rel X st L a w
  pin : ∀ (i : Nat) b, b0[i]? = some b → Blk.sh b ≠ .rsv → (∃ b', st.h[i]? = some b' ∧ Blk.sh b' = Blk.sh b ∧ L[i]? = L0[i]?) ∨ st.h[i]? = some .dead
theorem putT_length (t : List AV) (d : Option Nat) (v : AV) : (putT t d v).length = t.length := by cases d <;> simp [putT]
theorem Rel.put {X : Fx} {st : St} {L : List Loc} {a : Act} {w : World} (R : Rel X st L a w) {h' : List Blk} {L' : List Loc} {w' : World} (I : Inv X h' L' w') (hle : Cx.Le (cx X st.h L w) (cx X h' L' w'))
    {d : Option Nat} {v : AV} {cv : Value} (hv : Val (cx X h' L' w') v cv) : Rel X ⟨putT st.t d v, h'⟩ L' (a.put d cv) w' := by
  refine ⟨I, ⟨?_, fun i u x hu hx => ?_⟩, ?_⟩
  · rw [putT_length, R.tmp.1]; cases d <;> simp [Act.put]
  · cases d with
    | none => exact Val.le hle _ _ (R.tmp.2 i u x hu hx)
    | some d =>
      simp only [putT] at hu
      simp only [Act.put] at hx
      rcases getElem?_set_cases hu with ⟨rfl, rfl, hlt⟩ | ⟨hne, hu'⟩
      · rw [Array.getElem?_setIfInBounds_self_of_lt (by have := R.tmp.1; omega)] at hx
        simp only [Option.some.injEq] at hx
        subst hx; exact hv
      · rw [Array.getElem?_setIfInBounds_ne hne] at hx
        exact Val.le hle _ _ (R.tmp.2 i u x hu' hx)
  · cases d <;> exact R.dfr
theorem RelP.put {X : Fx} {b0 : List Blk} {L0 : List Loc} {st : St} {L : List Loc} {a : Act} {w : World} (R : RelP X b0 L0 st L a w) {h' : List Blk} {L' : List Loc} {w' : World} (I : Inv X h' L' w') (hle : Cx.Le (cx X st.h L w) (cx X h' L' w'))
    {d : Option Nat} {v : AV} {cv : Value} (hv : Val (cx X h' L' w') v cv) : RelP X b0 L0 ⟨putT st.t d v, h'⟩ L' (a.put d cv) w' := by
  refine ⟨R.rel.put I hle hv, fun i b0 hi hr => ?_⟩
  have dead : ∀ s, (h'.map Blk.sh)[i]? = some s → s = .dead → h'[i]? = some .dead := by
    intro s hs he
    obtain ⟨b, hb, e⟩ := shAt' hs
    subst he
    cases b <;> simp only [Blk.sh, reduceCtorEq] at e
    exact hb
  rcases R.pin i b0 hi hr with ⟨v', q1, q2, q3⟩ | q
  · rcases hle.sh i _ (cx_S q1) (by rw [q2]; exact hr) with ⟨r1, r2⟩ | r
    · refine .inl ?_
      obtain ⟨b, hb, e⟩ := shAt' r1
      exact ⟨b, hb, e.trans q2, r2.trans q3⟩
    · exact .inr (dead _ r rfl)
  · rcases hle.sh i _ (cx_S q) (by simp [Blk.sh]) with ⟨r1, r2⟩ | r
    · exact .inr (dead _ r1 rfl)
    · exact .inr (dead _ r rfl)
theorem Rel.eval {X : Fx} {st : St} {L : List Loc} {a : Act} {w : World} (R : Rel X st L a w) (x : Operand) : Val (cx X st.h L w) (evO st.t x) (a.eval x) := by
  cases x with
  | tmp i =>
    simp only [evO, Act.eval]
    rcases Nat.lt_or_ge i st.t.length with hlt | hge
    · have h2 : i < a.tmps.size := Nat.lt_of_lt_of_eq hlt R.tmp.1
      have := R.tmp.2 i _ _ (List.getElem?_eq_getElem hlt) (Array.getElem?_eq_getElem h2)
      simpa [List.getD, hlt, Array.getD, h2] using this
    · have h2 : a.tmps.size ≤ i := (R.tmp.1 ▸ hge)
      rw [List.getD, List.getElem?_eq_none hge]
      have e : a.tmps.getD i undef = undef := by simp [Array.getD, Nat.not_lt.2 h2]
      rw [e]; exact Val_und
  | const v => exact Val_ofVal R.inv.eok.w v
  | global g => exact rfl
  | func f => exact rfl
theorem op_step {X : Fx} {b0 : List Blk} {L0 : List Loc} {st : St} {L : List Loc} {a : Act} {w : World} {o : Oper} {t : List AV} {look : Nat → Blk} {nid : Nat} {v : AV} {us : List (Nat × Blk)} (hop : OpOk X.G o t look nid v us)
    (R : RelP X b0 L0 st L a w) (ht : ∀ x ∈ o.op.operands.toList, evO t x = evO st.t x) (hl : lookOk look st.h) (hr : ∀ i, i < resv o → st.h[nid + i]? = some .rsv) {next : Act → World → Prop} {Q : Exit → Act → World → Prop}
    (hk : ∀ a' L' w', RelP X b0 L0 ⟨putT st.t o.dst v, applyU st.h us⟩ L' a' w' → next a' w') (rd : Option Nat) : o.wpIn (fz rd) 0 X.G.P a w next Q := by
  rcases hop X rfl st.h L a w (fun a' w' => next a' w' ∧ a'.defers = a.defers) (fun _ _ _ => False) R.rel.inv (fun x hx => by rw [ht x hx]; exact R.rel.eval x) hl hr (fun cv L' w' I hle hv => ⟨hk _ L' w' (R.put I hle hv), by cases o.dst <;> rfl⟩) with h | ⟨_, _, _, h⟩
  · exact toIn h
  · exact h.elim
theorem RelP.skip {X : Fx} {b0 : List Blk} {L0 : List Loc} {st : St} {L : List Loc} {a : Act} {w : World} (R : RelP X b0 L0 st L a w) (d : Option Nat) : RelP X b0 L0 ⟨putT st.t d und, st.h⟩ L (a.put d undef) w :=
  R.put R.rel.inv (Cx.Le.refl _) Val_und
theorem guard_val {X : Fx} {st : St} {L : List Loc} {a : Act} {w : World} (R : Rel X st L a w) {ops : Array Oper} {j d : Nat} (hd : (ops[j]?).bind (·.dst) = some d) :
    (∀ b, st.t.getD d und = .bool b → d < st.t.length ∧ st.t[d]? = some (.bool b) ∧ yielded ops a.tmps j = some b) ∧ (st.t.getD d und = .tup [] → yielded ops a.tmps j = none) := by
  have key : ∀ i (hi : i < st.t.length), ∃ x, a.tmps[i]? = some x ∧ Val (cx X st.h L w) st.t[i] x := fun i hi => by
    have h2 : i < a.tmps.size := by have := R.tmp.1; omega
    exact ⟨_, Array.getElem?_eq_getElem h2, R.tmp.2 i _ _ (List.getElem?_eq_getElem hi) (Array.getElem?_eq_getElem h2)⟩
  constructor
  · intro b hb
    rcases Nat.lt_or_ge d st.t.length with hlt | hge
    · have e : st.t[d]? = some (.bool b) := by rw [List.getD, List.getElem?_eq_getElem hlt] at hb; simp at hb; rw [List.getElem?_eq_getElem hlt, hb]
      refine ⟨hlt, e, ?_⟩
      obtain ⟨x, h1, h2⟩ := key d hlt
      rw [List.getElem?_eq_getElem hlt, Option.some.injEq] at e
      rw [e] at h2
      obtain rfl : x = .bool b := h2
      simp only [yielded, hd, Option.bind_some, h1]
    · rw [List.getD, List.getElem?_eq_none hge] at hb; simp [und] at hb
  · intro hb
    rcases Nat.lt_or_ge d st.t.length with hlt | hge
    · have e : st.t[d] = .tup [] := by rw [List.getD, List.getElem?_eq_getElem hlt] at hb; simpa using hb
      obtain ⟨x, h1, h2⟩ := key d hlt
      rw [e] at h2
      obtain ⟨vs, h3, rfl⟩ := h2
      simp only [yielded, hd, Option.bind_some, h1]
    · have h2 : a.tmps.size ≤ d := by have := R.tmp.1; omega
      simp only [yielded, hd, Option.bind_some, Array.getElem?_eq_none h2]
def Sh.get : Sh → List Nat → Option Sh
  | s, [] => some s
  | .ints _, [_] => some .leaf
  | .agg l, i :: p => match l[i]? with
    | some s => Sh.get s p
    | none => none
  | _, _ => none
theorem getP_map : ∀ (v : AV) (p : List Nat), (getP v p).map sh = Sh.get (sh v) p
  | v, [] => by simp [getP, Sh.get]
  | v, i :: p => by
    cases v with
    | ints k n l => cases p <;> simp [getP, Sh.get, sh]
    | agg l =>
      simp only [getP, Sh.get, sh, shL_eq, List.getElem?_map]
      cases l[i]? with
      | none => rfl
      | some x => exact getP_map x p
    | _ => cases p <;> simp [getP, Sh.get, sh]
theorem getP_sh {v v' : AV} (h : sh v' = sh v) (p : List Nat) : (getP v' p = none ∧ getP v p = none) ∨ ∃ x' x, getP v' p = some x' ∧ getP v p = some x ∧ sh x' = sh x := by
  have e : (getP v' p).map sh = (getP v p).map sh := by rw [getP_map, getP_map, h]
  cases h1 : getP v' p <;> cases h2 : getP v p <;> rw [h1, h2] at e <;> simp at e
  · exact .inl ⟨rfl, rfl⟩
  · exact .inr ⟨_, _, rfl, rfl, e⟩
theorem sh_ints' {v : AV} {n : Nat} (h : sh v = .ints n) : ∃ k l, v = .ints k n l := by
  cases v <;> simp [sh] at h
  subst h; exact ⟨_, _, rfl⟩
theorem sh_agg' {v : AV} {s : List Sh} (h : sh v = .agg s) : ∃ l, v = .agg l ∧ shL l = s := by
  cases v <;> simp [sh] at h
  exact ⟨_, rfl, h⟩
theorem blk_sh_cases {b' b : Blk} (h : b'.sh = b.sh) : (b' = b) ∨ (∃ v' v, b' = .var v' ∧ b = .var v ∧ sh v' = sh v) ∨ (∃ k nl l' l, b' = .row k nl l' ∧ b = .row k nl l ∧ l'.length = l.length) ∨ ∃ (t' t : T) (nl : Bool) (l' : List (Den t')) (l : List (Den t)), b' = .gro t' nl l' ∧ b = .gro t nl l ∧ t'.len = t.len ∧ l'.length = l.length := by
  cases b' <;> cases b <;> simp [Blk.sh] at h
  · exact .inl rfl
  · exact .inl rfl
  · exact .inr (.inl ⟨_, _, rfl, rfl, h⟩)
  · obtain ⟨rfl, rfl, h⟩ := h; exact .inr (.inr (.inl ⟨_, _, _, _, rfl, rfl, h⟩))
  · obtain ⟨h1, rfl, h⟩ := h; exact .inr (.inr (.inr ⟨_, _, _, _, _, rfl, rfl, h1, h⟩))
section
variable {G : Gi} {look look' : Nat → Blk} (h : ∀ id, (look' id).sh = (look id).sh)
include h
theorem fieldAddrE_shape {R : Type} (κ : Kop R) (t : TypeId) (x : AV) (f : Nat) : fieldAddrE G look' κ t x f = fieldAddrE G look κ t x f := by
  unfold fieldAddrE
  split
  · rename_i id path
    rcases blk_sh_cases (h id) with e | ⟨v', v, e', e, hs⟩ | ⟨k, nl, l', l, e', e, hs⟩ | ⟨t', t2, nl, l', l, e', e, ht, hs⟩
    · rw [e]
    · rw [e', e]
      simp only
      rcases getP_sh hs path with ⟨g', g⟩ | ⟨y', y, g', g, hy⟩
      · rw [g', g]
      · rw [g', g]
        cases hG : G.P.underlying t with
        | none => split <;> split <;> simp_all
        | some u =>
          by_cases ha : ∃ l, y = .agg l
          · obtain ⟨l, rfl⟩ := ha
            obtain ⟨l', rfl, hl⟩ := sh_agg' (show sh y' = .agg (shL l) by rw [hy]; rfl)
            have hlen : l'.length = l.length := by have := congrArg List.length hl; simpa [shL_eq] using this
            cases u <;> simp only [hlen, hl]
          · have ha' : ∀ l, y' ≠ .agg l := by
              rintro l rfl
              obtain ⟨l', e, _⟩ := sh_agg' (show sh y = .agg (shL l) by rw [← hy]; rfl)
              exact ha ⟨_, e⟩
            split
            · rename_i l fs h1 h2
              exact absurd (by simpa using h1) (ha' l)
            · split
              · rename_i l fs h1 h2
                exact absurd ⟨l, by simpa using h1⟩ ha
              · rfl
    · rw [e', e]
    · rw [e', e]
  · rfl
  · rfl
omit h in
theorem ints_of {y' y : AV} (hy : sh y' = sh y) : (∃ k k' m l l', y' = .ints k' m l' ∧ y = .ints k m l) ∨ ((∀ k m l, y' ≠ .ints k m l) ∧ ∀ k m l, y ≠ .ints k m l) := by
  by_cases ha : ∃ k m l, y = .ints k m l
  · obtain ⟨k, m, l, rfl⟩ := ha
    obtain ⟨k', l', rfl⟩ := sh_ints' (show sh y' = .ints m by rw [hy]; rfl)
    exact .inl ⟨_, _, _, _, _, rfl, rfl⟩
  · refine .inr ⟨?_, fun k m l e => ha ⟨k, m, l, e⟩⟩
    rintro k m l rfl
    obtain ⟨k', l', e⟩ := sh_ints' (show sh y = .ints m by rw [← hy]; rfl)
    exact ha ⟨_, _, _, e⟩
omit h in
theorem arr_shape {α : Type} (F : Nat → α) (z : α) {v' v : AV} (hs : sh v' = sh v) (p : List Nat) :
    (match getP v' p with | some (.ints _ m _) => F m | _ => z) = (match getP v p with | some (.ints _ m _) => F m | _ => z) := by
  rcases getP_sh hs p with ⟨g', g⟩ | ⟨y', y, g', g, hy⟩
  · rw [g', g]
  · rw [g', g]
    rcases ints_of hy with ⟨k, k', m, l, l', rfl, rfl⟩ | ⟨n', n⟩
    · rfl
    · split
      · rename_i h1; exact absurd (by simpa using h1) (n' _ _ _)
      · split
        · rename_i h1; exact absurd (by simpa using h1) (n _ _ _)
        · rfl
omit h in
theorem arr_shape2 {α : Type} (F : Nat → α) (F2 : Nat → List Sh → α) (z : α) {v' v : AV} (hs : sh v' = sh v) (p : List Nat) :
    (match getP v' p with | some (.ints _ m _) => F m | some (.agg l) => F2 l.length (shL l) | _ => z) = (match getP v p with | some (.ints _ m _) => F m | some (.agg l) => F2 l.length (shL l) | _ => z) := by
  rcases getP_sh hs p with ⟨g', g⟩ | ⟨y', y, g', g, hy⟩
  · rw [g', g]
  · rw [g', g]
    rcases ints_of hy with ⟨k, k', m, l, l', rfl, rfl⟩ | ⟨n', n⟩
    · rfl
    · by_cases ha : ∃ l, y = .agg l
      · obtain ⟨l, rfl⟩ := ha
        obtain ⟨l', rfl, hl⟩ := sh_agg' (show sh y' = .agg (shL l) by rw [hy]; rfl)
        have hlen : l'.length = l.length := by have := congrArg List.length hl; simpa [shL_eq] using this
        simp only [hlen, hl]
      · have ha' : ∀ l, y' ≠ .agg l := by
          rintro l rfl
          obtain ⟨l', e, _⟩ := sh_agg' (show sh y = .agg (shL l) by rw [← hy]; rfl)
          exact ha ⟨_, e⟩
        split
        · rename_i h1; exact absurd (by simpa using h1) (n' _ _ _)
        · rename_i h1; exact absurd (by simpa using h1) (ha' _)
        · split
          · rename_i h1; exact absurd (by simpa using h1) (n _ _ _)
          · rename_i l h1; exact absurd ⟨l, by simpa using h1⟩ ha
          · rfl
theorem indexAddrE_shape {R : Type} (κ : Kop R) (t : TypeId) (x ix : AV) : indexAddrE G look' κ t x ix = indexAddrE G look κ t x ix := by
  unfold indexAddrE
  split
  · split
    · split
      · rename_i id path
        rcases blk_sh_cases (h id) with e | ⟨v', v, e', e, hs⟩ | ⟨k, nl, l', l, e', e, hs⟩ | ⟨t', t2, nl, l', l, e', e, ht, hs⟩
        · rw [e]
        · rw [e', e]; exact arr_shape2 _ (fun a ss => cond (szIs G.P _ 1 && (Nat.beq _ a && Nat.beq (Sh.lenL (ss.take _)) _)) _ _) _ hs _
        · rw [e', e]
        · rw [e', e]
      · rfl
      · rfl
    · split
      · rfl
      · rfl
      · rfl
      · rfl
      · rename_i id path off len
        rcases blk_sh_cases (h id) with e | ⟨v', v, e', e, hs⟩ | ⟨k, nl, l', l, e', e, hs⟩ | ⟨t', t2, nl, l', l, e', e, ht, hs⟩
        · rw [e]
        · rw [e', e]; exact arr_shape _ _ hs _
        · rw [e', e]; simp only [hs]
        · rw [e', e]; simp only [ht, hs]
      · rfl
    · rfl
  · rfl
theorem sliceE_shape {R : Type} (κ : Kop R) (t : TypeId) (x : AV) (lo hi : Option AV) : sliceE G look' κ t x lo hi = sliceE G look κ t x lo hi := by
  unfold sliceE
  split
  · rfl
  · rfl
  · rfl
  · rfl
  · rfl
  · rename_i id path off len _
    congr 1
    rcases blk_sh_cases (h id) with e | ⟨v', v, e', e, hs⟩ | ⟨k, nl, l', l, e', e, hs⟩ | ⟨t', t2, nl, l', l, e', e, ht, hs⟩
    · rw [e]
    · rw [e', e]; exact arr_shape _ _ hs _
    · rw [e', e]; simp only [hs]
    · rw [e', e]
  · rename_i id path _
    congr 1
    rcases blk_sh_cases (h id) with e | ⟨v', v, e', e, hs⟩ | ⟨k, nl, l', l, e', e, hs⟩ | ⟨t', t2, nl, l', l, e', e, ht, hs⟩
    · rw [e]
    · rw [e', e]; exact arr_shape _ _ hs _
    · rw [e', e]
    · rw [e', e]
  · rename_i id path _
    split
    · congr 1
      rcases blk_sh_cases (h id) with e | ⟨v', v, e', e, hs⟩ | ⟨k, nl, l', l, e', e, hs⟩ | ⟨t', t2, nl, l', l, e', e, ht, hs⟩
      · rw [e]
      · rw [e', e]; exact arr_shape _ _ hs _
      · rw [e', e]
      · rw [e', e]
    · rfl
  · rfl
  · rfl
theorem slxE_shape {R : Type} (κ : Kop R) (t : TypeId) (x : AV) (lo hi : Option AV) : slxE G look' κ t x lo hi = slxE G look κ t x lo hi := by
  unfold slxE
  split
  · rename_i id off _ id' off' _
    rcases blk_sh_cases (h id) with e | ⟨v', v, e', e, hs⟩ | ⟨k, nl, l', l, e', e, hs⟩ | ⟨t', t2, nl, l', l, e', e, ht, hs⟩
    · rw [e]
    · rw [e', e]
    · rw [e', e]; simp only [hs]
    · rw [e', e]
  · rename_i id off _ _ _
    rcases blk_sh_cases (h id) with e | ⟨v', v, e', e, hs⟩ | ⟨k, nl, l', l, e', e, hs⟩ | ⟨t', t2, nl, l', l, e', e, ht, hs⟩
    · rw [e]
    · rw [e', e]
    · rw [e', e]; simp only [hs]
    · rw [e', e]
  · rfl
theorem ixxE_shape {R : Type} (κ : Kop R) (t : TypeId) (x ix : AV) : ixxE G look' κ t x ix = ixxE G look κ t x ix := by
  unfold ixxE
  split
  · rename_i id off _ i _
    rcases blk_sh_cases (h id) with e | ⟨v', v, e', e, hs⟩ | ⟨k, nl, l', l, e', e, hs⟩ | ⟨t', t2, nl, l', l, e', e, ht, hs⟩
    · rw [e]
    · rw [e', e]
    · rw [e', e]; simp only [hs]
    · rw [e', e]
  · rfl
theorem stepE_shape {R : Type} {o : Oper} (ho : shapeOp o = true) (t : List AV) (nid : Nat) (κ : Kop R) : stepE G o t look' nid κ = stepE G o t look nid κ := by
  unfold shapeOp at ho
  unfold stepE
  split at ho
  · rename_i e; simp only [e]
  · rename_i e; simp only [e]
  · rename_i e; simp only [e]
  · rename_i e; simp only [e, fieldAddrE_shape h]
  · rename_i e; simp only [e, indexAddrE_shape h, ixxE_shape h]
  · rename_i ty x lo hi mx e
    cases mx with
    | none => simp only [e, sliceE_shape h, slxE_shape h]
    | some mx => simp only [e]
  · cases ho
end
theorem sh_setP : ∀ {p : List Nat} {v x v' old : AV}, getP v p = some old → setP v p x = some v' → sh x = sh old → sh v' = sh v
  | [], v, x, v', old, hg, hs, h => by
    simp only [getP, Option.some.injEq] at hg
    simp only [setP, Option.some.injEq] at hs
    subst hg; subst hs; exact h
  | i :: p, v, x, v', old, hg, hs, h => by
    cases v with
    | ints k n l =>
      cases p with
      | nil =>
        cases x <;> simp [setP] at hs
        subst hs; rfl
      | cons j p => simp [setP] at hs
    | agg l =>
      simp only [getP] at hg
      simp only [setP] at hs
      cases hl : l[i]? with
      | none => simp [hl] at hg
      | some y =>
        simp only [hl] at hg hs
        cases hq : setP y p x with
        | none => simp [hq] at hs
        | some y' =>
          simp only [hq, Option.some.injEq] at hs
          subst hs
          have := sh_setP hg hq h
          simp only [sh, shL_eq, List.map_set, this]
          congr 1
          refine list_set_self _ _ _ ?_
          rw [List.getElem?_map, hl]; rfl
    | _ => cases p <;> simp [getP] at hg
def kp : Kop (AV × List (Nat × Blk)) := fun v us => some (v, us)
def tell {R : Type} (κ : Kop R) (p : Option (AV × List (Nat × Blk))) : Option R := p.bind fun p => κ p.1 p.2
theorem tell_none {R : Type} (κ : Kop R) : tell κ none = none := rfl
theorem tell_kp {R : Type} (κ : Kop R) (v : AV) (us : List (Nat × Blk)) : tell κ (kp v us) = κ v us := rfl
theorem tell_cond {R : Type} (κ : Kop R) (c : Bool) (a b : Option (AV × List (Nat × Blk))) : tell κ (cond c a b) = cond c (tell κ a) (tell κ b) := by cases c <;> rfl
theorem bndE_nat {R : Type} (κ : Kop R) (m len : Nat) (lo hi : Option AV) (f : Nat → Nat → AV) : bndE m len lo hi (fun a b => κ (f a b) []) = tell κ (bndE m len lo hi fun a b => kp (f a b) []) := by
  unfold bndE
  repeat' (first | rfl | (simp only [tell_cond, tell_kp, tell_none]; done) | split)
section
variable {G : Gi} {look : Nat → Blk} {R : Type} (κ : Kop R)
theorem fieldAddrE_nat (t : TypeId) (x : AV) (f : Nat) : fieldAddrE G look κ t x f = tell κ (fieldAddrE G look kp t x f) := by
  unfold fieldAddrE
  repeat' (first | rfl | (simp only [tell_cond, tell_kp, tell_none]; done) | split)
theorem indexAddrE_nat (t : TypeId) (x ix : AV) : indexAddrE G look κ t x ix = tell κ (indexAddrE G look kp t x ix) := by
  unfold indexAddrE
  repeat' (first | rfl | (simp only [tell_cond, tell_kp, tell_none]; done) | split)
theorem sliceE_nat (t : TypeId) (x : AV) (lo hi : Option AV) : sliceE G look κ t x lo hi = tell κ (sliceE G look kp t x lo hi) := by
  unfold sliceE
  repeat' (first | rfl | exact bndE_nat κ _ _ _ _ _ | (rw [tell_cond]; congr 1) | split)
theorem slxE_nat (t : TypeId) (x : AV) (lo hi : Option AV) : slxE G look κ t x lo hi = tell κ (slxE G look kp t x lo hi) := by
  unfold slxE
  repeat' (first | rfl | (simp only [tell_cond, tell_kp, tell_none]; done) | split)
theorem ixxE_nat (t : TypeId) (x ix : AV) : ixxE G look κ t x ix = tell κ (ixxE G look kp t x ix) := by
  unfold ixxE
  repeat' (first | rfl | (simp only [tell_cond, tell_kp, tell_none]; done) | split)
theorem emp3E_nat (t : TypeId) (x : AV) (lo hi : Option AV) (mx : AV) : emp3E G κ t x lo hi mx = tell κ (emp3E G kp t x lo hi mx) := by
  unfold emp3E
  repeat' (first | rfl | (rw [tell_cond]; congr 1) | split)
theorem storeE_nat (t : TypeId) (a x : AV) : storeE G look κ t a x = tell κ (storeE G look kp t a x) := by
  unfold storeE
  repeat' (first | rfl | (simp only [tell_cond, tell_kp, tell_none]; done) | split)
theorem stepE_nat {o : Oper} (ho : shapeOp o = true ∨ keepsSh o = true) (t : List AV) (nid : Nat) : stepE G o t look nid κ = tell κ (stepE G o t look nid kp) := by
  unfold shapeOp keepsSh at ho
  unfold stepE
  rcases ho with ho | ho
  · split at ho
    · rename_i e; simp only [e]; rfl
    · rename_i e; simp only [e]; rfl
    · rename_i e; simp only [e]
      unfold nilE
      split <;> rfl
    · rename_i e; simp only [e]; exact fieldAddrE_nat κ _ _ _
    · rename_i e; simp only [e, tell_cond]; rw [ixxE_nat κ, indexAddrE_nat κ]
    · rename_i ty x lo hi mx e
      cases mx with
      | none => simp only [e, tell_cond]; rw [slxE_nat κ, sliceE_nat κ]
      | some mx => simp only [e]; exact emp3E_nat κ _ _ _ _ _
    · cases ho
  · split at ho
    · rename_i e; simp only [e]; exact storeE_nat κ _ _ _
    · cases ho
theorem stepE_tell {o : Oper} (ho : shapeOp o = true ∨ keepsSh o = true) {t : List AV} {nid : Nat} {r : R} (h : stepE G o t look nid κ = some r) :
    ∃ v us, stepE G o t look nid kp = some (v, us) ∧ κ v us = some r := by
  rw [stepE_nat κ ho] at h
  cases hp : stepE G o t look nid kp with
  | none => rw [hp] at h; cases h
  | some p => rw [hp] at h; exact ⟨p.1, p.2, rfl, h⟩
theorem stepE_one {o : Oper} (hG : GOk G) {t : List AV} {nid : Nat} {v : AV} {us : List (Nat × Blk)} (h : stepE G o t look nid kp = some (v, us)) : OpOk G o t look nid v us := by
  obtain ⟨v', us', h1, h2⟩ := stepE_ok hG h
  simp only [kp, Option.some.injEq, Prod.mk.injEq] at h1
  obtain ⟨rfl, rfl⟩ := h1
  exact h2
end
theorem storeE_keeps {G : Gi} {look : Nat → Blk} {t : TypeId} {a x v : AV} {us : List (Nat × Blk)} (h : storeE G look kp t a x = some (v, us)) :
    ∀ id b, updOf us id = some b → look id ≠ .rsv ∧ b.sh = (look id).sh := by
  unfold storeE at h
  split at h
  · rename_i id path
    split at h
    · rename_i v0 hv
      split at h
      · rename_i old v' hg hset
        obtain ⟨hc, h⟩ := cond_none h
        simp only [kp, Option.some.injEq, Prod.mk.injEq] at h
        obtain ⟨rfl, rfl⟩ := h
        intro i b hb
        simp only [updOf] at hb
        by_cases hi : id = i
        · subst hi
          simp only [if_true, Option.some.injEq] at hb
          subst hb
          simp only [Bool.and_eq_true] at hc
          rw [hv]
          exact ⟨by simp, by simp only [Blk.sh, sh_setP hg hset (shbeq _ _ hc.1.2)]⟩
        · simp [hi] at hb
      · cases h
    · rename_i k nl l hv
      split at h
      · rename_i i k' z
        obtain ⟨hc, h⟩ := cond_none h
        simp only [kp, Option.some.injEq, Prod.mk.injEq] at h
        obtain ⟨rfl, rfl⟩ := h
        intro j b hb
        simp only [updOf] at hb
        by_cases hi : id = j
        · subst hi
          simp only [if_true, Option.some.injEq] at hb
          subst hb
          rw [hv]
          exact ⟨by simp, by simp [Blk.sh]⟩
        · simp [hi] at hb
      · cases h
    · rename_i te nl l hv
      split at h
      · rename_i i d hd
        obtain ⟨hc, h⟩ := cond_none h
        simp only [kp, Option.some.injEq, Prod.mk.injEq] at h
        obtain ⟨rfl, rfl⟩ := h
        intro j b hb
        simp only [updOf] at hb
        by_cases hi : id = j
        · subst hi
          simp only [if_true, Option.some.injEq] at hb
          subst hb
          rw [hv]
          exact ⟨by simp, by simp [Blk.sh]⟩
        · simp [hi] at hb
      · cases h
    · cases h
  · cases h
structure En where
  dst : Option Nat
  v : AV
  us : List (Nat × Blk)
  rd : List Nat
  sr : List Nat
  ks : Bool
  ran : Bool
def app (st : St) (e : En) : St := ⟨putT st.t e.dst e.v, applyU st.h e.us⟩
def EnOk (G : Gi) (ops : Array Oper) (draw : Bool) (o : Oper) (nid : Nat) (st : St) (e : En) : Prop :=
  e.dst = o.dst ∧ usOk st.h nid (nid + resv o) e.us = true ∧
  (match o.guard with
    | none => e.ran = true
    | some (j, want) => ∃ d, (ops[j]?).bind (·.dst) = some d ∧ ((∃ b, st.t.getD d und = .bool b ∧ e.ran = (b == want)) ∨ (st.t.getD d und = .tup [] ∧ e.ran = false))) ∧
  (e.ran = true → (draw = false → OpOk G o st.t (hAt st.h) nid e.v e.us) ∧ (draw = true → ∀ look' : Nat → Blk, (∀ id, (look' id).sh = (restr st.h (e.rd ++ e.sr) id).sh) →
    (∀ id ∈ e.rd, look' id = restr st.h (e.rd ++ e.sr) id) → OpOk G o st.t look' nid e.v e.us)) ∧
  (e.ks = true → draw = true → ∀ id b, updOf e.us id = some b → b.sh = (hAt st.h id).sh) ∧
  (e.ran = false → e.v = und ∧ e.us = [])
def ids (us : List (Nat × Blk)) : List Nat := us.map (·.1)
def Tr (G : Gi) (ops : Array Oper) (draw : Bool) (bef : Array Nat) : List Oper → List En → Nat → Nat → List FP → St → Prop
  | [], [], _, _, _, _ => True
  | o :: l, e :: es, i, nid, fps, st => EnOk G ops draw o nid st e ∧ (draw = true → fpOk (bef.getD i 0) e.rd (ids e.us) e.sr e.ks fps = true) ∧ Tr G ops draw bef l es (i + 1) (nid + resv o) (⟨i, e.rd, ids e.us, e.sr, e.ks⟩ :: fps) (app st e)
  | _, _, _, _, _, _ => False
theorem disjN_nil : ∀ l : List Nat, disjN l [] = true
  | [] => rfl
  | a :: l => by simp [disjN, memN, disjN_nil l]
theorem fpOk_nil (bits : Nat) : ∀ (fs : List FP), fpOk bits [] [] [] true fs = true
  | [] => rfl
  | f :: fs => by simp [fpOk, disjN_nil, fpOk_nil bits fs]
theorem rsv_sh {b : Blk} (h : b.sh = .rsv) : b = .rsv := by cases b <;> simp [Blk.sh] at h; rfl
theorem restr_in {h : List Blk} {l : List Nat} {id : Nat} (hn : restr h l id ≠ .rsv) : restr h l id = hAt h id := by
  unfold restr at hn ⊢
  cases hm : memN id l with
  | true => rfl
  | false => simp [hm] at hn
theorem step_tr {G : Gi} (hG : GOk G) {R : Type} {o : Oper} {t : List AV} {h : List Blk} {draw : Bool} {fps : List FP} {nid : Nat} {κ : Kop R} {r : R}
    (h1 : stepE G o t (cond draw (restr h (cond draw (rdO t h fps o) [] ++ cond draw (srO t h fps o) [])) (hAt h)) nid κ = some r) :
    ∃ v us, κ v us = some r ∧ (draw = false → OpOk G o t (hAt h) nid v us) ∧ (draw = true → ∀ look' : Nat → Blk, (∀ id, (look' id).sh = (restr h (rdO t h fps o ++ srO t h fps o) id).sh) →
      (∀ id ∈ rdO t h fps o, look' id = restr h (rdO t h fps o ++ srO t h fps o) id) → OpOk G o t look' nid v us) ∧
      (keepsSh o = true → draw = true → ∀ id b, updOf us id = some b → b.sh = (hAt h id).sh) := by
  cases draw with
  | false =>
    obtain ⟨v, us, h2, h3⟩ := stepE_ok hG h1
    exact ⟨v, us, h2, fun _ => h3, fun hf => (by cases hf), fun _ hf => (by cases hf)⟩
  | true =>
    simp only [cond_true] at h1
    by_cases hs : shapeOp o = true
    · obtain ⟨v, us, h2, h3⟩ := stepE_tell κ (.inl hs) h1
      refine ⟨v, us, h3, fun hf => (by cases hf), fun _ look' hl _ => ?_, fun hk => ?_⟩
      · rw [← stepE_shape hl hs] at h2
        exact stepE_one hG h2
      · unfold shapeOp at hs; unfold keepsSh at hk
        split at hs <;> simp_all
    · have hsr : srO t h fps o = [] := by unfold srO; simp [hs]
      have same : ∀ look' : Nat → Blk, (∀ id, (look' id).sh = (restr h (rdO t h fps o ++ srO t h fps o) id).sh) →
          (∀ id ∈ rdO t h fps o, look' id = restr h (rdO t h fps o ++ srO t h fps o) id) → look' = restr h (rdO t h fps o ++ srO t h fps o) := by
        intro look' q1 q2
        funext id
        by_cases hm : id ∈ rdO t h fps o
        · exact q2 id hm
        · have e : restr h (rdO t h fps o ++ srO t h fps o) id = .rsv := by
            unfold restr
            cases hb : memN id (rdO t h fps o ++ srO t h fps o) with
            | false => rfl
            | true => rw [hsr, List.append_nil] at hb; exact absurd (memN_iff.1 hb) hm
          have := q1 id
          rw [e] at this ⊢
          exact rsv_sh this
      by_cases hk : keepsSh o = true
      · obtain ⟨v, us, h2, h3⟩ := stepE_tell κ (.inr hk) h1
        refine ⟨v, us, h3, fun hf => (by cases hf), fun _ look' q1 q2 => ?_, fun _ _ id b hb => ?_⟩
        · rw [same look' q1 q2]; exact stepE_one hG h2
        · unfold keepsSh at hk
          split at hk
          · rename_i e
            unfold stepE at h2
            simp only [e] at h2
            obtain ⟨g1, g2⟩ := storeE_keeps h2 id b hb
            rw [restr_in g1] at g2; exact g2
          · cases hk
      · obtain ⟨v, us, h2, h3⟩ := stepE_ok hG h1
        exact ⟨v, us, h2, fun hf => (by cases hf), fun _ look' q1 q2 => by rw [same look' q1 q2]; exact h3, fun q => absurd q hk⟩
theorem updOf_mem : ∀ {us : List (Nat × Blk)} {id : Nat} {b : Blk}, updOf us id = some b → (id, b) ∈ us
  | [], _, _, h => by simp [updOf] at h
  | (i, c) :: us, id, b, h => by
    simp only [updOf] at h
    cases hu : updOf us id with
    | some b' => rw [hu] at h; simp only [Option.some.injEq] at h; subst h; exact List.mem_cons_of_mem _ (updOf_mem hu)
    | none =>
      rw [hu] at h
      by_cases hi : i = id
      · subst hi; simp only [if_true, Option.some.injEq] at h; subst h; simp
      · simp [hi] at h
theorem ksOf_ok {o : Oper} {h : List Blk} {us : List (Nat × Blk)} {draw : Bool} (hop : keepsSh o = true → draw = true → ∀ id b, updOf us id = some b → b.sh = (hAt h id).sh) :
    ksOf o h us = true → draw = true → ∀ id b, updOf us id = some b → b.sh = (hAt h id).sh := by
  intro hk hd id b hb
  unfold ksOf at hk
  rcases Bool.or_eq_true_iff.1 hk with q | q
  · exact hop q hd id b hb
  · have := List.all_eq_true.1 q _ (updOf_mem hb)
    split at this
    · rename_i a c e1 e2
      have e1 : b = .var a := e1
      have e2 : hAt h id = .var c := e2
      rw [e1, e2]
      simp only [Blk.sh, shbeq _ _ this]
    · cases this
theorem set_getD {t : List AV} {d : Nat} {b : Bool} (h : t.getD d und = .bool b) : t.set d (.bool b) = t := by
  rcases Nat.lt_or_ge d t.length with hlt | hge
  · refine list_set_self _ _ _ ?_
    rw [List.getD, List.getElem?_eq_getElem hlt] at h
    simp at h
    rw [List.getElem?_eq_getElem hlt, h]
  · exact List.set_eq_of_length_le hge
theorem evOps_tr {G : Gi} {R : Type} (hG : GOk G) {ops : Array Oper} {draw : Bool} {bef : Array Nat} {K : St → Option R} {r : R} : ∀ (l : List Oper) (i nid : Nat) (fps : List FP) (st : St),
    evOps G ops draw bef l i nid fps K st = some r → ∃ es, Tr G ops draw bef l es i nid fps st ∧ K (es.foldl app st) = some r
  | [], i, nid, fps, st, h => ⟨[], trivial, h⟩
  | o :: l, i, nid, fps, st, h => by
    simp only [evOps] at h
    -- the two ways on
    have hgo : ∀ st1, st1 = st → stepE G o st1.t (cond draw (restr st1.h (cond draw (rdO st.t st.h fps o) [] ++ cond draw (srO st.t st.h fps o) [])) (hAt st1.h)) nid (fun v us =>
        cond (usOk st1.h nid (nid + resv o) us && cond draw (fpOk (bef.getD i 0) (cond draw (rdO st.t st.h fps o) []) (us.map (·.1)) (cond draw (srO st.t st.h fps o) []) (ksOf o st1.h us) fps) true)
          (evOps G ops draw bef l (i + 1) (nid + resv o) (⟨i, cond draw (rdO st.t st.h fps o) [], us.map (·.1), cond draw (srO st.t st.h fps o) [], ksOf o st1.h us⟩ :: fps) K ⟨putT st1.t o.dst v, applyU st1.h us⟩) none) = some r →
        (∀ e : En, e.ran = true → (match o.guard with
          | none => e.ran = true
          | some (j, want) => ∃ d, (ops[j]?).bind (·.dst) = some d ∧ ((∃ b, st.t.getD d und = .bool b ∧ e.ran = (b == want)) ∨ (st.t.getD d und = .tup [] ∧ e.ran = false)))) →
        ∃ es, Tr G ops draw bef (o :: l) es i nid fps st ∧ K (es.foldl app st) = some r := by
      rintro st1 rfl h1 hg
      obtain ⟨v, us, h2, hop1, hop2, hop3⟩ := step_tr hG h1
      obtain ⟨hb, h3⟩ := cond_none h2
      simp only [Bool.and_eq_true] at hb
      obtain ⟨es, h4, h5⟩ := evOps_tr hG l _ _ _ _ h3
      refine ⟨⟨o.dst, v, us, cond draw (rdO st1.t st1.h fps o) [], cond draw (srO st1.t st1.h fps o) [], ksOf o st1.h us, true⟩ :: es, ⟨⟨rfl, hb.1, hg _ rfl, fun _ => ⟨hop1, fun hd => ?_⟩, ksOf_ok hop3, fun hf => (by cases hf)⟩, fun hd => ?_, h4⟩, h5⟩
      · simp only [hd, cond_true]; exact hop2 hd
      · have := hb.2
        rw [hd] at this ⊢
        simpa [ids] using this
    have hskip : ∀ st1, st1 = st → evOps G ops draw bef l (i + 1) (nid + resv o) (⟨i, [], [], [], true⟩ :: fps) K ⟨putT st1.t o.dst und, st1.h⟩ = some r →
        (∀ e : En, e.ran = false → (match o.guard with
          | none => e.ran = true
          | some (j, want) => ∃ d, (ops[j]?).bind (·.dst) = some d ∧ ((∃ b, st.t.getD d und = .bool b ∧ e.ran = (b == want)) ∨ (st.t.getD d und = .tup [] ∧ e.ran = false)))) →
        ∃ es, Tr G ops draw bef (o :: l) es i nid fps st ∧ K (es.foldl app st) = some r := by
      rintro st1 rfl h1 hg
      obtain ⟨es, h4, h5⟩ := evOps_tr hG l _ _ _ _ h1
      exact ⟨⟨o.dst, und, [], [], [], true, false⟩ :: es, ⟨⟨rfl, rfl, hg _ rfl, fun hf => (by cases hf), fun _ _ id b hb => (by simp [updOf] at hb), fun _ => ⟨rfl, rfl⟩⟩, fun hd => fpOk_nil _ _, h4⟩, h5⟩
    split at h
    · rename_i hg
      exact hgo st rfl h fun e he => by simp only [hg]; exact he
    · rename_i j want hg
      split at h
      · rename_i d hd
        split at h
        · rename_i b hb
          cases b with
          | true =>
            have hst : (⟨st.t.set d (.bool true), st.h⟩ : St) = st := by rw [set_getD hb]
            simp only [cond_true] at h
            cases want with
            | true => exact hgo _ hst h fun e he => by simp only [hg]; exact ⟨d, hd, .inl ⟨true, hb, he⟩⟩
            | false => exact hskip _ hst h fun e he => by simp only [hg]; exact ⟨d, hd, .inl ⟨true, hb, he⟩⟩
          | false =>
            have hst : (⟨st.t.set d (.bool false), st.h⟩ : St) = st := by rw [set_getD hb]
            simp only [cond_false] at h
            cases want with
            | true => exact hskip _ hst h fun e he => by simp only [hg]; exact ⟨d, hd, .inl ⟨false, hb, he⟩⟩
            | false => exact hgo _ hst h fun e he => by simp only [hg]; exact ⟨d, hd, .inl ⟨false, hb, he⟩⟩
        · rename_i hb
          exact hskip _ rfl h fun e he => by simp only [hg]; exact ⟨d, hd, .inr ⟨hb, he⟩⟩
        · cases h
      · cases h
theorem wanted_of {G : Gi} {X : Fx} {ops : Array Oper} {draw : Bool} {o : Oper} {nid : Nat} {st st' : St} {e : En} (he : EnOk G ops draw o nid st e) {L : List Loc} {a : Act} {w : World} (R : Rel X st' L a w)
    (ht : ∀ j want d, o.guard = some (j, want) → (ops[j]?).bind (·.dst) = some d → st.t.getD d und = st'.t.getD d und) : Region.wanted o (yielded ops a.tmps) = e.ran := by
  obtain ⟨_, _, hg, _⟩ := he
  unfold Region.wanted
  cases hgd : o.guard with
  | none => simp only [hgd] at hg; exact hg.symm
  | some jw =>
    obtain ⟨j, want⟩ := jw
    simp only [hgd] at hg ⊢
    obtain ⟨d, hd, hc⟩ := hg
    obtain ⟨g1, g2⟩ := guard_val R hd
    rcases hc with ⟨b, q1, q2⟩ | ⟨q1, q2⟩
    · rw [ht j want d hgd hd] at q1
      rw [(g1 b q1).2.2, q2]
      cases b <;> cases want <;> rfl
    · rw [ht j want d hgd hd] at q1
      rw [g2 q1, q2]
      rfl
theorem usOk_get {h : List Blk} {a b : Nat} : ∀ {us : List (Nat × Blk)}, usOk h a b us = true → ∀ id, updOf us id ≠ none → (a ≤ id ∧ id < b) ∨ (id < a ∧ hAt h id ≠ .rsv)
  | [], _, id, hn => absurd rfl hn
  | (i, bb) :: us, hok, id, hn => by
    simp only [usOk, Bool.and_eq_true, Bool.or_eq_true] at hok
    obtain ⟨h1, h2⟩ := hok
    cases hu : updOf us id with
    | some x => exact usOk_get h2 id (by rw [hu]; simp)
    | none =>
      simp only [updOf, hu] at hn
      by_cases hi : i = id
      · subst hi
        rcases h1 with ⟨q1, q2⟩ | ⟨q1, q2⟩
        · exact .inl ⟨Nat.le_of_ble_eq_true q1, by simpa [Nat.blt_eq] using q2⟩
        · exact .inr ⟨by simpa [Nat.blt_eq] using q1, fun e => by rw [e] at q2; simp at q2⟩
      · simp [hi] at hn
theorem hAt_some {h : List Blk} {id : Nat} {b : Blk} (hb : h[id]? = some b) : hAt h id = b := by simp [hAt, List.getD, hb]
theorem hAt_ne {h : List Blk} {id : Nat} (hn : hAt h id ≠ .rsv) : h[id]? = some (hAt h id) := by
  rcases Nat.lt_or_ge id h.length with q | q
  · simp [hAt, List.getD, List.getElem?_eq_getElem q]
  · exact absurd (by simp [hAt, List.getD, List.getElem?_eq_none q]) hn
theorem seq_ok {rd : Option Nat} {X : Fx} {R : Type} {ops : Array Oper} {bef : Array Nat} {K : St → Option R} {r : R} {Q : Exit → Act → World → Prop} {b0 : List Blk} {L0 : List Loc}
    (hK : ∀ st L a w, RelP X b0 L0 st L a w → K st = some r → Q .normal a w) : ∀ (l : List Oper) (es : List En) (i nid : Nat) (fps : List FP) (st : St) (L : List Loc) (a : Act) (w : World),
    Tr X.G ops false bef l es i nid fps st → K (es.foldl app st) = some r → (∀ j, l[j]? = ops[i + j]?) → RelP X b0 L0 st L a w → (∀ k, nid ≤ k → k < nid + resvL l → st.h[k]? = some .rsv) →
    wpOpsIn (fz rd) 0 X.G.P ops Q (List.range' i l.length) a w
  | [], [], i, nid, fps, st, L, a, w, _, hk, _, hr, _ => hK st L a w hr hk
  | o :: l, e :: es, i, nid, fps, st, L, a, w, ⟨he, _, htr⟩, hk, hl, hr, hrs => by
    have ho : ops[i]? = some o := by simpa using (hl 0).symm
    have hl' : ∀ j, l[j]? = ops[i + 1 + j]? := fun j => by have := hl (j + 1); simpa [Nat.add_assoc, Nat.add_comm 1 j] using this
    simp only [resvL] at hrs
    have hrs' : ∀ k, nid + resv o ≤ k → k < nid + resv o + resvL l → (app st e).h[k]? = some .rsv := by
      intro k h1 h2
      simp only [app, applyU_get]
      cases hu : updOf e.us k with
      | none => exact hrs k (by omega) (by omega)
      | some b =>
        rcases usOk_get he.2.1 k (by rw [hu]; simp) with q | ⟨q1, _⟩ <;> omega
    simp only [List.length_cons, List.range'_succ, wpOpsIn, ho]
    rw [wanted_of he hr.rel (fun _ _ _ _ _ => rfl)]
    obtain ⟨hd, _, _, hran, _, hnot⟩ := he
    cases hrn : e.ran with
    | true =>
      simp only [if_true]
      have hop := (hran hrn).1 rfl
      refine op_step hop hr (fun _ _ => rfl) (fun id hn => ?_) (fun k hk => hrs _ (by omega) (by omega)) (fun a' L' w' hR => ?_) rd
      · rcases Nat.lt_or_ge id st.h.length with hlt | hge
        · simp [hAt, List.getD, List.getElem?_eq_getElem hlt]
        · simp [hAt, List.getD, List.getElem?_eq_none hge] at hn
      · rw [← hd] at hR
        exact seq_ok hK l es (i + 1) _ _ _ L' a' w' htr hk hl' hR hrs'
    | false =>
      simp only [Bool.false_eq_true, if_false]
      obtain ⟨h1, h2⟩ := hnot hrn
      have hR := hr.skip o.dst
      have : app st e = ⟨putT st.t o.dst und, st.h⟩ := by simp only [app, h1, h2, hd, applyU]
      rw [this] at htr hrs'
      simp only [List.foldl_cons, this] at hk
      exact ⟨fun _ _ => trivial, seq_ok hK l es (i + 1) _ _ _ L _ w htr hk hl' hR hrs'⟩
  | [], _ :: _, _, _, _, _, _, _, _, h, _, _, _, _ => h.elim
  | _ :: _, [], _, _, _, _, _, _, _, h, _, _, _, _ => h.elim
end Go.Ev
