/- The evaluator's soundness: references renamed. -/
import Derived.Test.YtllnbcibleeogaaDoorEvP
namespace Go.Ev

/-- What lies in 'c' and is nobody's is so in c' too. -/
def RO (c c' : Cx) : Prop := ∀ b o v, c.w.cell? ⟨b, o, none⟩ = some v → ¬ c.A b o → c'.w.cell? ⟨b, o, none⟩ = some v ∧ ¬ c'.A b o

theorem Lies.ro {c c' : Cx} (h : RO c c') {k : IntKind} {l : List Int} {a : Addr} (g : Lies c.w c.A k l a) : Lies c'.w c'.A k l a :=
  ⟨g.1, fun i hi => h _ _ _ (g.2 i hi).1 (g.2 i hi).2⟩

theorem IsSl.ro {c c' : Cx} (h : RO c c') {k : IntKind} {nl : Option Bool} {l : List Int} {v : Value} (g : IsSl c.w c.A k nl l v) : IsSl c'.w c'.A k nl l v := by
  obtain ⟨h0, a, cap, h1, h2, h3, h4, h5⟩ := g
  exact ⟨h0, a, cap, h1, h2, h3, h4, fun p hp => (h5 p hp).ro h⟩

def AV.isRef : AV → Bool
  | .own .. => true
  | .ptr .. => true
  | _ => false

/-- What is asked of a renaming. -/
structure TrOk (c c' : Cx) (look : Nat → Blk) (snap : Bool) (ρ : Ren) : Prop where
  eps : c'.eps = c.eps
  ref : ∀ x x' v, x.isRef = true → trA look snap ρ x = some x' → leaf c x v → leaf c' x' v

theorem tr_leaf {c c' : Cx} {look : Nat → Blk} {snap : Bool} {ρ : Ren} (T : TrOk c c' look snap ρ) {x x' : AV} {v : Value} (hs : slf x = true ∨ RO c c')
    (hx : trA look snap ρ x = some x') (g : leaf c x v) : leaf c' x' v := by
  cases x with
  | own a b d e => exact T.ref _ _ v rfl hx g
  | ptr a b => exact T.ref _ _ v rfl hx g
  | agg l => exact g.elim
  | tup l => exact g.elim
  | isl k nl l =>
    simp only [trA, Option.some.injEq] at hx; subst hx
    rcases hs with hs | hs
    · simp [slf] at hs
    · exact IsSl.ro hs g
  | rsl k ll =>
    simp only [trA, Option.some.injEq] at hx; subst hx
    rcases hs with hs | hs
    · simp [slf] at hs
    · obtain ⟨a, cap, h1, h2, h4, h5⟩ := g
      refine ⟨a, cap, h1, h2, h4, fun p hp => ⟨(h5 p hp).1, fun i hi => ?_⟩⟩
      obtain ⟨y, q1, q2, q3⟩ := (h5 p hp).2 i hi
      obtain ⟨r1, r2⟩ := hs _ _ _ q1 q2
      exact ⟨y, r1, r2, q3.ro hs⟩
  | rpi k n =>
    simp only [trA, Option.some.injEq] at hx; subst hx
    rcases hs with hs | hs
    · simp [slf] at hs
    · obtain ⟨h0, p, e, s, q1, q2⟩ := g
      obtain ⟨r1, r2⟩ := hs _ _ _ q1 q2
      exact ⟨h0, p, e, s, r1, r2⟩
  | rps k l =>
    simp only [trA, Option.some.injEq] at hx; subst hx
    rcases hs with hs | hs
    · simp [slf] at hs
    · obtain ⟨p, x, e, s, q1, q2, q3⟩ := g
      obtain ⟨r1, r2⟩ := hs _ _ _ q1 q2
      exact ⟨p, x, e, s, r1, r2, q3.ro hs⟩
  | err n => simp only [trA, Option.some.injEq] at hx; subst hx; simp only [leaf] at g ⊢; rw [T.eps]; exact g
  | _ => simp only [trA, Option.some.injEq] at hx; subst hx; exact g

theorem tr_own {look : Nat → Blk} {snap : Bool} {ρ : Ren} {id off : Nat} {path : List Nat} {len : Option Nat} {x' : AV} (h : trA look snap ρ (.own id path off len) = some x') :
    (∃ j q, ρ id path = some (j, q) ∧ x' = .own j q off len) ∨ (ρ id path = none ∧ snap = true ∧ ∃ k l, x' = .isl k none l ∧ cont look k (.own id path off len) = some l ∧
      ((∃ nl m, look id = .row k nl m) ∨ ∃ v n m, look id = .var v ∧ getP v path = some (.ints k n m))) := by
  simp only [trA] at h
  cases hr : ρ id path with
  | some jq => obtain ⟨j, q⟩ := jq; simp only [hr, Option.some.injEq] at h; exact .inl ⟨j, q, rfl, h.symm⟩
  | none =>
    simp only [hr] at h
    refine .inr ⟨rfl, ?_⟩
    obtain ⟨hs, h⟩ := cond_none h
    refine ⟨hs, ?_⟩
    cases hl : look id with
    | rsv => simp [hl] at h
    | dead => simp [hl] at h
    | row k nl m =>
      simp only [hl] at h
      cases hc : cont look k (.own id path off len) with
      | none => simp [hc] at h
      | some l => simp only [hc, Option.some.injEq] at h; exact ⟨k, l, h.symm, hc, .inl ⟨nl, m, rfl⟩⟩
    | var v =>
      simp only [hl] at h
      cases hg : getP v path with
      | none => simp [hg] at h
      | some y =>
        cases y <;> simp only [hg, reduceCtorEq] at h
        rename_i k n m
        cases hc : cont look k (.own id path off len) with
        | none => simp [hc] at h
        | some l => simp only [hc, Option.some.injEq] at h; exact ⟨k, l, h.symm, hc, .inr ⟨v, n, m, rfl, hg⟩⟩

theorem tr_ptr {look : Nat → Blk} {snap : Bool} {ρ : Ren} {id : Nat} {path : List Nat} {x' : AV} (h : trA look snap ρ (.ptr id path) = some x') :
    ∃ j q, ρ id path = some (j, q) ∧ x' = .ptr j q := by
  simp only [trA] at h
  cases hr : ρ id path with
  | some jq => obtain ⟨j, q⟩ := jq; simp only [hr, Option.some.injEq] at h; exact ⟨j, q, rfl, h.symm⟩
  | none => simp [hr] at h

theorem trL_cons {look : Nat → Blk} {snap : Bool} {ρ : Ren} {v : AV} {l m : List AV} (h : trL look snap ρ (v :: l) = some m) :
    ∃ v' l', m = v' :: l' ∧ trA look snap ρ v = some v' ∧ trL look snap ρ l = some l' := by
  simp only [trL] at h
  cases h1 : trA look snap ρ v with
  | none => simp [h1] at h
  | some v' =>
    cases h2 : trL look snap ρ l with
    | none => simp [h1, h2] at h
    | some l' => simp only [h1, h2, Option.some.injEq] at h; exact ⟨v', l', h.symm, rfl, rfl⟩

theorem trL_nil {look : Nat → Blk} {snap : Bool} {ρ : Ren} {m : List AV} (h : trL look snap ρ [] = some m) : m = [] := by simpa [trL] using h.symm

theorem trA_agg {look : Nat → Blk} {snap : Bool} {ρ : Ren} {l : List AV} {x : AV} (h : trA look snap ρ (.agg l) = some x) : ∃ l', x = .agg l' ∧ trL look snap ρ l = some l' := by
  simp only [trA] at h
  cases h1 : trL look snap ρ l with
  | none => simp [h1] at h
  | some l' => simp only [h1, Option.some.injEq] at h; exact ⟨l', h.symm, rfl⟩

theorem trA_tup {look : Nat → Blk} {snap : Bool} {ρ : Ren} {l : List AV} {x : AV} (h : trA look snap ρ (.tup l) = some x) : ∃ l', x = .tup l' ∧ trL look snap ρ l = some l' := by
  simp only [trA] at h
  cases h1 : trL look snap ρ l with
  | none => simp [h1] at h
  | some l' => simp only [h1, Option.some.injEq] at h; exact ⟨l', h.symm, rfl⟩

/-- What a value that is no aggregate becomes is none. -/
theorem tr_flat {look : Nat → Blk} {snap : Bool} {ρ : Ren} {x x' : AV} (h : trA look snap ρ x = some x') (h1 : ∀ l, x ≠ .agg l) (h2 : ∀ l, x ≠ .tup l) (h3 : ∀ k n l, x ≠ .ints k n l) :
    (∀ l, x' ≠ .agg l) ∧ (∀ l, x' ≠ .tup l) ∧ (∀ k n l, x' ≠ .ints k n l) ∧ (x' = .dead ↔ x = .dead) := by
  cases x with
  | own a b d e => rcases tr_own h with ⟨j, q, _, rfl⟩ | ⟨_, _, k, l, rfl, _⟩ <;> simp
  | ptr a b => obtain ⟨j, q, _, rfl⟩ := tr_ptr h; simp
  | agg l => exact absurd rfl (h1 l)
  | tup l => exact absurd rfl (h2 l)
  | ints k n l => exact absurd rfl (h3 k n l)
  | _ => simp only [trA, Option.some.injEq] at h; subst h; simp

theorem Cells_flat {c : Cx} {x : AV} (h1 : ∀ l, x ≠ .agg l) (h3 : ∀ k n l, x ≠ .ints k n l) (cs : List Value) : Cells c x cs ↔ ∃ y, cs = [y] ∧ leaf c x y := by
  cases x with
  | agg l => exact absurd rfl (h1 l)
  | ints k n l => exact absurd rfl (h3 k n l)
  | _ => exact Iff.rfl

theorem Val_flat {c : Cx} {x : AV} (h1 : ∀ l, x ≠ .agg l) (h2 : ∀ l, x ≠ .tup l) (h3 : ∀ k n l, x ≠ .ints k n l) (h4 : x ≠ .dead) (y : Value) : Val c x y ↔ leaf c x y := by
  cases x with
  | agg l => exact absurd rfl (h1 l)
  | tup l => exact absurd rfl (h2 l)
  | ints k n l => exact absurd rfl (h3 k n l)
  | dead => exact absurd rfl h4
  | _ => exact Iff.rfl

theorem AV.cases4 (x : AV) : (∃ l, x = .agg l) ∨ (∃ l, x = .tup l) ∨ (∃ k n l, x = .ints k n l) ∨ ((∀ l, x ≠ .agg l) ∧ (∀ l, x ≠ .tup l) ∧ ∀ k n l, x ≠ .ints k n l) := by
  cases x <;> simp

theorem slf_agg {l : List AV} (h : slf (.agg l) = true) : slfL l = true := by simpa [slf] using h
theorem slf_tup {l : List AV} (h : slf (.tup l) = true) : slfL l = true := by simpa [slf] using h
theorem slfL_cons {v : AV} {l : List AV} (h : slfL (v :: l) = true) : slf v = true ∧ slfL l = true := by simpa [slfL] using h

mutual
theorem tr_Cells {c c' : Cx} {look : Nat → Blk} {snap : Bool} {ρ : Ren} (T : TrOk c c' look snap ρ) : ∀ (x x' : AV) (cs : List Value), (slf x = true ∨ RO c c') → trA look snap ρ x = some x' → Cells c x cs → Cells c' x' cs
  | .agg l, x', cs, hs, hx, g => by
    obtain ⟨l', rfl, hl⟩ := trA_agg hx
    exact tr_CellsL T l l' cs (hs.imp slf_agg id) hl g
  | .ints k n l, x', cs, _, hx, g => by
    simp only [trA, Option.some.injEq] at hx; subst hx; exact g
  | .dead, x', cs, hs, hx, ⟨y, e, g⟩ | .int .., x', cs, hs, hx, ⟨y, e, g⟩ | .bool _, x', cs, hs, hx, ⟨y, e, g⟩ | .str _, x', cs, hs, hx, ⟨y, e, g⟩ | .tup _, x', cs, hs, hx, ⟨y, e, g⟩ | .nils, x', cs, hs, hx, ⟨y, e, g⟩
  | .isl .., x', cs, hs, hx, ⟨y, e, g⟩ | .rsl .., x', cs, hs, hx, ⟨y, e, g⟩ | .own .., x', cs, hs, hx, ⟨y, e, g⟩ | .ptr .., x', cs, hs, hx, ⟨y, e, g⟩ | .rpi .., x', cs, hs, hx, ⟨y, e, g⟩ | .rps .., x', cs, hs, hx, ⟨y, e, g⟩
  | .nilp, x', cs, hs, hx, ⟨y, e, g⟩ | .err _, x', cs, hs, hx, ⟨y, e, g⟩ | .glo _, x', cs, hs, hx, ⟨y, e, g⟩ | .fn _, x', cs, hs, hx, ⟨y, e, g⟩ => by
    subst e
    first
      | exact g.elim
      | (have hf := tr_flat hx (by simp) (by simp) (by simp)
         exact (Cells_flat hf.1 hf.2.2.1 _).2 ⟨y, rfl, tr_leaf T hs hx g⟩)
theorem tr_CellsL {c c' : Cx} {look : Nat → Blk} {snap : Bool} {ρ : Ren} (T : TrOk c c' look snap ρ) : ∀ (l l' : List AV) (cs : List Value), (slfL l = true ∨ RO c c') → trL look snap ρ l = some l' → CellsL c l cs → CellsL c' l' cs
  | [], l', cs, _, hx, g => by rw [trL_nil hx]; exact g
  | v :: l, l', cs, hs, hx, ⟨c1, c2, e, g1, g2⟩ => by
    obtain ⟨v', m, rfl, h1, h2⟩ := trL_cons hx
    exact ⟨c1, c2, e, tr_Cells T v v' c1 (hs.imp (fun h => (slfL_cons h).1) id) h1 g1, tr_CellsL T l m c2 (hs.imp (fun h => (slfL_cons h).2) id) h2 g2⟩
end

mutual
theorem tr_Val {c c' : Cx} {look : Nat → Blk} {snap : Bool} {ρ : Ren} (T : TrOk c c' look snap ρ) : ∀ (x x' : AV) (v : Value), (slf x = true ∨ RO c c') → trA look snap ρ x = some x' → Val c x v → Val c' x' v
  | .agg l, x', v, hs, hx, ⟨cs, g, e⟩ => by
    obtain ⟨l', rfl, hl⟩ := trA_agg hx
    exact ⟨cs, tr_CellsL T l l' cs (hs.imp slf_agg id) hl g, e⟩
  | .tup l, x', v, hs, hx, ⟨vs, g, e⟩ => by
    obtain ⟨l', rfl, hl⟩ := trA_tup hx
    exact ⟨vs, tr_ValL T l l' vs (hs.imp slf_tup id) hl g, e⟩
  | .ints k n l, x', v, _, hx, g => by
    simp only [trA, Option.some.injEq] at hx; subst hx; exact g
  | .dead, x', v, _, hx, _ => by
    simp only [trA, Option.some.injEq] at hx; subst hx; trivial
  | .int .., x', v, hs, hx, g | .bool _, x', v, hs, hx, g | .str _, x', v, hs, hx, g | .nils, x', v, hs, hx, g
  | .isl .., x', v, hs, hx, g | .rsl .., x', v, hs, hx, g | .own .., x', v, hs, hx, g | .ptr .., x', v, hs, hx, g | .rpi .., x', v, hs, hx, g | .rps .., x', v, hs, hx, g
  | .nilp, x', v, hs, hx, g | .err _, x', v, hs, hx, g | .glo _, x', v, hs, hx, g | .fn _, x', v, hs, hx, g => by
    have hf := tr_flat hx (by simp) (by simp) (by simp)
    exact (Val_flat hf.1 hf.2.1 hf.2.2.1 (fun e => by have := hf.2.2.2.1 e; simp at this) v).2 (tr_leaf T hs hx g)
theorem tr_ValL {c c' : Cx} {look : Nat → Blk} {snap : Bool} {ρ : Ren} (T : TrOk c c' look snap ρ) : ∀ (l l' : List AV) (vs : List Value), (slfL l = true ∨ RO c c') → trL look snap ρ l = some l' → ValL c l vs → ValL c' l' vs
  | [], l', vs, _, hx, g => by rw [trL_nil hx]; exact g
  | v :: l, l', vs, hs, hx, ⟨y, r, e, g1, g2⟩ => by
    obtain ⟨v', m, rfl, h1, h2⟩ := trL_cons hx
    exact ⟨y, r, e, tr_Val T v v' y (hs.imp (fun h => (slfL_cons h).1) id) h1 g1, tr_ValL T l m r (hs.imp (fun h => (slfL_cons h).2) id) h2 g2⟩
end

mutual
theorem tr_sh {look : Nat → Blk} {snap : Bool} {ρ : Ren} : ∀ (x x' : AV), trA look snap ρ x = some x' → sh x' = sh x
  | .agg l, x', hx => by
    obtain ⟨l', rfl, hl⟩ := trA_agg hx
    simp only [sh, tr_shL l l' hl]
  | .tup l, x', hx => by
    obtain ⟨l', rfl, hl⟩ := trA_tup hx
    rfl
  | .own .., x', hx => by rcases tr_own hx with ⟨j, q, _, rfl⟩ | ⟨_, _, k, l, rfl, _⟩ <;> rfl
  | .ptr .., x', hx => by obtain ⟨j, q, _, rfl⟩ := tr_ptr hx; rfl
  | .dead, x', hx | .int .., x', hx | .bool _, x', hx | .str _, x', hx | .nils, x', hx | .ints .., x', hx
  | .isl .., x', hx | .rsl .., x', hx | .rpi .., x', hx | .rps .., x', hx
  | .nilp, x', hx | .err _, x', hx | .glo _, x', hx | .fn _, x', hx => by simp only [trA, Option.some.injEq] at hx; subst hx; rfl
theorem tr_shL {look : Nat → Blk} {snap : Bool} {ρ : Ren} : ∀ (l l' : List AV), trL look snap ρ l = some l' → shL l' = shL l
  | [], l', hx => by rw [trL_nil hx]
  | v :: l, l', hx => by
    obtain ⟨v', m, rfl, h1, h2⟩ := trL_cons hx
    simp only [shL, tr_sh v v' h1, tr_shL l m h2]
end

/-- Paths, one behind the other. -/
theorem at_app : ∀ (p q : List Nat) (s t u : Sh) (o o' : Nat), Sh.at s p = some (o, t) → Sh.at t q = some (o', u) → Sh.at s (p ++ q) = some (o + o', u) := by
  intro p
  induction p with
  | nil =>
    intro q s t u o o' h1 h2
    have : o = 0 ∧ t = s := by cases s <;> simp_all [Sh.at]
    obtain ⟨rfl, rfl⟩ := this
    simpa using h2
  | cons i p ih =>
    intro q s t u o o' h1 h2
    cases s with
    | leaf => simp [Sh.at] at h1
    | ints n =>
      cases p with
      | cons j p => simp [Sh.at] at h1
      | nil =>
        simp only [Sh.at] at h1
        split at h1
        · rename_i hi
          simp only [Option.some.injEq, Prod.mk.injEq] at h1
          obtain ⟨rfl, rfl⟩ := h1
          cases q with
          | nil =>
            simp only [Sh.at, Option.some.injEq, Prod.mk.injEq] at h2
            obtain ⟨rfl, rfl⟩ := h2
            simp [Sh.at, hi]
          | cons j q => simp [Sh.at] at h2
        · simp at h1
    | agg l =>
      simp only [Sh.at] at h1
      cases hl : l[i]? with
      | none => simp [hl] at h1
      | some s' =>
        simp only [hl] at h1
        cases ha : Sh.at s' p with
        | none => simp [ha] at h1
        | some ot =>
          obtain ⟨o1, t1⟩ := ot
          simp only [ha, Option.some.injEq, Prod.mk.injEq] at h1
          obtain ⟨rfl, rfl⟩ := h1
          have := ih q s' t1 u o1 o' ha h2
          simp only [List.cons_append, Sh.at, hl, this, Option.some.injEq, Prod.mk.injEq, and_true]
          omega

theorem pathBeq_eq : ∀ {p q : List Nat}, pathBeq p q = true → p = q
  | [], [], _ => rfl
  | [], _ :: _, h => by simp [pathBeq] at h
  | _ :: _, [], h => by simp [pathBeq] at h
  | a :: l, b :: m, h => by
    simp only [pathBeq, Bool.and_eq_true] at h
    rw [Nat.eq_of_beq_eq_true h.1, pathBeq_eq h.2]

theorem memN_iff {n : Nat} : ∀ {l : List Nat}, memN n l = true ↔ n ∈ l
  | [] => by simp [memN]
  | m :: l => by simp [memN, memN_iff (l := l)]

theorem nodupN_iff : ∀ {l : List Nat}, nodupN l = true ↔ l.Nodup
  | [] => by simp [nodupN]
  | n :: l => by
    simp only [nodupN, Bool.and_eq_true, nodupN_iff (l := l), List.nodup_cons, Bool.not_eq_true']
    constructor
    · rintro ⟨h1, h2⟩
      exact ⟨fun h => by rw [memN_iff.2 h] at h1; simp at h1, h2⟩
    · rintro ⟨h1, h2⟩
      exact ⟨by cases h : memN n l; rfl; exact absurd (memN_iff.1 h) h1, h2⟩

theorem findE_some {id : Nat} {path : List Nat} : ∀ {E : List (Nat × List Nat)} {j0 j : Nat} {q : List Nat}, findE id path E j0 = some (j, q) → q = [] ∧ ∃ i, j = j0 + i ∧ E[i]? = some (id, path)
  | [], _, _, _, h => by simp [findE] at h
  | (i, p) :: l, j0, j, q, h => by
    simp only [findE] at h
    cases hb : (Nat.beq id i && pathBeq path p) with
    | true =>
      simp only [hb, cond_true, Option.some.injEq, Prod.mk.injEq] at h
      simp only [Bool.and_eq_true] at hb
      obtain ⟨rfl, rfl⟩ := h
      refine ⟨rfl, 0, rfl, ?_⟩
      simp [Nat.eq_of_beq_eq_true hb.1, pathBeq_eq hb.2]
    | false =>
      simp only [hb, cond_false] at h
      obtain ⟨h1, i', h2, h3⟩ := findE_some h
      exact ⟨h1, i' + 1, by omega, by simpa using h3⟩

/-! ### what becomes of the blocks -/

def updOf : List (Nat × Blk) → Nat → Option Blk
  | [], _ => none
  | (i, b) :: us, id => match updOf us id with
    | some b' => some b'
    | none => if i = id then some b else none

theorem updOf_append (a b : List (Nat × Blk)) (id : Nat) : updOf (a ++ b) id = match updOf b id with | some x => some x | none => updOf a id := by
  induction a with
  | nil => cases h : updOf b id <;> simp [updOf, h]
  | cons x a ih =>
    obtain ⟨i, c⟩ := x
    simp only [List.cons_append, updOf, ih]
    cases h : updOf b id <;> simp

theorem updOf_kills (l : List Nat) (id : Nat) : updOf (kills l) id = if id ∈ l then some .dead else none := by
  induction l with
  | nil => simp [kills, updOf]
  | cons i l ih =>
    have ih' : updOf (List.map (fun id => (id, Blk.dead)) l) id = if id ∈ l then some .dead else none := ih
    simp only [kills, List.map_cons, updOf, ih', List.mem_cons]
    by_cases h1 : id ∈ l
    · simp [h1]
    · by_cases h2 : i = id
      · simp [h1, h2]
      · simp [h1, h2, Ne.symm h2]

theorem applyU_length : ∀ (us : List (Nat × Blk)) (h : List Blk), (applyU h us).length = h.length
  | [], _ => rfl
  | (i, b) :: us, h => by simp [applyU, applyU_length us]

theorem applyU_get : ∀ (us : List (Nat × Blk)) (h : List Blk) (id : Nat), (applyU h us)[id]? = match updOf us id with | some b => if id < h.length then some b else none | none => h[id]?
  | [], _, _ => rfl
  | (i, b) :: us, h, id => by
    simp only [applyU, applyU_get us, updOf, List.length_set]
    cases hu : updOf us id with
    | some b' => rfl
    | none =>
      by_cases hi : i = id
      · subst hi; simp [List.getElem?_set]
      · simp [hi]

theorem cond_some {α : Type} {b : Bool} {x : Option α} {r : α} (h : cond b x none = some r) : b = true ∧ x = some r := by cases b <;> simp_all

end Go.Ev
