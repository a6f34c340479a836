/- The evaluator's soundness: operations one after the other. -/
import Derived.Test.YtllnbcibleeogaaDoorEvU
namespace Go.Ev

structure RelP (X : Fx) (b0 : List Blk) (L0 : List Loc) (st : St) (L : List Loc) (a : Act) (w : World) : Prop where
  rel : Rel X st L a w
  pin : ∀ (i : Nat) v, b0[i]? = some (.var v) → (∃ v', st.h[i]? = some (.var v') ∧ sh v' = sh v ∧ L[i]? = L0[i]?) ∨ st.h[i]? = some .dead

theorem putT_length (t : List AV) (d : Option Nat) (v : AV) : (putT t d v).length = t.length := by cases d <;> simp [putT]

theorem Rel.put {X : Fx} {st : St} {L : List Loc} {a : Act} {w : World} (R : Rel X st L a w) {h' : List Blk} {L' : List Loc} {w' : World} (I : Inv X h' L' w') (hle : Cx.Le (cx X st.h L w) (cx X h' L' w'))
    {d : Option Nat} {v : AV} {cv : Value} (hv : Val (cx X h' L' w') v cv) : Rel X ⟨putT st.t d v, h'⟩ L' (a.put d cv) w' := by
  refine ⟨I, ⟨?_, fun i u x hu hx => ?_⟩, ?_⟩
  · rw [putT_length, R.tmp.1]; cases d <;> simp [Act.put]
  · cases d with
    | none => exact Val.le hle _ _ (R.tmp.2 i u x hu hx)
    | some d =>
      simp only [putT] at hu
      simp only [Act.put] at hx
      rcases getElem?_set_cases hu with ⟨rfl, rfl, hlt⟩ | ⟨hne, hu'⟩
      · rw [Array.getElem?_setIfInBounds_self_of_lt (by have := R.tmp.1; omega)] at hx
        simp only [Option.some.injEq] at hx
        subst hx; exact hv
      · rw [Array.getElem?_setIfInBounds_ne hne] at hx
        exact Val.le hle _ _ (R.tmp.2 i u x hu' hx)
  · cases d <;> exact R.dfr

theorem RelP.put {X : Fx} {b0 : List Blk} {L0 : List Loc} {st : St} {L : List Loc} {a : Act} {w : World} (R : RelP X b0 L0 st L a w) {h' : List Blk} {L' : List Loc} {w' : World} (I : Inv X h' L' w') (hle : Cx.Le (cx X st.h L w) (cx X h' L' w'))
    {d : Option Nat} {v : AV} {cv : Value} (hv : Val (cx X h' L' w') v cv) : RelP X b0 L0 ⟨putT st.t d v, h'⟩ L' (a.put d cv) w' := by
  refine ⟨R.rel.put I hle hv, fun i v0 hi => ?_⟩
  have dead : ∀ s, (h'.map Blk.sh)[i]? = some s → s = .dead → h'[i]? = some .dead := by
    intro s hs he
    obtain ⟨b, hb, e⟩ := shAt' hs
    subst he
    cases b <;> simp only [Blk.sh, reduceCtorEq] at e
    exact hb
  rcases R.pin i v0 hi with ⟨v', q1, q2, q3⟩ | q
  · rcases hle.sh i _ (cx_S q1) (by simp [Blk.sh]) with ⟨r1, r2⟩ | r
    · refine .inl ?_
      obtain ⟨b, hb, e⟩ := shAt' r1
      cases b <;> simp only [Blk.sh, reduceCtorEq, BSh.var.injEq] at e
      rename_i v''
      exact ⟨v'', hb, e.trans q2, r2.trans q3⟩
    · exact .inr (dead _ r rfl)
  · rcases hle.sh i _ (cx_S q) (by simp [Blk.sh]) with ⟨r1, r2⟩ | r
    · exact .inr (dead _ r1 rfl)
    · exact .inr (dead _ r rfl)

theorem Rel.eval {X : Fx} {st : St} {L : List Loc} {a : Act} {w : World} (R : Rel X st L a w) (x : Operand) : Val (cx X st.h L w) (evO st.t x) (a.eval x) := by
  cases x with
  | tmp i =>
    simp only [evO, Act.eval]
    rcases Nat.lt_or_ge i st.t.length with hlt | hge
    · have h2 : i < a.tmps.size := Nat.lt_of_lt_of_eq hlt R.tmp.1
      have := R.tmp.2 i _ _ (List.getElem?_eq_getElem hlt) (Array.getElem?_eq_getElem h2)
      simpa [List.getD, hlt, Array.getD, h2] using this
    · have h2 : a.tmps.size ≤ i := (R.tmp.1 ▸ hge)
      rw [List.getD, List.getElem?_eq_none hge]
      have e : a.tmps.getD i undef = undef := by simp [Array.getD, Nat.not_lt.2 h2]
      rw [e]; exact Val_und
  | const v => exact Val_ofVal R.inv.eok v
  | global g => exact rfl
  | func f => exact rfl

theorem op_step {X : Fx} {b0 : List Blk} {L0 : List Loc} {st : St} {L : List Loc} {a : Act} {w : World} {o : Oper} {t : List AV} {look : Nat → Blk} {nid : Nat} {v : AV} {us : List (Nat × Blk)} (hop : OpOk X.G o t look nid v us)
    (R : RelP X b0 L0 st L a w) (ht : ∀ x ∈ o.op.operands.toList, evO t x = evO st.t x) (hl : lookOk look st.h) (hr : ∀ i, i < resv o → st.h[nid + i]? = some .rsv) {next : Act → World → Prop} {Q : Exit → Act → World → Prop}
    (hk : ∀ a' L' w', RelP X b0 L0 ⟨putT st.t o.dst v, applyU st.h us⟩ L' a' w' → next a' w') : o.wp X.G.P a w next Q ∨ (o.asks X.G.P a w ∧ LetsOut Q) :=
  hop X rfl st.h L a w next Q R.rel.inv (fun x hx => by rw [ht x hx]; exact R.rel.eval x) hl hr fun cv L' w' I hle hv => hk _ L' w' (R.put I hle hv)

theorem RelP.skip {X : Fx} {b0 : List Blk} {L0 : List Loc} {st : St} {L : List Loc} {a : Act} {w : World} (R : RelP X b0 L0 st L a w) (d : Option Nat) : RelP X b0 L0 ⟨putT st.t d und, st.h⟩ L (a.put d undef) w :=
  R.put R.rel.inv (Cx.Le.refl _) Val_und

/-- What a guard says. -/
theorem guard_val {X : Fx} {st : St} {L : List Loc} {a : Act} {w : World} (R : Rel X st L a w) {ops : Array Oper} {j d : Nat} (hd : (ops[j]?).bind (·.dst) = some d) :
    (∀ b, st.t.getD d und = .bool b → d < st.t.length ∧ st.t[d]? = some (.bool b) ∧ yielded ops a.tmps j = some b) ∧ (st.t.getD d und = .tup [] → yielded ops a.tmps j = none) := by
  have key : ∀ i (hi : i < st.t.length), ∃ x, a.tmps[i]? = some x ∧ Val (cx X st.h L w) st.t[i] x := fun i hi => by
    have h2 : i < a.tmps.size := by have := R.tmp.1; omega
    exact ⟨_, Array.getElem?_eq_getElem h2, R.tmp.2 i _ _ (List.getElem?_eq_getElem hi) (Array.getElem?_eq_getElem h2)⟩
  constructor
  · intro b hb
    rcases Nat.lt_or_ge d st.t.length with hlt | hge
    · have e : st.t[d]? = some (.bool b) := by rw [List.getD, List.getElem?_eq_getElem hlt] at hb; simp at hb; rw [List.getElem?_eq_getElem hlt, hb]
      refine ⟨hlt, e, ?_⟩
      obtain ⟨x, h1, h2⟩ := key d hlt
      rw [List.getElem?_eq_getElem hlt, Option.some.injEq] at e
      rw [e] at h2
      obtain rfl : x = .bool b := h2
      simp only [yielded, hd, Option.bind_some, h1]
    · rw [List.getD, List.getElem?_eq_none hge] at hb; simp [und] at hb
  · intro hb
    rcases Nat.lt_or_ge d st.t.length with hlt | hge
    · have e : st.t[d] = .tup [] := by rw [List.getD, List.getElem?_eq_getElem hlt] at hb; simpa using hb
      obtain ⟨x, h1, h2⟩ := key d hlt
      rw [e] at h2
      obtain ⟨vs, h3, rfl⟩ := h2
      simp only [yielded, hd, Option.bind_some, h1]
    · have h2 : a.tmps.size ≤ d := by have := R.tmp.1; omega
      simp only [yielded, hd, Option.bind_some, Array.getElem?_eq_none h2]

/-! ### what the operations of a region do -/

structure En where
  dst : Option Nat
  v : AV
  us : List (Nat × Blk)
  rd : List Nat
  ran : Bool

def app (st : St) (e : En) : St := ⟨putT st.t e.dst e.v, applyU st.h e.us⟩

/-- An operation's entry, at a state: what it did there. -/
def EnOk (G : Gi) (ops : Array Oper) (draw : Bool) (o : Oper) (nid : Nat) (st : St) (e : En) : Prop :=
  e.dst = o.dst ∧ usOk st.h nid (nid + resv o) e.us = true ∧
  (match o.guard with
    | none => e.ran = true
    | some (j, want) => ∃ d, (ops[j]?).bind (·.dst) = some d ∧ ((∃ b, st.t.getD d und = .bool b ∧ e.ran = (b == want)) ∨ (st.t.getD d und = .tup [] ∧ e.ran = false))) ∧
  (e.ran = true → e.rd = cond draw (seesO st.t st.h o) [] ∧ OpOk G o st.t (cond draw (restr st.h e.rd) (hAt st.h)) nid e.v e.us) ∧
  (e.ran = false → e.v = und ∧ e.us = [] ∧ e.rd = [])

def ids (us : List (Nat × Blk)) : List Nat := us.map (·.1)

def Tr (G : Gi) (ops : Array Oper) (draw : Bool) (bef : Array Nat) : List Oper → List En → Nat → Nat → List FP → St → Prop
  | [], [], _, _, _, _ => True
  | o :: l, e :: es, i, nid, fps, st => EnOk G ops draw o nid st e ∧ (draw = true → fpOk (bef.getD i 0) e.rd (ids e.us) fps = true) ∧ Tr G ops draw bef l es (i + 1) (nid + resv o) (⟨i, e.rd, ids e.us⟩ :: fps) (app st e)
  | _, _, _, _, _, _ => False

theorem fpOk_nil (bits : Nat) : ∀ (fs : List FP), fpOk bits [] [] fs = true
  | [] => rfl
  | f :: fs => by
    have h1 : ∀ l : List Nat, disjN l [] = true := by
      intro l
      induction l with
      | nil => rfl
      | cons a l ih => simp [disjN, memN, ih]
    simp [fpOk, h1, fpOk_nil bits fs]

theorem usOk_nil (h : List Blk) (a b : Nat) : usOk h a b [] = true := rfl

theorem set_getD {t : List AV} {d : Nat} {b : Bool} (h : t.getD d und = .bool b) : t.set d (.bool b) = t := by
  rcases Nat.lt_or_ge d t.length with hlt | hge
  · refine list_set_self _ _ _ ?_
    rw [List.getD, List.getElem?_eq_getElem hlt] at h
    simp at h
    rw [List.getElem?_eq_getElem hlt, h]
  · exact List.set_eq_of_length_le hge

theorem evOps_tr {G : Gi} {R : Type} (hG : GOk G) {ops : Array Oper} {draw : Bool} {bef : Array Nat} {K : St → Option R} {r : R} : ∀ (l : List Oper) (i nid : Nat) (fps : List FP) (st : St),
    evOps G ops draw bef l i nid fps K st = some r → ∃ es, Tr G ops draw bef l es i nid fps st ∧ K (es.foldl app st) = some r
  | [], i, nid, fps, st, h => ⟨[], trivial, h⟩
  | o :: l, i, nid, fps, st, h => by
    simp only [evOps] at h
    -- the two ways on
    have hgo : ∀ st1, st1 = st → stepE G o st1.t (cond draw (restr st1.h (cond draw (seesO st.t st.h o) [])) (hAt st1.h)) nid (fun v us =>
        cond (usOk st1.h nid (nid + resv o) us && cond draw (fpOk (bef.getD i 0) (cond draw (seesO st.t st.h o) []) (us.map (·.1)) fps) true)
          (evOps G ops draw bef l (i + 1) (nid + resv o) (⟨i, cond draw (seesO st.t st.h o) [], us.map (·.1)⟩ :: fps) K ⟨putT st1.t o.dst v, applyU st1.h us⟩) none) = some r →
        (∀ e : En, e.ran = true → (match o.guard with
          | none => e.ran = true
          | some (j, want) => ∃ d, (ops[j]?).bind (·.dst) = some d ∧ ((∃ b, st.t.getD d und = .bool b ∧ e.ran = (b == want)) ∨ (st.t.getD d und = .tup [] ∧ e.ran = false)))) →
        ∃ es, Tr G ops draw bef (o :: l) es i nid fps st ∧ K (es.foldl app st) = some r := by
      rintro st1 rfl h1 hg
      obtain ⟨v, us, h2, hop⟩ := stepE_ok hG h1
      obtain ⟨hb, h3⟩ := cond_none h2
      simp only [Bool.and_eq_true] at hb
      obtain ⟨es, h4, h5⟩ := evOps_tr hG l _ _ _ _ h3
      refine ⟨⟨o.dst, v, us, cond draw (seesO st1.t st1.h o) [], true⟩ :: es, ⟨⟨rfl, hb.1, hg _ rfl, fun _ => ⟨rfl, hop⟩, fun hf => (by cases hf)⟩, fun hd => ?_, h4⟩, h5⟩
      have := hb.2
      rw [hd] at this ⊢
      simpa [ids] using this
    have hskip : ∀ st1, st1 = st → evOps G ops draw bef l (i + 1) (nid + resv o) (⟨i, [], []⟩ :: fps) K ⟨putT st1.t o.dst und, st1.h⟩ = some r →
        (∀ e : En, e.ran = false → (match o.guard with
          | none => e.ran = true
          | some (j, want) => ∃ d, (ops[j]?).bind (·.dst) = some d ∧ ((∃ b, st.t.getD d und = .bool b ∧ e.ran = (b == want)) ∨ (st.t.getD d und = .tup [] ∧ e.ran = false)))) →
        ∃ es, Tr G ops draw bef (o :: l) es i nid fps st ∧ K (es.foldl app st) = some r := by
      rintro st1 rfl h1 hg
      obtain ⟨es, h4, h5⟩ := evOps_tr hG l _ _ _ _ h1
      exact ⟨⟨o.dst, und, [], [], false⟩ :: es, ⟨⟨rfl, rfl, hg _ rfl, fun hf => (by cases hf), fun _ => ⟨rfl, rfl, rfl⟩⟩, fun hd => fpOk_nil _ _, h4⟩, h5⟩
    split at h
    · rename_i hg
      exact hgo st rfl h fun e he => by simp only [hg]; exact he
    · rename_i j want hg
      split at h
      · rename_i d hd
        split at h
        · rename_i b hb
          cases b with
          | true =>
            have hst : (⟨st.t.set d (.bool true), st.h⟩ : St) = st := by rw [set_getD hb]
            simp only [cond_true] at h
            cases want with
            | true => exact hgo _ hst h fun e he => by simp only [hg]; exact ⟨d, hd, .inl ⟨true, hb, he⟩⟩
            | false => exact hskip _ hst h fun e he => by simp only [hg]; exact ⟨d, hd, .inl ⟨true, hb, he⟩⟩
          | false =>
            have hst : (⟨st.t.set d (.bool false), st.h⟩ : St) = st := by rw [set_getD hb]
            simp only [cond_false] at h
            cases want with
            | true => exact hskip _ hst h fun e he => by simp only [hg]; exact ⟨d, hd, .inl ⟨false, hb, he⟩⟩
            | false => exact hgo _ hst h fun e he => by simp only [hg]; exact ⟨d, hd, .inl ⟨false, hb, he⟩⟩
        · rename_i hb
          exact hskip _ rfl h fun e he => by simp only [hg]; exact ⟨d, hd, .inr ⟨hb, he⟩⟩
        · cases h
      · cases h

/-- The entry says whether the operation is wanted. -/
theorem wanted_of {G : Gi} {X : Fx} {ops : Array Oper} {draw : Bool} {o : Oper} {nid : Nat} {st st' : St} {e : En} (he : EnOk G ops draw o nid st e) {L : List Loc} {a : Act} {w : World} (R : Rel X st' L a w)
    (ht : ∀ j want d, o.guard = some (j, want) → (ops[j]?).bind (·.dst) = some d → st.t.getD d und = st'.t.getD d und) : Region.wanted o (yielded ops a.tmps) = e.ran := by
  obtain ⟨_, _, hg, _⟩ := he
  unfold Region.wanted
  cases hgd : o.guard with
  | none => simp only [hgd] at hg; exact hg.symm
  | some jw =>
    obtain ⟨j, want⟩ := jw
    simp only [hgd] at hg ⊢
    obtain ⟨d, hd, hc⟩ := hg
    obtain ⟨g1, g2⟩ := guard_val R hd
    rcases hc with ⟨b, q1, q2⟩ | ⟨q1, q2⟩
    · rw [ht j want d hgd hd] at q1
      rw [(g1 b q1).2.2, q2]
      cases b <;> cases want <;> rfl
    · rw [ht j want d hgd hd] at q1
      rw [g2 q1, q2]
      rfl

theorem usOk_get {h : List Blk} {a b : Nat} : ∀ {us : List (Nat × Blk)}, usOk h a b us = true → ∀ id, updOf us id ≠ none → (a ≤ id ∧ id < b) ∨ (id < a ∧ hAt h id ≠ .rsv)
  | [], _, id, hn => absurd rfl hn
  | (i, bb) :: us, hok, id, hn => by
    simp only [usOk, Bool.and_eq_true, Bool.or_eq_true] at hok
    obtain ⟨h1, h2⟩ := hok
    cases hu : updOf us id with
    | some x => exact usOk_get h2 id (by rw [hu]; simp)
    | none =>
      simp only [updOf, hu] at hn
      by_cases hi : i = id
      · subst hi
        rcases h1 with ⟨q1, q2⟩ | ⟨q1, q2⟩
        · exact .inl ⟨Nat.le_of_ble_eq_true q1, by simpa [Nat.blt_eq] using q2⟩
        · exact .inr ⟨by simpa [Nat.blt_eq] using q1, fun e => by rw [e] at q2; simp at q2⟩
      · simp [hi] at hn

theorem hAt_some {h : List Blk} {id : Nat} {b : Blk} (hb : h[id]? = some b) : hAt h id = b := by simp [hAt, List.getD, hb]

/-! ### in their order -/

theorem seq_ok {X : Fx} {R : Type} {ops : Array Oper} {bef : Array Nat} {K : St → Option R} {r : R} {Q : Exit → Act → World → Prop} {b0 : List Blk} {L0 : List Loc}
    (hK : ∀ st L a w, RelP X b0 L0 st L a w → K st = some r → Q .normal a w) : ∀ (l : List Oper) (es : List En) (i nid : Nat) (fps : List FP) (st : St) (L : List Loc) (a : Act) (w : World),
    Tr X.G ops false bef l es i nid fps st → K (es.foldl app st) = some r → (∀ j, l[j]? = ops[i + j]?) → RelP X b0 L0 st L a w → (∀ k, nid ≤ k → k < nid + resvL l → st.h[k]? = some .rsv) →
    wpOps X.G.P ops Q (List.range' i l.length) a w
  | [], [], i, nid, fps, st, L, a, w, _, hk, _, hr, _ => hK st L a w hr hk
  | o :: l, e :: es, i, nid, fps, st, L, a, w, ⟨he, _, htr⟩, hk, hl, hr, hrs => by
    have ho : ops[i]? = some o := by simpa using (hl 0).symm
    have hl' : ∀ j, l[j]? = ops[i + 1 + j]? := fun j => by have := hl (j + 1); simpa [Nat.add_assoc, Nat.add_comm 1 j] using this
    simp only [resvL] at hrs
    have hrs' : ∀ k, nid + resv o ≤ k → k < nid + resv o + resvL l → (app st e).h[k]? = some .rsv := by
      intro k h1 h2
      simp only [app, applyU_get]
      cases hu : updOf e.us k with
      | none => exact hrs k (by omega) (by omega)
      | some b =>
        rcases usOk_get he.2.1 k (by rw [hu]; simp) with q | ⟨q1, _⟩ <;> omega
    simp only [List.length_cons, List.range'_succ, wpOps, ho]
    rw [wanted_of he hr.rel (fun _ _ _ _ _ => rfl)]
    obtain ⟨hd, _, _, hran, hnot⟩ := he
    cases hrn : e.ran with
    | true =>
      simp only [if_true]
      obtain ⟨_, hop⟩ := hran hrn
      refine op_step hop hr (fun _ _ => rfl) (fun id hn => ?_) (fun k hk => hrs _ (by omega) (by omega)) fun a' L' w' hR => ?_
      · simp only [cond_false] at hn ⊢
        rcases Nat.lt_or_ge id st.h.length with hlt | hge
        · simp [hAt, List.getD, List.getElem?_eq_getElem hlt]
        · simp [hAt, List.getD, List.getElem?_eq_none hge] at hn
      · rw [← hd] at hR
        exact seq_ok hK l es (i + 1) _ _ _ L' a' w' htr hk hl' hR hrs'
    | false =>
      simp only [Bool.false_eq_true, if_false]
      obtain ⟨h1, h2, _⟩ := hnot hrn
      have hR := hr.skip o.dst
      have : app st e = ⟨putT st.t o.dst und, st.h⟩ := by simp only [app, h1, h2, hd, applyU]
      rw [this] at htr hrs'
      simp only [List.foldl_cons, this] at hk
      exact seq_ok hK l es (i + 1) _ _ _ L _ w htr hk hl' hR hrs'
  | [], _ :: _, _, _, _, _, _, _, _, h, _, _, _, _ => h.elim
  | _ :: _, [], _, _, _, _, _, _, _, h, _, _, _, _ => h.elim

end Go.Ev
