/- The evaluator's soundness: a function. -/
import Derived.Test.YtllnbcibleeogaaDoorEvZ
namespace Go.Ev

/-- Blocks chosen, and named anew. -/
theorem sel_ok {X : Fx} (hG : GOk X.G) {h : List Blk} {L : List Loc} {w : World} (I : Inv X h L w) {snap : Bool} {ρ : Ren} {ss : List Nat} (hnd : ss.Nodup) (hρ : ∀ id p j q, ρ id p = some (j, q) → q = p ∧ ss[j]? = some id)
    (hρn : ∀ id p, ρ id p = none → id ∉ ss) {h' : List Blk} {L' : List Loc} (hh : h' = ss.map fun i => match trB (hAt h) snap ρ (hAt h i) with | some b => b | none => .dead) (hL : L' = ss.map fun i => L.getD i default) :
    Inv X h' L' w ∧ TrOk (cx X h L w) (cx X h' L' w) (hAt h) snap ρ ∧ RO (cx X h L w) (cx X h' L' w) := by
  have hlen : h'.length = ss.length := by simp [hh]
  have hL'l : ∀ (c i : Nat), ss[c]? = some i → L'[c]? = some (L.getD i default) := fun c i hc => by simp only [hL, List.getElem?_map, hc, Option.map_some]
  have hh' : ∀ (c i : Nat), ss[c]? = some i → ∃ b', h'[c]? = some b' ∧ (trB (hAt h) snap ρ (hAt h i) = some b' ∨ b' = .dead) := by
    intro c i hc
    have this : h'[c]? = some (match trB (hAt h) snap ρ (hAt h i) with | some b => b | none => .dead) := by simp only [hh, List.getElem?_map, hc, Option.map_some]
    cases ht : trB (hAt h) snap ρ (hAt h i) with
    | none => simp only [ht] at this; exact ⟨_, this, .inr rfl⟩
    | some b => simp only [ht] at this; exact ⟨_, this, .inl rfl⟩
  have hown : ∀ c b o, Own1 h' L' c b o → ∃ i, ss[c]? = some i ∧ Own1 h L i b o := by
    rintro c b o ⟨s, p, g1, g2, g3⟩
    obtain ⟨bb, hb, rfl⟩ := shAt' g1
    have hlt := getElem?_lt hb
    rw [hlen] at hlt
    cases hc : ss[c]? with
    | none => rw [List.getElem?_eq_none_iff] at hc; omega
    | some i =>
      refine ⟨i, rfl, ?_⟩
      obtain ⟨b', q1, q2⟩ := hh' c i hc
      rw [hb] at q1; simp only [Option.some.injEq] at q1; subst q1
      rcases q2 with q2 | q2
      · have hsh := trB_sh q2
        rw [hsh] at g3
        have hi : i < h.length := by
          rcases Nat.lt_or_ge i h.length with q | q
          · exact q
          · simp only [hAt, List.getD, List.getElem?_eq_none q, Option.getD_none] at g3; exact g3.elim
        have hA : h[i]? = some (hAt h i) := by simp [hAt, List.getD, hi]
        have hLi : L[i]? = some (L.getD i default) := by rw [List.getD, List.getElem?_eq_getElem (by rw [I.len]; exact hi)]; rfl
        rw [hL'l c i hc, Option.some.injEq] at g2
        exact ⟨_, p, shAt hA, by rw [hLi, g2], g3⟩
      · subst q2; exact g3.elim
  have hAsub : ∀ b o, (cx X h' L' w).A b o → (cx X h L w).A b o := by
    rintro b o (q | ⟨c, s, p, g1, g2, g3⟩)
    · exact .inl q
    · obtain ⟨i, _, g⟩ := hown c b o ⟨s, p, g1, g2, g3⟩
      exact .inr g.own
  have hro : RO (cx X h L w) (cx X h' L' w) := fun b o v hv hA => ⟨hv, fun q => hA (hAsub b o q)⟩
  have hshape : ∀ (i c : Nat) s, (cx X h L w).S[i]? = some s → ss[c]? = some i → ((cx X h' L' w).S[c]? = some s ∧ (cx X h' L' w).L[c]? = (cx X h L w).L[i]?) ∨ (cx X h' L' w).S[c]? = some .dead := by
    intro i c s hs hc
    obtain ⟨b, hb, rfl⟩ := shAt' hs
    obtain ⟨b', q1, q2⟩ := hh' c i hc
    rw [hAt_some hb] at q2
    rcases q2 with q2 | q2
    · refine .inl ⟨?_, ?_⟩
      · show (h'.map Blk.sh)[c]? = _
        rw [shAt q1, trB_sh q2]
      · show L'[c]? = L[i]?
        rw [hL'l c i hc, List.getD, List.getElem?_eq_getElem (by rw [I.len]; exact getElem?_lt hb)]; rfl
    · subst q2; exact .inr (shAt q1)
  have T : TrOk (cx X h L w) (cx X h' L' w) (hAt h) snap ρ := by
    refine ⟨rfl, fun z z' u hz ht g => ?_⟩
    cases z <;> simp only [AV.isRef, Bool.false_eq_true] at hz
    · rename_i id p off len
      rcases tr_own ht with ⟨j, q, hr, rfl⟩ | ⟨hr, _, k, l, rfl, hc, hsrc⟩
      · obtain ⟨rfl, hc⟩ := hρ _ _ _ _ hr
        have g0 := leaf_own g
        simp only [leaf] at g ⊢
        cases hs : (cx X h L w).S[id]? with
        | none => simp [hs] at g
        | some s =>
          rcases hshape id j s hs hc with ⟨e1, e2⟩ | e
          · rw [e1, e2]; rw [hs] at g; exact g
          · rw [e]; exact g0
      · have hlo : lookOk (hAt h) h := by
          intro id hn
          rcases Nat.lt_or_ge id h.length with q | q
          · simp [hAt, List.getD, q]
          · simp [hAt, List.getD, List.getElem?_eq_none q] at hn
        refine snap_ok I hlo hc hsrc ((Val_leaf rfl (by simp) (by simp)).2 g) _ fun b o ho hA => ?_
        rcases hA with q | ⟨c, s, p', g1, g2, g3⟩
        · exact I.out b o ho.own q
        · obtain ⟨i, hi, g4⟩ := hown c b o ⟨s, p', g1, g2, g3⟩
          have := Own1.unique I ho g4
          subst this
          exact hρn _ _ hr (List.mem_of_getElem? hi)
    · rename_i id p
      obtain ⟨j, q, hr, rfl⟩ := tr_ptr ht
      obtain ⟨rfl, hc⟩ := hρ _ _ _ _ hr
      have g0 := leaf_ptr g
      simp only [leaf] at g ⊢
      cases hs : (cx X h L w).S[id]? with
      | none => simp [hs] at g
      | some s =>
        rcases hshape id j s hs hc with ⟨e1, e2⟩ | e
        · rw [e1, e2]; rw [hs] at g; exact g
        · rw [e]; exact g0
  have hL'len : L'.length = h'.length := by simp [hL, hlen]
  refine ⟨⟨I.eok, hL'len, fun c b p hb hp => ?_, fun i j s t p q b o hij hs ht hp hq o1 o2 => ?_, fun b o ⟨c, s, p, g1, g2, g3⟩ => ?_, fun b o ⟨c, s, p, g1, g2, g3⟩ => ?_, I.obd, I.stp, fun g v hg => ?_⟩, T, hro⟩
  · have hlt := getElem?_lt hb
    rw [hlen] at hlt
    cases hc : ss[c]? with
    | none => rw [List.getElem?_eq_none_iff] at hc; omega
    | some i =>
      obtain ⟨b', q1, q2⟩ := hh' c i hc
      rw [hb] at q1; simp only [Option.some.injEq] at q1; subst q1
      rcases q2 with q2 | q2
      · rcases Nat.lt_or_ge i h.length with hi | hi
        · have hA : h[i]? = some (hAt h i) := by simp [hAt, List.getD, hi]
          rw [hL'l c i hc, Option.some.injEq] at hp
          subst hp
          refine BlkOK.tr T rfl (.inr hro) q2 (I.blk i _ _ hA ?_)
          rw [List.getD, List.getElem?_eq_getElem (by rw [I.len]; exact hi)]; rfl
        · have : hAt h i = .rsv := by simp [hAt, List.getD, List.getElem?_eq_none hi]
          rw [this] at q2
          simp only [trB, Option.some.injEq] at q2
          subst q2; trivial
      · subst q2; trivial
  · obtain ⟨i1, c1, g1⟩ := hown i b o ⟨s, p, hs, hp, o1⟩
    obtain ⟨i2, c2, g2⟩ := hown j b o ⟨t, q, ht, hq, o2⟩
    have := Own1.unique I g1 g2
    subst this
    have h1 := getElem?_lt c1
    have h2 := getElem?_lt c2
    rw [List.getElem?_eq_getElem h1, Option.some.injEq] at c1
    rw [List.getElem?_eq_getElem h2, Option.some.injEq] at c2
    have hp := List.pairwise_iff_getElem.1 hnd
    rcases Nat.lt_trichotomy i j with q | q | q
    · exact hp i j h1 h2 q (c1.trans c2.symm)
    · exact hij q
    · exact hp j i h2 h1 q (c2.trans c1.symm)
  · obtain ⟨i, _, g⟩ := hown c b o ⟨s, p, g1, g2, g3⟩; exact I.out b o g.own
  · obtain ⟨i, _, g⟩ := hown c b o ⟨s, p, g1, g2, g3⟩; exact I.new b o g.own
  · obtain ⟨cs, g1, g2⟩ := I.glb g v hg
    have T0 : TrOk (cx X h L w) (cx X h' L' w) noLook false (fun _ _ => none) := by
      refine ⟨rfl, fun x x' v hx ht g => ?_⟩
      cases x <;> simp only [AV.isRef, Bool.false_eq_true] at hx <;> simp [trA] at ht
    exact ⟨cs, tr_Cells T0 v v cs (.inr hro) (hG.gtr g v hg) g1, fun i hi => ⟨(g2 i hi).1, fun q => (g2 i hi).2 (hAsub _ _ q)⟩⟩

/-! ### results -/

def rvRun (tmps : Array Value) : ResultVar → Sem Value
  | .tmp t => pure (tmps.getD t undef)
  | .cell a t => do loadVar t (← asAddr (tmps.getD a undef))

theorem results_eq (fn : Func) (tmps : Array Value) : results fn tmps = (do
    let vs ← fn.results.mapM (rvRun tmps)
    pure (if h : vs.size = 1 then vs[0] else .tuple vs)) := by
  unfold results
  congr 2

theorem resV_ok {X : Fx} {st : St} {L : List Loc} {a : Act} {w : World} (R : Rel X st L a w) {rv : ResultVar} {v : AV} (h : resV X.G st rv = some v) :
    ∃ cv, (rvRun a.tmps rv).run X.G.P w = .ok cv w ∧ Val (cx X st.h L w) v cv := by
  cases rv with
  | tmp i =>
    simp only [resV, Option.some.injEq] at h
    subst h
    exact ⟨_, rfl, R.eval (.tmp i)⟩
  | cell x t =>
    simp only [resV] at h
    split at h
    · rename_i id path hx
      split at h
      · rename_i v0 hb
        split at h
        · rename_i y hy
          obtain ⟨hf, h⟩ := cond_none h
          simp only [Option.some.injEq] at h
          subst h
          have hev := R.eval (.tmp x)
          simp only [evO, hx, Act.eval] at hev
          have hlo : lookOk (hAt st.h) st.h := by
            intro id hn
            rcases Nat.lt_or_ge id st.h.length with q | q
            · simp [hAt, List.getD, q]
            · simp [hAt, List.getD, List.getElem?_eq_none q] at hn
          obtain ⟨p, o, s, cs, _, e, _, _, hc, hm⟩ := ptr_var R.inv (hlo.get hb (by simp)) hy hev
          obtain ⟨cv, g1, g2⟩ := run_loadVar' (c := cx X st.h L w) hf hc hm
          refine ⟨cv, ?_, g2⟩
          have ha : (asAddr (a.tmps.getD x undef)).run X.G.P w = .ok ⟨p.b, p.o + o, none⟩ w := by rw [e]; rfl
          simp only [rvRun, Sem.run_bind, ha, Result.andThen_ok]
          exact g1
        · cases h
      · cases h
    · cases h

theorem resL_ok {X : Fx} {st : St} {L : List Loc} {a : Act} {w : World} (R : Rel X st L a w) (fn : Func) : ∀ (l : List ResultVar) {vs : List AV}, resL X.G fn st l = some vs →
    ∃ cvs : List Value, (l.mapM (rvRun a.tmps)).run X.G.P w = .ok cvs w ∧ All2 (Val (cx X st.h L w)) vs cvs ∧ cvs.length = l.length
  | [], vs, h => by simp only [resL, Option.some.injEq] at h; subst h; exact ⟨[], rfl, trivial, rfl⟩
  | rv :: l, vs, h => by
    simp only [resL] at h
    cases h1 : resV X.G st rv with
    | none => simp [h1] at h
    | some v =>
      cases h2 : resL X.G fn st l with
      | none => simp [h1, h2] at h
      | some vs' =>
        simp only [h1, h2, Option.some.injEq] at h
        subst h
        obtain ⟨cv, q1, q2⟩ := resV_ok R h1
        obtain ⟨cvs, r1, r2, r3⟩ := resL_ok R fn l h2
        refine ⟨cv :: cvs, ?_, ⟨q2, r2⟩, by simp [r3]⟩
        rw [List.mapM_cons]
        simp only [Sem.run_bind, q1, r1, Result.andThen_ok, Sem.run_pure]

theorem pinsOk_get : ∀ {l m : List Blk}, pinsOk l m = true → ∀ (i : Nat) v, l[i]? = some (.var v) → ∃ x, m[i]? = some (.var x) ∧ sh x = sh v
  | [], _, _, i, v, h => by simp at h
  | .var v :: l, .var x :: m, h, i, u, hi => by
    simp only [pinsOk, Bool.and_eq_true] at h
    cases i with
    | zero => simp only [List.getElem?_cons_zero, Option.some.injEq, Blk.var.injEq] at hi; subst hi; exact ⟨x, rfl, shbeq _ _ h.1⟩
    | succ i => simpa using pinsOk_get h.2 i u (by simpa using hi)
  | .var v :: l, .row .. :: m, h, _, _, _ => by simp [pinsOk] at h
  | .var v :: l, .dead :: m, h, _, _, _ => by simp [pinsOk] at h
  | .var v :: l, .rsv :: m, h, _, _, _ => by simp [pinsOk] at h
  | .var v :: l, [], h, _, _, _ => by simp [pinsOk] at h
  | .row .. :: l, b :: m, h, i, u, hi => by
    simp only [pinsOk] at h
    cases i with
    | zero => simp at hi
    | succ i => simpa using pinsOk_get h i u (by simpa using hi)
  | .dead :: l, b :: m, h, i, u, hi => by
    simp only [pinsOk] at h
    cases i with
    | zero => simp at hi
    | succ i => simpa using pinsOk_get h i u (by simpa using hi)
  | .rsv :: l, b :: m, h, i, u, hi => by
    simp only [pinsOk] at h
    cases i with
    | zero => simp at hi
    | succ i => simpa using pinsOk_get h i u (by simpa using hi)
  | .row .. :: l, [], h, _, _, _ => by simp [pinsOk] at h
  | .dead :: l, [], h, _, _, _ => by simp [pinsOk] at h
  | .rsv :: l, [], h, _, _, _ => by simp [pinsOk] at h

theorem ValL_all2 {c : Cx} : ∀ {l : List AV} {m : List Value}, All2 (Val c) l m → ValL c l m
  | [], [], _ => rfl
  | _ :: _, b :: m, ⟨h1, h2⟩ => ⟨b, m, rfl, h1, ValL_all2 h2⟩
  | [], _ :: _, h => h.elim
  | _ :: _, [], h => h.elim

theorem All2_length {α β : Type} {r : α → β → Prop} : ∀ {l : List α} {m : List β}, All2 r l m → l.length = m.length
  | [], [], _ => rfl
  | _ :: l, _ :: m, ⟨_, h⟩ => by simp [All2_length h]
  | [], _ :: _, h => h.elim
  | _ :: _, [], h => h.elim

theorem coerceL_length (P : Program) : ∀ (ts : List TypeId) (l : List AV), (coerceL P ts l).length = l.length
  | [], l => by cases l <;> rfl
  | t :: ts, [] => rfl
  | t :: ts, v :: l => by simp [coerceL, coerceL_length P ts l]

theorem trL_length {look : Nat → Blk} {snap : Bool} {ρ : Ren} : ∀ {l m : List AV}, trL look snap ρ l = some m → m.length = l.length
  | [], m, h => by rw [trL_nil h]
  | v :: l, m, h => by
    obtain ⟨v', l', rfl, _, h2⟩ := trL_cons h
    simp [trL_length h2]

theorem findE_none {id : Nat} {path : List Nat} : ∀ {E : List (Nat × List Nat)} {j0 : Nat}, findE id path E j0 = none → (∀ e ∈ E, e.2 = path) → id ∉ E.map (·.1)
  | [], _, _, _ => by simp
  | (i, p) :: l, j0, h, hp => by
    simp only [findE] at h
    have hpp : p = path := hp (i, p) (by simp)
    subst hpp
    cases hb : (Nat.beq id i && pathBeq p p) with
    | true => simp [hb] at h
    | false =>
      simp only [hb, cond_false] at h
      have := findE_none h fun e he => hp e (by simp [he])
      simp only [List.map_cons, List.mem_cons, not_or]
      refine ⟨fun e => ?_, this⟩
      subst e
      have hpb : ∀ q : List Nat, pathBeq q q = true := fun q => by induction q with
        | nil => rfl
        | cons a q ih => simp [pathBeq, Nat.beq_refl, ih]
      simp [Nat.beq_refl, hpb] at hb

theorem retE_ok {G : Gi} (hG : GOk G) {R : Type} {fn : Func} {b0 : List Blk} {κ : AV → List Blk → Option R} {r : R} {st : St} (h : retE G fn b0 κ st = some r) : ∃ v bs', κ v bs' = some r ∧
    ∀ (X : Fx), X.G = G → ∀ (L0 L : List Loc) (a : Act) (w : World), RelP X b0 L0 st L a w → ∃ cv, (results fn a.tmps).run G.P w = .ok cv w ∧ Back X b0 L0 v bs' (.returned cv) w := by
  unfold retE at h
  split at h
  · cases h
  · rename_i vs hvs
    simp only at h
    obtain ⟨hnd, h⟩ := cond_none h
    have hnd := nodupN_iff.1 hnd
    split at h
    · cases h
    · rename_i vs' hvs'
      obtain ⟨hpin, h⟩ := cond_none h
      refine ⟨_, _, h, fun X hX L0 L a w hR => ?_⟩
      subst hX
      generalize hE : ((List.range b0.length).map fun i => (i, ([] : List Nat))) ++ ((st.h.take b0.length).flatMap fun b => match b with | .var v => rowIds v | _ => []).filter (fun e => !Nat.blt e.1 b0.length) = E' at *
      have hEp : ∀ e ∈ E', e.2 = [] := by
        intro e he
        rw [← hE, List.mem_append] at he
        rcases he with he | he
        · obtain ⟨i, _, rfl⟩ := List.mem_map.1 he; rfl
        · obtain ⟨b, _, hb⟩ := List.mem_flatMap.1 (List.mem_filter.1 he).1
          split at hb
          · exact rowIds_nil.1 _ e hb
          · simp at hb
      obtain ⟨I', T, hro⟩ := sel_ok hG hR.rel.inv (snap := true) (ρ := fun id path => match findE id [] E' 0 with | some (j, _) => some (j, path) | none => none) (ss := E'.map (·.1)) hnd
        (fun id p j q hr => by
          cases hf : findE id [] E' 0 with
          | none => simp [hf] at hr
          | some jq =>
            obtain ⟨j', q'⟩ := jq
            simp only [hf, Option.some.injEq, Prod.mk.injEq] at hr
            obtain ⟨_, i, hi, hEi⟩ := findE_some hf
            obtain ⟨rfl, rfl⟩ := hr
            rw [Nat.zero_add] at hi
            subst hi
            exact ⟨rfl, by simp [hEi]⟩)
        (fun id p hr => by
          cases hf : findE id [] E' 0 with
          | none => exact findE_none hf hEp
          | some jq => obtain ⟨j', q'⟩ := jq; simp [hf] at hr)
        (h' := E'.map fun e => match trB (hAt st.h) true (fun id path => match findE id [] E' 0 with | some (j, _) => some (j, path) | none => none) (hAt st.h e.1) with | some b => b | none => .dead)
        (L' := E'.map fun e => L.getD e.1 default) (by simp) (by simp)
      obtain ⟨cvs, q1, q2, q3⟩ := resL_ok hR.rel fn _ hvs
      have hall := trL_all2 T hro hvs' (coerceL_ok (P := X.G.P) (ts := fn.resultTypes.toList) q2)
      have hlen := All2_length hall
      refine ⟨(if h : cvs.toArray.size = 1 then cvs.toArray[0] else .tuple cvs.toArray), ?_, E'.map (fun e => L.getD e.1 default), I', fun i v hi => ?_, ?_⟩
      · rw [results_eq]
        have hm : (fn.results.mapM (rvRun a.tmps)).run X.G.P w = .ok cvs.toArray w := by
          rw [Array.mapM_eq_mapM_toList]
          simp only [Sem.run_map, q1]
          rfl
        simp only [Sem.run_bind, hm, Result.andThen_ok, Sem.run_pure]
      · obtain ⟨x, g1, g2⟩ := pinsOk_get hpin i v hi
        refine ⟨x, g1, g2, ?_⟩
        have hlt := getElem?_lt hi
        have hEi : E'[i]? = some (i, []) := by
          rw [← hE, List.getElem?_append_left (by simpa using hlt), List.getElem?_map, List.getElem?_range hlt]; rfl
        have hLi : (E'.map fun e => L.getD e.1 default)[i]? = some (L.getD i default) := by simp only [List.getElem?_map, hEi, Option.map_some]
        rw [hLi]
        rcases hR.pin i v hi with ⟨v', r1, _, r3⟩ | r1
        · rw [← r3, List.getD, List.getElem?_eq_getElem (by rw [hR.rel.inv.len]; exact getElem?_lt r1)]; rfl
        · simp only [List.getElem?_map, hEi, Option.map_some, hAt_some r1, trB, Option.some.injEq] at g1
          cases g1
      · match vs', cvs, hall, hlen with
        | [], [], _, _ => exact ⟨[], rfl, rfl⟩
        | [v1], [y], h1, _ => exact h1.1
        | v1 :: v2 :: l, y1 :: y2 :: m, h1, _ =>
          refine ⟨_, ValL_all2 h1, ?_⟩
          rw [dif_neg (by simp)]

/-- ████ What the evaluator says of a function is so. -/
theorem evF_ok {G : Gi} (hG : GOk G) (hm : G.P.follows .mixedOrders = true) (A : Anns) (n : Nat) {f : Nat} {fn : Func} (hf : G.P.funcs[f]? = some fn) : SoundC G.P G.gt f (fun _ args bs κ => evF G A n fn args bs κ) := by
  intro R args bs κ r h
  simp only [evF] at h
  split at h
  · cases h
  · rename_i c hc
    obtain ⟨o, h1, h2⟩ := (evC_ok hG hm A bs.length n c).1 _ _ _ h
    have main : ∀ st, retE G fn bs κ st = some r → (∀ (X : Fx) (b0 : List Blk) (L0 : List Loc) e a w, PO X b0 L0 o e a w → (e = .normal ∨ e = .ret) ∧ At X b0 L0 st a w) → ∃ v bs', κ v bs' = some r ∧
        ∀ (X : Fx) (L : List Loc) (w : World) (cargs : Array Value), X.G.P = G.P → X.G.gt = G.gt → X.w0 = w → (∀ b o, X.pin b o ↔ own (bs.map Blk.sh) L b o) → Inv X bs L w →
          All2 (Val (cx X bs L w)) args cargs.toList → Calls G.P f cargs w (Back X bs L v bs') := by
      intro st hst hpo
      obtain ⟨v, bs', h3, h4⟩ := retE_ok hG hst
      refine ⟨v, bs', h3, fun X L w cargs hP hgt hw0 hpin hI hargs => ?_⟩
      -- the same, with this program's contracts
      have inv' : ∀ {h : List Blk} {L : List Loc} {w : World}, Inv X h L w → Inv { X with G := G } h L w := fun I => ⟨I.eok, I.len, I.blk, I.dis, I.out, I.new, I.obd, I.stp, fun g v hg => I.glb g v (by rw [hgt]; exact hg)⟩
      have inv'' : ∀ {h : List Blk} {L : List Loc} {w : World}, Inv { X with G := G } h L w → Inv X h L w := fun I => ⟨I.eok, I.len, I.blk, I.dis, I.out, I.new, I.obd, I.stp, fun g v hg => I.glb g v (by rw [hgt] at hg; exact hg)⟩
      refine calls_of_wp hf hc (wp_mono (h2 { X with G := G } rfl bs L _ w rfl ⟨L, ⟨inv' hI, ⟨?_, fun i v x hv hx => ?_⟩, rfl⟩, fun i v hi => .inl ⟨v, hi, rfl, rfl⟩⟩) fun e a' w' he => ?_)
      · have := All2_length hargs
        simp only [List.length_append, List.length_replicate, Array.size_append, Array.size_replicate]
        have hs : cargs.toList.length = cargs.size := by simp
        omega
      · have hlen := All2_length hargs
        have hs : cargs.toList.length = cargs.size := by simp
        rcases Nat.lt_or_ge i args.length with q | q
        · simp only [List.getElem?_append_left q] at hv
          rw [Array.getElem?_append, if_pos (by omega)] at hx
          have key : ∀ {l : List AV} {m : List Value} {i : Nat} {v x}, All2 (Val (cx { X with G := G } bs L w)) l m → l[i]? = some v → m[i]? = some x → Val (cx { X with G := G } bs L w) v x := by
            intro l
            induction l with
            | nil => intro m i v x _ hv _; simp at hv
            | cons a l ih =>
              intro m i v x hm hv hx
              cases m with
              | nil => exact hm.elim
              | cons b m =>
                cases i with
                | zero => simp only [List.getElem?_cons_zero, Option.some.injEq] at hv hx; subst hv; subst hx; exact hm.1
                | succ i => exact ih hm.2 (by simpa using hv) (by simpa using hx)
          exact key hargs hv (by simpa using hx)
        · simp only [List.getElem?_append_right q] at hv
          rw [Array.getElem?_append, if_neg (by omega)] at hx
          have e1 := List.eq_of_mem_replicate (List.mem_of_getElem? hv)
          have e2 : x = undef := by
            rw [Array.getElem?_replicate] at hx
            split at hx
            · simpa using hx.symm
            · cases hx
          subst e1; subst e2
          exact Val_und
      · obtain ⟨he1, he2⟩ := hpo _ _ _ e a' w' he
        have fin : At { X with G := G } bs L st a' w' → a'.defers = [] ∧ ∃ v_1, (results fn a'.tmps).run G.P w' = .ok v_1 w' ∧ Back X bs L v bs' (.returned v_1) w' := by
          rintro ⟨L1, hR1⟩
          obtain ⟨cv, g1, L2, g2, g3, g4⟩ := h4 { X with G := G } rfl L L1 a' w' hR1
          exact ⟨hR1.rel.dfr, cv, g1, L2, inv'' g2, g3, g4⟩
        rcases he1 with rfl | rfl
        · exact fin he2
        · exact fin he2
    cases o with
    | nrm st =>
      refine main st h1 fun X b0 L0 e a w he => ?_
      cases e with
      | normal => obtain ⟨s, e1, h⟩ := he; cases e1; exact ⟨.inl rfl, h⟩
      | exit i => obtain ⟨s, e1, h⟩ := he; cases e1
      | goto i => obtain ⟨s, e1, h⟩ := he; cases e1
      | ret => obtain ⟨s, e1, h⟩ := he; cases e1
      | outgrown => exact he.elim
      | panic ch => exact he.elim
    | ret st =>
      refine main st h1 fun X b0 L0 e a w he => ?_
      cases e with
      | ret => obtain ⟨s, e1, h⟩ := he; cases e1; exact ⟨.inr rfl, h⟩
      | exit i => obtain ⟨s, e1, h⟩ := he; cases e1
      | goto i => obtain ⟨s, e1, h⟩ := he; cases e1
      | normal => obtain ⟨s, e1, h⟩ := he; cases e1
      | outgrown => exact he.elim
      | panic ch => exact he.elim
    | ext i st => simp [Out.app, noK] at h1
    | gto l st => simp [Out.app, noK] at h1

end Go.Ev
