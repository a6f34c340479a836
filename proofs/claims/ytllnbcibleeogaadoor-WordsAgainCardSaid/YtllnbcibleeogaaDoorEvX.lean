/- The evaluator's soundness: a region. -/
import Derived.Test.YtllnbcibleeogaaDoorEvW
namespace Go.Ev

/-- All that the proof of a drawn region knows. -/
structure Dr (G : Gi) (ops : Array Oper) (st0 : St) (nid : Nat) (es : List En) : Prop where
  len : es.length = ops.size
  get : ∀ (k : Nat) o e, ops[k]? = some o → es[k]? = some e → EnOk G ops true o (nid + resvL (ops.toList.take k)) (stS st0 es fun j => decide (j < k)) e ∧
    ∀ (j : Nat) ej, j < k → es[j]? = some ej → fpPair ((Region.before ops).getD k 0) e j ej
  lex : ∀ (i : Nat) o, ops[i]? = some o → (∀ e ∈ o.after, Region.binds .any e = true → e.on < i) ∧
    ∀ (j : Nat) oj, i < j → ops[j]? = some oj → (∃ e ∈ oj.after, Region.binds .any e = true ∧ e.on = i) ∨ o.apart ops oj = true
  rsv : ∀ k, nid ≤ k → k < nid + resvL ops.toList → st0.h[k]? = some .rsv

theorem resvL_take (l : List Oper) : ∀ (k : Nat) o, l[k]? = some o → resvL (l.take k) + resv o = resvL (l.take (k + 1)) ∧ resvL (l.take (k + 1)) ≤ resvL l := by
  induction l with
  | nil => intro k o h; simp at h
  | cons a l ih =>
    intro k o h
    cases k with
    | zero => simp only [List.getElem?_cons_zero, Option.some.injEq] at h; subst h; simp [resvL]
    | succ k =>
      simp only [List.getElem?_cons_succ] at h
      obtain ⟨h1, h2⟩ := ih k o h
      simp only [List.take_succ_cons, resvL] at *
      omega

theorem resvL_mono (l : List Oper) : ∀ (i j : Nat), i ≤ j → resvL (l.take i) ≤ resvL (l.take j) := by
  induction l with
  | nil => intro i j _; simp [resvL]
  | cons a l ih =>
    intro i j hij
    cases i with
    | zero => simp [resvL]
    | succ i =>
      cases j with
      | zero => omega
      | succ j =>
        have := ih i j (by omega)
        simp only [List.take_succ_cons, resvL]; omega

section
variable {G : Gi} {ops : Array Oper} {st0 : St} {nid : Nat} {es : List En}

theorem Dr.en (D : Dr G ops st0 nid es) {k : Nat} {o : Oper} (ho : ops[k]? = some o) : ∃ e, es[k]? = some e := by
  have := (Array.getElem?_eq_some_iff.1 ho).1
  exact ⟨_, List.getElem?_eq_getElem (by rw [D.len]; exact this)⟩

theorem Dr.op (D : Dr G ops st0 nid es) {k : Nat} {e : En} (he : es[k]? = some e) : ∃ o, ops[k]? = some o := by
  have := getElem?_lt he
  rw [D.len] at this
  exact ⟨_, Array.getElem?_eq_getElem this⟩

/-- Who writes a temporary that operation i looks at is ahead of it. -/
theorem Dr.looks (D : Dr G ops st0 nid es) {S : Nat → Bool} (hc : Closed ops S) {i : Nat} {o : Oper} (ho : ops[i]? = some o) (hi : S i = false) (hd : ∀ e ∈ o.after, Region.binds .any e = true → S e.on = true)
    {x : Nat} (hx : x ∈ o.looksAt ops) {k : Nat} {e : En} (he : es[k]? = some e) (hk : e.dst = some x) : S k = decide (k < i) := by
  obtain ⟨ok, hok⟩ := D.op he
  have hdst := (D.get k ok e hok he).1.1
  rw [hk] at hdst
  rcases Nat.lt_trichotomy k i with q | q | q
  · have : S k = true := by
      rcases (D.lex k ok hok).2 i o q ho with ⟨ed, h1, h2, h3⟩ | h
      · rw [← h3]; exact hd ed h1 h2
      · exact absurd hx ((Oper.apart_spec h).1 x hdst.symm)
    rw [this]; simp [q]
  · subst q; rw [hi]; simp
  · have : S k = false := by
      cases hs : S k with
      | false => rfl
      | true =>
        rcases (D.lex i o ho).2 k ok q hok with ⟨ed, h1, h2, h3⟩ | h
        · have := hc k ok hok hs ed h1 h2
          rw [h3, hi] at this; cases this
        · exact absurd hx ((Oper.apart_spec h).2.2 x hdst.symm)
    rw [this]; simp; omega

theorem Dr.tmp (D : Dr G ops st0 nid es) {S : Nat → Bool} (hc : Closed ops S) {i : Nat} {o : Oper} (ho : ops[i]? = some o) (hi : S i = false) (hd : ∀ e ∈ o.after, Region.binds .any e = true → S e.on = true)
    {x : Nat} (hx : x ∈ o.looksAt ops) : (stS st0 es fun j => decide (j < i)).t.getD x und = (stS st0 es S).t.getD x und := by
  rw [stS_t, stS_t, lastW_congr (f := fT x) (S := fun j => decide (j < i)) (S' := S) (es := es) (i := 0) fun k e he hn => ?_]
  rw [show 0 + k = k by omega]
  have : e.dst = some x := by
    simp only [fT] at hn
    by_cases h : e.dst = some x
    · exact h
    · simp [h] at hn
  exact (D.looks hc ho hi hd hx he this).symm

theorem Dr.blk (D : Dr G ops st0 nid es) {S : Nat → Bool} (hc : Closed ops S) {i : Nat} {o : Oper} {e : En} (ho : ops[i]? = some o) (he : es[i]? = some e) (hi : S i = false)
    (hd : ∀ e ∈ o.after, Region.binds .any e = true → S e.on = true) {id : Nat} (hid : id ∈ e.rd) : (stS st0 es fun j => decide (j < i)).h[id]? = (stS st0 es S).h[id]? := by
  rw [stS_h, stS_h, lastW_congr (f := fH id) (S := fun j => decide (j < i)) (S' := S) (es := es) (i := 0) fun k ek hek hn => ?_]
  rw [show 0 + k = k by omega]
  obtain ⟨ok, hok⟩ := D.op hek
  rcases Nat.lt_trichotomy k i with q | q | q
  · have : S k = true := by
      rcases (D.get i o e ho he).2 k ek q hek with h | ⟨h, _⟩
      · exact before_spec hc ho hd k h
      · exact absurd hid (h id hn).1
    rw [this]; simp [q]
  · subst q; rw [hi]; simp
  · have : S k = false := by
      cases hs : S k with
      | false => rfl
      | true =>
        rcases (D.get k ok ek hok hek).2 i e q he with h | ⟨_, h⟩
        · have := before_spec hc hok (hc k ok hok hs) i h
          rw [hi] at this; cases this
        · exact absurd (h id hid) hn
    rw [this]; simp; omega

/-- Who changes what operation i changes is ahead of it. -/
theorem Dr.wr (D : Dr G ops st0 nid es) {S : Nat → Bool} (hc : Closed ops S) {i : Nat} {e : En} (he : es[i]? = some e) (hi : S i = false)
    {id : Nat} (hid : updOf e.us id ≠ none) {k : Nat} {ek : En} (hk : i < k) (hek : es[k]? = some ek) (hn : updOf ek.us id ≠ none) : S k = false := by
  obtain ⟨ok, hok⟩ := D.op hek
  cases hs : S k with
  | false => rfl
  | true =>
    rcases (D.get k ok ek hok hek).2 i e hk he with h | ⟨h, _⟩
    · have := before_spec hc hok (hc k ok hok hs) i h
      rw [hi] at this; cases this
    · exact absurd (h id hid).2 hn

theorem Dr.dst (D : Dr G ops st0 nid es) {S : Nat → Bool} (hc : Closed ops S) {i : Nat} {o : Oper} {e : En} (ho : ops[i]? = some o) (he : es[i]? = some e) (hi : S i = false)
    {d : Nat} (hd : e.dst = some d) {k : Nat} {ek : En} (hk : i < k) (hek : es[k]? = some ek) (hn : ek.dst = some d) : S k = false := by
  obtain ⟨ok, hok⟩ := D.op hek
  have h1 := (D.get i o e ho he).1.1
  have h2 := (D.get k ok ek hok hek).1.1
  rw [hd] at h1; rw [hn] at h2
  cases hs : S k with
  | false => rfl
  | true =>
    rcases (D.lex i o ho).2 k ok hk hok with ⟨ed, q1, q2, q3⟩ | h
    · have := hc k ok hok hs ed q1 q2
      rw [q3, hi] at this; cases this
    · exact absurd h2.symm ((Oper.apart_spec h).2.1 d h1.symm)

/-- A block that is kept for operation i: who changes it is i, or is behind i and changes what i has changed. -/
theorem Dr.mine (D : Dr G ops st0 nid es) {i : Nat} {o : Oper} {e : En} (ho : ops[i]? = some o) (he : es[i]? = some e) {id : Nat} (h1 : nid + resvL (ops.toList.take i) ≤ id) (h2 : id < nid + resvL (ops.toList.take i) + resv o) :
    ∀ k, k ≤ es.length → (hAt (stS st0 es fun j => decide (j < k)).h id ≠ .rsv → i < k ∧ updOf e.us id ≠ none) := by
  have hoL : ops.toList[i]? = some o := by simpa using ho
  have hrange := resvL_take ops.toList i o hoL
  have h0 := D.rsv id (by omega) (by omega)
  intro k
  induction k with
  | zero => intro _ hn; rw [stS_none (by simp), hAt_some h0] at hn; exact absurd rfl hn
  | succ k ih =>
    intro hk hn
    have hklt : k < es.length := by omega
    have hek := List.getElem?_eq_getElem hklt
    obtain ⟨ok, hok⟩ := D.op hek
    have hstep : (stS st0 es fun j => decide (j < k + 1)).h = applyU (stS st0 es fun j => decide (j < k)).h es[k].us := by
      have := app_stS (st0 := st0) (S := fun j => decide (j < k)) (S' := fun j => decide (j < k + 1)) hek (fun j => by
        rw [Bool.eq_iff_iff]; simp only [decide_eq_true_eq, Bool.or_eq_true, Nat.beq_eq]; omega) (fun _ _ j _ hj _ _ => by simp; omega) (fun _ _ j _ hj _ _ => by simp; omega)
      rw [← this]; rfl
    have hus := (D.get k ok _ hok hek).1.2.1
    have hokL : ops.toList[k]? = some ok := by simpa using hok
    have hr2 := resvL_take ops.toList k ok hokL
    cases hu : updOf es[k].us id with
    | none =>
      have : hAt (stS st0 es fun j => decide (j < k)).h id ≠ .rsv := by
        rw [hstep] at hn
        simpa only [hAt, List.getD, applyU_get, hu] using hn
      obtain ⟨q1, q2⟩ := ih (by omega) this
      exact ⟨by omega, q2⟩
    | some b =>
      rcases Nat.lt_trichotomy k i with q | q | q
      · exfalso
        have := resvL_mono ops.toList (k + 1) i (by omega)
        rcases usOk_get hus id (by rw [hu]; simp) with ⟨_, r⟩ | ⟨r, _⟩ <;> omega
      · subst q
        rw [hek, Option.some.injEq] at he
        subst he
        exact ⟨by omega, by rw [hu]; simp⟩
      · have hm := resvL_mono ops.toList (i + 1) k (by omega)
        rcases usOk_get hus id (by rw [hu]; simp) with ⟨r, _⟩ | ⟨_, r⟩
        · omega
        · obtain ⟨q1, q2⟩ := ih (by omega) r
          exact ⟨by omega, q2⟩

theorem Dr.kept (D : Dr G ops st0 nid es) {S : Nat → Bool} (hc : Closed ops S) {i : Nat} {o : Oper} {e : En} (ho : ops[i]? = some o) (he : es[i]? = some e) (hi : S i = false) (j : Nat) (hj : j < resv o) :
    (stS st0 es S).h[nid + resvL (ops.toList.take i) + j]? = some .rsv := by
  have hoL : ops.toList[i]? = some o := by simpa using ho
  have hrange := resvL_take ops.toList i o hoL
  have h0 := D.rsv (nid + resvL (ops.toList.take i) + j) (by omega) (by omega)
  rw [stS_h, if_pos (getElem?_lt h0), hAt_some h0, lastW_none fun k ek hek hn => ?_]
  · rfl
  · rw [show 0 + k = k by omega]
    obtain ⟨ok, hok⟩ := D.op hek
    have hokL : ops.toList[k]? = some ok := by simpa using hok
    have hus := (D.get k ok _ hok hek).1.2.1
    have hr2 := resvL_take ops.toList k ok hokL
    rcases Nat.lt_trichotomy k i with q | q | q
    · exfalso
      have := resvL_mono ops.toList (k + 1) i (by omega)
      rcases usOk_get hus _ hn with ⟨_, r⟩ | ⟨r, _⟩ <;> omega
    · subst q; exact hi
    · have hm := resvL_mono ops.toList (i + 1) k (by omega)
      rcases usOk_get hus _ hn with ⟨r, _⟩ | ⟨_, r⟩
      · omega
      · obtain ⟨_, q2⟩ := D.mine ho he (by omega) (by omega) k (by have := getElem?_lt hek; omega) r
        exact D.wr hc he hi q2 q hek hn

theorem any_ok {X : Fx} (D : Dr X.G ops st0 nid es) {R : Type} {K : St → Option R} {r : R} {Q : Exit → Act → World → Prop} {b0 : List Blk} {L0 : List Loc}
    (hK : ∀ st L a w, RelP X b0 L0 st L a w → K st = some r → Q .normal a w) (hk : K (stS st0 es fun _ => true) = some r) :
    ∀ (fuel : Nat) (listed : Array Bool) (L : List Loc) (a : Act) (w : World), listed.size = ops.size → (listed.toList.countP fun b => !b) = fuel → Closed ops (fun i => listed.getD i false) →
      RelP X b0 L0 (stS st0 es fun i => listed.getD i false) L a w → wpAny X.G.P .any ops Q fuel listed a w := by
  have hall : ∀ (listed : Array Bool) (L : List Loc) (a : Act) (w : World), listed.size = ops.size → Region.ready .any ops listed = [] → RelP X b0 L0 (stS st0 es fun i => listed.getD i false) L a w → Q .normal a w := by
    intro listed L a w hsz hr hR
    have hS : ∀ k, k < ops.size → listed.getD k false = true := by
      intro k
      induction k using Nat.strongRecOn with
      | _ k ih =>
        intro hlt
        cases hb : listed.getD k false with
        | true => rfl
        | false =>
          have : k ∈ Region.ready .any ops listed := by
            refine mem_ready.2 ⟨?_, ops[k], Array.getElem?_eq_getElem hlt, fun e he hbd => ?_⟩
            · have : listed[k]? = some (listed[k]'(by omega)) := Array.getElem?_eq_getElem _
              simp only [Array.getD_eq_getD_getElem?, this, Option.getD_some] at hb ⊢
              exact hb
            · have := (D.lex k _ (Array.getElem?_eq_getElem hlt)).1 e he hbd
              exact ih _ this (by omega)
          rw [hr] at this; cases this
    refine hK _ L a w hR ?_
    rw [stS_congr (S' := fun _ => true) fun k hk => hS k (by rw [← D.len]; exact hk)]
    exact hk
  intro fuel
  induction fuel with
  | zero =>
    intro listed L a w hsz hcnt hc hR
    have hr : Region.ready .any ops listed = [] := by
      refine List.eq_nil_iff_forall_not_mem.2 fun k hkm => ?_
      obtain ⟨h1, o, ho, _⟩ := mem_ready.1 hkm
      have hlt := (Array.getElem?_eq_some_iff.1 ho).1
      have hlt' : k < listed.size := by omega
      rw [List.countP_eq_zero] at hcnt
      have := hcnt (listed[k]) (by simp)
      rw [Array.getD_eq_getD_getElem?, Array.getElem?_eq_getElem hlt', Option.getD_some] at h1
      rw [h1] at this; simp at this
    exact ⟨hr, hall listed L a w hsz hr hR⟩
  | succ fuel ih =>
    intro listed L a w hsz hcnt hc hR
    refine ⟨fun hr => hall listed L a w hsz hr hR, fun i hi => ?_⟩
    obtain ⟨h1, o, ho, hd⟩ := mem_ready.1 hi
    have hlt := (Array.getElem?_eq_some_iff.1 ho).1
    have hlt' : i < listed.size := by omega
    have hif : listed.getD i false = false := by
      rw [Array.getD_eq_getD_getElem?, Array.getElem?_eq_getElem hlt', Option.getD_some] at h1 ⊢
      exact h1
    obtain ⟨e, he⟩ := D.en ho
    obtain ⟨hen, _⟩ := D.get i o e ho he
    have hset : ∀ k, (listed.setIfInBounds i true).getD k false = (listed.getD k false || Nat.beq k i) := by
      intro k
      by_cases hki : i = k
      · subst hki; simp [hlt', Nat.beq_refl]
      · rw [getD_set_ne false hki]
        have : Nat.beq k i = false := by cases hb : Nat.beq k i; rfl; exact absurd (Nat.eq_of_beq_eq_true hb).symm hki
        rw [this]; simp
    have happ : app (stS st0 es fun i => listed.getD i false) e = stS st0 es fun k => (listed.setIfInBounds i true).getD k false :=
      app_stS he hset (fun d hd' j e' hj he' hn => D.dst hc ho he hif hd' hj he' hn) (fun id hid j e' hj he' hn => D.wr hc he hif hid hj he' hn)
    have hc' : Closed ops fun k => (listed.setIfInBounds i true).getD k false := by
      intro k ok hok hk ed hed hb
      have hk' : (listed.getD k false || Nat.beq k i) = true := by rw [← hset]; exact hk
      show (listed.setIfInBounds i true).getD ed.on false = true
      rw [hset]
      simp only [Bool.or_eq_true, Nat.beq_eq] at hk' ⊢
      rcases hk' with q | q
      · exact .inl (hc k ok hok q ed hed hb)
      · subst q
        rw [ho] at hok; simp only [Option.some.injEq] at hok; subst hok
        exact .inl (hd ed hed hb)
    have hcnt' : ((listed.setIfInBounds i true).toList.countP fun b => !b) = fuel := by
      have hl : listed.toList[i]? = some false := by
        rw [Array.getD_eq_getD_getElem?, Array.getElem?_eq_getElem hlt', Option.getD_some] at h1
        simp [hlt', h1]
      obtain ⟨e1, hil⟩ := list_split listed.toList i false hl
      rw [Array.toList_setIfInBounds, list_set_split _ _ _ hil, List.countP_append, List.countP_cons]
      rw [e1, List.countP_append, List.countP_cons] at hcnt
      simp at hcnt ⊢
      omega
    have hlook : ∀ x, x ∈ o.op.operands.toList → ∀ t, x = .tmp t → t ∈ o.looksAt ops := fun x hx t ht => by
      subst ht
      exact List.mem_append_left _ (List.mem_filterMap.2 ⟨_, hx, rfl⟩)
    have hgl : ∀ j want d, o.guard = some (j, want) → (ops[j]?).bind (·.dst) = some d → d ∈ o.looksAt ops := fun j want d hg hdd =>
      List.mem_append_right _ (by simp only [hg, hdd]; simp)
    unfold wpOp
    simp only [ho]
    rw [wanted_of hen hR.rel fun j want d hg hdd => D.tmp hc ho hif hd (hgl j want d hg hdd)]
    obtain ⟨hdst, hus, _, hran, hnot⟩ := hen
    cases hrn : e.ran with
    | true =>
      simp only [if_true]
      obtain ⟨hrd, hop⟩ := hran hrn
      refine op_step hop hR (fun x hx => ?_) (fun id hn => ?_) (fun k hk => D.kept hc ho he hif k hk) fun a' L' w' hR' => ?_
      · cases x with
        | tmp t => exact D.tmp hc ho hif hd (hlook _ hx t rfl)
        | _ => rfl
      · simp only [cond_true] at hn ⊢
        unfold restr at hn ⊢
        cases hm : memN id e.rd with
        | false => simp [hm] at hn
        | true =>
          simp only [hm, cond_true] at hn ⊢
          rw [← D.blk hc ho he hif hd (memN_iff.1 hm)]
          rcases Nat.lt_or_ge id (stS st0 es fun j => decide (j < i)).h.length with q | q
          · simp [hAt, List.getD, List.getElem?_eq_getElem q]
          · simp [hAt, List.getD, List.getElem?_eq_none q] at hn
      · rw [← hdst] at hR'
        have hR2 : RelP X b0 L0 (app (stS st0 es fun i => listed.getD i false) e) L' a' w' := hR'
        rw [happ] at hR2
        exact ih _ L' a' w' (by simp [hsz]) hcnt' hc' hR2
    | false =>
      simp only [Bool.false_eq_true, if_false]
      obtain ⟨g1, g2, _⟩ := hnot hrn
      have hR' := hR.skip o.dst
      have : app (stS st0 es fun i => listed.getD i false) e = ⟨putT (stS st0 es fun i => listed.getD i false).t o.dst und, (stS st0 es fun i => listed.getD i false).h⟩ := by simp only [app, g1, g2, hdst, applyU]
      rw [← this, happ] at hR'
      exact ih _ L _ w (by simp [hsz]) hcnt' hc' hR'
end

/-- More blocks, kept for what comes. -/
theorem RelP.more {X : Fx} {b0 : List Blk} {L0 : List Loc} {st : St} {L : List Loc} {a : Act} {w : World} (R : RelP X b0 L0 st L a w) (n : Nat) :
    RelP X b0 L0 ⟨st.t, st.h ++ List.replicate n .rsv⟩ (L ++ List.replicate n default) a w := by
  have I := R.rel.inv
  have hold : ∀ {i : Nat} {s : BSh}, ((st.h ++ List.replicate n Blk.rsv).map Blk.sh)[i]? = some s → s ≠ .rsv → (st.h.map Blk.sh)[i]? = some s := by
    intro i s hs hr
    rcases Nat.lt_or_ge i st.h.length with q | q
    · rw [List.map_append, List.getElem?_append_left (by simpa using q)] at hs; exact hs
    · rw [List.map_append, List.getElem?_append_right (by simpa using q)] at hs
      obtain ⟨b, hb, rfl⟩ := shAt' hs
      have := List.eq_of_mem_replicate (List.mem_of_getElem? hb)
      subst this
      exact absurd rfl hr
  have hL : ∀ {i : Nat}, i < st.h.length → (L ++ List.replicate n default)[i]? = L[i]? := fun hi => by rw [List.getElem?_append_left (by rw [I.len]; exact hi)]
  have hnr : ∀ {s : BSh} {p b o}, s.owns p b o → s ≠ .rsv := fun h e => by subst e; exact h.elim
  obtain ⟨I', hle⟩ := I.upd (h' := st.h ++ List.replicate n .rsv) (L' := L ++ List.replicate n default) (fun _ _ => False) (by simp [I.len]) (Step.refl _ w) (fun _ _ q => q.elim)
    (fun id s hs hr => by
      have hlt := getElem?_lt hs
      rw [List.length_map] at hlt
      exact .inl ⟨by rw [List.map_append, List.getElem?_append_left (by simpa using hlt)]; exact hs, hL hlt⟩)
    (fun b o ⟨id, s, p, g1, g2, g3⟩ => by
      have g1' := hold g1 (hnr g3)
      have hlt := getElem?_lt g1'
      rw [List.length_map] at hlt
      exact .inl ⟨id, s, p, g1', by rw [← hL hlt]; exact g2, g3⟩)
    (fun i j s t p q b o hij hs ht hp hq o1 o2 => by
      have hs' := hold hs (hnr o1)
      have ht' := hold ht (hnr o2)
      have h1 := getElem?_lt hs'
      have h2 := getElem?_lt ht'
      rw [List.length_map] at h1 h2
      rw [hL h1] at hp; rw [hL h2] at hq
      exact I.dis i j s t p q b o hij hs' ht' hp hq o1 o2)
    (fun _ id b p hb hp => by
      rcases Nat.lt_or_ge id st.h.length with q | q
      · rw [List.getElem?_append_left q] at hb
        rw [hL q] at hp
        exact .inl ⟨hb, hp, fun _ _ _ h => h⟩
      · rw [List.getElem?_append_right q] at hb
        have := List.eq_of_mem_replicate (List.mem_of_getElem? hb)
        subst this
        exact .inr trivial)
  refine ⟨⟨I', ⟨R.rel.tmp.1, fun i v x hv hx => Val.le hle _ _ (R.rel.tmp.2 i v x hv hx)⟩, R.rel.dfr⟩, fun i v hi => ?_⟩
  rcases R.pin i v hi with ⟨v', q1, q2, q3⟩ | q
  · have hlt := getElem?_lt q1
    exact .inl ⟨v', by rw [List.getElem?_append_left hlt]; exact q1, q2, by rw [hL hlt]; exact q3⟩
  · have hlt := getElem?_lt q
    exact .inr (by rw [List.getElem?_append_left hlt]; exact q)

theorem Inv.drew {X : Fx} {h : List Blk} {L : List Loc} {w : World} (I : Inv X h L w) (n : Nat) : Inv X h L { w with drawn := n } ∧ Cx.Le (cx X h L w) (cx X h L { w with drawn := n }) := by
  have I' := I.upd (h' := h) (L' := L) (fun _ _ => False) I.len (Step.drew _ w n) (fun _ _ q => q.elim) (fun _ s hs _ => .inl ⟨hs, rfl⟩) (fun b o q => .inl q) I.dis (fun _ id b p hb hp => .inl ⟨hb, hp, fun _ _ _ h => h⟩)
  exact I'

theorem RelP.drew {X : Fx} {b0 : List Blk} {L0 : List Loc} {st : St} {L : List Loc} {a : Act} {w : World} (R : RelP X b0 L0 st L a w) (n : Nat) : RelP X b0 L0 st L a { w with drawn := n } := by
  obtain ⟨I', hle⟩ := R.rel.inv.drew n
  exact ⟨⟨I', ⟨R.rel.tmp.1, fun i v x hv hx => Val.le hle _ _ (R.rel.tmp.2 i v x hv hx)⟩, R.rel.dfr⟩, R.pin⟩

theorem evR_ok {G : Gi} (hG : GOk G) (hm : G.P.follows .mixedOrders = true) {R : Type} {id : Nat} {ops : Array Oper} {draw : Bool} {K : St → Option R} {r : R} {st : St} (h : evR G ops draw K st = some r) :
    ∃ st', K st' = some r ∧ ∀ (X : Fx), X.G = G → ∀ (b0 : List Blk) (L0 L : List Loc) (a : Act) (w : World) (Q : Exit → Act → World → Prop), (∀ L a w, RelP X b0 L0 st' L a w → Q .normal a w) →
      RelP X b0 L0 st L a w → (Code.region id ops draw).wp G.P Q a w := by
  unfold evR at h
  obtain ⟨hlex, h⟩ := cond_none' h
  obtain ⟨es, htr, hk⟩ := evOps_tr hG _ _ _ _ _ h
  refine ⟨_, hk, fun X hXG => ?_⟩
  subst hXG
  intro b0 L0 L a w Q hK hR
  classical
  have hR' := hR.more (resvL ops.toList)
  have hrs : ∀ k, st.h.length ≤ k → k < st.h.length + resvL ops.toList → (st.h ++ List.replicate (resvL ops.toList) Blk.rsv)[k]? = some .rsv := by
    intro k h1 h2
    rw [List.getElem?_append_right h1, List.getElem?_replicate, if_pos (by omega)]
  cases draw with
  | false =>
    refine wp_region ?_
    have := seq_ok (K := fun st' => if st' = es.foldl app ⟨st.t, st.h ++ List.replicate (resvL ops.toList) Blk.rsv⟩ then some () else none) (fun st1 L a w hr he => by
      by_cases hs : st1 = es.foldl app ⟨st.t, st.h ++ List.replicate (resvL ops.toList) Blk.rsv⟩
      · subst hs; exact hK L a w hr
      · simp [hs] at he) (r := ()) ops.toList es 0 _ _ _ _ a w htr (by simp) (fun j => by simp) hR' hrs
    rw [List.range_eq_range']
    simpa using this
  | true =>
    simp only [Bool.true_and, Bool.not_eq_false'] at hlex
    simp only [Region.lexB, Bool.and_eq_true] at hlex
    simp only [cond_true] at htr
    obtain ⟨hlen, hget⟩ := Tr_get htr
    have hlen' : es.length = ops.size := by simpa using hlen
    have D : Dr X.G ops ⟨st.t, st.h ++ List.replicate (resvL ops.toList) Blk.rsv⟩ st.h.length es := by
      refine ⟨hlen', fun k o e ho he => ?_, fun i o ho => ?_, hrs⟩
      · obtain ⟨q1, _, q3⟩ := hget k o e (by simpa using ho) he
        rw [take_stS k (Nat.le_of_lt (getElem?_lt he))] at q1
        refine ⟨q1, fun j ej hj hej => ?_⟩
        have := q3 j ej hj hej
        simpa using this
      · exact lex_spec ops.size 0 _ (by simp) (by simp) (fun j hj => by simp [hj]) hlex.2 i o (Nat.zero_le _) ho
    refine wp_region_any hm ?_
    have hst : (stS ⟨st.t, st.h ++ List.replicate (resvL ops.toList) Blk.rsv⟩ es fun i => (Array.replicate ops.size false).getD i false) = ⟨st.t, st.h ++ List.replicate (resvL ops.toList) Blk.rsv⟩ :=
      stS_none fun k => by
        by_cases hk : k < ops.size <;> simp [hk]
    have hfin : es.foldl app ⟨st.t, st.h ++ List.replicate (resvL ops.toList) Blk.rsv⟩ = stS ⟨st.t, st.h ++ List.replicate (resvL ops.toList) Blk.rsv⟩ es fun _ => true := by
      have := take_stS (st0 := ⟨st.t, st.h ++ List.replicate (resvL ops.toList) Blk.rsv⟩) (es := es) es.length (Nat.le_refl _)
      rw [List.take_length] at this
      rw [this]
      exact stS_congr (S := fun k => decide (k < es.length)) fun k hk => by simpa using hk
    rw [hfin] at hK
    refine any_ok (K := fun st' => if st' = stS ⟨st.t, st.h ++ List.replicate (resvL ops.toList) Blk.rsv⟩ es (fun _ => true) then some () else none) D (fun st1 L a w hr he => by
      by_cases hs : st1 = stS ⟨st.t, st.h ++ List.replicate (resvL ops.toList) Blk.rsv⟩ es (fun _ => true)
      · subst hs; exact hK L a w hr
      · simp [hs] at he) (r := ()) (by simp) ops.size _ (L ++ List.replicate (resvL ops.toList) default) a _ (by simp) ?_ ?_ ?_
    · simp [Array.toList_replicate, List.countP_replicate]
    · intro i o _ hi
      have : (Array.replicate ops.size false).getD i false = false := by by_cases hk : i < ops.size <;> simp [hk]
      exact absurd (this.symm.trans hi) (by simp)
    · rw [hst]; exact hR'.drew _

end Go.Ev
