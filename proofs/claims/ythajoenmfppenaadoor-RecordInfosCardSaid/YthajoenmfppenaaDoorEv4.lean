/- An evaluator over abstract values: that a function is as the evaluator says, and a law's row. -/
import Derived.Test.YthajoenmfppenaaDoorEv3
import Derived.RowKit3
import Derived.LaidLaws
import Derived.OpenShut
import Derived.ChangeArms
import Derived.ChangeSlices
import Derived.ReadAgain
import Derived.Deep.Frames
import Derived.RowKit
namespace Go.Ev
def lastW {β : Type} (f : En → Option β) (S : Nat → Bool) : List En → Nat → Option β
  | [], _ => none
  | e :: es, i => match lastW f S es (i + 1) with
    | some b => some b
    | none => if S i then f e else none
theorem lastW_congr {β : Type} {f : En → Option β} {S S' : Nat → Bool} : ∀ {es : List En} {i : Nat}, (∀ (k : Nat) e, es[k]? = some e → f e ≠ none → S (i + k) = S' (i + k)) → lastW f S es i = lastW f S' es i
  | [], _, _ => rfl
  | e :: es, i, h => by
    have ih := lastW_congr (f := f) (S := S) (S' := S') (es := es) (i := i + 1) fun k e' he hn => by
      have := h (k + 1) e' (by simpa using he) hn
      rw [show i + 1 + k = i + (k + 1) by omega]; exact this
    simp only [lastW, ih]
    cases lastW f S' es (i + 1) with
    | some b => rfl
    | none =>
      cases hf : f e with
      | none => simp
      | some b => rw [show S i = S' i from h 0 e (by simp) (by rw [hf]; simp)]
theorem lastW_none {β : Type} {f : En → Option β} {S : Nat → Bool} : ∀ {es : List En} {i : Nat}, (∀ (k : Nat) e, es[k]? = some e → f e ≠ none → S (i + k) = false) → lastW f S es i = none
  | [], _, _ => rfl
  | e :: es, i, h => by
    have ih := lastW_none (f := f) (S := S) (es := es) (i := i + 1) fun k e' he hn => by
      have := h (k + 1) e' (by simpa using he) hn
      rw [show i + 1 + k = i + (k + 1) by omega]; exact this
    simp only [lastW, ih]
    cases hf : f e with
    | none => simp
    | some b => rw [show S i = false from h 0 e (by simp) (by rw [hf]; simp)]; rfl
theorem lastW_top {β : Type} {f : En → Option β} {S : Nat → Bool} {b : β} : ∀ {es : List En} {i k : Nat} {e : En}, es[k]? = some e → f e = some b → S (i + k) = true →
    (∀ (j : Nat) e', k < j → es[j]? = some e' → f e' ≠ none → S (i + j) = false) → lastW f S es i = some b
  | [], _, _, _, h, _, _, _ => by simp at h
  | e0 :: es, i, 0, e, h, hf, hs, hn => by
    simp only [List.getElem?_cons_zero, Option.some.injEq] at h
    subst h
    have : lastW f S es (i + 1) = none := lastW_none fun k e' he hne => by
      have := hn (k + 1) e' (by omega) (by simpa using he) hne
      rw [show i + 1 + k = i + (k + 1) by omega]; exact this
    simp only [lastW, this]
    rw [show S i = true from hs]; simpa using hf
  | e0 :: es, i, k + 1, e, h, hf, hs, hn => by
    have ih := lastW_top (f := f) (S := S) (es := es) (i := i + 1) (k := k) (e := e) (by simpa using h) hf (by rw [show i + 1 + k = i + (k + 1) by omega]; exact hs) fun j e' hj he hne => by
      have := hn (j + 1) e' (by omega) (by simpa using he) hne
      rw [show i + 1 + j = i + (j + 1) by omega]; exact this
    simp only [lastW, ih]
theorem lastW_add {β : Type} {f : En → Option β} {S S' : Nat → Bool} {es : List En} {i : Nat} {e : En} (he : es[i]? = some e) (hS : ∀ k, S' k = (S k || Nat.beq k i))
    (hn : f e ≠ none → ∀ (j : Nat) e', i < j → es[j]? = some e' → f e' ≠ none → S j = false) : lastW f S' es 0 = match f e with | some b => some b | none => lastW f S es 0 := by
  cases hf : f e with
  | some b =>
    refine lastW_top (k := i) he hf (by rw [hS]; simp [Nat.beq_refl]) fun j e' hj he' hne => ?_
    rw [hS]
    have : Nat.beq (0 + j) i = false := by cases hb : Nat.beq (0 + j) i; rfl; have := Nat.eq_of_beq_eq_true hb; omega
    rw [this, show 0 + j = j by omega, hn (by rw [hf]; simp) j e' hj he' hne]; rfl
  | none =>
    refine lastW_congr fun k e' he' hne => ?_
    rw [hS]
    have : Nat.beq (0 + k) i = false := by
      cases hb : Nat.beq (0 + k) i
      · rfl
      · have := Nat.eq_of_beq_eq_true hb
        have hk : k = i := by omega
        subst hk
        rw [he] at he'; simp only [Option.some.injEq] at he'; subst he'
        exact absurd hf hne
    rw [this]; simp
def fT (x : Nat) (e : En) : Option AV := if e.dst = some x then some e.v else none
def fH (id : Nat) (e : En) : Option Blk := updOf e.us id
def stS (st0 : St) (es : List En) (S : Nat → Bool) : St :=
  ⟨(List.range st0.t.length).map fun x => (lastW (fT x) S es 0).getD (st0.t.getD x und), (List.range st0.h.length).map fun id => (lastW (fH id) S es 0).getD (hAt st0.h id)⟩
theorem stS_t {st0 : St} {es : List En} {S : Nat → Bool} (x : Nat) : (stS st0 es S).t.getD x und = if x < st0.t.length then (lastW (fT x) S es 0).getD (st0.t.getD x und) else und := by
  simp only [stS, List.getD, List.getElem?_map]
  by_cases hx : x < st0.t.length
  · rw [List.getElem?_range hx, if_pos hx]; rfl
  · rw [List.getElem?_eq_none (by simpa using hx), if_neg hx]; rfl
theorem stS_h {st0 : St} {es : List En} {S : Nat → Bool} (id : Nat) : (stS st0 es S).h[id]? = if id < st0.h.length then some ((lastW (fH id) S es 0).getD (hAt st0.h id)) else none := by
  simp only [stS, List.getElem?_map]
  by_cases hx : id < st0.h.length
  · rw [List.getElem?_range hx, if_pos hx]; rfl
  · rw [List.getElem?_eq_none (by simpa using hx), if_neg hx]; rfl
theorem stS_congr {st0 : St} {es : List En} {S S' : Nat → Bool} (h : ∀ k, k < es.length → S k = S' k) : stS st0 es S = stS st0 es S' := by
  unfold stS
  congr 1
  · refine List.map_congr_left fun x _ => ?_
    rw [lastW_congr (f := fT x) (S := S) (S' := S') (es := es) (i := 0) fun k e he _ => by simpa using h k (getElem?_lt he)]
  · refine List.map_congr_left fun x _ => ?_
    rw [lastW_congr (f := fH x) (S := S) (S' := S') (es := es) (i := 0) fun k e he _ => by simpa using h k (getElem?_lt he)]
theorem stS_none {st0 : St} {es : List En} {S : Nat → Bool} (h : ∀ k, S k = false) : stS st0 es S = st0 := by
  obtain ⟨t, hh⟩ := st0
  unfold stS
  congr 1
  · apply List.ext_getElem?
    intro x
    simp only [List.getElem?_map]
    have hn : ∀ x, lastW (fT x) S es 0 = none := fun x => lastW_none fun k e _ _ => h _
    simp only [hn]
    by_cases hx : x < t.length
    · rw [List.getElem?_range hx]; simp [List.getD, hx]
    · rw [List.getElem?_eq_none (by simpa using hx), List.getElem?_eq_none (by simpa using hx)]; rfl
  · apply List.ext_getElem?
    intro x
    simp only [List.getElem?_map]
    have hn : ∀ x, lastW (fH x) S es 0 = none := fun x => lastW_none fun k e _ _ => h _
    simp only [hn]
    by_cases hx : x < hh.length
    · rw [List.getElem?_range hx]; simp [hAt, List.getD, hx]
    · rw [List.getElem?_eq_none (by simpa using hx), List.getElem?_eq_none (by simpa using hx)]; rfl
theorem app_stS {st0 : St} {es : List En} {S S' : Nat → Bool} {i : Nat} {e : En} (he : es[i]? = some e) (hS : ∀ k, S' k = (S k || Nat.beq k i))
    (ht : ∀ d, e.dst = some d → ∀ (j : Nat) e', i < j → es[j]? = some e' → e'.dst = some d → S j = false)
    (hh : ∀ id, updOf e.us id ≠ none → ∀ (j : Nat) e', i < j → es[j]? = some e' → updOf e'.us id ≠ none → S j = false) : app (stS st0 es S) e = stS st0 es S' := by
  have h1 : putT (stS st0 es S).t e.dst e.v = (stS st0 es S').t := by
    apply List.ext_getElem?
    intro x
    have key : ∀ S, (stS st0 es S).t[x]? = if x < st0.t.length then some ((lastW (fT x) S es 0).getD (st0.t.getD x und)) else none := by
      intro S
      simp only [stS, List.getElem?_map]
      by_cases hx : x < st0.t.length
      · rw [List.getElem?_range hx, if_pos hx]; rfl
      · rw [List.getElem?_eq_none (by simpa using hx), if_neg hx]; rfl
    rw [key S', lastW_add he hS (f := fT x) (by
      intro hn j e' hj he' hne
      simp only [fT] at hn hne
      by_cases h1 : e.dst = some x
      · by_cases h2 : e'.dst = some x
        · exact ht x h1 j e' hj he' h2
        · simp [h2] at hne
      · simp [h1] at hn)]
    cases hd : e.dst with
    | none => simp only [putT, fT, hd, reduceCtorEq, if_false]; exact key S
    | some d =>
      simp only [putT, fT, hd, Option.some.injEq]
      by_cases hdx : d = x
      · subst hdx
        simp only [if_true, List.getElem?_set, Option.getD_some]
        have : (stS st0 es S).t.length = st0.t.length := by simp [stS]
        rw [this]
      · simp only [hdx, if_false]
        rw [List.getElem?_set_ne hdx]; exact key S
  have h2 : applyU (stS st0 es S).h e.us = (stS st0 es S').h := by
    apply List.ext_getElem?
    intro id
    rw [applyU_get, stS_h, stS_h, lastW_add he hS (f := fH id) (fun hn j e' hj he' hne => hh id hn j e' hj he' hne)]
    have : (stS st0 es S).h.length = st0.h.length := by simp [stS]
    rw [this]
    simp only [fH]
    cases hu : updOf e.us id with
    | none => rfl
    | some b => rfl
  unfold app
  rw [h1, h2]
theorem take_stS {st0 : St} {es : List En} : ∀ (i : Nat), i ≤ es.length → (es.take i).foldl app st0 = stS st0 es (fun k => decide (k < i))
  | 0, _ => by rw [stS_none (by simp)]; rfl
  | i + 1, hi => by
    have hlt : i < es.length := by omega
    have ih := take_stS (st0 := st0) (es := es) i (by omega)
    rw [List.take_succ_eq_append_getElem hlt, List.foldl_append, ih]
    simp only [List.foldl_cons, List.foldl_nil]
    refine app_stS (List.getElem?_eq_getElem hlt) (fun k => ?_) (fun _ _ j _ hj _ _ => by simp; omega) (fun _ _ j _ hj _ _ => by simp; omega)
    rw [Bool.eq_iff_iff]
    simp only [decide_eq_true_eq, Bool.or_eq_true, Nat.beq_eq]
    omega
def fpPair (bits : Nat) (e : En) (j : Nat) (ej : En) : Prop := (bits.testBit j = true ∨ ((∀ x, updOf ej.us x ≠ none → x ∉ e.rd ∧ updOf e.us x = none) ∧ ∀ x ∈ ej.rd, updOf e.us x = none)) ∧
  (ej.ks = true ∨ ∀ x ∈ e.sr, updOf ej.us x = none) ∧ (bits.testBit j = true ∨ (e.ks = true ∨ ∀ x ∈ ej.sr, updOf e.us x = none))
theorem disjN_spec : ∀ {l m : List Nat}, disjN l m = true → ∀ x ∈ l, x ∉ m
  | [], _, _, x, hx => by simp at hx
  | n :: l, m, h, x, hx => by
    simp only [disjN, Bool.and_eq_true, Bool.not_eq_true'] at h
    simp only [List.mem_cons] at hx
    rcases hx with rfl | hx
    · intro hm; rw [memN_iff.2 hm] at h; simp at h
    · exact disjN_spec h.2 x hx
theorem updOf_ids {us : List (Nat × Blk)} {x : Nat} (h : updOf us x ≠ none) : x ∈ ids us := by
  induction us with
  | nil => exact absurd rfl h
  | cons u us ih =>
    obtain ⟨i, b⟩ := u
    simp only [updOf] at h
    cases hu : updOf us x with
    | some y => exact List.mem_cons_of_mem _ (ih (by rw [hu]; simp))
    | none =>
      simp only [hu] at h
      by_cases hi : i = x
      · subst hi; simp [ids]
      · simp [hi] at h
theorem disj_upd {us : List (Nat × Blk)} {m : List Nat} (h : disjN (ids us) m = true) : ∀ x ∈ m, updOf us x = none := by
  intro x hx
  cases hu : updOf us x with
  | none => rfl
  | some b => exact absurd hx (disjN_spec h x (updOf_ids (by rw [hu]; simp)))
theorem fpPair_of {bits : Nat} {e : En} : ∀ {fs : List FP}, fpOk bits e.rd (ids e.us) e.sr e.ks fs = true → disjN (ids e.us) e.sr = true ∧
    ∀ f ∈ fs, (bits.testBit f.i = true ∨ (disjN f.wr (e.rd ++ ids e.us) = true ∧ disjN f.rd (ids e.us) = true)) ∧ (f.ks = true ∨ disjN f.wr e.sr = true) ∧ (bits.testBit f.i = true ∨ (e.ks = true ∨ disjN (ids e.us) f.sr = true))
  | [], h => ⟨h, fun f hf => by simp at hf⟩
  | g :: fs, h => by
    simp only [fpOk, Bool.and_eq_true, Bool.or_eq_true] at h
    obtain ⟨h1, h2, h3, h4⟩ := h
    obtain ⟨q1, q2⟩ := fpPair_of h4
    refine ⟨q1, fun f hf => ?_⟩
    simp only [List.mem_cons] at hf
    rcases hf with rfl | hf
    · exact ⟨h1, h2, h3⟩
    · exact q2 f hf
theorem Tr_get {G : Gi} {ops : Array Oper} {bef : Array Nat} : ∀ {l : List Oper} {es : List En} {i nid : Nat} {fps : List FP} {st : St}, Tr G ops true bef l es i nid fps st → es.length = l.length ∧
    ∀ (k : Nat) o e, l[k]? = some o → es[k]? = some e → EnOk G ops true o (nid + resvL (l.take k)) ((es.take k).foldl app st) e ∧ disjN (ids e.us) e.sr = true ∧
      (∀ f ∈ fps, ((bef.getD (i + k) 0).testBit f.i = true ∨ (disjN f.wr (e.rd ++ ids e.us) = true ∧ disjN f.rd (ids e.us) = true)) ∧ (f.ks = true ∨ disjN f.wr e.sr = true) ∧ ((bef.getD (i + k) 0).testBit f.i = true ∨ (e.ks = true ∨ disjN (ids e.us) f.sr = true))) ∧
      ∀ (j : Nat) ej, j < k → es[j]? = some ej → fpPair (bef.getD (i + k) 0) e (i + j) ej
  | [], [], _, _, _, _, _ => ⟨rfl, fun k o e h _ => by simp at h⟩
  | o0 :: l, e0 :: es, i, nid, fps, st, ⟨h1, h2, h3⟩ => by
    obtain ⟨q1, q2⟩ := Tr_get h3
    refine ⟨by simp [q1], fun k o e hk he => ?_⟩
    cases k with
    | zero =>
      simp only [List.getElem?_cons_zero, Option.some.injEq] at hk he
      subst hk; subst he
      obtain ⟨g1, g2⟩ := fpPair_of (h2 rfl)
      exact ⟨by simpa [resvL] using h1, g1, g2, fun j ej hj => by omega⟩
    | succ k =>
      simp only [List.getElem?_cons_succ] at hk he
      obtain ⟨r1, r0, r2, r3⟩ := q2 k o e hk he
      rw [show i + 1 + k = i + (k + 1) by omega] at r2 r3
      refine ⟨?_, r0, fun f hf => r2 f (by simp [hf]), fun j ej hj hej => ?_⟩
      · simp only [List.take_succ_cons, List.foldl_cons, resvL]
        rw [← Nat.add_assoc]; exact r1
      · cases j with
        | zero =>
          simp only [List.getElem?_cons_zero, Option.some.injEq] at hej
          subst hej
          obtain ⟨a1, a2, a3⟩ := r2 ⟨i, e0.rd, ids e0.us, e0.sr, e0.ks⟩ (by simp)
          refine ⟨?_, ?_, ?_⟩
          · rcases a1 with q | ⟨q, q'⟩
            · exact .inl q
            · have d1 := disjN_spec q
              have d2 := disjN_spec q'
              refine .inr ⟨fun x hx => ?_, fun x hx => ?_⟩
              · have := d1 x (updOf_ids hx)
                simp only [List.mem_append, not_or] at this
                refine ⟨this.1, ?_⟩
                cases hu : updOf e.us x with
                | none => rfl
                | some b => exact absurd (updOf_ids (by rw [hu]; simp)) this.2
              · cases hu : updOf e.us x with
                | none => rfl
                | some b => exact absurd (updOf_ids (by rw [hu]; simp)) (d2 x hx)
          · rcases a2 with q | q
            · exact .inl q
            · exact .inr (disj_upd q)
          · rcases a3 with q | q | q
            · exact .inl q
            · exact .inr (.inl q)
            · exact .inr (.inr (disj_upd q))
        | succ j =>
          simp only [List.getElem?_cons_succ] at hej
          have := r3 j ej (by omega) hej
          rwa [show i + 1 + j = i + (j + 1) by omega] at this
  | [], _ :: _, _, _, _, _, h => h.elim
  | _ :: _, [], _, _, _, _, h => h.elim
theorem lex_spec {ops : Array Oper} : ∀ (n k : Nat) (listed : Array Bool), n + k = ops.size → listed.size = ops.size → (∀ j, j < ops.size → listed.getD j false = decide (j < k)) → Region.lexFrom .any ops n k listed = true →
    ∀ (i : Nat) o, k ≤ i → ops[i]? = some o → (∀ e ∈ o.after, Region.binds .any e = true → e.on < i) ∧
      ∀ (j : Nat) oj, i < j → ops[j]? = some oj → (∃ e ∈ oj.after, Region.binds .any e = true ∧ e.on = i) ∨ o.apart ops oj = true
  | 0, k, listed, hn, _, _, _, i, o, hi, ho => by
    have := (Array.getElem?_eq_some_iff.1 ho).1
    omega
  | n + 1, k, listed, hn, hsz, hl, h, i, o, hi, ho => by
    simp only [Region.lexFrom, Bool.and_eq_true] at h
    obtain ⟨⟨hr, hf⟩, hrest⟩ := h
    have hk : k < ops.size := by omega
    rcases Nat.lt_or_ge k i with hlt | hge
    · refine lex_spec n (k + 1) _ (by omega) (by simp [hsz]) (fun j hj => ?_) hrest i o (by omega) ho
      by_cases hjk : k = j
      · subst hjk
        simp [hsz, hk]
      · rw [getD_set_ne false hjk, hl j hj]
        rw [Bool.eq_iff_iff]; simp only [decide_eq_true_eq]; omega
    · have : i = k := by omega
      subst this
      have hr' : i ∈ Region.ready .any ops listed := by simpa using hr
      obtain ⟨_, o', ho', hall⟩ := mem_ready.1 hr'
      rw [ho] at ho'; simp only [Option.some.injEq] at ho'; subst ho'
      constructor
      · intro e he hb
        have h1 := hall e he hb
        rcases Nat.lt_or_ge e.on ops.size with q | q
        · rw [hl _ q] at h1; simpa using h1
        · simp [Array.getElem?_eq_none (hsz ▸ q)] at h1
      · intro j oj hj hoj
        by_cases hex : ∃ e ∈ oj.after, Region.binds .any e = true ∧ e.on = i
        · exact .inl hex
        · refine .inr (Region.free_spec ho hf j oj hoj (by omega) ?_ fun e he hb hon => hex ⟨e, he, hb, hon⟩)
          have hjs := (Array.getElem?_eq_some_iff.1 hoj).1
          have h1 := hl j hjs
          have : listed[j]? = some (listed[j]'(by omega)) := Array.getElem?_eq_getElem _
          simp only [Array.getD_eq_getD_getElem?, this, Option.getD_some] at h1 ⊢
          rw [h1]; simp; omega
def Closed (ops : Array Oper) (S : Nat → Bool) : Prop := ∀ (i : Nat) o, ops[i]? = some o → S i = true → ∀ e ∈ o.after, Region.binds .any e = true → S e.on = true
theorem before_fold {ops : Array Oper} {S : Nat → Bool} (hS : Closed ops S) : ∀ (l pre : List Oper) (acc : Array Nat), pre ++ l = ops.toList → acc.size = pre.length →
    (∀ (i : Nat) o, pre[i]? = some o → (∀ e ∈ o.after, Region.binds .any e = true → S e.on = true) → ∀ j, (acc.getD i 0).testBit j = true → S j = true) →
    ∀ (i : Nat) o, ops[i]? = some o → (∀ e ∈ o.after, Region.binds .any e = true → S e.on = true) →
      ∀ j, ((l.foldl (fun acc o => acc.push (o.after.foldl (fun s e => if Region.binds .any e then s ||| 2 ^ e.on ||| acc.getD e.on 0 else s) 0)) acc).getD i 0).testBit j = true → S j = true
  | [], pre, acc, hl, hsz, hp, i, o, ho, hd, j, hj => by
    simp only [List.append_nil] at hl
    refine hp i o ?_ hd j hj
    rw [hl]; simpa using ho
  | x :: l, pre, acc, hl, hsz, hp, i, o, ho, hd, j, hj => by
    simp only [List.foldl_cons] at hj
    refine before_fold hS l (pre ++ [x]) _ (by simpa using hl) (by simp [hsz]) (fun k o' hk hdk j' hj' => ?_) i o ho hd j hj
    rcases Nat.lt_or_ge k pre.length with hlt | hge
    · rw [List.getElem?_append_left hlt] at hk
      refine hp k o' hk hdk j' ?_
      rw [Array.getD_eq_getD_getElem?, Array.getElem?_push, if_neg (by omega)] at hj'
      rw [Array.getD_eq_getD_getElem?]; exact hj'
    · rw [List.getElem?_append_right hge] at hk
      have hk0 : k = pre.length := by
        have := getElem?_lt hk
        simp at this; omega
      subst hk0
      simp only [Nat.sub_self, List.getElem?_cons_zero, Option.some.injEq] at hk
      subst hk
      rw [Array.getD_eq_getD_getElem?, Array.getElem?_push, if_pos (by omega), Option.getD_some, ← Array.foldl_toList] at hj'
      have aux : ∀ (es : List Edge) (s : Nat), (∀ e ∈ es, e ∈ x.after) → (∀ j, s.testBit j = true → S j = true) → ∀ j,
          (es.foldl (fun s e => if Region.binds .any e then s ||| 2 ^ e.on ||| acc.getD e.on 0 else s) s).testBit j = true → S j = true := by
        intro es
        induction es with
        | nil => intro s _ hs j hj; exact hs j hj
        | cons e es ih =>
          intro s hm hs j hj
          simp only [List.foldl_cons] at hj
          refine ih _ (fun e' he' => hm e' (by simp [he'])) (fun j hj => ?_) j hj
          split at hj
          · rename_i hb
            have hon := hdk e (hm e (by simp)) hb
            simp only [Nat.testBit_or, Bool.or_eq_true] at hj
            rcases hj with (hj | hj) | hj
            · exact hs j hj
            · rw [Nat.testBit_two_pow] at hj
              have : e.on = j := by simpa using hj
              rw [← this]; exact hon
            · rcases Nat.lt_or_ge e.on pre.length with q | q
              · have hpe : pre[e.on]? = some pre[e.on] := List.getElem?_eq_getElem q
                have hoe : ops[e.on]? = some pre[e.on] := by
                  have : ops.toList[e.on]? = some pre[e.on] := by rw [← hl, List.getElem?_append_left q]; exact hpe
                  simpa using this
                exact hp e.on _ hpe (hS e.on _ hoe hon) j hj
              · rw [Array.getD_eq_getD_getElem?, Array.getElem?_eq_none (by omega)] at hj
                simp at hj
          · exact hs j hj
      exact aux x.after.toList 0 (fun e he => by simpa using he) (fun j hj => by simp at hj) j' hj'
theorem before_spec {ops : Array Oper} {S : Nat → Bool} (hS : Closed ops S) {i : Nat} {o : Oper} (ho : ops[i]? = some o) (hd : ∀ e ∈ o.after, Region.binds .any e = true → S e.on = true) (j : Nat)
    (hj : ((Region.before ops).getD i 0).testBit j = true) : S j = true := by
  refine before_fold hS ops.toList [] #[] (by simp) rfl (fun i o h => by simp at h) i o ho hd j ?_
  unfold Region.before at hj
  rw [← Array.foldl_toList] at hj
  exact hj
end Go.Ev
namespace Go.Ev
structure Dr (G : Gi) (ops : Array Oper) (st0 : St) (nid : Nat) (es : List En) : Prop where
  len : es.length = ops.size
  get : ∀ (k : Nat) o e, ops[k]? = some o → es[k]? = some e → EnOk G ops true o (nid + resvL (ops.toList.take k)) (stS st0 es fun j => decide (j < k)) e ∧ disjN (ids e.us) e.sr = true ∧
    ∀ (j : Nat) ej, j < k → es[j]? = some ej → fpPair ((Region.before ops).getD k 0) e j ej
  lex : ∀ (i : Nat) o, ops[i]? = some o → (∀ e ∈ o.after, Region.binds .any e = true → e.on < i) ∧
    ∀ (j : Nat) oj, i < j → ops[j]? = some oj → (∃ e ∈ oj.after, Region.binds .any e = true ∧ e.on = i) ∨ o.apart ops oj = true
  rsv : ∀ k, nid ≤ k → k < nid + resvL ops.toList → st0.h[k]? = some .rsv
theorem resvL_take (l : List Oper) : ∀ (k : Nat) o, l[k]? = some o → resvL (l.take k) + resv o = resvL (l.take (k + 1)) ∧ resvL (l.take (k + 1)) ≤ resvL l := by
  induction l with
  | nil => intro k o h; simp at h
  | cons a l ih =>
    intro k o h
    cases k with
    | zero => simp only [List.getElem?_cons_zero, Option.some.injEq] at h; subst h; simp [resvL]
    | succ k =>
      simp only [List.getElem?_cons_succ] at h
      obtain ⟨h1, h2⟩ := ih k o h
      simp only [List.take_succ_cons, resvL] at *
      omega
theorem resvL_mono (l : List Oper) : ∀ (i j : Nat), i ≤ j → resvL (l.take i) ≤ resvL (l.take j) := by
  induction l with
  | nil => intro i j _; simp [resvL]
  | cons a l ih =>
    intro i j hij
    cases i with
    | zero => simp [resvL]
    | succ i =>
      cases j with
      | zero => omega
      | succ j =>
        have := ih i j (by omega)
        simp only [List.take_succ_cons, resvL]; omega
section
variable {G : Gi} {ops : Array Oper} {st0 : St} {nid : Nat} {es : List En}
theorem Dr.en (D : Dr G ops st0 nid es) {k : Nat} {o : Oper} (ho : ops[k]? = some o) : ∃ e, es[k]? = some e := by
  have := (Array.getElem?_eq_some_iff.1 ho).1
  exact ⟨_, List.getElem?_eq_getElem (by rw [D.len]; exact this)⟩
theorem Dr.op (D : Dr G ops st0 nid es) {k : Nat} {e : En} (he : es[k]? = some e) : ∃ o, ops[k]? = some o := by
  have := getElem?_lt he
  rw [D.len] at this
  exact ⟨_, Array.getElem?_eq_getElem this⟩
theorem Dr.looks (D : Dr G ops st0 nid es) {S : Nat → Bool} (hc : Closed ops S) {i : Nat} {o : Oper} (ho : ops[i]? = some o) (hi : S i = false) (hd : ∀ e ∈ o.after, Region.binds .any e = true → S e.on = true)
    {x : Nat} (hx : x ∈ o.looksAt ops) {k : Nat} {e : En} (he : es[k]? = some e) (hk : e.dst = some x) : S k = decide (k < i) := by
  obtain ⟨ok, hok⟩ := D.op he
  have hdst := (D.get k ok e hok he).1.1
  rw [hk] at hdst
  rcases Nat.lt_trichotomy k i with q | q | q
  · have : S k = true := by
      rcases (D.lex k ok hok).2 i o q ho with ⟨ed, h1, h2, h3⟩ | h
      · rw [← h3]; exact hd ed h1 h2
      · exact absurd hx ((Oper.apart_spec h).1 x hdst.symm)
    rw [this]; simp [q]
  · subst q; rw [hi]; simp
  · have : S k = false := by
      cases hs : S k with
      | false => rfl
      | true =>
        rcases (D.lex i o ho).2 k ok q hok with ⟨ed, h1, h2, h3⟩ | h
        · have := hc k ok hok hs ed h1 h2
          rw [h3, hi] at this; cases this
        · exact absurd hx ((Oper.apart_spec h).2.2 x hdst.symm)
    rw [this]; simp; omega
theorem Dr.tmp (D : Dr G ops st0 nid es) {S : Nat → Bool} (hc : Closed ops S) {i : Nat} {o : Oper} (ho : ops[i]? = some o) (hi : S i = false) (hd : ∀ e ∈ o.after, Region.binds .any e = true → S e.on = true)
    {x : Nat} (hx : x ∈ o.looksAt ops) : (stS st0 es fun j => decide (j < i)).t.getD x und = (stS st0 es S).t.getD x und := by
  rw [stS_t, stS_t, lastW_congr (f := fT x) (S := fun j => decide (j < i)) (S' := S) (es := es) (i := 0) fun k e he hn => ?_]
  rw [show 0 + k = k by omega]
  have : e.dst = some x := by
    simp only [fT] at hn
    by_cases h : e.dst = some x
    · exact h
    · simp [h] at hn
  exact (D.looks hc ho hi hd hx he this).symm
theorem Dr.blk (D : Dr G ops st0 nid es) {S : Nat → Bool} (hc : Closed ops S) {i : Nat} {o : Oper} {e : En} (ho : ops[i]? = some o) (he : es[i]? = some e) (hi : S i = false)
    (hd : ∀ e ∈ o.after, Region.binds .any e = true → S e.on = true) {id : Nat} (hid : id ∈ e.rd) : (stS st0 es fun j => decide (j < i)).h[id]? = (stS st0 es S).h[id]? := by
  rw [stS_h, stS_h, lastW_congr (f := fH id) (S := fun j => decide (j < i)) (S' := S) (es := es) (i := 0) fun k ek hek hn => ?_]
  rw [show 0 + k = k by omega]
  obtain ⟨ok, hok⟩ := D.op hek
  rcases Nat.lt_trichotomy k i with q | q | q
  · have : S k = true := by
      rcases ((D.get i o e ho he).2.2 k ek q hek).1 with h | ⟨h, _⟩
      · exact before_spec hc ho hd k h
      · exact absurd hid (h id hn).1
    rw [this]; simp [q]
  · subst q; rw [hi]; simp
  · have : S k = false := by
      cases hs : S k with
      | false => rfl
      | true =>
        rcases ((D.get k ok ek hok hek).2.2 i e q he).1 with h | ⟨_, h⟩
        · have := before_spec hc hok (hc k ok hok hs) i h
          rw [hi] at this; cases this
        · exact absurd (h id hid) hn
    rw [this]; simp; omega
theorem lastW_in {β : Type} {f : En → Option β} {S : Nat → Bool} {b : β} : ∀ {es : List En} {i : Nat}, lastW f S es i = some b → ∃ (k : Nat) (e : En), es[k]? = some e ∧ f e = some b ∧ S (i + k) = true
  | [], _, h => by simp [lastW] at h
  | e :: es, i, h => by
    simp only [lastW] at h
    cases hl : lastW f S es (i + 1) with
    | some b' =>
      rw [hl] at h
      obtain ⟨k, e', h1, h2, h3⟩ := lastW_in hl
      exact ⟨k + 1, e', by simpa using h1, h2.trans h, by rw [show i + (k + 1) = i + 1 + k by omega]; exact h3⟩
    | none =>
      rw [hl] at h
      simp only at h
      split at h
      · rename_i hs; exact ⟨0, e, rfl, h, hs⟩
      · cases h
theorem Dr.shp (D : Dr G ops st0 nid es) {i : Nat} {o : Oper} {e : En} (ho : ops[i]? = some o) (he : es[i]? = some e) {id : Nat} (hid : id ∈ e.sr) {S : Nat → Bool} (hc : Closed ops S) (hi : S i = false) : (hAt (stS st0 es S).h id).sh = (hAt st0.h id).sh := by
  have hks : ∀ (k : Nat) ek, es[k]? = some ek → updOf ek.us id ≠ none → (k < i ∨ S k = true) → ek.ks = true := by
    intro k ek hek hn hkS
    obtain ⟨ok, hok⟩ := D.op hek
    rcases Nat.lt_trichotomy k i with q | q | q
    · rcases ((D.get i o e ho he).2.2 k ek q hek).2.1 with h | h
      · exact h
      · exact absurd (h id hid) hn
    · subst q
      rw [he, Option.some.injEq] at hek; subst hek
      exact absurd (disj_upd (D.get k o e ho he).2.1 id hid) hn
    · have hs : S k = true := hkS.resolve_left (by omega)
      rcases ((D.get k ok ek hok hek).2.2 i e q he).2.2 with h | h | h
      · have := before_spec hc hok (hc k ok hok hs) i h
        rw [hi] at this; cases this
      · exact h
      · exact absurd (h id hid) hn
  have hat : ∀ S : Nat → Bool, hAt (stS st0 es S).h id = if id < st0.h.length then (lastW (fH id) S es 0).getD (hAt st0.h id) else .rsv := by
    intro S
    simp only [hAt, List.getD, stS_h]
    split <;> rfl
  have hpre : ∀ k, k ≤ es.length → (∀ (j : Nat) ej, j < k → es[j]? = some ej → updOf ej.us id ≠ none → j < i ∨ S j = true) → (hAt (stS st0 es fun j => decide (j < k)).h id).sh = (hAt st0.h id).sh := by
    intro k
    induction k with
    | zero => intro _ _; rw [stS_none (by simp)]
    | succ k ih =>
      intro hk hup
      have ih := ih (by omega) fun j ej hj => hup j ej (by omega)
      have hek := List.getElem?_eq_getElem (show k < es.length by omega)
      obtain ⟨ok, hok⟩ := D.op hek
      have hstep : (stS st0 es fun j => decide (j < k + 1)).h = applyU (stS st0 es fun j => decide (j < k)).h es[k].us := by
        have := app_stS (st0 := st0) (S := fun j => decide (j < k)) (S' := fun j => decide (j < k + 1)) hek (fun j => by
          rw [Bool.eq_iff_iff]; simp only [decide_eq_true_eq, Bool.or_eq_true, Nat.beq_eq]; omega) (fun _ _ j _ hj _ _ => by simp; omega) (fun _ _ j _ hj _ _ => by simp; omega)
        rw [← this]; rfl
      rw [hstep]
      have hx : hAt (applyU (stS st0 es fun j => decide (j < k)).h es[k].us) id = match updOf es[k].us id with
          | some b => if id < (stS st0 es fun j => decide (j < k)).h.length then b else .rsv
          | none => hAt (stS st0 es fun j => decide (j < k)).h id := by
        simp only [hAt, List.getD, applyU_get]
        cases updOf es[k].us id with
        | none => rfl
        | some b => simp only; split <;> rfl
      rw [hx]
      cases hu : updOf es[k].us id with
      | none => exact ih
      | some b =>
        simp only
        split
        · rename_i hlt
          rw [(D.get k ok _ hok hek).1.2.2.2.2.1 (hks k _ hek (by rw [hu]; simp) (hup k _ (by omega) hek (by rw [hu]; simp))) rfl id b hu]
          exact ih
        · rename_i hlt
          have : hAt st0.h id = .rsv := by
            have hl : (stS st0 es fun j => decide (j < k)).h.length = st0.h.length := by simp [stS]
            rw [hl] at hlt
            simp [hAt, List.getD, List.getElem?_eq_none (Nat.le_of_not_lt hlt)]
          rw [this]
  rw [hat]
  split
  · cases hl : lastW (fH id) S es 0 with
    | none => rfl
    | some b =>
      obtain ⟨k, ek, hek, hb, hsk⟩ := lastW_in hl
      rw [Nat.zero_add] at hsk
      obtain ⟨ok, hok⟩ := D.op hek
      have hb' : updOf ek.us id = some b := hb
      have := (D.get k ok ek hok hek).1.2.2.2.2.1 (hks k ek hek (by rw [hb']; simp) (.inr hsk)) rfl id b hb'
      rw [Option.getD_some, this]
      refine hpre k (Nat.le_of_lt (getElem?_lt hek)) fun j ej hj hej hn => .inr ?_
      rcases ((D.get k ok ek hok hek).2.2 j ej hj hej).1 with h | ⟨h, _⟩
      · exact before_spec hc hok (hc k ok hok hsk) j h
      · exact absurd (h id hn).2 (by rw [hb']; simp)
  · rename_i hlt
    have : hAt st0.h id = .rsv := by simp [hAt, List.getD, List.getElem?_eq_none (Nat.le_of_not_lt hlt)]
    rw [this]
theorem Dr.upto (D : Dr G ops st0 nid es) (i : Nat) : Closed ops (fun j => decide (j < i)) := by
  intro k o hk hs e he hb
  have := (D.lex k o hk).1 e he hb
  simp only [decide_eq_true_eq] at hs ⊢
  omega
theorem Dr.wr (D : Dr G ops st0 nid es) {S : Nat → Bool} (hc : Closed ops S) {i : Nat} {e : En} (he : es[i]? = some e) (hi : S i = false)
    {id : Nat} (hid : updOf e.us id ≠ none) {k : Nat} {ek : En} (hk : i < k) (hek : es[k]? = some ek) (hn : updOf ek.us id ≠ none) : S k = false := by
  obtain ⟨ok, hok⟩ := D.op hek
  cases hs : S k with
  | false => rfl
  | true =>
    rcases ((D.get k ok ek hok hek).2.2 i e hk he).1 with h | ⟨h, _⟩
    · have := before_spec hc hok (hc k ok hok hs) i h
      rw [hi] at this; cases this
    · exact absurd (h id hid).2 hn
theorem Dr.dst (D : Dr G ops st0 nid es) {S : Nat → Bool} (hc : Closed ops S) {i : Nat} {o : Oper} {e : En} (ho : ops[i]? = some o) (he : es[i]? = some e) (hi : S i = false)
    {d : Nat} (hd : e.dst = some d) {k : Nat} {ek : En} (hk : i < k) (hek : es[k]? = some ek) (hn : ek.dst = some d) : S k = false := by
  obtain ⟨ok, hok⟩ := D.op hek
  have h1 := (D.get i o e ho he).1.1
  have h2 := (D.get k ok ek hok hek).1.1
  rw [hd] at h1; rw [hn] at h2
  cases hs : S k with
  | false => rfl
  | true =>
    rcases (D.lex i o ho).2 k ok hk hok with ⟨ed, q1, q2, q3⟩ | h
    · have := hc k ok hok hs ed q1 q2
      rw [q3, hi] at this; cases this
    · exact absurd h2.symm ((Oper.apart_spec h).2.1 d h1.symm)
theorem Dr.mine (D : Dr G ops st0 nid es) {i : Nat} {o : Oper} {e : En} (ho : ops[i]? = some o) (he : es[i]? = some e) {id : Nat} (h1 : nid + resvL (ops.toList.take i) ≤ id) (h2 : id < nid + resvL (ops.toList.take i) + resv o) :
    ∀ k, k ≤ es.length → (hAt (stS st0 es fun j => decide (j < k)).h id ≠ .rsv → i < k ∧ updOf e.us id ≠ none) := by
  have hoL : ops.toList[i]? = some o := by simpa using ho
  have hrange := resvL_take ops.toList i o hoL
  have h0 := D.rsv id (by omega) (by omega)
  intro k
  induction k with
  | zero => intro _ hn; rw [stS_none (by simp), hAt_some h0] at hn; exact absurd rfl hn
  | succ k ih =>
    intro hk hn
    have hklt : k < es.length := by omega
    have hek := List.getElem?_eq_getElem hklt
    obtain ⟨ok, hok⟩ := D.op hek
    have hstep : (stS st0 es fun j => decide (j < k + 1)).h = applyU (stS st0 es fun j => decide (j < k)).h es[k].us := by
      have := app_stS (st0 := st0) (S := fun j => decide (j < k)) (S' := fun j => decide (j < k + 1)) hek (fun j => by
        rw [Bool.eq_iff_iff]; simp only [decide_eq_true_eq, Bool.or_eq_true, Nat.beq_eq]; omega) (fun _ _ j _ hj _ _ => by simp; omega) (fun _ _ j _ hj _ _ => by simp; omega)
      rw [← this]; rfl
    have hus := (D.get k ok _ hok hek).1.2.1
    have hokL : ops.toList[k]? = some ok := by simpa using hok
    have hr2 := resvL_take ops.toList k ok hokL
    cases hu : updOf es[k].us id with
    | none =>
      have : hAt (stS st0 es fun j => decide (j < k)).h id ≠ .rsv := by
        rw [hstep] at hn
        simpa only [hAt, List.getD, applyU_get, hu] using hn
      obtain ⟨q1, q2⟩ := ih (by omega) this
      exact ⟨by omega, q2⟩
    | some b =>
      rcases Nat.lt_trichotomy k i with q | q | q
      · exfalso
        have := resvL_mono ops.toList (k + 1) i (by omega)
        rcases usOk_get hus id (by rw [hu]; simp) with ⟨_, r⟩ | ⟨r, _⟩ <;> omega
      · subst q
        rw [hek, Option.some.injEq] at he
        subst he
        exact ⟨by omega, by rw [hu]; simp⟩
      · have hm := resvL_mono ops.toList (i + 1) k (by omega)
        rcases usOk_get hus id (by rw [hu]; simp) with ⟨r, _⟩ | ⟨_, r⟩
        · omega
        · obtain ⟨q1, q2⟩ := ih (by omega) r
          exact ⟨by omega, q2⟩
theorem Dr.kept (D : Dr G ops st0 nid es) {S : Nat → Bool} (hc : Closed ops S) {i : Nat} {o : Oper} {e : En} (ho : ops[i]? = some o) (he : es[i]? = some e) (hi : S i = false) (j : Nat) (hj : j < resv o) :
    (stS st0 es S).h[nid + resvL (ops.toList.take i) + j]? = some .rsv := by
  have hoL : ops.toList[i]? = some o := by simpa using ho
  have hrange := resvL_take ops.toList i o hoL
  have h0 := D.rsv (nid + resvL (ops.toList.take i) + j) (by omega) (by omega)
  rw [stS_h, if_pos (getElem?_lt h0), hAt_some h0, lastW_none fun k ek hek hn => ?_]
  · rfl
  · rw [show 0 + k = k by omega]
    obtain ⟨ok, hok⟩ := D.op hek
    have hokL : ops.toList[k]? = some ok := by simpa using hok
    have hus := (D.get k ok _ hok hek).1.2.1
    have hr2 := resvL_take ops.toList k ok hokL
    rcases Nat.lt_trichotomy k i with q | q | q
    · exfalso
      have := resvL_mono ops.toList (k + 1) i (by omega)
      rcases usOk_get hus _ hn with ⟨_, r⟩ | ⟨r, _⟩ <;> omega
    · subst q; exact hi
    · have hm := resvL_mono ops.toList (i + 1) k (by omega)
      rcases usOk_get hus _ hn with ⟨r, _⟩ | ⟨_, r⟩
      · omega
      · obtain ⟨_, q2⟩ := D.mine ho he (by omega) (by omega) k (by have := getElem?_lt hek; omega) r
        exact D.wr hc he hi q2 q hek hn
theorem any_ok {rd : Option Nat} {X : Fx} (D : Dr X.G ops st0 nid es) {R : Type} {K : St → Option R} {r : R} {Q : Exit → Act → World → Prop} {b0 : List Blk} {L0 : List Loc}
    (hK : ∀ st L a w, RelP X b0 L0 st L a w → K st = some r → Q .normal a w) (hk : K (stS st0 es fun _ => true) = some r) :
    ∀ (fuel : Nat) (listed : Array Bool) (L : List Loc) (a : Act) (w : World), listed.size = ops.size → (listed.toList.countP fun b => !b) = fuel → Closed ops (fun i => listed.getD i false) →
      RelP X b0 L0 (stS st0 es fun i => listed.getD i false) L a w → wpAnyIn (fz rd) 0 X.G.P .any ops Q fuel listed a w := by
  have hall : ∀ (listed : Array Bool) (L : List Loc) (a : Act) (w : World), listed.size = ops.size → Region.ready .any ops listed = [] → RelP X b0 L0 (stS st0 es fun i => listed.getD i false) L a w → Q .normal a w := by
    intro listed L a w hsz hr hR
    have hS : ∀ k, k < ops.size → listed.getD k false = true := by
      intro k
      induction k using Nat.strongRecOn with
      | _ k ih =>
        intro hlt
        cases hb : listed.getD k false with
        | true => rfl
        | false =>
          have : k ∈ Region.ready .any ops listed := by
            refine mem_ready.2 ⟨?_, ops[k], Array.getElem?_eq_getElem hlt, fun e he hbd => ?_⟩
            · have : listed[k]? = some (listed[k]'(by omega)) := Array.getElem?_eq_getElem _
              simp only [Array.getD_eq_getD_getElem?, this, Option.getD_some] at hb ⊢
              exact hb
            · have := (D.lex k _ (Array.getElem?_eq_getElem hlt)).1 e he hbd
              exact ih _ this (by omega)
          rw [hr] at this; cases this
    refine hK _ L a w hR ?_
    rw [stS_congr (S' := fun _ => true) fun k hk => hS k (by rw [← D.len]; exact hk)]
    exact hk
  intro fuel
  induction fuel with
  | zero =>
    intro listed L a w hsz hcnt hc hR
    have hr : Region.ready .any ops listed = [] := by
      refine List.eq_nil_iff_forall_not_mem.2 fun k hkm => ?_
      obtain ⟨h1, o, ho, _⟩ := mem_ready.1 hkm
      have hlt := (Array.getElem?_eq_some_iff.1 ho).1
      have hlt' : k < listed.size := by omega
      rw [List.countP_eq_zero] at hcnt
      have := hcnt (listed[k]) (by simp)
      rw [Array.getD_eq_getD_getElem?, Array.getElem?_eq_getElem hlt', Option.getD_some] at h1
      rw [h1] at this; simp at this
    exact ⟨hr, hall listed L a w hsz hr hR⟩
  | succ fuel ih =>
    intro listed L a w hsz hcnt hc hR
    refine ⟨fun hr => hall listed L a w hsz hr hR, fun i hi => ?_⟩
    obtain ⟨h1, o, ho, hd⟩ := mem_ready.1 hi
    have hlt := (Array.getElem?_eq_some_iff.1 ho).1
    have hlt' : i < listed.size := by omega
    have hif : listed.getD i false = false := by
      rw [Array.getD_eq_getD_getElem?, Array.getElem?_eq_getElem hlt', Option.getD_some] at h1 ⊢
      exact h1
    obtain ⟨e, he⟩ := D.en ho
    obtain ⟨hen, _⟩ := D.get i o e ho he
    have hset : ∀ k, (listed.setIfInBounds i true).getD k false = (listed.getD k false || Nat.beq k i) := by
      intro k
      by_cases hki : i = k
      · subst hki; simp [hlt', Nat.beq_refl]
      · rw [getD_set_ne false hki]
        have : Nat.beq k i = false := by cases hb : Nat.beq k i; rfl; exact absurd (Nat.eq_of_beq_eq_true hb).symm hki
        rw [this]; simp
    have happ : app (stS st0 es fun i => listed.getD i false) e = stS st0 es fun k => (listed.setIfInBounds i true).getD k false :=
      app_stS he hset (fun d hd' j e' hj he' hn => D.dst hc ho he hif hd' hj he' hn) (fun id hid j e' hj he' hn => D.wr hc he hif hid hj he' hn)
    have hc' : Closed ops fun k => (listed.setIfInBounds i true).getD k false := by
      intro k ok hok hk ed hed hb
      have hk' : (listed.getD k false || Nat.beq k i) = true := by rw [← hset]; exact hk
      show (listed.setIfInBounds i true).getD ed.on false = true
      rw [hset]
      simp only [Bool.or_eq_true, Nat.beq_eq] at hk' ⊢
      rcases hk' with q | q
      · exact .inl (hc k ok hok q ed hed hb)
      · subst q
        rw [ho] at hok; simp only [Option.some.injEq] at hok; subst hok
        exact .inl (hd ed hed hb)
    have hcnt' : ((listed.setIfInBounds i true).toList.countP fun b => !b) = fuel := by
      have hl : listed.toList[i]? = some false := by
        rw [Array.getD_eq_getD_getElem?, Array.getElem?_eq_getElem hlt', Option.getD_some] at h1
        simp [hlt', h1]
      obtain ⟨e1, hil⟩ := list_split listed.toList i false hl
      rw [Array.toList_setIfInBounds, list_set_split _ _ _ hil, List.countP_append, List.countP_cons]
      rw [e1, List.countP_append, List.countP_cons] at hcnt
      simp at hcnt ⊢
      omega
    have hlook : ∀ x, x ∈ o.op.operands.toList → ∀ t, x = .tmp t → t ∈ o.looksAt ops := fun x hx t ht => by
      subst ht
      exact List.mem_append_left _ (List.mem_filterMap.2 ⟨_, hx, rfl⟩)
    have hgl : ∀ j want d, o.guard = some (j, want) → (ops[j]?).bind (·.dst) = some d → d ∈ o.looksAt ops := fun j want d hg hdd =>
      List.mem_append_right _ (by simp only [hg, hdd]; simp)
    unfold wpOpIn
    simp only [ho]
    rw [wanted_of hen hR.rel fun j want d hg hdd => D.tmp hc ho hif hd (hgl j want d hg hdd)]
    obtain ⟨hdst, hus, _, hran, _, hnot⟩ := hen
    cases hrn : e.ran with
    | true =>
      simp only [if_true]
      have hop := (hran hrn).2 rfl (restr (stS st0 es fun i => listed.getD i false).h (e.rd ++ e.sr)) (fun id => ?_) (fun id hid => ?_)
      refine op_step hop hR (fun x hx => ?_) (fun id hn => ?_) (fun k hk => D.kept hc ho he hif k hk) (fun a' L' w' hR' => ?_) rd
      · cases x with
        | tmp t => exact D.tmp hc ho hif hd (hlook _ hx t rfl)
        | _ => rfl
      · rw [restr_in hn]
        have hn' := hn
        rw [restr_in hn] at hn'
        exact hAt_ne hn'
      · rw [← hdst] at hR'
        have hR2 : RelP X b0 L0 (app (stS st0 es fun i => listed.getD i false) e) L' a' w' := hR'
        rw [happ] at hR2
        exact ih _ L' a' w' (by simp [hsz]) hcnt' hc' hR2
      · unfold restr
        cases hm : memN id (e.rd ++ e.sr) with
        | false => rfl
        | true =>
          simp only [cond_true]
          have hm' := memN_iff.1 hm
          simp only [List.mem_append] at hm'
          rcases hm' with q | q
          · have := D.blk hc ho he hif hd q
            simp only [hAt, List.getD, this]
          · rw [D.shp ho he q hc hif, D.shp ho he q (D.upto i) (by simp)]
      · unfold restr
        have hm : memN id (e.rd ++ e.sr) = true := memN_iff.2 (by simp [hid])
        simp only [hm, cond_true]
        have := D.blk hc ho he hif hd hid
        simp only [hAt, List.getD, this]
    | false =>
      simp only [Bool.false_eq_true, if_false]
      obtain ⟨g1, g2⟩ := hnot hrn
      have hR' := hR.skip o.dst
      have : app (stS st0 es fun i => listed.getD i false) e = ⟨putT (stS st0 es fun i => listed.getD i false).t o.dst und, (stS st0 es fun i => listed.getD i false).h⟩ := by simp only [app, g1, g2, hdst, applyU]
      rw [← this, happ] at hR'
      exact ⟨fun _ _ => trivial, ih _ L _ w (by simp [hsz]) hcnt' hc' hR'⟩
end
theorem RelP.more {X : Fx} {b0 : List Blk} {L0 : List Loc} {st : St} {L : List Loc} {a : Act} {w : World} (R : RelP X b0 L0 st L a w) (n : Nat) :
    RelP X b0 L0 ⟨st.t, st.h ++ List.replicate n .rsv⟩ (L ++ List.replicate n default) a w := by
  have I := R.rel.inv
  have hold : ∀ {i : Nat} {s : BSh}, ((st.h ++ List.replicate n Blk.rsv).map Blk.sh)[i]? = some s → s ≠ .rsv → (st.h.map Blk.sh)[i]? = some s := by
    intro i s hs hr
    rcases Nat.lt_or_ge i st.h.length with q | q
    · rw [List.map_append, List.getElem?_append_left (by simpa using q)] at hs; exact hs
    · rw [List.map_append, List.getElem?_append_right (by simpa using q)] at hs
      obtain ⟨b, hb, rfl⟩ := shAt' hs
      have := List.eq_of_mem_replicate (List.mem_of_getElem? hb)
      subst this
      exact absurd rfl hr
  have hL : ∀ {i : Nat}, i < st.h.length → (L ++ List.replicate n default)[i]? = L[i]? := fun hi => by rw [List.getElem?_append_left (by rw [I.len]; exact hi)]
  have hnr : ∀ {s : BSh} {p b o}, s.owns p b o → s ≠ .rsv := fun h e => by subst e; exact h.elim
  obtain ⟨I', hle⟩ := I.upd (h' := st.h ++ List.replicate n .rsv) (L' := L ++ List.replicate n default) (fun _ _ => False) (by simp [I.len]) (Step.refl _ w) (fun _ _ q => q.elim)
    (fun id s hs hr => by
      have hlt := getElem?_lt hs
      rw [List.length_map] at hlt
      exact .inl ⟨by rw [List.map_append, List.getElem?_append_left (by simpa using hlt)]; exact hs, hL hlt⟩)
    (fun b o ⟨id, s, p, g1, g2, g3⟩ => by
      have g1' := hold g1 (hnr g3)
      have hlt := getElem?_lt g1'
      rw [List.length_map] at hlt
      exact .inl ⟨id, s, p, g1', by rw [← hL hlt]; exact g2, g3⟩)
    (fun i j s t p q b o hij hs ht hp hq o1 o2 => by
      have hs' := hold hs (hnr o1)
      have ht' := hold ht (hnr o2)
      have h1 := getElem?_lt hs'
      have h2 := getElem?_lt ht'
      rw [List.length_map] at h1 h2
      rw [hL h1] at hp; rw [hL h2] at hq
      exact I.dis i j s t p q b o hij hs' ht' hp hq o1 o2)
    (fun _ id b p hb hp => by
      rcases Nat.lt_or_ge id st.h.length with q | q
      · rw [List.getElem?_append_left q] at hb
        rw [hL q] at hp
        exact .inl ⟨hb, hp, fun _ _ _ h => h⟩
      · rw [List.getElem?_append_right q] at hb
        have := List.eq_of_mem_replicate (List.mem_of_getElem? hb)
        subst this
        exact .inr trivial)
  refine ⟨⟨I', ⟨R.rel.tmp.1, fun i v x hv hx => Val.le hle _ _ (R.rel.tmp.2 i v x hv hx)⟩, R.rel.dfr⟩, fun i v hi hr => ?_⟩
  rcases R.pin i v hi hr with ⟨v', q1, q2, q3⟩ | q
  · have hlt := getElem?_lt q1
    exact .inl ⟨v', by rw [List.getElem?_append_left hlt]; exact q1, q2, by rw [hL hlt]; exact q3⟩
  · have hlt := getElem?_lt q
    exact .inr (by rw [List.getElem?_append_left hlt]; exact q)
theorem Inv.drew {X : Fx} {h : List Blk} {L : List Loc} {w : World} (I : Inv X h L w) (n : Nat) : Inv X h L { w with drawn := n } ∧ Cx.Le (cx X h L w) (cx X h L { w with drawn := n }) := by
  have I' := I.upd (h' := h) (L' := L) (fun _ _ => False) I.len (Step.drew _ w n) (fun _ _ q => q.elim) (fun _ s hs _ => .inl ⟨hs, rfl⟩) (fun b o q => .inl q) I.dis (fun _ id b p hb hp => .inl ⟨hb, hp, fun _ _ _ h => h⟩)
  exact I'
theorem RelP.drew {X : Fx} {b0 : List Blk} {L0 : List Loc} {st : St} {L : List Loc} {a : Act} {w : World} (R : RelP X b0 L0 st L a w) (n : Nat) : RelP X b0 L0 st L a { w with drawn := n } := by
  obtain ⟨I', hle⟩ := R.rel.inv.drew n
  exact ⟨⟨I', ⟨R.rel.tmp.1, fun i v x hv hx => Val.le hle _ _ (R.rel.tmp.2 i v x hv hx)⟩, R.rel.dfr⟩, R.pin⟩
theorem evR_ok {G : Gi} (hG : GOk G) (hm : G.P.follows .mixedOrders = true) {R : Type} {id : Nat} {ops : Array Oper} {draw : Bool} {K : St → Option R} {r : R} {st : St} (h : evR G ops draw K st = some r) :
    ∃ st', K st' = some r ∧ ∀ (X : Fx), X.G = G → ∀ (b0 : List Blk) (L0 L : List Loc) (a : Act) (w : World) (Q : Exit → Act → World → Prop), (∀ L a w, RelP X b0 L0 st' L a w → Q .normal a w) →
      RelP X b0 L0 st L a w → ∀ rd, (Code.region id ops draw).wpIn (fz rd) 0 G.P Q a w := by
  unfold evR at h
  obtain ⟨hlex, h⟩ := cond_none' h
  obtain ⟨es, htr, hk⟩ := evOps_tr hG _ _ _ _ _ h
  refine ⟨_, hk, fun X hXG => ?_⟩
  subst hXG
  intro b0 L0 L a w Q hK hR rd
  classical
  have hR' := hR.more (resvL ops.toList)
  have hrs : ∀ k, st.h.length ≤ k → k < st.h.length + resvL ops.toList → (st.h ++ List.replicate (resvL ops.toList) Blk.rsv)[k]? = some .rsv := by
    intro k h1 h2
    rw [List.getElem?_append_right h1, List.getElem?_replicate, if_pos (by omega)]
  cases draw with
  | false =>
    refine wpIn_region ?_
    have := seq_ok (rd := rd) (K := fun st' => if st' = es.foldl app ⟨st.t, st.h ++ List.replicate (resvL ops.toList) Blk.rsv⟩ then some () else none) (fun st1 L a w hr he => by
      by_cases hs : st1 = es.foldl app ⟨st.t, st.h ++ List.replicate (resvL ops.toList) Blk.rsv⟩
      · subst hs; exact hK L a w hr
      · simp [hs] at he) (r := ()) ops.toList es 0 _ _ _ _ a w htr (by simp) (fun j => by simp) hR' hrs
    rw [List.range_eq_range']
    simpa using this
  | true =>
    simp only [Bool.true_and, Bool.not_eq_false'] at hlex
    simp only [Region.lexB, Bool.and_eq_true] at hlex
    simp only [cond_true] at htr
    obtain ⟨hlen, hget⟩ := Tr_get htr
    have hlen' : es.length = ops.size := by simpa using hlen
    have D : Dr X.G ops ⟨st.t, st.h ++ List.replicate (resvL ops.toList) Blk.rsv⟩ st.h.length es := by
      refine ⟨hlen', fun k o e ho he => ?_, fun i o ho => ?_, hrs⟩
      · obtain ⟨q1, q0, _, q3⟩ := hget k o e (by simpa using ho) he
        rw [take_stS k (Nat.le_of_lt (getElem?_lt he))] at q1
        refine ⟨q1, q0, fun j ej hj hej => ?_⟩
        have := q3 j ej hj hej
        simpa using this
      · exact lex_spec ops.size 0 _ (by simp) (by simp) (fun j hj => by simp [hj]) hlex.2 i o (Nat.zero_le _) ho
    refine wpIn_region_any hm ?_
    have hst : (stS ⟨st.t, st.h ++ List.replicate (resvL ops.toList) Blk.rsv⟩ es fun i => (Array.replicate ops.size false).getD i false) = ⟨st.t, st.h ++ List.replicate (resvL ops.toList) Blk.rsv⟩ :=
      stS_none fun k => by
        by_cases hk : k < ops.size <;> simp [hk]
    have hfin : es.foldl app ⟨st.t, st.h ++ List.replicate (resvL ops.toList) Blk.rsv⟩ = stS ⟨st.t, st.h ++ List.replicate (resvL ops.toList) Blk.rsv⟩ es fun _ => true := by
      have := take_stS (st0 := ⟨st.t, st.h ++ List.replicate (resvL ops.toList) Blk.rsv⟩) (es := es) es.length (Nat.le_refl _)
      rw [List.take_length] at this
      rw [this]
      exact stS_congr (S := fun k => decide (k < es.length)) fun k hk => by simpa using hk
    rw [hfin] at hK
    refine any_ok (K := fun st' => if st' = stS ⟨st.t, st.h ++ List.replicate (resvL ops.toList) Blk.rsv⟩ es (fun _ => true) then some () else none) D (fun st1 L a w hr he => by
      by_cases hs : st1 = stS ⟨st.t, st.h ++ List.replicate (resvL ops.toList) Blk.rsv⟩ es (fun _ => true)
      · subst hs; exact hK L a w hr
      · simp [hs] at he) (r := ()) (by simp) ops.size _ (L ++ List.replicate (resvL ops.toList) default) a _ (by simp) ?_ ?_ ?_
    · simp [Array.toList_replicate, List.countP_replicate]
    · intro i o _ hi
      have : (Array.replicate ops.size false).getD i false = false := by by_cases hk : i < ops.size <;> simp [hk]
      exact absurd (this.symm.trans hi) (by simp)
    · rw [hst]; exact hR'.drew _
end Go.Ev
namespace Go.Ev
theorem at_nils : ∀ (p : List Nat) (v : AV), getP v p = some .nils → (∃ o, Sh.at (sh v) p = some (o, .leaf)) ∧ ∀ x, kindOk v p x = true
  | [], v, h => by
    have : v = .nils := by cases v <;> simp_all [getP]
    subst this
    exact ⟨⟨0, rfl⟩, fun x => rfl⟩
  | i :: p, v, h => by
    cases v with
    | ints k n l =>
      cases p with
      | nil => simp [getP] at h
      | cons j p => simp [getP] at h
    | agg l =>
      simp only [getP] at h
      cases hl : l[i]? with
      | none => simp [hl] at h
      | some v0 =>
        simp only [hl] at h
        obtain ⟨⟨o, q1⟩, q2⟩ := at_nils p v0 h
        refine ⟨⟨Sh.lenL ((l.map sh).take i) + o, ?_⟩, fun x => ?_⟩
        · simp only [sh, Sh.at, shL_eq, List.getElem?_map, hl, Option.map_some, q1]
        · simp only [kindOk, hl]; exact q2 x
    | _ => simp [getP] at h
theorem put_same {a : Act} {t : Nat} {v : Value} (h : a.tmps[t]? = some v) : a.put (some t) v = a := by
  have : a.tmps.setIfInBounds t v = a.tmps := by
    apply Array.ext
    · simp
    · intro i h1 h2
      rw [Array.getElem_setIfInBounds]
      split
      · rename_i e; subst e
        rw [Array.getElem?_eq_getElem h2, Option.some.injEq] at h
        exact h.symm
      · rfl
  cases a
  simp only [Act.put] at this ⊢
  rw [this]
theorem rowNew_cases (t : T) : (rowNew t = .dead) ∨ (∃ j, rowNew t = .row j true []) ∨ ∃ t', 0 < t'.len ∧ rowNew t = .gro t' true [] := by
  have key : ∀ (t : T), (cond (Nat.blt 0 t.len) (Blk.gro t true []) Blk.dead = .dead) ∨ ∃ t', 0 < t'.len ∧ (cond (Nat.blt 0 t.len) (Blk.gro t true []) Blk.dead) = .gro t' true [] := fun t => by
    cases h : Nat.blt 0 t.len with
    | false => exact .inl rfl
    | true => exact .inr ⟨t, Nat.lt_of_lt_of_le Nat.zero_lt_one (Nat.le_of_ble_eq_true h), rfl⟩
  cases t with
  | int k => exact .inr (.inl ⟨k, rfl⟩)
  | bool => exact .inr (.inr ⟨_, by decide, rfl⟩)
  | str => exact .inr (.inr ⟨_, by decide, rfl⟩)
  | sl k => exact .inr (.inr ⟨.sl k, (show 0 < (T.sl k).len from Nat.zero_lt_one), rfl⟩)
  | rw t => exact .inr (.inr ⟨.rw t, (show 0 < (T.rw t).len from Nat.zero_lt_one), rfl⟩)
  | arr k n => exact (key (.arr k n)).imp id .inr
  | st ts => exact (key (.st ts)).imp id .inr
theorem rowNew_owns {t : T} {p : Loc} {b o : Nat} : ¬ (rowNew t).sh.owns p b o := by
  rcases rowNew_cases t with h | ⟨k, h⟩ | ⟨t', _, h⟩ <;> rw [h]
  · exact fun q => q
  · exact fun q => absurd q.1 (by simp)
  · exact fun q => absurd q.1 (by simp)
theorem rowNew_ok {c : Cx} {t : T} {p : Loc} : BlkOK c (rowNew t) p := by
  rcases rowNew_cases t with h | ⟨k, h⟩ | ⟨t', ht, h⟩ <;> rw [h]
  · trivial
  · exact ⟨by simp [NN], fun _ => rfl, fun h => by cases h⟩
  · exact ⟨ht, fun _ => rfl, fun h => by cases h⟩
theorem rowNew_leaf {c : Cx} {t : T} {nid : Nat} {p : Loc} {a0 : Option Addr} (hS : c.S[nid]? = some (rowNew t).sh) (hp : c.L[nid]? = some p) : leaf c (.own nid [] 0 none) (.slice a0 0 0) := by
  rcases rowNew_cases t with h | ⟨k, h⟩ | ⟨t', ht, h⟩ <;> rw [h] at hS
  · have hS : c.S[nid]? = some .dead := hS
    simp only [leaf, hS]
    exact ⟨_, _, _, rfl⟩
  · exact own_nil' (k := k) hS hp
  · exact groNil (sz := t'.len) hS hp
theorem Inv.nilNew {X : Fx} {h : List Blk} {L : List Loc} {w : World} (I : Inv X h L w) {nid : Nat} (hn : h[nid]? = some .rsv) (t : T) :
    Inv X (h.set nid (rowNew t)) L w ∧ Cx.Le (cx X h L w) (cx X (h.set nid (rowNew t)) L w) := by
  rcases rowNew_cases t with e | ⟨k, e⟩ | ⟨t', ht, e⟩ <;> rw [e]
  · exact I.kill nid
  · exact I.nilRow hn k
  · exact I.nilGro hn t' ht
theorem pre1_ok {X : Fx} {b0 : List Blk} {L0 : List Loc} {st : St} {L : List Loc} {ac : Act} {w : World} (R : RelP X b0 L0 st L ac w) (p : Pre) : ∃ L', RelP X b0 L0 (pre1 p st) L' ac w := by
  cases p with
  | lift t p k =>
    simp only [pre1]
    split
    · rename_i id q ht
      split
      · rename_i v hb
        split
        · rename_i hg
          split
          · rename_i v' hset
            have hbi : st.h[id]? = some (.var v) := by
              rcases Nat.lt_or_ge id st.h.length with hi | hi
              · simp only [hAt, List.getD, List.getElem?_eq_getElem hi, Option.getD_some] at hb
                rw [List.getElem?_eq_getElem hi, hb]
              · simp [hAt, List.getD, List.getElem?_eq_none hi] at hb
            have hlt := getElem?_lt hbi
            have R1 := R.more 1
            have hn : (st.h ++ List.replicate 1 Blk.rsv)[st.h.length]? = some .rsv := by simp
            obtain ⟨I2, hle2⟩ := R1.rel.inv.nilNew hn k
            have e2 : (st.h ++ List.replicate 1 Blk.rsv).set st.h.length (rowNew k) = st.h ++ [rowNew k] := by
              simp
            rw [e2] at I2 hle2
            have hb2 : (st.h ++ [rowNew k])[id]? = some (.var v) := by rw [List.getElem?_append_left hlt]; exact hbi
            have hr2 : (st.h ++ [rowNew k])[st.h.length]? = some (rowNew k) := by simp
            obtain ⟨pl, hpl⟩ := I2.loc hb2
            obtain ⟨⟨o, hat⟩, hk⟩ := at_nils _ _ hg
            obtain ⟨cs, g1, g2⟩ := I2.blk id _ pl hb2 hpl
            have hset_sh : sh v' = sh v := setP_sh _ _ _ _ _ _ hset hat rfl
            obtain ⟨I3, hle3⟩ := I2.write (b := .var v') hb2 hpl (by simp only [Blk.sh, hset_sh]) (Step.refl _ _) (fun hle => by
              obtain ⟨pre, cx1, post, rfl, h1, h2, h3, h4⟩ := Cells_at _ _ _ _ _ _ (Cells.le hle _ _ g1) hg hat
              obtain ⟨y, rfl, hy⟩ := h2
              obtain rfl : y = .slice none 0 0 := hy
              have hbn : ((st.h ++ [rowNew k]).set id (.var v'))[st.h.length]? = some (rowNew k) := by
                rw [List.getElem?_set_ne (by omega)]; exact hr2
              obtain ⟨pn, hpn⟩ := I2.loc hr2
              have hown := rowNew_leaf (t := k) (c := cx X ((st.h ++ [rowNew k]).set id (.var v')) (L ++ List.replicate 1 default) w) (a0 := none) (cx_S hbn) hpn
              obtain ⟨r1, _⟩ := h4 (.own st.h.length [] 0 none) [.slice none 0 0] v' ⟨_, rfl, hown⟩ rfl hset (hk _)
              exact ⟨_, r1, g2⟩)
            have e3 : (st.h ++ [rowNew k]).set id (.var v') = st.h.set id (.var v') ++ [rowNew k] := by
              rw [List.set_append_left _ _ hlt]
            rw [e3] at I3 hle3
            exact ⟨_, RelP.put (d := none) R1 I3 (hle2.trans hle3) (v := und) (cv := undef) Val_und⟩
          · exact ⟨L, R⟩
        · exact ⟨L, R⟩
      · exact ⟨L, R⟩
    · exact ⟨L, R⟩
  | frz t k =>
    have htmp : ∀ u, st.t.getD t und = u → u ≠ und → ∃ x, ac.tmps[t]? = some x ∧ Val (cx X st.h L w) u x := by
      intro u hu hne
      rcases Nat.lt_or_ge t st.t.length with hi | hi
      · simp only [List.getD, List.getElem?_eq_getElem hi, Option.getD_some] at hu
        have h2 : t < ac.tmps.size := by have := R.rel.tmp.1; omega
        exact ⟨_, Array.getElem?_eq_getElem h2, R.rel.tmp.2 t u _ (by rw [List.getElem?_eq_getElem hi, hu]) (Array.getElem?_eq_getElem h2)⟩
      · simp only [List.getD, List.getElem?_eq_none hi, Option.getD_none] at hu
        exact absurd hu.symm hne
    simp only [pre1]
    split
    · rename_i ht
      obtain ⟨x, h1, h2⟩ := htmp _ ht (by simp [und])
      obtain rfl : x = .slice none 0 0 := h2
      have := RelP.put (d := some t) R R.rel.inv (Cx.Le.refl _) (v := mkRow k []) (cv := .slice none 0 0) (by
        have hl : leaf (cx X st.h L w) (mkRow k []) (.slice none 0 0) := mkRow_leaf ⟨none, 0, rfl, Nat.le_refl _, fun _ => ⟨rfl, rfl⟩, fun p hp => by cases hp⟩
        cases k <;> exact hl)
      rw [put_same h1] at this
      exact ⟨L, this⟩
    · rename_i id path off len ht
      split
      · rename_i v hc
        obtain ⟨x, h1, h2⟩ := htmp _ ht (by simp [und])
        have hlo : lookOk (hAt st.h) st.h := by
          intro id hn
          rcases Nat.lt_or_ge id st.h.length with q | q
          · simp [hAt, List.getD, q]
          · simp [hAt, List.getD, List.getElem?_eq_none q] at hn
        obtain ⟨I2, hle2⟩ := R.rel.inv.kill id
        have hA : ∀ b o, Own1 st.h L id b o → ¬ (cx X (st.h.set id .dead) L w).A b o := fun b o ho hA => by
          rcases hA with q | ⟨c, s, p, g1, g2, g3⟩
          · exact R.rel.inv.out b o ho.own q
          · have e : (st.h.set id .dead).map Blk.sh = (st.h.map Blk.sh).set id .dead := map_set_sh _ _ _
            rw [e] at g1
            rcases getElem?_set_cases g1 with ⟨_, rfl, _⟩ | ⟨hne, g1'⟩
            · exact g3
            · exact hne (Own1.unique R.rel.inv ho ⟨s, p, g1', g2, g3⟩)
        have hv : Val (cx X (st.h.set id .dead) L w) v x := by
          have gro : ∀ t, (match contG (hAt st.h) t (.own id path off len) with | some l => some (mkRow t l) | none => none) = some v → Val (cx X (st.h.set id .dead) L w) v x := by
            intro t hc
            cases hcg : contG (hAt st.h) t (.own id path off len) with
            | none => rw [hcg] at hc; cases hc
            | some l =>
              rw [hcg] at hc
              have hc := Option.some.inj hc
              subst hc
              simp only [contG] at hcg
              split at hcg
              · rename_i t' nl m hb
                obtain ⟨rfl, rfl⟩ := castL_eq hcg
                have hl : leaf (cx X (st.h.set id .dead) L w) (mkRow t' (cut len off m)) x := snapG_ok (c' := cx X (st.h.set id .dead) L w) R.rel.inv hlo hb h2 rfl (RO.of_le hle2) hA
                cases t' <;> exact hl
              · cases hcg
          cases k with
          | int k =>
            simp only [frzE] at hc
            split at hc
            · rename_i l hcl
              have hc := Option.some.inj hc
              subst hc
              exact snap_ok R.rel.inv hlo hcl (cont_src hcl) h2 _ hA
            · cases hc
          | bool => exact gro .bool hc
          | str => exact gro .str hc
          | arr k n => exact gro (.arr k n) hc
          | sl k => exact gro (.sl k) hc
          | rw t => exact gro (.rw t) hc
          | st ts => exact gro (.st ts) hc
        have := RelP.put (d := some t) R I2 hle2 (v := v) (cv := x) hv
        rw [put_same h1] at this
        exact ⟨L, this⟩
      · exact ⟨L, R⟩
    · exact ⟨L, R⟩
theorem preL_ok {X : Fx} {b0 : List Blk} {L0 : List Loc} : ∀ (ps : List Pre) {st : St} {L : List Loc} {ac : Act} {w : World}, RelP X b0 L0 st L ac w → ∃ L', RelP X b0 L0 (preL ps st) L' ac w
  | [], st, L, ac, w, R => ⟨L, R⟩
  | p :: ps, st, L, ac, w, R => by
    obtain ⟨L1, R1⟩ := pre1_ok R p
    exact preL_ok ps R1
theorem srcs_get {h0 : List Blk} {t : List AV} {mv : List Mv} : ∀ (n c : Nat) {ss : List (Nat ⊕ T)}, srcs h0 t mv n c = some ss → ss.length = n ∧ ∀ i, i < n → ∃ s, ss[i]? = some s ∧ srcOf h0 t mv (c + i) = some s
  | 0, c, ss, h => by simp only [srcs, Option.some.injEq] at h; subst h; exact ⟨rfl, fun i hi => by omega⟩
  | n + 1, c, ss, h => by
    simp only [srcs] at h
    cases h1 : srcOf h0 t mv c with
    | none => simp [h1] at h
    | some s =>
      cases h2 : srcs h0 t mv n (c + 1) with
      | none => simp [h1, h2] at h
      | some l =>
        simp only [h1, h2, Option.some.injEq] at h
        subst h
        obtain ⟨q1, q2⟩ := srcs_get n (c + 1) h2
        refine ⟨by simp [q1], fun i hi => ?_⟩
        cases i with
        | zero => exact ⟨s, rfl, h1⟩
        | succ i =>
          obtain ⟨s', r1, r2⟩ := q2 i (by omega)
          exact ⟨s', by simpa using r1, by rw [← r2]; congr 1; omega⟩
theorem srcIds_mem {ss : List (Nat ⊕ T)} {c i : Nat} (h : ss[c]? = some (.inl i)) : i ∈ srcIds ss := by
  induction ss generalizing c with
  | nil => simp at h
  | cons s ss ih =>
    cases c with
    | zero => simp only [List.getElem?_cons_zero, Option.some.injEq] at h; subst h; simp [srcIds]
    | succ c =>
      simp only [List.getElem?_cons_succ] at h
      have := ih h
      cases s <;> simp [srcIds, this]
theorem srcIds_inj {ss : List (Nat ⊕ T)} (hn : (srcIds ss).Nodup) {a b i : Nat} (ha : ss[a]? = some (.inl i)) (hb : ss[b]? = some (.inl i)) : a = b := by
  induction ss generalizing a b with
  | nil => simp at ha
  | cons s ss ih =>
    cases s with
    | inr k =>
      simp only [srcIds] at hn
      cases a with
      | zero => simp at ha
      | succ a =>
        cases b with
        | zero => simp at hb
        | succ b => simp only [List.getElem?_cons_succ] at ha hb; rw [ih hn ha hb]
    | inl j =>
      simp only [srcIds, List.nodup_cons] at hn
      cases a with
      | zero =>
        simp only [List.getElem?_cons_zero, Option.some.injEq, Sum.inl.injEq] at ha; subst ha
        cases b with
        | zero => rfl
        | succ b => simp only [List.getElem?_cons_succ] at hb; exact absurd (srcIds_mem hb) hn.1
      | succ a =>
        simp only [List.getElem?_cons_succ] at ha
        cases b with
        | zero => simp only [List.getElem?_cons_zero, Option.some.injEq, Sum.inl.injEq] at hb; subst hb; exact absurd (srcIds_mem ha) hn.1
        | succ b => simp only [List.getElem?_cons_succ] at hb; rw [ih hn.2 ha hb]
theorem findS_some {id : Nat} : ∀ {ss : List (Nat ⊕ T)} {c0 c : Nat}, findS id ss c0 = some c → ∃ i, c = c0 + i ∧ ss[i]? = some (.inl id)
  | [], _, _, h => by simp [findS] at h
  | .inl i :: l, c0, c, h => by
    simp only [findS] at h
    cases hb : Nat.beq id i with
    | true =>
      simp only [hb, cond_true, Option.some.injEq] at h
      exact ⟨0, h.symm, by rw [Nat.eq_of_beq_eq_true hb]; rfl⟩
    | false =>
      simp only [hb, cond_false] at h
      obtain ⟨j, q1, q2⟩ := findS_some h
      exact ⟨j + 1, by omega, by simpa using q2⟩
  | .inr k :: l, c0, c, h => by
    simp only [findS] at h
    obtain ⟨j, q1, q2⟩ := findS_some h
    exact ⟨j + 1, by omega, by simpa using q2⟩
theorem srcBlks_get {h : List Blk} {ρ : Ren} : ∀ (ss : List (Nat ⊕ T)), (srcBlks h ρ ss).length = ss.length ∧ ∀ (c : Nat) s, ss[c]? = some s → (srcBlks h ρ ss)[c]? = some (match s with
    | .inl i => match trB noLook false ρ (hAt h i) with | some b => b | none => .dead
    | .inr k => rowNew k)
  | [] => ⟨rfl, fun c s hs => by simp at hs⟩
  | x :: ss => by
    obtain ⟨q1, q2⟩ := srcBlks_get (h := h) (ρ := ρ) ss
    cases x with
    | inl i =>
      refine ⟨by simp [srcBlks, q1], fun c s hs => ?_⟩
      cases c with
      | zero => simp only [List.getElem?_cons_zero, Option.some.injEq] at hs; subst hs; rfl
      | succ c => simp only [List.getElem?_cons_succ] at hs; simpa [srcBlks] using q2 c s hs
    | inr k =>
      refine ⟨by simp [srcBlks, q1], fun c s hs => ?_⟩
      cases c with
      | zero => simp only [List.getElem?_cons_zero, Option.some.injEq] at hs; subst hs; rfl
      | succ c => simp only [List.getElem?_cons_succ] at hs; simpa [srcBlks] using q2 c s hs
theorem normT_get {live : List Nat} {mv : List Mv} {ρ : Ren} : ∀ (t : List AV) (i0 : Nat), (normT live mv ρ t i0).length = t.length ∧ ∀ (i : Nat) v, t[i]? = some v → (normT live mv ρ t i0)[i]? = some (cond (memN (i0 + i) live) (match findMvT (i0 + i) mv, v with
      | some m, .nils => .own m.c [] 0 none
      | _, v => match trA noLook false ρ v with | some v' => v' | none => .dead) .dead)
  | [], _ => ⟨rfl, fun i v h => by simp at h⟩
  | x :: t, i0 => by
    obtain ⟨q1, q2⟩ := normT_get (live := live) (mv := mv) (ρ := ρ) t (i0 + 1)
    refine ⟨by simp [normT, q1], fun i v h => ?_⟩
    cases i with
    | zero => simp only [List.getElem?_cons_zero, Option.some.injEq] at h; subst h; rfl
    | succ i =>
      simp only [List.getElem?_cons_succ] at h
      have := q2 i v h
      rw [show i0 + 1 + i = i0 + (i + 1) by omega] at this
      simpa [normT] using this
theorem findMvT_some {i : Nat} : ∀ {mv : List Mv} {m : Mv}, findMvT i mv = some m → m ∈ mv ∧ m.t = i ∧ m.p = none
  | [], _, h => by simp [findMvT] at h
  | a :: l, m, h => by
    simp only [findMvT] at h
    cases hb : (Nat.beq a.t i && a.p.isNone) with
    | true =>
      simp only [hb, cond_true, Option.some.injEq] at h; subst h
      simp only [Bool.and_eq_true, Option.isNone_iff_eq_none] at hb
      exact ⟨by simp, Nat.eq_of_beq_eq_true hb.1, hb.2⟩
    | false => simp only [hb, cond_false] at h; obtain ⟨q1, q2⟩ := findMvT_some h; exact ⟨by simp [q1], q2⟩
theorem findMv_some {c : Nat} : ∀ {mv : List Mv} {m : Mv}, findMv c mv = some m → m ∈ mv ∧ m.c = c
  | [], _, h => by simp [findMv] at h
  | a :: l, m, h => by
    simp only [findMv] at h
    cases hb : Nat.beq a.c c with
    | true => simp only [hb, cond_true, Option.some.injEq] at h; subst h; exact ⟨by simp, Nat.eq_of_beq_eq_true hb⟩
    | false => simp only [hb, cond_false] at h; obtain ⟨q1, q2⟩ := findMv_some h; exact ⟨by simp [q1], q2⟩
theorem norm0_ok {X : Fx} (hG : GOk X.G) {b0 : List Blk} {L0 : List Loc} {a : Ann} {st st' : St} (hn : norm0 b0.length a st = some st') {L : List Loc} {ac : Act} {w : World} (R : RelP X b0 L0 st L ac w) : ∃ L', RelP X b0 L0 st' L' ac w := by
  have I := R.rel.inv
  unfold norm0 at hn
  split at hn
  · cases hn
  · rename_i ss hss
    obtain ⟨hb, hn⟩ := cond_none hn
    simp only [Option.some.injEq] at hn
    simp only [Bool.and_eq_true] at hb
    obtain ⟨⟨hnd, hsz⟩, hmv⟩ := hb
    have hnd := nodupN_iff.1 hnd
    have hsz := Nat.le_of_ble_eq_true hsz
    have hmv := List.all_eq_true.1 hmv
    obtain ⟨hlen, hsg⟩ := srcs_get _ _ hss
    let ρ : Ren := fun id p => match findS id ss 0 with | some c => some (c, p) | none => none
    have hρ : ∀ id p j q, ρ id p = some (j, q) → q = p ∧ ss[j]? = some (.inl id) := by
      intro id p j q h
      simp only [ρ] at h
      cases hf : findS id ss 0 with
      | none => simp [hf] at h
      | some c =>
        simp only [hf, Option.some.injEq, Prod.mk.injEq] at h
        obtain ⟨i, q1, q2⟩ := findS_some hf
        obtain ⟨rfl, rfl⟩ := h
        rw [Nat.zero_add] at q1; subst q1
        exact ⟨rfl, q2⟩
    let h' := srcBlks st.h ρ ss
    obtain ⟨hbl, hbg⟩ := srcBlks_get (h := st.h) (ρ := ρ) ss
    let L' : List Loc := ss.map fun s => match s with | .inl i => L.getD i default | .inr _ => default
    have hst' : st' = ⟨normT a.live a.mv ρ st.t 0, h'⟩ := hn.symm
    subst hst'
    have hL'l : ∀ (c i : Nat), ss[c]? = some (.inl i) → L'[c]? = some (L.getD i default) := fun c i hc => by simp only [L', List.getElem?_map, hc, Option.map_some]
    -- a block that came from an elder one
    have hh' : ∀ (c i : Nat), ss[c]? = some (.inl i) → ∃ b', h'[c]? = some b' ∧ (trB noLook false ρ (hAt st.h i) = some b' ∨ b' = .dead) := by
      intro c i hc
      have := hbg c _ hc
      simp only at this
      cases ht : trB noLook false ρ (hAt st.h i) with
      | none => simp only [ht] at this; exact ⟨_, this, .inr rfl⟩
      | some b => simp only [ht] at this; exact ⟨_, this, .inl rfl⟩
    have hown : ∀ c b o, Own1 h' L' c b o → ∃ i, ss[c]? = some (.inl i) ∧ Own1 st.h L i b o := by
      rintro c b o ⟨s, p, g1, g2, g3⟩
      obtain ⟨bb, hb, rfl⟩ := shAt' g1
      have hlt := getElem?_lt hb
      rw [hbl] at hlt
      cases hc : ss[c]? with
      | none => rw [List.getElem?_eq_none_iff] at hc; omega
      | some s =>
        have hbc := hbg c s hc
        cases s with
        | inr k =>
          have : bb = rowNew k := by
            have e : h'[c]? = some (rowNew k) := hbc
            rw [hb] at e; simpa using e
          subst this
          exact absurd g3 rowNew_owns
        | inl i =>
          refine ⟨i, rfl, ?_⟩
          obtain ⟨b', q1, q2⟩ := hh' c i hc
          rw [hb] at q1; simp only [Option.some.injEq] at q1; subst q1
          rcases q2 with q2 | q2
          · have hsh := trB_sh q2
            rw [hsh] at g3
            have hi : i < st.h.length := by
              rcases Nat.lt_or_ge i st.h.length with q | q
              · exact q
              · simp only [hAt, List.getD, List.getElem?_eq_none q, Option.getD_none] at g3; exact g3.elim
            have hA : st.h[i]? = some (hAt st.h i) := by simp [hAt, List.getD, hi]
            have hLi : L[i]? = some (L.getD i default) := by rw [List.getD, List.getElem?_eq_getElem (by rw [I.len]; exact hi)]; rfl
            rw [hL'l c i hc, Option.some.injEq] at g2
            exact ⟨_, p, shAt hA, by rw [hLi, g2], g3⟩
          · subst q2; exact g3.elim
    have hAsub : ∀ b o, (cx X h' L' w).A b o → (cx X st.h L w).A b o := by
      rintro b o (q | ⟨c, s, p, g1, g2, g3⟩)
      · exact .inl q
      · obtain ⟨i, _, g⟩ := hown c b o ⟨s, p, g1, g2, g3⟩
        exact .inr g.own
    have hro : RO (cx X st.h L w) (cx X h' L' w) := fun b o v hv hA => ⟨hv, fun q => hA (hAsub b o q)⟩
    have hshape : ∀ (i c : Nat) s, (cx X st.h L w).S[i]? = some s → ss[c]? = some (.inl i) → ((cx X h' L' w).S[c]? = some s ∧ (cx X h' L' w).L[c]? = (cx X st.h L w).L[i]?) ∨ (cx X h' L' w).S[c]? = some .dead := by
      intro i c s hs hc
      obtain ⟨b, hb, rfl⟩ := shAt' hs
      obtain ⟨b', q1, q2⟩ := hh' c i hc
      rw [hAt_some hb] at q2
      rcases q2 with q2 | q2
      · refine .inl ⟨?_, ?_⟩
        · show (h'.map Blk.sh)[c]? = _
          rw [shAt q1, trB_sh q2]
        · show L'[c]? = L[i]?
          rw [hL'l c i hc, List.getD, List.getElem?_eq_getElem (by rw [I.len]; exact getElem?_lt hb)]; rfl
      · subst q2; exact .inr (shAt q1)
    have T : TrOk (cx X st.h L w) (cx X h' L' w) noLook false ρ := by
      refine ⟨rfl, fun z z' u hz ht g => ?_⟩
      cases z <;> simp only [AV.isRef, Bool.false_eq_true] at hz
      · rename_i id p off len
        obtain ⟨j, q, hr, rfl⟩ : ∃ j q, ρ id p = some (j, q) ∧ z' = .own j q off len := by
          rcases tr_own ht with q | ⟨_, q, _⟩ | ⟨_, q, _⟩
          · exact q
          · cases q
          · cases q
        obtain ⟨rfl, hc⟩ := hρ _ _ _ _ hr
        have g0 := leaf_own g
        simp only [leaf] at g ⊢
        cases hs : (cx X st.h L w).S[id]? with
        | none => simp [hs] at g
        | some s =>
          rcases hshape id j s hs hc with ⟨e1, e2⟩ | e
          · rw [e1, e2]; rw [hs] at g; exact g
          · rw [e]; exact g0
      · rename_i id p
        obtain ⟨j, q, hr, rfl⟩ := tr_ptr ht
        obtain ⟨rfl, hc⟩ := hρ _ _ _ _ hr
        have g0 := leaf_ptr g
        simp only [leaf] at g ⊢
        cases hs : (cx X st.h L w).S[id]? with
        | none => simp [hs] at g
        | some s =>
          rcases hshape id j s hs hc with ⟨e1, e2⟩ | e
          · rw [e1, e2]; rw [hs] at g; exact g
          · rw [e]; exact g0
      · simp [trA] at ht
    have hL'len : L'.length = h'.length := by simp [L', h', hbl]
    have I' : Inv X h' L' w := by
      refine ⟨I.eok, hL'len, fun c b p hb hp => ?_, fun i j s t p q b o hij hs ht hp hq o1 o2 => ?_, fun b o ⟨c, s, p, g1, g2, g3⟩ => ?_, fun b o ⟨c, s, p, g1, g2, g3⟩ => ?_, I.obd, I.stp, fun g v hg => ?_, I.lone⟩
      · have hlt := getElem?_lt hb
        rw [hbl] at hlt
        cases hc : ss[c]? with
        | none => rw [List.getElem?_eq_none_iff] at hc; omega
        | some s =>
          have hbc : h'[c]? = _ := hbg c s hc
          cases s with
          | inr k =>
            rw [hb, Option.some.injEq] at hbc
            subst hbc
            exact rowNew_ok
          | inl i =>
            obtain ⟨b', q1, q2⟩ := hh' c i hc
            rw [hb] at q1; simp only [Option.some.injEq] at q1; subst q1
            rcases q2 with q2 | q2
            · rcases Nat.lt_or_ge i st.h.length with hi | hi
              · have hA : st.h[i]? = some (hAt st.h i) := by simp [hAt, List.getD, hi]
                rw [hL'l c i hc, Option.some.injEq] at hp
                subst hp
                refine BlkOK.tr T rfl (.inr hro) q2 (I.blk i _ _ hA ?_)
                rw [List.getD, List.getElem?_eq_getElem (by rw [I.len]; exact hi)]; rfl
              · have : hAt st.h i = .rsv := by simp [hAt, List.getD, List.getElem?_eq_none hi]
                rw [this] at q2
                simp only [trB, Option.some.injEq] at q2
                subst q2; trivial
            · subst q2; trivial
      · obtain ⟨i1, c1, g1⟩ := hown i b o ⟨s, p, hs, hp, o1⟩
        obtain ⟨i2, c2, g2⟩ := hown j b o ⟨t, q, ht, hq, o2⟩
        have := Own1.unique I g1 g2
        subst this
        exact hij (srcIds_inj hnd c1 c2)
      · obtain ⟨i, _, g⟩ := hown c b o ⟨s, p, g1, g2, g3⟩; exact I.out b o g.own
      · obtain ⟨i, _, g⟩ := hown c b o ⟨s, p, g1, g2, g3⟩; exact I.new b o g.own
      · obtain ⟨cs, g1, g2⟩ := I.glb g v hg
        have T0 : TrOk (cx X st.h L w) (cx X h' L' w) noLook false (fun _ _ => none) := by
          refine ⟨rfl, fun x x' v hx ht g => ?_⟩
          cases x <;> simp only [AV.isRef, Bool.false_eq_true] at hx <;> simp [trA] at ht
        exact ⟨cs, tr_Cells T0 v v cs (.inr hro) (hG.gtr g v hg) g1, fun i hi => ⟨(g2 i hi).1, fun q => (g2 i hi).2 (hAsub _ _ q)⟩⟩
    refine ⟨L', ⟨I', ⟨?_, fun i v x hv hx => ?_⟩, R.rel.dfr⟩, fun i v hi hr => ?_⟩
    · rw [(normT_get st.t 0).1]; exact R.rel.tmp.1
    · have hlt : i < st.t.length := by have := getElem?_lt hv; rwa [(normT_get st.t 0).1] at this
      have h1 := List.getElem?_eq_getElem hlt
      have h2 := R.rel.tmp.2 i _ x h1 hx
      have h3 := (normT_get (live := a.live) (mv := a.mv) (ρ := ρ) st.t 0).2 i _ h1
      rw [hv, Option.some.injEq] at h3
      rw [Nat.zero_add] at h3
      have tr : Val (cx X h' L' w) (match trA noLook false ρ st.t[i] with | some v' => v' | none => .dead) x := by
        cases ht : trA noLook false ρ st.t[i] with
        | none => exact trivial
        | some v' => exact tr_Val T _ _ _ (.inr hro) ht h2
      cases hm : memN i a.live with
      | false => rw [hm] at h3; simp only [cond_false] at h3; subst h3; exact trivial
      | true =>
        rw [hm] at h3
        simp only [cond_true] at h3
        cases hf : findMvT i a.mv with
        | none => rw [hf] at h3; simp only at h3; rw [h3]; exact tr
        | some m =>
          rw [hf] at h3
          obtain ⟨hm1, hm2, hm3⟩ := findMvT_some hf
          by_cases hnil : st.t[i] = .nils
          · rw [hnil] at h3 h2
            simp only at h3
            subst h3
            have hx : x = .slice none 0 0 := h2
            have hb := hmv m hm1
            simp only [Bool.and_eq_true] at hb
            obtain ⟨⟨_, hb2⟩, hb3⟩ := hb
            have hb2 : m.c < a.size := by simpa [Nat.blt_eq] using hb2
            obtain ⟨s, e1, e2⟩ := hsg m.c hb2
            rw [Nat.zero_add] at e2
            unfold srcOf at e2
            cases hfm : findMv m.c a.mv with
            | none => rw [hfm] at hb3; cases hb3
            | some m' =>
              rw [hfm] at hb3 e2
              simp only [Bool.and_eq_true] at hb3
              have hp' : m'.p = none := by
                have := eq_of_beq hb3.2
                rw [hm3] at this
                simpa using this
              simp only [hp'] at e2
              have ht : m'.t = i := by rw [Nat.eq_of_beq_eq_true hb3.1, hm2]
              have hg : st.t.getD m'.t und = .nils := by rw [ht, List.getD, h1]; exact hnil
              simp only [hg, Option.some.injEq] at e2
              subst e2
              have hbc : h'[m.c]? = some (rowNew m'.k) := hbg m.c _ e1
              rw [Val_leaf rfl (by simp) (by simp)]
              have hlt2 := getElem?_lt hbc
              have hLt : m.c < L'.length := by rw [hL'len]; exact hlt2
              have hLc : (cx X h' L' w).L[m.c]? = some (L'[m.c]'hLt) := List.getElem?_eq_getElem hLt
              rw [hx]
              exact rowNew_leaf (cx_S hbc) hLc
          · have : v = (match trA noLook false ρ st.t[i] with | some v' => v' | none => .dead) := by
              rw [h3]
              cases hv2 : st.t[i] <;> first | rfl | exact absurd hv2 hnil
            rw [this]; exact tr
    · have hilt : i < b0.length := getElem?_lt hi
      obtain ⟨s, e1, e2⟩ := hsg i (by omega)
      rw [Nat.zero_add] at e2
      unfold srcOf at e2
      have hfn : findMv i a.mv = none := by
        cases hf : findMv i a.mv with
        | none => rfl
        | some m =>
          obtain ⟨q1, q2⟩ := findMv_some hf
          have hb := hmv m q1
          simp only [Bool.and_eq_true] at hb
          have := Nat.le_of_ble_eq_true hb.1.1
          omega
      rw [hfn] at e2
      simp only [Option.some.injEq] at e2
      subst e2
      obtain ⟨b', q1, q2⟩ := hh' i i e1
      rcases R.pin i v hi hr with ⟨v', r1, r2, r3⟩ | r1
      · rw [hAt_some r1] at q2
        rcases q2 with q2 | q2
        · have hs := trB_sh q2
          refine .inl ⟨b', q1, by rw [hs, r2], ?_⟩
          rw [hL'l i i e1, ← r3, List.getD, List.getElem?_eq_getElem (by rw [I.len]; exact getElem?_lt r1)]; rfl
        · subst q2; exact .inr q1
      · rw [hAt_some r1] at q2
        rcases q2 with q2 | q2
        · simp only [trB, Option.some.injEq] at q2; subst q2; exact .inr q1
        · subst q2; exact .inr q1
theorem norm_ok {X : Fx} (hG : GOk X.G) {b0 : List Blk} {L0 : List Loc} {a : Ann} {st st' : St} (hn : norm b0.length a st = some st') {L : List Loc} {ac : Act} {w : World} (R : RelP X b0 L0 st L ac w) : ∃ L', RelP X b0 L0 st' L' ac w := by
  obtain ⟨L1, R1⟩ := preL_ok a.pre R
  exact norm0_ok hG hn R1
end Go.Ev
namespace Go.Ev
def LoopWp (P : Program) (rd : Option Nat) (c : Code) (Q : Exit → Act → World → Prop) (a : Act) (w : World) : Prop :=
  ∀ (b : Frame) (k : List Item) (cs : List Frame), b.roundOf = rd → ∃ e a' w', Q e a' w' ∧ ArrivesIn (Machine.fenced P (fz rd)) P (lone (b.atR a (.code c :: .inLoop c :: k)) cs w) b k cs e a' w'
theorem fz_calm {rd : Option Nat} {P : Program} {fr : Frame} {cs : List Frame} {w : World} (h : fr.about P w = none) : (lone fr cs w).fenced P (fz rd) :=
  fenced_calm (n := 0) (F := fz rd) trivial (fz_room rd _) h
theorem loop_step {P : Program} {rd : Option Nat} {c : Code} {Q : Exit → Act → World → Prop} {a : Act} {w : World} (h : c.wpIn (fz rd) 0 P (Exit.then (LoopWp P rd c Q) Q) a w) : LoopWp P rd c Q a w := by
  intro b k cs hro
  obtain ⟨e, a₁, w₁, hq, harr⟩ := h b (.inLoop c :: k) cs hro trivial (fz_room rd _)
  cases e with
  | normal =>
    obtain ⟨e₂, a₂, w₂, hq₂, harr₂⟩ := hq b k cs hro
    exact ⟨e₂, a₂, w₂, hq₂, .of_steps (StepsIn.trans harr (.one (fz_calm rfl) stepR_inLoop)) harr₂⟩
  | exit id => exact ⟨_, a₁, w₁, hq, .pass (x := .inLoop c) rfl (fun _ _ => .inl (by simp)) harr⟩
  | goto l => exact ⟨_, a₁, w₁, hq, .pass (x := .inLoop c) rfl (fun _ _ => .inl (by simp)) harr⟩
  | ret => exact ⟨_, a₁, w₁, hq, .pass (x := .inLoop c) rfl (fun _ _ => .inl (by simp)) harr⟩
  | panic ch => exact ⟨_, a₁, w₁, hq, .pass (x := .inLoop c) rfl (fun _ _ => .inl (by simp)) harr⟩
  | outgrown => exact ⟨_, a₁, w₁, hq, .pass (x := .inLoop c) rfl (fun _ _ => .inl (by simp)) harr⟩
theorem wp_loop_of {P : Program} {rd : Option Nat} {c : Code} {Q : Exit → Act → World → Prop} {a : Act} {w : World} (h : LoopWp P rd c Q a w) : (Code.loop c).wpIn (fz rd) 0 P Q a w := by
  intro b k cs hro _ _
  obtain ⟨e, a', w', hq, harr⟩ := h b k cs hro
  exact ⟨e, a', w', hq, .of_steps (.one (fz_calm rfl) stepR_loop) harr⟩
def ScopeWp (P : Program) (rd : Option Nat) (c rest : Code) (Q : Exit → Act → World → Prop) (a : Act) (w : World) : Prop :=
  ∀ (b : Frame) (k : List Item) (cs : List Frame), b.roundOf = rd → ∃ e a' w', Q e a' w' ∧ ArrivesIn (Machine.fenced P (fz rd)) P (lone (b.atR a (.code rest :: .inScope c :: k)) cs w) b k cs e a' w'
def JumpWp (P : Program) (rd : Option Nat) (c : Code) (Q : Exit → Act → World → Prop) (l : Nat) (a : Act) (w : World) : Prop :=
  (findLabel c l = none ∧ Q (.goto l) a w) ∨ ∃ rest, findLabel c l = some rest ∧ ScopeWp P rd c rest Q a w
def Exit.jumps (J : Nat → Act → World → Prop) (Q : Exit → Act → World → Prop) : Exit → Act → World → Prop
  | .goto l, a, w => J l a w
  | e, a, w => Q e a w
theorem stepR_scope {P : Program} {b : Frame} {a : Act} {k : List Item} {cs : List Frame} {w : World} {c : Code} : step P (lone (b.atR a (.code (.scope c) :: k)) cs w) = .next (lone (b.atR a (.code c :: .inScope c :: k)) cs w) :=
  step_lone_go (by simp [stepG, stepG.exec, Frame.atR])
theorem stepR_inScope {P : Program} {b : Frame} {a : Act} {k : List Item} {cs : List Frame} {w : World} {c : Code} : step P (lone (b.atR a (.inScope c :: k)) cs w) = .next (lone (b.atR a k) cs w) :=
  step_lone_go (by simp [stepG, stepG.exec, Frame.atR])
theorem scope_step {P : Program} {rd : Option Nat} {c rest : Code} {Q : Exit → Act → World → Prop} {a : Act} {w : World} (h : rest.wpIn (fz rd) 0 P (Exit.jumps (JumpWp P rd c Q) Q) a w) : ScopeWp P rd c rest Q a w := by
  intro b k cs hro
  obtain ⟨e, a₁, w₁, hq, harr⟩ := h b (.inScope c :: k) cs hro trivial (fz_room rd _)
  cases e with
  | normal => exact ⟨.normal, a₁, w₁, hq, StepsIn.trans harr (.one (fz_calm rfl) stepR_inScope)⟩
  | exit id =>
    have hx : exitTo id (.inScope c :: k) = exitTo id k := by simp [exitTo]
    exact ⟨.exit id, a₁, w₁, hq, fun k' hk => harr.1 k' (by rw [hx]; exact hk), fun hr hk => harr.2 hr (by rw [hx]; exact hk)⟩
  | goto l =>
    rcases hq with ⟨hf, hq⟩ | ⟨rest', hf, hq⟩
    · have hx : gotoIn l (.inScope c :: k) = gotoIn l k := by simp [gotoIn, hf]
      exact ⟨.goto l, a₁, w₁, hq, fun k' hk => harr.1 k' (by rw [hx]; exact hk), fun hr hk => harr.2 hr (by rw [hx]; exact hk)⟩
    · obtain ⟨e₂, a₂, w₂, hq₂, harr₂⟩ := hq b k cs hro
      exact ⟨e₂, a₂, w₂, hq₂, .of_steps (harr.1 _ (by simp [gotoIn, hf])) harr₂⟩
  | ret => exact ⟨_, a₁, w₁, hq, harr⟩
  | panic ch => exact ⟨_, a₁, w₁, hq, harr⟩
  | outgrown => exact ⟨_, a₁, w₁, hq, harr⟩
theorem wp_scope_of {P : Program} {rd : Option Nat} {c : Code} {Q : Exit → Act → World → Prop} {a : Act} {w : World} (h : ScopeWp P rd c c Q a w) : (Code.scope c).wpIn (fz rd) 0 P Q a w := by
  intro b k cs hro _ _
  obtain ⟨e, a', w', hq, harr⟩ := h b k cs hro
  exact ⟨e, a', w', hq, .of_steps (.one (fz_calm rfl) stepR_scope) harr⟩
inductive Out where
  | nrm (st : St)
  | ext (i : Nat) (st : St)
  | gto (l : Nat) (st : St)
  | ret (st : St)
def Out.app {R : Type} (k : K R) : Out → Option R
  | .nrm st => k.nrm st
  | .ext i st => k.ext i st
  | .gto l st => k.gto l st
  | .ret st => k.ret st
def At (X : Fx) (b0 : List Blk) (L0 : List Loc) (st : St) (a : Act) (w : World) : Prop := ∃ L, RelP X b0 L0 st L a w
def PO (X : Fx) (b0 : List Blk) (L0 : List Loc) (o : Out) : Exit → Act → World → Prop
  | .normal, a, w => ∃ st, o = .nrm st ∧ At X b0 L0 st a w
  | .exit i, a, w => ∃ st, o = .ext i st ∧ At X b0 L0 st a w
  | .goto l, a, w => ∃ st, o = .gto l st ∧ At X b0 L0 st a w
  | .ret, a, w => ∃ st, o = .ret st ∧ At X b0 L0 st a w
  | .outgrown, _, _ => False
  | .panic _, _, _ => False
def CodeOk (G : Gi) (np : Nat) (c : Code) (st : St) (o : Out) : Prop :=
  ∀ (X : Fx), X.G = G → ∀ (b0 : List Blk) (L0 : List Loc) (a : Act) (w : World), b0.length = np → At X b0 L0 st a w → ∀ rd, c.wpIn (fz rd) 0 G.P (PO X b0 L0 o) a w
theorem findLabel_isSome (c : Code) (l : Nat) : (findLabel c l).isSome = hasL c l := by
  induction c with
  | seq a b iha ihb =>
    simp only [findLabel, hasL]
    rw [← iha, ← ihb]
    cases ha : findLabel a l with
    | none => simp
    | some r => simp
  | label l' =>
    simp only [findLabel, hasL]
    by_cases h : l' = l
    · subst h; simp [Nat.beq_refl]
    · have : Nat.beq l' l = false := by cases hb : Nat.beq l' l; rfl; exact absurd (Nat.eq_of_beq_eq_true hb) h
      simp [h, this]
  | _ => simp [findLabel, hasL]
theorem seq_out {G : Gi} {np : Nat} {a b : Code} {st : St} {o1 : Out} (ha : CodeOk G np a st o1) {o : Out}
    (hn : (∃ st1, o1 = .nrm st1 ∧ CodeOk G np b st1 o) ∨ ((∀ st1, o1 ≠ .nrm st1) ∧ o = o1)) : CodeOk G np (.seq a b) st o := by
  intro X hX b0 L0 ac w hb hat rd
  refine wpIn_seq (wpIn_mono (ha X hX b0 L0 ac w hb hat rd) fun e a' w' he => ?_)
  rcases hn with ⟨st1, rfl, hb2⟩ | ⟨hne, rfl⟩
  · cases e with
    | normal => obtain ⟨s, e1, h⟩ := he; cases e1; exact hb2 X hX b0 L0 a' w' hb h rd
    | exit i => obtain ⟨s, e1, h⟩ := he; cases e1
    | goto i => obtain ⟨s, e1, h⟩ := he; cases e1
    | ret => obtain ⟨s, e1, h⟩ := he; cases e1
    | outgrown => exact he.elim
    | panic ch => exact he.elim
  · cases e with
    | normal => obtain ⟨s, e1, h⟩ := he; exact absurd e1 (hne s)
    | exit i => exact he
    | goto i => exact he
    | ret => exact he
    | outgrown => exact he.elim
    | panic ch => exact he.elim
theorem nmOf_ok {G : Gi} (hG : GOk G) {np : Nat} {an : Option Ann} {st st' : St} (h : nmOf np an st = some st') {X : Fx} (hX : X.G = G) {b0 : List Blk} {L0 : List Loc} {a : Act} {w : World} (hb : b0.length = np)
    (hat : At X b0 L0 st a w) : At X b0 L0 st' a w := by
  cases an with
  | none => simp only [nmOf, Option.some.injEq] at h; subst h; exact hat
  | some n =>
    obtain ⟨L, R⟩ := hat
    subst hX; subst hb
    exact norm_ok hG h R
theorem goto_out {G : Gi} (hG : GOk G) {np : Nat} {lb : Nat → Option Ann} {b : Code} {R : Type} {k : K R} {r : R} {J : Nat → St → Option R}
    (hJ : ∀ (l : Nat) (st : St), J l st = some r → ∃ rest, findLabel b l = some rest ∧ ∃ o, o.app k = some r ∧
        ∀ (X : Fx), X.G = G → ∀ (b0 : List Blk) (L0 : List Loc) (a : Act) (w : World), b0.length = np → At X b0 L0 st a w → ∀ rd, ScopeWp G.P rd b rest (PO X b0 L0 o) a w)
    {l : Nat} {st : St} (h : gotoK (hasL b) (fun l => nmOf np (lb l)) k J l st = some r) : ∃ o, o.app k = some r ∧
        ∀ (X : Fx), X.G = G → ∀ (b0 : List Blk) (L0 : List Loc) (a : Act) (w : World), b0.length = np → At X b0 L0 st a w → ∀ rd, JumpWp G.P rd b (PO X b0 L0 o) l a w := by
  unfold gotoK at h
  cases hl : hasL b l with
  | false =>
    rw [hl] at h
    simp only [cond_false] at h
    have hn : findLabel b l = none := by
      have := findLabel_isSome b l
      rw [hl] at this
      simpa using this
    exact ⟨.gto l st, h, fun X hX b0 L0 a w hb hat rd => .inl ⟨hn, st, rfl, hat⟩⟩
  | true =>
    rw [hl] at h
    simp only [cond_true] at h
    split at h
    · rename_i st1 hst1
      obtain ⟨rest, hf, o, h1, h2⟩ := hJ l st1 h
      exact ⟨o, h1, fun X hX b0 L0 a w hb hat rd => .inr ⟨rest, hf, h2 X hX b0 L0 a w hb (nmOf_ok hG hst1 hX hb hat) rd⟩⟩
    · cases h
theorem evC_ok {G : Gi} (hG : GOk G) (hm : G.P.follows .mixedOrders = true) (A : Anns) (np n : Nat) {R : Type} : ∀ (c : Code),
    (∀ (k : K R) (st : St) (r : R), evC G A np n c none k st = some r → ∃ o, o.app k = some r ∧ CodeOk G np c st o) ∧
    (∀ (l : Nat) (k : K R) (st : St) (r : R), evC G A np n c (some l) k st = some r → ∃ rest, findLabel c l = some rest ∧ ∃ o, o.app k = some r ∧ CodeOk G np rest st o) := by
  intro c
  induction c with
  | skip =>
    refine ⟨fun k st r h => ?_, fun l k st r h => by simp [evC] at h⟩
    simp only [evC] at h
    exact ⟨.nrm st, h, fun X hX b0 L0 a w hb hat rd => wpIn_skip ⟨st, rfl, hat⟩⟩
  | label l' =>
    refine ⟨fun k st r h => ?_, fun l k st r h => ?_⟩
    · simp only [evC] at h
      exact ⟨.nrm st, h, fun X hX b0 L0 a w hb hat rd => wpIn_label ⟨st, rfl, hat⟩⟩
    · simp only [evC] at h
      obtain ⟨h1, h2⟩ := cond_none h
      have := Nat.eq_of_beq_eq_true h1
      subst this
      exact ⟨.skip, by simp [findLabel], .nrm st, h2, fun X hX b0 L0 a w hb hat rd => wpIn_skip ⟨st, rfl, hat⟩⟩
  | exit id =>
    refine ⟨fun k st r h => ?_, fun l k st r h => by simp [evC] at h⟩
    simp only [evC] at h
    exact ⟨.ext id st, h, fun X hX b0 L0 a w hb hat rd => wpIn_exit ⟨st, rfl, hat⟩⟩
  | goto l' =>
    refine ⟨fun k st r h => ?_, fun l k st r h => by simp [evC] at h⟩
    simp only [evC] at h
    exact ⟨.gto l' st, h, fun X hX b0 L0 a w hb hat rd => wpIn_goto ⟨st, rfl, hat⟩⟩
  | ret =>
    refine ⟨fun k st r h => ?_, fun l k st r h => by simp [evC] at h⟩
    simp only [evC] at h
    exact ⟨.ret st, h, fun X hX b0 L0 a w hb hat rd => wpIn_ret ⟨st, rfl, hat⟩⟩
  | region id ops draw =>
    refine ⟨fun k st r h => ?_, fun l k st r h => by simp [evC] at h⟩
    simp only [evC] at h
    obtain ⟨st', h1, h2⟩ := evR_ok hG hm h
    refine ⟨.nrm st', h1, fun X hX b0 L0 a w hb ⟨L, hR⟩ rd => ?_⟩
    exact h2 X hX b0 L0 L a w _ (fun L a w hR => ⟨st', rfl, L, hR⟩) hR rd
  | cond c a b iha ihb =>
    refine ⟨fun k st r h => ?_, fun l k st r h => by simp [evC] at h⟩
    simp only [evC] at h
    split at h
    · rename_i t ht
      have hev : ∀ {X : Fx} {b0 L0 ac w}, At X b0 L0 st ac w → ac.eval c = .bool t := by
        rintro X b0 L0 ac w ⟨L, hR⟩
        have := hR.rel.eval c
        rw [ht] at this
        exact this
      cases t with
      | true =>
        obtain ⟨o, h1, h2⟩ := iha.1 k st r h
        exact ⟨o, h1, fun X hX b0 L0 ac w hb hat rd => wpIn_cond_true (hev hat) (h2 X hX b0 L0 ac w hb hat rd)⟩
      | false =>
        obtain ⟨o, h1, h2⟩ := ihb.1 k st r h
        exact ⟨o, h1, fun X hX b0 L0 ac w hb hat rd => wpIn_cond_false (hev hat) (h2 X hX b0 L0 ac w hb hat rd)⟩
    · cases h
  | seq a b iha ihb =>
    have key : ∀ (x : Code) (k : K R) (st : St) (r : R) (o1 : Out), o1.app { k with nrm := evC G A np n b none k } = some r → CodeOk G np x st o1 → ∃ o, o.app k = some r ∧ CodeOk G np (.seq x b) st o := by
      intro x k st r o1 h1 h2
      cases o1 with
      | nrm st1 =>
        obtain ⟨o, h3, h4⟩ := ihb.1 k st1 r h1
        exact ⟨o, h3, seq_out h2 (.inl ⟨st1, rfl, h4⟩)⟩
      | ext i st1 => exact ⟨.ext i st1, h1, seq_out h2 (.inr ⟨by simp, rfl⟩)⟩
      | gto i st1 => exact ⟨.gto i st1, h1, seq_out h2 (.inr ⟨by simp, rfl⟩)⟩
      | ret st1 => exact ⟨.ret st1, h1, seq_out h2 (.inr ⟨by simp, rfl⟩)⟩
    refine ⟨fun k st r h => ?_, fun l k st r h => ?_⟩
    · simp only [evC] at h
      obtain ⟨o1, h1, h2⟩ := iha.1 _ st r h
      exact key a k st r o1 h1 h2
    · simp only [evC] at h
      cases hl : hasL a l with
      | true =>
        rw [hl] at h
        simp only [cond_true] at h
        obtain ⟨rest, hf, o1, h1, h2⟩ := iha.2 l _ st r h
        obtain ⟨o, h3, h4⟩ := key rest k st r o1 h1 h2
        exact ⟨.seq rest b, by simp [findLabel, hf], o, h3, h4⟩
      | false =>
        rw [hl] at h
        simp only [cond_false] at h
        obtain ⟨rest, hf, o, h1, h2⟩ := ihb.2 l k st r h
        have hn : findLabel a l = none := by
          have := findLabel_isSome a l
          rw [hl] at this
          simpa using this
        exact ⟨rest, by simp [findLabel, hn, hf], o, h1, h2⟩
  | block id b ihb =>
    refine ⟨fun k st r h => ?_, fun l k st r h => by simp [evC] at h⟩
    simp only [evC] at h
    obtain ⟨o1, h1, h2⟩ := ihb.1 _ st r h
    have other : (∀ st1, o1 ≠ .ext id st1) → o1.app k = some r → ∃ o, o.app k = some r ∧ CodeOk G np (.block id b) st o := by
      intro hne ho
      refine ⟨o1, ho, fun X hX b0 L0 a w hb hat rd => wpIn_block (wpIn_mono (h2 X hX b0 L0 a w hb hat rd) fun e a' w' he => ?_)⟩
      cases e with
      | exit i =>
        obtain ⟨s, e1, h⟩ := he
        simp only [Exit.inBlock]
        by_cases hi : i = id
        · subst hi; exact absurd e1 (hne s)
        · rw [if_neg hi]; exact ⟨s, e1, h⟩
      | _ => exact he
    cases o1 with
    | ext i st1 =>
      simp only [Out.app] at h1
      cases hi : Nat.beq i id with
      | true =>
        rw [hi] at h1
        have := Nat.eq_of_beq_eq_true hi
        subst this
        refine ⟨.nrm st1, h1, fun X hX b0 L0 a w hb hat rd => wpIn_block (wpIn_mono (h2 X hX b0 L0 a w hb hat rd) fun e a' w' he => ?_)⟩
        cases e with
        | exit j =>
          obtain ⟨s, e1, h⟩ := he
          cases e1
          simp only [Exit.inBlock, if_true]
          exact ⟨_, rfl, h⟩
        | normal => obtain ⟨s, e1, h⟩ := he; cases e1
        | goto j => obtain ⟨s, e1, h⟩ := he; cases e1
        | ret => obtain ⟨s, e1, h⟩ := he; cases e1
        | outgrown => exact he.elim
        | panic ch => exact he.elim
      | false =>
        rw [hi] at h1
        exact other (by intro s e; cases e; simp [Nat.beq_refl] at hi) h1
    | nrm st1 => exact other (by simp) h1
    | gto l st1 => exact other (by simp) h1
    | ret st1 => exact other (by simp) h1
  | loop b ihb =>
    refine ⟨fun k st r h => ?_, fun l k st r h => by simp [evC] at h⟩
    simp only [evC] at h
    split at h
    · rename_i st1 hst1
      have key : ∀ (m : Nat) (st : St), loopN (evC G A np n b none) k (nmOf np (A.loop (firstR b))) m st = some r → ∃ o, o.app k = some r ∧
          ∀ (X : Fx), X.G = G → ∀ (b0 : List Blk) (L0 : List Loc) (a : Act) (w : World), b0.length = np → At X b0 L0 st a w → ∀ rd, LoopWp G.P rd b (PO X b0 L0 o) a w := by
        intro m
        induction m with
        | zero => intro st h; simp [loopN] at h
        | succ m ih =>
          intro st h
          simp only [loopN] at h
          obtain ⟨o1, h1, h2⟩ := ihb.1 _ st r h
          have other : (∀ st1, o1 ≠ .nrm st1) → o1.app k = some r → ∃ o, o.app k = some r ∧
              ∀ (X : Fx), X.G = G → ∀ (b0 : List Blk) (L0 : List Loc) (a : Act) (w : World), b0.length = np → At X b0 L0 st a w → ∀ rd, LoopWp G.P rd b (PO X b0 L0 o) a w := by
            intro hne ho
            refine ⟨o1, ho, fun X hX b0 L0 a w hb hat rd => loop_step (wpIn_mono (h2 X hX b0 L0 a w hb hat rd) fun e a' w' he => ?_)⟩
            cases e with
            | normal => obtain ⟨s, e1, h⟩ := he; exact absurd e1 (hne s)
            | _ => exact he
          cases o1 with
          | nrm st2 =>
            simp only [Out.app] at h1
            split at h1
            · rename_i st3 hn
              obtain ⟨o, h3, h4⟩ := ih st3 h1
              refine ⟨o, h3, fun X hX b0 L0 a w hb hat rd => loop_step (wpIn_mono (h2 X hX b0 L0 a w hb hat rd) fun e a' w' he => ?_)⟩
              cases e with
              | normal =>
                obtain ⟨s, e1, h⟩ := he
                cases e1
                exact h4 X hX b0 L0 a' w' hb (nmOf_ok hG hn hX hb h) rd
              | exit j => obtain ⟨s, e1, h⟩ := he; cases e1
              | goto j => obtain ⟨s, e1, h⟩ := he; cases e1
              | ret => obtain ⟨s, e1, h⟩ := he; cases e1
              | outgrown => exact he.elim
              | panic ch => exact he.elim
            · cases h1
          | ext i st2 => exact other (by simp) h1
          | gto l st2 => exact other (by simp) h1
          | ret st2 => exact other (by simp) h1
      obtain ⟨o, h1, h2⟩ := key _ st1 h
      exact ⟨o, h1, fun X hX b0 L0 a w hb hat rd => wp_loop_of (h2 X hX b0 L0 a w hb (nmOf_ok hG hst1 hX hb hat) rd)⟩
    · cases h
  | scope b ihb =>
    refine ⟨fun k st r h => ?_, fun l k st r h => by simp [evC] at h⟩
    simp only [evC] at h
    have key : ∀ (m l : Nat) (st : St), jumpN (fun l => evC G A np n b (some l)) (hasL b) k (fun l => nmOf np (A.label l)) m l st = some r → ∃ rest, findLabel b l = some rest ∧ ∃ o, o.app k = some r ∧
        ∀ (X : Fx), X.G = G → ∀ (b0 : List Blk) (L0 : List Loc) (a : Act) (w : World), b0.length = np → At X b0 L0 st a w → ∀ rd, ScopeWp G.P rd b rest (PO X b0 L0 o) a w := by
      intro m
      induction m with
      | zero => intro l st h; simp [jumpN] at h
      | succ m ih =>
        intro l st h
        simp only [jumpN] at h
        obtain ⟨rest, hf, o1, h1, h2⟩ := ihb.2 l _ st r h
        have fin : ∀ o, o.app k = some r → (∀ (X : Fx), X.G = G → ∀ (b0 : List Blk) (L0 : List Loc) (rd : Option Nat), b0.length = np → ∀ e a' w', PO X b0 L0 o1 e a' w' → Exit.jumps (JumpWp G.P rd b (PO X b0 L0 o)) (PO X b0 L0 o) e a' w') →
            ∃ rest, findLabel b l = some rest ∧ ∃ o, o.app k = some r ∧ ∀ (X : Fx), X.G = G → ∀ (b0 : List Blk) (L0 : List Loc) (a : Act) (w : World), b0.length = np → At X b0 L0 st a w → ∀ rd, ScopeWp G.P rd b rest (PO X b0 L0 o) a w := by
          intro o ho hp
          exact ⟨rest, hf, o, ho, fun X hX b0 L0 a w hb hat rd => scope_step (wpIn_mono (h2 X hX b0 L0 a w hb hat rd) (hp X hX b0 L0 rd hb))⟩
        cases o1 with
        | gto l2 st2 =>
          obtain ⟨o, h3, h4⟩ := goto_out hG ih h1
          refine fin o h3 fun X hX b0 L0 rd hb e a' w' he => ?_
          cases e with
          | goto j => obtain ⟨s, e1, h⟩ := he; cases e1; exact h4 X hX b0 L0 a' w' hb h rd
          | exit j => obtain ⟨s, e1, h⟩ := he; cases e1
          | normal => obtain ⟨s, e1, h⟩ := he; cases e1
          | ret => obtain ⟨s, e1, h⟩ := he; cases e1
          | outgrown => exact he.elim
          | panic ch => exact he.elim
        | nrm st2 =>
          refine fin (.nrm st2) h1 fun X hX b0 L0 rd hb e a' w' he => ?_
          cases e with
          | goto j => obtain ⟨s, e1, h⟩ := he; cases e1
          | _ => exact he
        | ext i st2 =>
          refine fin (.ext i st2) h1 fun X hX b0 L0 rd hb e a' w' he => ?_
          cases e with
          | goto j => obtain ⟨s, e1, h⟩ := he; cases e1
          | _ => exact he
        | ret st2 =>
          refine fin (.ret st2) h1 fun X hX b0 L0 rd hb e a' w' he => ?_
          cases e with
          | goto j => obtain ⟨s, e1, h⟩ := he; cases e1
          | _ => exact he
    obtain ⟨o1, h1, h2⟩ := ihb.1 _ st r h
    have fin : ∀ o, o.app k = some r → (∀ (X : Fx), X.G = G → ∀ (b0 : List Blk) (L0 : List Loc) (rd : Option Nat), b0.length = np → ∀ e a' w', PO X b0 L0 o1 e a' w' → Exit.jumps (JumpWp G.P rd b (PO X b0 L0 o)) (PO X b0 L0 o) e a' w') →
        ∃ o, o.app k = some r ∧ CodeOk G np (.scope b) st o := by
      intro o ho hp
      exact ⟨o, ho, fun X hX b0 L0 a w hb hat rd => wp_scope_of (scope_step (wpIn_mono (h2 X hX b0 L0 a w hb hat rd) (hp X hX b0 L0 rd hb)))⟩
    cases o1 with
    | gto l2 st2 =>
      obtain ⟨o, h3, h4⟩ := goto_out hG (key n) h1
      refine fin o h3 fun X hX b0 L0 rd hb e a' w' he => ?_
      cases e with
      | goto j => obtain ⟨s, e1, h⟩ := he; cases e1; exact h4 X hX b0 L0 a' w' hb h rd
      | exit j => obtain ⟨s, e1, h⟩ := he; cases e1
      | normal => obtain ⟨s, e1, h⟩ := he; cases e1
      | ret => obtain ⟨s, e1, h⟩ := he; cases e1
      | outgrown => exact he.elim
      | panic ch => exact he.elim
    | nrm st2 =>
      refine fin (.nrm st2) h1 fun X hX b0 L0 rd hb e a' w' he => ?_
      cases e with
      | goto j => obtain ⟨s, e1, h⟩ := he; cases e1
      | _ => exact he
    | ext i st2 =>
      refine fin (.ext i st2) h1 fun X hX b0 L0 rd hb e a' w' he => ?_
      cases e with
      | goto j => obtain ⟨s, e1, h⟩ := he; cases e1
      | _ => exact he
    | ret st2 =>
      refine fin (.ret st2) h1 fun X hX b0 L0 rd hb e a' w' he => ?_
      cases e with
      | goto j => obtain ⟨s, e1, h⟩ := he; cases e1
      | _ => exact he
  | _ => exact ⟨fun k st r h => by simp [evC] at h, fun l k st r h => by simp [evC] at h⟩
end Go.Ev
namespace Go.Ev
theorem sel_ok {X : Fx} (hG : GOk X.G) {h : List Blk} {L : List Loc} {w : World} (I : Inv X h L w) {snap : Bool} {ρ : Ren} {ss : List Nat} (hnd : ss.Nodup) (hρ : ∀ id p j q, ρ id p = some (j, q) → q = p ∧ ss[j]? = some id)
    (hρn : ∀ id p, ρ id p = none → id ∉ ss) {h' : List Blk} {L' : List Loc} (hh : h' = ss.map fun i => match trB (hAt h) snap ρ (hAt h i) with | some b => b | none => .dead) (hL : L' = ss.map fun i => L.getD i default) :
    Inv X h' L' w ∧ TrOk (cx X h L w) (cx X h' L' w) (hAt h) snap ρ ∧ RO (cx X h L w) (cx X h' L' w) := by
  have hlen : h'.length = ss.length := by simp [hh]
  have hL'l : ∀ (c i : Nat), ss[c]? = some i → L'[c]? = some (L.getD i default) := fun c i hc => by simp only [hL, List.getElem?_map, hc, Option.map_some]
  have hh' : ∀ (c i : Nat), ss[c]? = some i → ∃ b', h'[c]? = some b' ∧ (trB (hAt h) snap ρ (hAt h i) = some b' ∨ b' = .dead) := by
    intro c i hc
    have this : h'[c]? = some (match trB (hAt h) snap ρ (hAt h i) with | some b => b | none => .dead) := by simp only [hh, List.getElem?_map, hc, Option.map_some]
    cases ht : trB (hAt h) snap ρ (hAt h i) with
    | none => simp only [ht] at this; exact ⟨_, this, .inr rfl⟩
    | some b => simp only [ht] at this; exact ⟨_, this, .inl rfl⟩
  have hown : ∀ c b o, Own1 h' L' c b o → ∃ i, ss[c]? = some i ∧ Own1 h L i b o := by
    rintro c b o ⟨s, p, g1, g2, g3⟩
    obtain ⟨bb, hb, rfl⟩ := shAt' g1
    have hlt := getElem?_lt hb
    rw [hlen] at hlt
    cases hc : ss[c]? with
    | none => rw [List.getElem?_eq_none_iff] at hc; omega
    | some i =>
      refine ⟨i, rfl, ?_⟩
      obtain ⟨b', q1, q2⟩ := hh' c i hc
      rw [hb] at q1; simp only [Option.some.injEq] at q1; subst q1
      rcases q2 with q2 | q2
      · have hsh := trB_sh q2
        rw [hsh] at g3
        have hi : i < h.length := by
          rcases Nat.lt_or_ge i h.length with q | q
          · exact q
          · simp only [hAt, List.getD, List.getElem?_eq_none q, Option.getD_none] at g3; exact g3.elim
        have hA : h[i]? = some (hAt h i) := by simp [hAt, List.getD, hi]
        have hLi : L[i]? = some (L.getD i default) := by rw [List.getD, List.getElem?_eq_getElem (by rw [I.len]; exact hi)]; rfl
        rw [hL'l c i hc, Option.some.injEq] at g2
        exact ⟨_, p, shAt hA, by rw [hLi, g2], g3⟩
      · subst q2; exact g3.elim
  have hAsub : ∀ b o, (cx X h' L' w).A b o → (cx X h L w).A b o := by
    rintro b o (q | ⟨c, s, p, g1, g2, g3⟩)
    · exact .inl q
    · obtain ⟨i, _, g⟩ := hown c b o ⟨s, p, g1, g2, g3⟩
      exact .inr g.own
  have hro : RO (cx X h L w) (cx X h' L' w) := fun b o v hv hA => ⟨hv, fun q => hA (hAsub b o q)⟩
  have hshape : ∀ (i c : Nat) s, (cx X h L w).S[i]? = some s → ss[c]? = some i → ((cx X h' L' w).S[c]? = some s ∧ (cx X h' L' w).L[c]? = (cx X h L w).L[i]?) ∨ (cx X h' L' w).S[c]? = some .dead := by
    intro i c s hs hc
    obtain ⟨b, hb, rfl⟩ := shAt' hs
    obtain ⟨b', q1, q2⟩ := hh' c i hc
    rw [hAt_some hb] at q2
    rcases q2 with q2 | q2
    · refine .inl ⟨?_, ?_⟩
      · show (h'.map Blk.sh)[c]? = _
        rw [shAt q1, trB_sh q2]
      · show L'[c]? = L[i]?
        rw [hL'l c i hc, List.getD, List.getElem?_eq_getElem (by rw [I.len]; exact getElem?_lt hb)]; rfl
    · subst q2; exact .inr (shAt q1)
  have T : TrOk (cx X h L w) (cx X h' L' w) (hAt h) snap ρ := by
    refine ⟨rfl, fun z z' u hz ht g => ?_⟩
    cases z <;> simp only [AV.isRef, Bool.false_eq_true] at hz
    · rename_i id p off len
      rcases tr_own ht with ⟨j, q, hr, rfl⟩ | ⟨hr, _, k, l, rfl, hc, hsrc⟩ | ⟨hr, _, hpa, tt, nn, mm, hgr, rfl⟩
      · obtain ⟨rfl, hc⟩ := hρ _ _ _ _ hr
        have g0 := leaf_own g
        simp only [leaf] at g ⊢
        cases hs : (cx X h L w).S[id]? with
        | none => simp [hs] at g
        | some s =>
          rcases hshape id j s hs hc with ⟨e1, e2⟩ | e
          · rw [e1, e2]; rw [hs] at g; exact g
          · rw [e]; exact g0
      · have hlo : lookOk (hAt h) h := by
          intro id hn
          rcases Nat.lt_or_ge id h.length with q | q
          · simp [hAt, List.getD, q]
          · simp [hAt, List.getD, List.getElem?_eq_none q] at hn
        refine snap_ok I hlo hc hsrc ((Val_leaf rfl (by simp) (by simp)).2 g) _ fun b o ho hA => ?_
        rcases hA with q | ⟨c, s, p', g1, g2, g3⟩
        · exact I.out b o ho.own q
        · obtain ⟨i, hi, g4⟩ := hown c b o ⟨s, p', g1, g2, g3⟩
          have := Own1.unique I ho g4
          subst this
          exact hρn _ _ hr (List.mem_of_getElem? hi)
      · subst hpa
        have hlo : lookOk (hAt h) h := by
          intro id hn
          rcases Nat.lt_or_ge id h.length with q | q
          · simp [hAt, List.getD, q]
          · simp [hAt, List.getD, List.getElem?_eq_none q] at hn
        refine snapG_ok (c' := cx X h' L' w) I hlo hgr ((Val_leaf rfl (by simp) (by simp)).2 g) rfl hro fun b o ho hA => ?_
        rcases hA with q | ⟨c, s, p', g1, g2, g3⟩
        · exact I.out b o ho.own q
        · obtain ⟨i, hi, g4⟩ := hown c b o ⟨s, p', g1, g2, g3⟩
          have := Own1.unique I ho g4
          subst this
          exact hρn _ _ hr (List.mem_of_getElem? hi)
    · rename_i id p
      obtain ⟨j, q, hr, rfl⟩ := tr_ptr ht
      obtain ⟨rfl, hc⟩ := hρ _ _ _ _ hr
      have g0 := leaf_ptr g
      simp only [leaf] at g ⊢
      cases hs : (cx X h L w).S[id]? with
      | none => simp [hs] at g
      | some s =>
        rcases hshape id j s hs hc with ⟨e1, e2⟩ | e
        · rw [e1, e2]; rw [hs] at g; exact g
        · rw [e]; exact g0
    · rename_i id n
      obtain ⟨_, l, ll, hb, hc, hn, rfl, hnone⟩ := tr_asl ht
      have hlo : lookOk (hAt h) h := by
        intro id hn
        rcases Nat.lt_or_ge id h.length with q | q
        · simp [hAt, List.getD, q]
        · simp [hAt, List.getD, List.getElem?_eq_none q] at hn
      refine asl_ok I hlo hb hc hn g rfl hro fun i0 hi0 b o _ ho hA => ?_
      rcases hA with q | ⟨c, s, p', g1, g2, g3⟩
      · exact I.out b o ho.own q
      · obtain ⟨i, hi, g4⟩ := hown c b o ⟨s, p', g1, g2, g3⟩
        have := Own1.unique I ho g4
        subst this
        exact hρn _ _ (hnone _ hi0) (List.mem_of_getElem? hi)
  have hL'len : L'.length = h'.length := by simp [hL, hlen]
  refine ⟨⟨I.eok, hL'len, fun c b p hb hp => ?_, fun i j s t p q b o hij hs ht hp hq o1 o2 => ?_, fun b o ⟨c, s, p, g1, g2, g3⟩ => ?_, fun b o ⟨c, s, p, g1, g2, g3⟩ => ?_, I.obd, I.stp, fun g v hg => ?_, I.lone⟩, T, hro⟩
  · have hlt := getElem?_lt hb
    rw [hlen] at hlt
    cases hc : ss[c]? with
    | none => rw [List.getElem?_eq_none_iff] at hc; omega
    | some i =>
      obtain ⟨b', q1, q2⟩ := hh' c i hc
      rw [hb] at q1; simp only [Option.some.injEq] at q1; subst q1
      rcases q2 with q2 | q2
      · rcases Nat.lt_or_ge i h.length with hi | hi
        · have hA : h[i]? = some (hAt h i) := by simp [hAt, List.getD, hi]
          rw [hL'l c i hc, Option.some.injEq] at hp
          subst hp
          refine BlkOK.tr T rfl (.inr hro) q2 (I.blk i _ _ hA ?_)
          rw [List.getD, List.getElem?_eq_getElem (by rw [I.len]; exact hi)]; rfl
        · have : hAt h i = .rsv := by simp [hAt, List.getD, List.getElem?_eq_none hi]
          rw [this] at q2
          simp only [trB, Option.some.injEq] at q2
          subst q2; trivial
      · subst q2; trivial
  · obtain ⟨i1, c1, g1⟩ := hown i b o ⟨s, p, hs, hp, o1⟩
    obtain ⟨i2, c2, g2⟩ := hown j b o ⟨t, q, ht, hq, o2⟩
    have := Own1.unique I g1 g2
    subst this
    have h1 := getElem?_lt c1
    have h2 := getElem?_lt c2
    rw [List.getElem?_eq_getElem h1, Option.some.injEq] at c1
    rw [List.getElem?_eq_getElem h2, Option.some.injEq] at c2
    have hp := List.pairwise_iff_getElem.1 hnd
    rcases Nat.lt_trichotomy i j with q | q | q
    · exact hp i j h1 h2 q (c1.trans c2.symm)
    · exact hij q
    · exact hp j i h2 h1 q (c2.trans c1.symm)
  · obtain ⟨i, _, g⟩ := hown c b o ⟨s, p, g1, g2, g3⟩; exact I.out b o g.own
  · obtain ⟨i, _, g⟩ := hown c b o ⟨s, p, g1, g2, g3⟩; exact I.new b o g.own
  · obtain ⟨cs, g1, g2⟩ := I.glb g v hg
    have T0 : TrOk (cx X h L w) (cx X h' L' w) noLook false (fun _ _ => none) := by
      refine ⟨rfl, fun x x' v hx ht g => ?_⟩
      cases x <;> simp only [AV.isRef, Bool.false_eq_true] at hx <;> simp [trA] at ht
    exact ⟨cs, tr_Cells T0 v v cs (.inr hro) (hG.gtr g v hg) g1, fun i hi => ⟨(g2 i hi).1, fun q => (g2 i hi).2 (hAsub _ _ q)⟩⟩
def rvRun (tmps : Array Value) : ResultVar → Sem Value
  | .tmp t => pure (tmps.getD t undef)
  | .cell a t => do loadVar t (← asAddr (tmps.getD a undef))
theorem results_eq (fn : Func) (tmps : Array Value) : results fn tmps = (do
    let vs ← fn.results.mapM (rvRun tmps)
    pure (if h : vs.size = 1 then vs[0] else .tuple vs)) := by
  unfold results
  congr 2
theorem resV_ok {X : Fx} {st : St} {L : List Loc} {a : Act} {w : World} (R : Rel X st L a w) {rv : ResultVar} {v : AV} (h : resV X.G st rv = some v) :
    ∃ cv, (rvRun a.tmps rv).run X.G.P w = .ok cv w ∧ Val (cx X st.h L w) v cv := by
  cases rv with
  | tmp i =>
    simp only [resV, Option.some.injEq] at h
    subst h
    exact ⟨_, rfl, R.eval (.tmp i)⟩
  | cell x t =>
    simp only [resV] at h
    split at h
    · rename_i id path hx
      split at h
      · rename_i v0 hb
        split at h
        · rename_i y hy
          obtain ⟨hf, h⟩ := cond_none h
          simp only [Option.some.injEq] at h
          subst h
          have hev := R.eval (.tmp x)
          simp only [evO, hx, Act.eval] at hev
          have hlo : lookOk (hAt st.h) st.h := by
            intro id hn
            rcases Nat.lt_or_ge id st.h.length with q | q
            · simp [hAt, List.getD, q]
            · simp [hAt, List.getD, List.getElem?_eq_none q] at hn
          obtain ⟨p, o, s, cs, _, e, _, _, hc, hm⟩ := ptr_var R.inv (hlo.get hb (by simp)) hy hev
          obtain ⟨cv, g1, g2⟩ := run_loadVar' (c := cx X st.h L w) hf hc hm
          refine ⟨cv, ?_, g2⟩
          have ha : (asAddr (a.tmps.getD x undef)).run X.G.P w = .ok ⟨p.b, p.o + o, none⟩ w := by rw [e]; rfl
          simp only [rvRun, Sem.run_bind, ha, Result.andThen_ok]
          exact g1
        · cases h
      · cases h
    · cases h
theorem resL_ok {X : Fx} {st : St} {L : List Loc} {a : Act} {w : World} (R : Rel X st L a w) (fn : Func) : ∀ (l : List ResultVar) {vs : List AV}, resL X.G fn st l = some vs →
    ∃ cvs : List Value, (l.mapM (rvRun a.tmps)).run X.G.P w = .ok cvs w ∧ All2 (Val (cx X st.h L w)) vs cvs ∧ cvs.length = l.length
  | [], vs, h => by simp only [resL, Option.some.injEq] at h; subst h; exact ⟨[], rfl, trivial, rfl⟩
  | rv :: l, vs, h => by
    simp only [resL] at h
    cases h1 : resV X.G st rv with
    | none => simp [h1] at h
    | some v =>
      cases h2 : resL X.G fn st l with
      | none => simp [h1, h2] at h
      | some vs' =>
        simp only [h1, h2, Option.some.injEq] at h
        subst h
        obtain ⟨cv, q1, q2⟩ := resV_ok R h1
        obtain ⟨cvs, r1, r2, r3⟩ := resL_ok R fn l h2
        refine ⟨cv :: cvs, ?_, ⟨q2, r2⟩, by simp [r3]⟩
        rw [List.mapM_cons]
        simp only [Sem.run_bind, q1, r1, Result.andThen_ok, Sem.run_pure]
theorem pinsOk_get : ∀ {l m : List Blk}, pinsOk l m = true → ∀ (i : Nat) v, l[i]? = some (.var v) → ∃ x, m[i]? = some (.var x) ∧ sh x = sh v
  | [], _, _, i, v, h => by simp at h
  | .var v :: l, .var x :: m, h, i, u, hi => by
    simp only [pinsOk, Bool.and_eq_true] at h
    cases i with
    | zero => simp only [List.getElem?_cons_zero, Option.some.injEq, Blk.var.injEq] at hi; subst hi; exact ⟨x, rfl, shbeq _ _ h.1⟩
    | succ i => simpa using pinsOk_get h.2 i u (by simpa using hi)
  | .var v :: l, .row .. :: m, h, _, _, _ => by simp [pinsOk] at h
  | .var v :: l, .gro .. :: m, h, _, _, _ => by simp [pinsOk] at h
  | .var v :: l, .dead :: m, h, _, _, _ => by simp [pinsOk] at h
  | .var v :: l, .rsv :: m, h, _, _, _ => by simp [pinsOk] at h
  | .var v :: l, [], h, _, _, _ => by simp [pinsOk] at h
  | .row .. :: l, b :: m, h, i, u, hi => by
    simp only [pinsOk] at h
    cases i with
    | zero => simp at hi
    | succ i => simpa using pinsOk_get h i u (by simpa using hi)
  | .gro .. :: l, b :: m, h, i, u, hi => by
    simp only [pinsOk] at h
    cases i with
    | zero => simp at hi
    | succ i => simpa using pinsOk_get h i u (by simpa using hi)
  | .gro .. :: l, [], h, _, _, _ => by simp [pinsOk] at h
  | .dead :: l, b :: m, h, i, u, hi => by
    simp only [pinsOk] at h
    cases i with
    | zero => simp at hi
    | succ i => simpa using pinsOk_get h i u (by simpa using hi)
  | .rsv :: l, b :: m, h, i, u, hi => by
    simp only [pinsOk] at h
    cases i with
    | zero => simp at hi
    | succ i => simpa using pinsOk_get h i u (by simpa using hi)
  | .row .. :: l, [], h, _, _, _ => by simp [pinsOk] at h
  | .dead :: l, [], h, _, _, _ => by simp [pinsOk] at h
  | .rsv :: l, [], h, _, _, _ => by simp [pinsOk] at h
theorem ValL_all2 {c : Cx} : ∀ {l : List AV} {m : List Value}, All2 (Val c) l m → ValL c l m
  | [], [], _ => rfl
  | _ :: _, b :: m, ⟨h1, h2⟩ => ⟨b, m, rfl, h1, ValL_all2 h2⟩
  | [], _ :: _, h => h.elim
  | _ :: _, [], h => h.elim
theorem All2_length {α β : Type} {r : α → β → Prop} : ∀ {l : List α} {m : List β}, All2 r l m → l.length = m.length
  | [], [], _ => rfl
  | _ :: l, _ :: m, ⟨_, h⟩ => by simp [All2_length h]
  | [], _ :: _, h => h.elim
  | _ :: _, [], h => h.elim
theorem findE_none {id : Nat} {path : List Nat} : ∀ {E : List (Nat × List Nat)} {j0 : Nat}, findE id path E j0 = none → (∀ e ∈ E, e.2 = path) → id ∉ E.map (·.1)
  | [], _, _, _ => by simp
  | (i, p) :: l, j0, h, hp => by
    simp only [findE] at h
    have hpp : p = path := hp (i, p) (by simp)
    subst hpp
    cases hb : (Nat.beq id i && pathBeq p p) with
    | true => simp [hb] at h
    | false =>
      simp only [hb, cond_false] at h
      have := findE_none h fun e he => hp e (by simp [he])
      simp only [List.map_cons, List.mem_cons, not_or]
      refine ⟨fun e => ?_, this⟩
      subst e
      have hpb : ∀ q : List Nat, pathBeq q q = true := fun q => by induction q with
        | nil => rfl
        | cons a q ih => simp [pathBeq, Nat.beq_refl, ih]
      simp [Nat.beq_refl, hpb] at hb
theorem retE_ok {G : Gi} (hG : GOk G) {R : Type} {fn : Func} {b0 : List Blk} {κ : AV → List Blk → Option R} {r : R} {st : St} {fresh : Bool} (h : retE G fresh fn b0 κ st = some r) : ∃ v bs', κ v bs' = some r ∧
    ∀ (X : Fx), X.G = G → ∀ (L0 L : List Loc) (a : Act) (w : World), RelP X b0 L0 st L a w → ∃ cv, (results fn a.tmps).run G.P w = .ok cv w ∧ Back X b0 L0 v bs' (.returned cv) w := by
  unfold retE at h
  split at h
  · cases h
  · rename_i vs hvs
    simp only at h
    obtain ⟨hnd, h⟩ := cond_none h
    have hnd := nodupN_iff.1 hnd
    split at h
    · cases h
    · rename_i vs' hvs'
      obtain ⟨hpin, h⟩ := cond_none h
      refine ⟨_, _, h, fun X hX L0 L a w hR => ?_⟩
      subst hX
      generalize hN : ((st.h.take b0.length).flatMap fun b => match b with | .var v => rowIds v | _ => []).filter (fun e => !Nat.blt e.1 b0.length) = news0 at *
      have hNp : ∀ e ∈ news0, e.2 = [] := by
        intro e he
        rw [← hN] at he
        obtain ⟨b, _, hb⟩ := List.mem_flatMap.1 (List.mem_filter.1 he).1
        split at hb
        · exact rowIds_nil.1 _ e hb
        · simp at hb
      have hMp : ∀ e ∈ (cond fresh (news0 ++ ((reach st.h vs).filter fun i => !Nat.blt i b0.length && !memN i (news0.map (·.1))).map fun i => (i, ([] : List Nat))) news0), e.2 = [] := by
        intro e he
        cases fresh with
        | false => exact hNp e he
        | true =>
          simp only [cond_true, List.mem_append] at he
          rcases he with he | he
          · exact hNp e he
          · obtain ⟨i, _, rfl⟩ := List.mem_map.1 he; rfl
      generalize (cond fresh (news0 ++ ((reach st.h vs).filter fun i => !Nat.blt i b0.length && !memN i (news0.map (·.1))).map fun i => (i, ([] : List Nat))) news0) = news at *
      generalize hE : ((List.range b0.length).map fun i => (i, ([] : List Nat))) ++ news = E' at *
      have hEp : ∀ e ∈ E', e.2 = [] := by
        intro e he
        rw [← hE, List.mem_append] at he
        rcases he with he | he
        · obtain ⟨i, _, rfl⟩ := List.mem_map.1 he; rfl
        · exact hMp e he
      obtain ⟨I', T, hro⟩ := sel_ok hG hR.rel.inv (snap := true) (ρ := fun id path => match findE id [] E' 0 with | some (j, _) => some (j, path) | none => none) (ss := E'.map (·.1)) hnd
        (fun id p j q hr => by
          cases hf : findE id [] E' 0 with
          | none => simp [hf] at hr
          | some jq =>
            obtain ⟨j', q'⟩ := jq
            simp only [hf, Option.some.injEq, Prod.mk.injEq] at hr
            obtain ⟨_, i, hi, hEi⟩ := findE_some hf
            obtain ⟨rfl, rfl⟩ := hr
            rw [Nat.zero_add] at hi
            subst hi
            exact ⟨rfl, by simp [hEi]⟩)
        (fun id p hr => by
          cases hf : findE id [] E' 0 with
          | none => exact findE_none hf hEp
          | some jq => obtain ⟨j', q'⟩ := jq; simp [hf] at hr)
        (h' := E'.map fun e => match trB (hAt st.h) true (fun id path => match findE id [] E' 0 with | some (j, _) => some (j, path) | none => none) (hAt st.h e.1) with | some b => b | none => .dead)
        (L' := E'.map fun e => L.getD e.1 default) (by simp) (by simp)
      obtain ⟨cvs, q1, q2, q3⟩ := resL_ok hR.rel fn _ hvs
      have hall := trL_all2 T hro hvs' (coerceL_ok (P := X.G.P) (ts := cond fresh [] fn.resultTypes.toList) q2)
      have hlen := All2_length hall
      have hkeep : ∀ (i : Nat) b, b0[i]? = some b → Blk.sh b ≠ .rsv → ∃ b', E'[i]? = some (i, []) ∧ (E'.map fun e => L.getD e.1 default)[i]? = some (L.getD i default) ∧
          (E'.map fun e => match trB (hAt st.h) true (fun id path => match findE id [] E' 0 with | some (j, _) => some (j, path) | none => none) (hAt st.h e.1) with | some b => b | none => Blk.dead)[i]? = some b' ∧
          ((b' = .dead) ∨ (Blk.sh b' = Blk.sh b ∧ L[i]? = L0[i]?)) := by
        intro i b hi hr
        have hlt := getElem?_lt hi
        have hEi : E'[i]? = some (i, []) := by
          rw [← hE, List.getElem?_append_left (by simpa using hlt), List.getElem?_map, List.getElem?_range hlt]; rfl
        refine ⟨_, hEi, by simp only [List.getElem?_map, hEi, Option.map_some], by simp only [List.getElem?_map, hEi, Option.map_some]; rfl, ?_⟩
        rcases hR.pin i b hi hr with ⟨b1, r1, r2, r3⟩ | r1
        · rw [hAt_some r1]
          cases ht : trB (hAt st.h) true (fun id path => match findE id [] E' 0 with | some (j, _) => some (j, path) | none => none) b1 with
          | none => exact .inl rfl
          | some b2 => exact .inr ⟨(trB_sh ht).trans r2, r3⟩
        · rw [hAt_some r1]; exact .inl rfl
      refine ⟨(if h : cvs.toArray.size = 1 then cvs.toArray[0] else .tuple cvs.toArray), ?_, E'.map (fun e => L.getD e.1 default), I', fun i v hi => ?_, fun i k nl l hi => ?_, ?_⟩
      · rw [results_eq]
        have hm : (fn.results.mapM (rvRun a.tmps)).run X.G.P w = .ok cvs.toArray w := by
          rw [Array.mapM_eq_mapM_toList]
          simp only [Sem.run_map, q1]
          rfl
        simp only [Sem.run_bind, hm, Result.andThen_ok, Sem.run_pure]
      · obtain ⟨x, g1, g2⟩ := pinsOk_get hpin i v hi
        refine ⟨x, g1, g2, ?_⟩
        obtain ⟨b', k1, k2, k3, k4⟩ := hkeep i _ hi (by simp [Blk.sh])
        have k3 := Option.some.inj (k3.symm.trans g1)
        subst k3
        rcases k4 with k4 | ⟨_, k4⟩
        · cases k4
        · rw [k2, ← k4, List.getD, List.getElem?_eq_getElem]
          · rfl
          · rcases hR.pin i _ hi (by simp [Blk.sh]) with ⟨b1, r1, _, _⟩ | r1
            · rw [hR.rel.inv.len]; exact getElem?_lt r1
            · rw [hR.rel.inv.len]; exact getElem?_lt r1
      · obtain ⟨b', k1, k2, k3, k4⟩ := hkeep i _ hi (by simp [Blk.sh])
        rcases k4 with k4 | ⟨k4, k5⟩
        · subst k4; exact .inr k3
        · left
          cases b' <;> simp only [Blk.sh, reduceCtorEq, BSh.row.injEq] at k4
          rename_i k' nl' l'
          obtain ⟨rfl, rfl, k4⟩ := k4
          refine ⟨l', k3, k4, ?_⟩
          rw [k2, ← k5, List.getD, List.getElem?_eq_getElem]
          · rfl
          · rcases hR.pin i _ hi (by simp [Blk.sh]) with ⟨b1, r1, _, _⟩ | r1
            · rw [hR.rel.inv.len]; exact getElem?_lt r1
            · rw [hR.rel.inv.len]; exact getElem?_lt r1
      · match vs', cvs, hall, hlen with
        | [], [], _, _ => exact ⟨[], rfl, rfl⟩
        | [v1], [y], h1, _ => exact h1.1
        | v1 :: v2 :: l, y1 :: y2 :: m, h1, _ =>
          refine ⟨_, ValL_all2 h1, ?_⟩
          rw [dif_neg (by simp)]
theorem evF_ok {G : Gi} (hG : GOk G) (hm : G.P.follows .mixedOrders = true) (A : Anns) (n : Nat) {f : Nat} {fn : Func} (hf : G.P.funcs[f]? = some fn) : SoundC G.P G.gt f (fun _ args bs κ => evF G A n fn args bs κ) := by
  intro R args bs κ r h
  simp only [evF] at h
  split at h
  · cases h
  · rename_i c hc
    obtain ⟨hlone, h⟩ := cond_none h
    obtain ⟨o, h1, h2⟩ := (evC_ok hG hm A bs.length n c).1 _ _ _ h
    have main : ∀ st, retE G A.fresh fn bs κ (preL A.pre st) = some r → (∀ (X : Fx) (b0 : List Blk) (L0 : List Loc) e a w, PO X b0 L0 o e a w → (e = .normal ∨ e = .ret) ∧ At X b0 L0 st a w) → ∃ v bs', κ v bs' = some r ∧
        ∀ (X : Fx) (L : List Loc) (w : World) (cargs : Array Value), X.G.P = G.P → X.G.gt = G.gt → X.w0 = w → (∀ b o, X.pin b o ↔ own (bs.map Blk.sh) L b o) → Inv X bs L w →
          All2 (Val (cx X bs L w)) args cargs.toList → Calls G.P f cargs w (Back X bs L v bs') := by
      intro st hst hpo
      obtain ⟨v, bs', h3, h4⟩ := retE_ok hG hst
      refine ⟨v, bs', h3, fun X L w cargs hP hgt hw0 hpin hI hargs => ?_⟩
      -- the same, with this program's contracts
      have inv' : ∀ {h : List Blk} {L : List Loc} {w : World}, Inv X h L w → Inv { X with G := G } h L w := fun I => ⟨by have := I.eok; rw [hP, hgt] at this; exact this, I.len, I.blk, I.dis, I.out, I.new, I.obd, I.stp, fun g v hg => I.glb g v (by rw [hgt]; exact hg), fun q b o hp => by
        have hbe : bs = [] := by cases bs with
          | nil => rfl
          | cons _ _ => rw [show G.lone = true from q] at hlone; cases hlone
        obtain ⟨id, s, p, g1, _, _⟩ := (hpin b o).1 hp
        subst hbe
        simp at g1⟩
      have inv'' : ∀ {h : List Blk} {L : List Loc} {w : World}, Inv { X with G := G } h L w → Inv X h L w := fun I => ⟨by have := I.eok; show EpsOk X.G.P X.eps X.G.gt X.w0; rw [hP, hgt]; exact this, I.len, I.blk, I.dis, I.out, I.new, I.obd, I.stp, fun g v hg => I.glb g v (by rw [hgt] at hg; exact hg), hI.lone⟩
      refine callsIn_wide.1 (callsIn_of_wp (n := 0) hf hc trivial (wpIn_mono (h2 { X with G := G } rfl bs L _ w rfl ⟨L, ⟨inv' hI, ⟨?_, fun i v x hv hx => ?_⟩, rfl⟩, fun i v hi _ => .inl ⟨v, hi, rfl, rfl⟩⟩ none) fun e a' w' he => ?_))
      · have := All2_length hargs
        simp only [List.length_append, List.length_replicate, Array.size_append, Array.size_replicate]
        have hs : cargs.toList.length = cargs.size := by simp
        omega
      · have hlen := All2_length hargs
        have hs : cargs.toList.length = cargs.size := by simp
        rcases Nat.lt_or_ge i args.length with q | q
        · simp only [List.getElem?_append_left q] at hv
          rw [Array.getElem?_append, if_pos (by omega)] at hx
          have key : ∀ {l : List AV} {m : List Value} {i : Nat} {v x}, All2 (Val (cx { X with G := G } bs L w)) l m → l[i]? = some v → m[i]? = some x → Val (cx { X with G := G } bs L w) v x := by
            intro l
            induction l with
            | nil => intro m i v x _ hv _; simp at hv
            | cons a l ih =>
              intro m i v x hm hv hx
              cases m with
              | nil => exact hm.elim
              | cons b m =>
                cases i with
                | zero => simp only [List.getElem?_cons_zero, Option.some.injEq] at hv hx; subst hv; subst hx; exact hm.1
                | succ i => exact ih hm.2 (by simpa using hv) (by simpa using hx)
          exact key hargs hv (by simpa using hx)
        · simp only [List.getElem?_append_right q] at hv
          rw [Array.getElem?_append, if_neg (by omega)] at hx
          have e1 := List.eq_of_mem_replicate (List.mem_of_getElem? hv)
          have e2 : x = undef := by
            rw [Array.getElem?_replicate] at hx
            split at hx
            · simpa using hx.symm
            · cases hx
          subst e1; subst e2
          exact Val_und
      · obtain ⟨he1, he2⟩ := hpo _ _ _ e a' w' he
        have fin : At { X with G := G } bs L st a' w' → a'.defers = [] ∧ ∃ v_1, (results fn a'.tmps).run G.P w' = .ok v_1 w' ∧ Back X bs L v bs' (.returned v_1) w' := by
          rintro ⟨L0, hR0⟩
          obtain ⟨L1, hR1⟩ := preL_ok A.pre hR0
          obtain ⟨cv, g1, L2, g2, g3, g4, g5⟩ := h4 { X with G := G } rfl L L1 a' w' hR1
          exact ⟨hR1.rel.dfr, cv, g1, L2, inv'' g2, g3, g4, g5⟩
        rcases he1 with rfl | rfl
        · exact fin he2
        · exact fin he2
    cases o with
    | nrm st =>
      refine main st h1 fun X b0 L0 e a w he => ?_
      cases e with
      | normal => obtain ⟨s, e1, h⟩ := he; cases e1; exact ⟨.inl rfl, h⟩
      | exit i => obtain ⟨s, e1, h⟩ := he; cases e1
      | goto i => obtain ⟨s, e1, h⟩ := he; cases e1
      | ret => obtain ⟨s, e1, h⟩ := he; cases e1
      | outgrown => exact he.elim
      | panic ch => exact he.elim
    | ret st =>
      refine main st h1 fun X b0 L0 e a w he => ?_
      cases e with
      | ret => obtain ⟨s, e1, h⟩ := he; cases e1; exact ⟨.inr rfl, h⟩
      | exit i => obtain ⟨s, e1, h⟩ := he; cases e1
      | goto i => obtain ⟨s, e1, h⟩ := he; cases e1
      | normal => obtain ⟨s, e1, h⟩ := he; cases e1
      | outgrown => exact he.elim
      | panic ch => exact he.elim
    | ext i st => simp [Out.app, noK] at h1
    | gto l st => simp [Out.app, noK] at h1
end Go.Ev
namespace Go.Ev
def findF (f : Nat) : List (Nat × Func) → Option Func
  | [] => none
  | (g, fn) :: l => cond (Nat.beq g f) (some fn) (findF f l)
section
variable (P : Program) (gt : Nat → Option AV) (A : Nat → Anns) (n : Nat) (tbl : List (Nat × Func)) (ov : Nat → Option Con)
def conD : Nat → Nat → Option Con
  | 0, _ => none
  | d + 1, f => match ov f with
    | some C => some C
    | none => match findF f tbl with
      | some fn => some fun _ args bs κ => evF { P := P, gt := gt, con := conD d } (A f) n fn args bs κ
      | none => none
def giD (d : Nat) : Gi := { P := P, gt := gt, con := conD P gt A n tbl ov d }
def TblOk : Prop := ∀ p ∈ tbl, P.funcs[p.1]? = some p.2 ∧ (p.2.name == "runtime.NumGoroutine") = false ∧ p.2.body.isNone = false
def GtOk : Prop := ∀ g v, gt g = some v → trA noLook false (fun _ _ => none) v = some v
def OvOk : Prop := ∀ f C, ov f = some C → SoundC P gt f C ∧ ∃ fn, P.funcs[f]? = some fn ∧ (fn.name == "runtime.NumGoroutine") = false ∧ fn.body.isNone = false
theorem findF_mem {f : Nat} {fn : Func} : ∀ {l : List (Nat × Func)}, findF f l = some fn → (f, fn) ∈ l
  | [], h => by simp [findF] at h
  | (g, x) :: l, h => by
    simp only [findF] at h
    cases hb : Nat.beq g f with
    | true => simp only [hb, cond_true, Option.some.injEq] at h; subst h; rw [Nat.eq_of_beq_eq_true hb]; simp
    | false => simp only [hb, cond_false] at h; exact List.mem_cons_of_mem _ (findF_mem h)
theorem giD_ok {P : Program} {gt : Nat → Option AV} {A : Nat → Anns} {n : Nat} {tbl : List (Nat × Func)} {ov : Nat → Option Con} (hm : P.follows .mixedOrders = true) (ht : TblOk P tbl) (hg : GtOk gt) (ho : OvOk P gt ov) :
    ∀ d, GOk (giD P gt A n tbl ov d)
  | 0 => ⟨hg, fun f C h => by simp [giD, conD] at h⟩
  | d + 1 => ⟨hg, fun f C h => by
    simp only [giD, conD] at h
    cases hov : ov f with
    | some C' => simp only [hov, Option.some.injEq] at h; subst h; exact ho f _ hov
    | none =>
      simp only [hov] at h
      cases hf : findF f tbl with
      | none => simp [hf] at h
      | some fn =>
        simp only [hf] at h
        have h := Option.some.inj h
        subst h
        obtain ⟨h1, h2, h3⟩ := ht _ (findF_mem hf)
        exact ⟨evF_ok (giD_ok hm ht hg ho d) hm (A f) n h1, fn, h1, h2, h3⟩⟩
end
theorem SoundC.mono {P : Program} {gt : Nat → Option AV} {f : Nat} {C C' : Con} (h : SoundC P gt f C) (hc : ∀ R args bs κ r, C' R args bs κ = some r → C R args bs κ = some r) : SoundC P gt f C' :=
  fun R args bs κ r hr => h R args bs κ r (hc R args bs κ r hr)
end Go.Ev
namespace Go.Ev
theorem Step.keptBut {A : Nat → Nat → Prop} {w w' : World} (h : Step A w w') (hA : ∀ b o, ¬ A b o) : w.keptBut w' (fun _ => False) := by
  refine ⟨h.os, h.output, fun i hi => ?_⟩
  rcases h.blk i hi with e | ⟨c, c', t, f, h1, h2, h3, h4⟩
  · rw [e]
    cases hw : w.heap[i]? with
    | none => rfl
    | some o =>
      cases o with
      | cells c t fr => exact ⟨rfl, rfl, rfl, fun _ _ => rfl⟩
      | map es clock => exact .inr ⟨rfl, rfl⟩
      | _ => rfl
  · rw [h1, h2]
    exact ⟨rfl, rfl, h3, fun j _ => h4 j (hA i j)⟩
def bare (P : Program) (gt : Nat → Option AV) (eps : Nat → Value) (W : World) : Fx := { G := { P := P, gt := gt, con := fun _ => none }, eps := eps, O := fun _ _ => False, pin := fun _ _ => False, w0 := W }
theorem bare_none (b o : Nat) : ¬ own (([] : List Blk).map Blk.sh) [] b o := by
  rintro ⟨id, s, p, h, _⟩
  simp at h
theorem bare_A (P : Program) (gt : Nat → Option AV) (eps : Nat → Value) (W : World) (b o : Nat) : ¬ (cx (bare P gt eps W) [] [] W).A b o := by
  rintro (h | h)
  · exact h
  · exact bare_none b o h
theorem bare_inv {P : Program} {gt : Nat → Option AV} {eps : Nat → Value} {W : World} (he : EpsOk P eps gt W)
    (hg : ∀ g v, gt g = some v → ∃ cs, Cells (cx (bare P gt eps W) [] [] W) v cs ∧ ∀ i (hi : i < cs.length), W.cell? ⟨g, i, none⟩ = some cs[i]) : Inv (bare P gt eps W) [] [] W := by
  refine ⟨he, rfl, fun id b p h => by simp at h, fun i j s t p q b o _ h => by simp at h, fun b o h => (bare_none b o h).elim, fun b o h => (bare_none b o h).elim, fun b o h => h.elim, Step.refl _ _, fun g v h => ?_, fun _ _ _ hp => hp⟩
  obtain ⟨cs, h1, h2⟩ := hg g v h
  exact ⟨cs, h1, fun i hi => ⟨h2 i hi, bare_A _ _ _ _ _ _⟩⟩
def yes : AV → List Blk → Option Unit
  | .bool true, _ => some ()
  | _, _ => none
theorem yes_spec {v : AV} {bs : List Blk} (h : yes v bs = some ()) : v = .bool true := by
  unfold yes at h
  split at h
  · rfl
  · cases h
theorem law_calls {P : Program} {gt : Nat → Option AV} {f : Nat} {C : Con} (hs : SoundC P gt f C) {args : List AV} {cargs : Array Value} {W : World} {eps : Nat → Value}
    (he : EpsOk P eps gt W)
    (hg : ∀ g v, gt g = some v → ∃ cs, Cells (cx (bare P gt eps W) [] [] W) v cs ∧ ∀ i (hi : i < cs.length), W.cell? ⟨g, i, none⟩ = some cs[i])
    (ha : All2 (Val (cx (bare P gt eps W) [] [] W)) args cargs.toList) (hC : C Unit args [] yes = some ()) :
    Calls P f cargs W fun e w' => e = .returned (.bool true) ∧ W.keptBut w' (fun _ => False) := by
  obtain ⟨v, bs', h1, h2⟩ := hs Unit args [] yes () hC
  have hv := yes_spec h1
  subst hv
  refine (h2 (bare P gt eps W) [] W cargs rfl rfl rfl (fun b o => ⟨fun h => h.elim, fun h => (bare_none b o h).elim⟩) (bare_inv he hg) ha).mono fun e w' hb => ?_
  cases e with
  | panicked ch => exact hb.elim
  | outgrown => exact hb.elim
  | returned cv =>
    obtain ⟨L', I, _, _, hval⟩ := hb
    have : cv = .bool true := hval
    subst this
    exact ⟨rfl, Step.keptBut I.stp fun _ _ h => h⟩
end Go.Ev
namespace Go.Ev
def un {n : Nat} (v : BitVec n) : Int := (v.toNat : Int)
theorem wrap_u {k : IntKind} (h : k.signed = false) (z : Int) : k.wrap z = un (BitVec.ofInt k.bits z) := by
  unfold IntKind.wrap un
  simp only [h, Bool.false_and, Bool.false_eq_true, if_false, BitVec.toNat_ofInt]
  have h2 : (0 : Int) < 2 ^ k.bits := Int.pow_pos (by omega)
  have h1 := Int.emod_nonneg z (Int.ne_of_gt h2)
  have h3 : ((2 ^ k.bits : Nat) : Int) = 2 ^ k.bits := by simp
  rw [h3]
  omega
end Go.Ev
namespace Go.Ev
end Go.Ev
namespace Go.Ev
def loops : Code → List Code
  | .seq a b => loops a ++ loops b
  | .cond _ a b => loops a ++ loops b
  | .block _ b => loops b
  | .scope b => loops b
  | .loop b => b :: loops b
  | _ => []
def loopOf (fn : Func) (i : Nat) : Code := match fn.body with
  | some c => (loops c).getD i .skip
  | none => .skip
def scopes : Code → List Code
  | .seq a b => scopes a ++ scopes b
  | .cond _ a b => scopes a ++ scopes b
  | .block _ b => scopes b
  | .scope b => b :: scopes b
  | .loop b => scopes b
  | _ => []
def scopeOf (fn : Func) (i : Nat) : Code := match fn.body with
  | some c => (scopes c).getD i .skip
  | none => .skip
theorem jumpN_succ {R : Type} (body : Nat → K R → St → Option R) (has : Nat → Bool) (k : K R) (nm : Nat → St → Option St) (n l : Nat) (st : St) :
    jumpN body has k nm (n + 1) l st = body l { k with gto := gotoK has nm k (jumpN body has k nm n) } st := rfl
def roundK {R : Type} (nm : St → Option St) (Rn : St → Option R) (k : K R) : K R :=
  { k with nrm := fun st => match nm st with | some st => Rn st | none => none }
theorem loopN_succ {R : Type} (body : K R → St → Option R) (k : K R) (nm : St → Option St) (n : Nat) (st : St) : loopN body k nm (n + 1) st = body (roundK nm (loopN body k nm n) k) st := rfl
def ctx {R : Type} (G : Gi) (A : Anns) (np n : Nat) : Code → List Nat → K R → K R
  | .seq a b, 0 :: p, k => ctx G A np n a p { k with nrm := evC G A np n b none k }
  | .seq _ b, _ :: p, k => ctx G A np n b p k
  | .cond _ a _, 0 :: p, k => ctx G A np n a p k
  | .cond _ _ b, _ :: p, k => ctx G A np n b p k
  | .block id b, _ :: p, k => ctx G A np n b p { k with ext := fun i st => cond (Nat.beq i id) (k.nrm st) (k.ext i st) }
  | .scope b, _ :: p, k => ctx G A np n b p { k with gto := gotoK (hasL b) (fun l => nmOf np (A.label l)) k (jumpN (fun l => evC G A np n b (some l)) (hasL b) k (fun l => nmOf np (A.label l)) n) }
  | _, _, k => k
def endK {R : Type} (G : Gi) (A : Anns) (fn : Func) (bs : List Blk) (κ : AV → List Blk → Option R) : K R :=
  { nrm := fun st => retE G A.fresh fn bs κ (preL A.pre st), ext := fun _ => noK, gto := fun _ => noK, ret := fun st => retE G A.fresh fn bs κ (preL A.pre st) }
def bodyOf (fn : Func) : Code := match fn.body with
  | some c => c
  | none => .skip
def findC (f : Nat) : List (Nat × Con) → Option Con
  | [] => none
  | (g, C) :: l => cond (Nat.beq g f) (some C) (findC f l)
def ovL (l : List (Nat × Con)) : Nat → Option Con := fun f => findC f l
theorem findC_mem {f : Nat} {C : Con} : ∀ {l : List (Nat × Con)}, findC f l = some C → (f, C) ∈ l
  | [], h => by simp [findC] at h
  | (g, x) :: l, h => by
    simp only [findC] at h
    cases hb : Nat.beq g f with
    | true =>
      simp only [hb, cond_true] at h
      have h := Option.some.inj h
      subst h
      rw [Nat.eq_of_beq_eq_true hb]; exact List.mem_cons_self
    | false => simp only [hb, cond_false] at h; exact List.mem_cons_of_mem _ (findC_mem h)
theorem ovL_ok {P : Program} {gt : Nat → Option AV} {l : List (Nat × Con)} (h : ∀ p ∈ l, SoundC P gt p.1 p.2 ∧ ∃ fn, P.funcs[p.1]? = some fn ∧ (fn.name == "runtime.NumGoroutine") = false ∧ fn.body.isNone = false) : OvOk P gt (ovL l) :=
  fun f C hf => h (f, C) (findC_mem hf)
def findA (i : Nat) : List (Nat × Ann) → Option Ann
  | [] => none
  | (j, a) :: l => cond (Nat.beq j i) (some a) (findA i l)
def gtL : List (Nat × AV) → Nat → Option AV
  | [], _ => none
  | (j, a) :: l, g => cond (Nat.beq j g) (some a) (gtL l g)
theorem gtL_ok {l : List (Nat × AV)} (h : (l.all fun p => noRefs p.2) = true) : GtOk (gtL l) := by
  intro g v hv
  induction l with
  | nil => simp [gtL] at hv
  | cons p l ih =>
    obtain ⟨j, a⟩ := p
    simp only [List.all_cons, Bool.and_eq_true] at h
    simp only [gtL] at hv
    cases hb : Nat.beq j g with
    | true => simp only [hb, cond_true, Option.some.injEq] at hv; subst hv; exact noRefs_tr a h.1
    | false => simp only [hb, cond_false] at hv; exact ih h.2 hv
def subG : List (Nat × AV) → (Nat → Option AV) → Prop
  | [], _ => True
  | (g, v) :: l, gt => gt g = some v ∧ subG l gt
theorem subG_nil (gt : Nat → Option AV) : subG [] gt := trivial
theorem subG_cons {g : Nat} {v : AV} {l : List (Nat × AV)} {gt : Nat → Option AV} (h : gt g = some v) (hl : subG l gt) : subG ((g, v) :: l) gt := ⟨h, hl⟩
theorem gtL_sub {gt : Nat → Option AV} : ∀ {l : List (Nat × AV)}, subG l gt → ∀ g v, gtL l g = some v → gt g = some v
  | [], _, g, v, h => by simp [gtL] at h
  | (j, a) :: l, hs, g, v, h => by
    simp only [gtL] at h
    cases hb : Nat.beq j g with
    | true => simp only [hb, cond_true, Option.some.injEq] at h; subst h; rw [← Nat.eq_of_beq_eq_true hb]; exact hs.1
    | false => simp only [hb, cond_false] at h; exact gtL_sub hs.2 g v h
theorem SoundC.gt {P : Program} {gt gt' : Nat → Option AV} {f : Nat} {C : Con} (h : SoundC P gt f C) (hs : ∀ g v, gt g = some v → gt' g = some v) (hg' : GtOk gt') : SoundC P gt' f C := by
  intro R args bs κ r hr
  obtain ⟨v, bs', h1, h2⟩ := h R args bs κ r hr
  refine ⟨v, bs', h1, fun X L w cargs hP hgt hw hpin I hargs => ?_⟩
  have I' : Inv { X with G := { X.G with gt := gt } } bs L w := ⟨by have := I.eok; rw [hgt] at this; exact this.sub hs, I.len, I.blk, I.dis, I.out, I.new, I.obd, I.stp, fun g v hg => I.glb g v (by rw [hgt]; exact hs g v hg), I.lone⟩
  refine (h2 { X with G := { X.G with gt := gt } } L w cargs hP rfl hw hpin I' hargs).mono fun e w' hb => ?_
  cases e with
  | panicked ch => exact hb.elim
  | outgrown => exact hb.elim
  | returned cv =>
    obtain ⟨L', J, hk, hk2, hv⟩ := hb
    have hro : RO (cx X bs L w) (cx X bs' L' w') := by
      intro b o x hx hA
      have hlt : b < w.heap.size := World.block_lt_of_cell? w _ hx
      have hst : Step X.pin w w' := by have := J.stp; rw [← hw]; exact this
      refine ⟨(hst.cell hlt fun hp => hA (.inr ((hpin b o).1 hp))).trans hx, fun hA' => ?_⟩
      rcases hA' with q | q
      · exact hA (.inl q)
      · rcases J.new b o q with q | q
        · have : X.w0.heap.size ≤ b := q
          rw [hw] at this; omega
        · exact hA (.inr ((hpin b o).1 q))
    refine ⟨L', ⟨I.eok, J.len, J.blk, J.dis, J.out, J.new, J.obd, J.stp, fun g v hg => ?_, I.lone⟩, hk, hk2, hv⟩
    obtain ⟨cs, g1, g2⟩ := I.glb g v hg
    have T0 : TrOk (cx X bs L w) (cx X bs' L' w') noLook false (fun _ _ => none) := by
      refine ⟨rfl, fun x x' v hx ht g => ?_⟩
      cases x <;> simp only [AV.isRef, Bool.false_eq_true] at hx <;> simp [trA] at ht
    exact ⟨cs, tr_Cells T0 v v cs (.inr hro) (hg' g v (by rw [← hgt]; exact hg)) g1, fun i hi => hro _ _ _ (g2 i hi).1 (g2 i hi).2⟩
def giW (l : List Nat) (G : Gi) : Gi := { G with own := fun f => memN f l }
def giE (G : Gi) : Gi := { G with weak := true }
def giL (G : Gi) : Gi := { G with lone := true }
def giF (G : Gi) : Gi := { G with fzb := true }
theorem giF_ok {G : Gi} (h : GOk G) : GOk (giF G) := ⟨h.gtr, h.con⟩
def giG (G : Gi) : Gi := { G with gro := true }
theorem giG_ok {G : Gi} (h : GOk G) : GOk (giG G) := ⟨h.gtr, h.con⟩
theorem giL_ok {G : Gi} (h : GOk G) : GOk (giL G) := ⟨h.gtr, h.con⟩
theorem giE_ok {G : Gi} (h : GOk G) : GOk (giE G) := ⟨h.gtr, h.con⟩
theorem giW_ok {l : List Nat} {G : Gi} (h : GOk G) : GOk (giW l G) := ⟨h.gtr, h.con⟩
end Go.Ev
namespace Go.Ev
def acc (X : BitVec 64) (w n : Nat) : Nat → BitVec 64
  | 0 => 0#64
  | i + 1 => if X.getLsbD i then acc X w n i + BitVec.twoPow 64 ((i + n) % w) else acc X w n i
end Go.Ev
namespace Go.Ev
structure ErrTy (P : Program) (te ts : TypeId) (f : Field) : Prop where
  row : ∀ u, P.typeName? 3 u = some "*errors.errorString" → u = errT P
  hp : P.underlying (errT P) = some (.pointer te)
  he : P.underlying te = some (.struct #[f])
  hft : f.type = ts
  hfo : f.offset = 0
  hs : P.underlying ts = some .string
  hc : P.cellsOf te = 1
  hcs : P.cellsOf ts = 1
theorem laid_err {P : Program} {te ts : TypeId} {f : Field} (E : ErrTy P te ts f) {w : World} {n : String} {s : List UInt8} {g t : Nat} {ms : Array (String × TypeId)} {r : List (String × DataW Unit)} {ps : List MemPlace}
    (hg : P.globalNamed n = some g) (ht : (P.globals[g]?).map (·.type) = some t) (hi : P.underlying t = some (.interface ms))
    (hok : ∀ b off, MemPlace.cell b off ∈ ps → (∃ c t, w.heap[b]? = some (.cells c t (0, 0))) ∧ ∀ u v, w.cell? ⟨b, off, none⟩ = some (.iface u v) → Value.okWide P w .any 0 u v)
    (h : DataW.LaidVars P w ((n, .iface "*errors.errorString" (.ptr (.agg [.lit (.string s)]))) :: r) ps) :
    ∃ a q, w.cell? ⟨g, 0, none⟩ = some (.iface (errT P) (.pointer (some a))) ∧ DataW.LaidVars P w r q ∧ ps = [.cell g 0, .cell a.block a.off] ++ q := by
  obtain ⟨g', t', cs, fuel, p, q, h1, h2, h3, h4, h5, rfl⟩ := h
  rw [hg, Option.some.injEq] at h1; subst h1
  rw [ht, Option.some.injEq] at h2; subst h2
  have hv : ∀ (i : Nat), w.cell? ⟨g, i, none⟩ = cs[i]? := by
    intro i
    simp only [World.var?, hg, Option.bind_some] at h3
    unfold World.cell?
    cases hh : w.heap[g]? with
    | none => simp [hh] at h3
    | some o =>
      cases o <;> simp [hh] at h3 ⊢
      subst h3; rfl
  obtain ⟨f1, u, v, hcs, -, -⟩ := Go.iface_of_trod hi h4
  obtain ⟨a, s', e1, -, -, -, e2⟩ := Go.errorString_of_trod (te := te) (ts := ts) (f := f) hi E.row E.hp E.he E.hft E.hfo E.hs E.hc E.hcs h4 (by
    intro u v hc
    refine (hok g 0 ?_).2 u v ?_
    · refine List.mem_append_left _ (List.mem_append_left _ ?_)
      refine List.mem_map.2 ⟨0, List.mem_range.2 ?_, by simp⟩
      have : cs.toList.length = 1 := by rw [hc]; rfl
      simp at this; omega
    · rw [hv 0]
      have : cs.toList[0]? = some (.iface u v) := by rw [hc]; rfl
      simpa using this)
  refine ⟨a, q, ?_, h5, ?_⟩
  · rw [hv 0]
    have : cs.toList[0]? = some (.iface (errT P) (.pointer (some a))) := by rw [e1]; rfl
    simpa using this
  · have hsz : cs.size = 1 := by
      have : cs.toList.length = 1 := by rw [e1]; rfl
      simpa using this
    rw [hsz, e2]
    simp [MemPlace.row]
def adr (big : Nat) (l : List (Nat × Addr)) (n : Nat) : Addr := match l.find? (fun p => Nat.beq p.1 n) with
  | some p => p.2
  | none => ⟨big + n, 0, none⟩
def epsL (P : Program) (big : Nat) (l : List (Nat × Addr)) (n : Nat) : Value := if n = 0 then .nilIface else .iface (errT P) (.pointer (some (adr big l n)))
theorem epsL_ok {P : Program} {big : Nat} {l : List (Nat × Addr)} {gt : Nat → Option AV} {w : World} (hl : ∀ p ∈ l, p.2.block < big) (hi : ∀ p ∈ l, ∀ q ∈ l, p.2 = q.2 → p.1 = q.1)
    (hb : ∀ g n, gt g = some (.err n) → n ≠ 0 → ∃ (c : Array Value) (t : TypeId), w.heap[(adr big l n).block]? = some (.cells c t (0, 0))) : EpsOk P (epsL P big l) gt w := by
  refine ⟨rfl, fun n hn => ⟨adr big l n, by simp [epsL, hn]⟩, fun n m h => ?_, fun g n hg hn => by
    obtain ⟨c, t, hc⟩ := hb g n hg hn
    exact ⟨adr big l n, c, t, by simp [epsL, hn], hc⟩⟩
  unfold epsL at h
  by_cases hn : n = 0
  · subst hn
    by_cases hm : m = 0
    · exact hm.symm
    · simp [hm] at h
  · by_cases hm : m = 0
    · simp [hm, hn] at h
    · simp only [if_neg hn, if_neg hm, Value.iface.injEq, Value.pointer.injEq, Option.some.injEq, true_and] at h
      unfold adr at h
      cases h1 : l.find? (fun p => Nat.beq p.1 n) with
      | some p =>
        have e1 := Nat.eq_of_beq_eq_true (show Nat.beq p.1 n = true from List.find?_some (p := fun p : Nat × Addr => Nat.beq p.1 n) h1)
        have m1 := List.mem_of_find?_eq_some h1
        cases h2 : l.find? (fun p => Nat.beq p.1 m) with
        | some q =>
          have e2 := Nat.eq_of_beq_eq_true (show Nat.beq q.1 m = true from List.find?_some (p := fun p : Nat × Addr => Nat.beq p.1 m) h2)
          have m2 := List.mem_of_find?_eq_some h2
          simp only [h1, h2] at h
          have := hi p m1 q m2 h
          omega
        | none =>
          simp only [h1, h2] at h
          have := hl p m1
          rw [h] at this
          simp at this
          omega
      | none =>
        cases h2 : l.find? (fun p => Nat.beq p.1 m) with
        | some q =>
          have m2 := List.mem_of_find?_eq_some h2
          simp only [h1, h2] at h
          have := hl q m2
          rw [← h] at this
          simp at this
          omega
        | none =>
          simp only [h1, h2, Addr.mk.injEq, and_true] at h
          omega
def glbAt (P : Program) (gt : Nat → Option AV) (eps : Nat → Value) (W : World) (g : Nat) (v : AV) : Prop :=
  ∃ cs, Cells (cx (bare P gt eps W) [] [] W) v cs ∧ ∀ i (hi : i < cs.length), W.cell? ⟨g, i, none⟩ = some cs[i]
theorem glbL {P : Program} {gt : Nat → Option AV} {eps : Nat → Value} {W : World} : ∀ {l : List (Nat × AV)}, (∀ p ∈ l, glbAt P gt eps W p.1 p.2) → ∀ g v, gtL l g = some v → glbAt P gt eps W g v
  | [], _, g, v, h => by simp [gtL] at h
  | (j, a) :: l, hs, g, v, h => by
    simp only [gtL] at h
    cases hb : Nat.beq j g with
    | true =>
      simp only [hb, cond_true, Option.some.injEq] at h
      subst h
      rw [← Nat.eq_of_beq_eq_true hb]
      exact hs (j, a) List.mem_cons_self
    | false =>
      simp only [hb, cond_false] at h
      exact glbL (fun p hp => hs p (List.mem_cons_of_mem _ hp)) g v h
theorem glb_err {P : Program} {gt : Nat → Option AV} {big : Nat} {l : List (Nat × Addr)} {W : World} {g n : Nat} {a : Addr} (hn : n ≠ 0) (hc : W.cell? ⟨g, 0, none⟩ = some (.iface (errT P) (.pointer (some a))))
    (ha : adr big l n = a) : glbAt P gt (epsL P big l) W g (.err n) := by
  refine ⟨[.iface (errT P) (.pointer (some a))], ⟨_, rfl, ?_⟩, fun i hi => ?_⟩
  · show _ = epsL P big l n
    simp [epsL, hn, ha]
  · simp only [List.length_singleton] at hi
    have : i = 0 := by omega
    subst this
    exact hc
def top : List (Nat × Addr) → Nat
  | [] => 0
  | p :: l => max (p.2.block + 1) (top l)
theorem top_lt : ∀ {l : List (Nat × Addr)}, ∀ p ∈ l, p.2.block < top l
  | q :: l, p, h => by
    rcases List.mem_cons.1 h with rfl | h
    · simp only [top]; omega
    · have := top_lt p h
      simp only [top]; omega
theorem apart {l : List (Nat × Addr)} (h : (l.map fun p => (p.2.block, p.2.off)).Nodup) : ∀ p ∈ l, ∀ q ∈ l, p.2 = q.2 → p.1 = q.1 := by
  induction l with
  | nil => intro p hp; cases hp
  | cons x l ih =>
    simp only [List.map_cons, List.nodup_cons] at h
    intro p hp q hq e
    have key : ∀ y z : Nat × Addr, y.2 = z.2 → z ∈ l → (y.2.block, y.2.off) ∈ l.map fun p => (p.2.block, p.2.off) := fun y z e hz => by rw [e]; exact List.mem_map.2 ⟨z, hz, rfl⟩
    rcases List.mem_cons.1 hp with rfl | hp'
    · rcases List.mem_cons.1 hq with rfl | hq'
      · rfl
      · exact absurd (key _ _ e hq') h.1
    · rcases List.mem_cons.1 hq with rfl | hq'
      · exact absurd (key _ _ e.symm hp') h.1
      · exact ih h.2 p hp' q hq' e
structure EV where
  name : String
  code : Nat
  text : List UInt8
  g : Nat
def EV.entry (e : EV) : String × DataW Unit := (e.name, .iface "*errors.errorString" (.ptr (.agg [.lit (.string e.text)])))
def EV.okB (P : Program) (e : EV) : Prop := P.globalNamed e.name = some e.g ∧ ∃ t ms, (P.globals[e.g]?).map (·.type) = some t ∧ P.underlying t = some (.interface ms)
theorem laid_errs {P : Program} {te ts : TypeId} {f : Field} (E : ErrTy P te ts f) {w : World} : ∀ {es : List EV} {r : List (String × DataW Unit)} {ps : List MemPlace},
    (∀ e ∈ es, e.okB P) →
    (∀ b off, MemPlace.cell b off ∈ ps → (∃ c t, w.heap[b]? = some (.cells c t (0, 0))) ∧ ∀ u v, w.cell? ⟨b, off, none⟩ = some (.iface u v) → Value.okWide P w .any 0 u v) →
    DataW.LaidVars P w (es.map EV.entry ++ r) ps →
    ∃ (as : List Addr) (q : List MemPlace), as.length = es.length ∧ (∀ p ∈ es.zip as, w.cell? ⟨p.1.g, 0, none⟩ = some (.iface (errT P) (.pointer (some p.2)))) ∧ DataW.LaidVars P w r q ∧
      List.Sublist (as.map (fun a => MemPlace.cell a.block a.off) ++ q) ps
  | [], r, ps, _, _, h => ⟨[], ps, rfl, by simp, h, by simp⟩
  | e :: es, r, ps, he, hok, h => by
    obtain ⟨h1, t, ms, h2, h3⟩ := he e List.mem_cons_self
    obtain ⟨a, q, g1, g2, rfl⟩ := laid_err E h1 h2 h3 hok h
    obtain ⟨as, q', k1, k2, k3, k4⟩ := laid_errs E (fun e' h' => he e' (List.mem_cons_of_mem _ h')) (fun b off hb => hok b off (List.mem_append_right _ hb)) g2
    refine ⟨a :: as, q', by simp [k1], ?_, k3, ?_⟩
    · intro p hp
      simp only [List.zip_cons_cons, List.mem_cons] at hp
      rcases hp with rfl | hp
      · exact g1
      · exact k2 p hp
    · simp only [List.map_cons, List.cons_append, List.nil_append]
      exact List.Sublist.cons _ (k4.cons_cons _)
theorem laid_eps {P : Program} {te ts : TypeId} {f : Field} (E : ErrTy P te ts f) {w : World} {es : List EV} {r : List (String × DataW Unit)} (he : ∀ e ∈ es, e.okB P) (hc : ∀ e ∈ es, e.code ≠ 0) (hd : (es.map (·.code)).Nodup)
    (h : laidMet P (es.map EV.entry ++ r) w) : ∃ eps, (∀ gt, (∀ g n, gt g = some (.err n) → n = 0 ∨ ∃ e ∈ es, e.code = n) → EpsOk P eps gt w) ∧ (∀ gt, ∀ e ∈ es, glbAt P gt eps w e.g (.err e.code)) ∧ laidMet P r w := by
  obtain ⟨ps, h1, h2, h3⟩ := h
  obtain ⟨as, q, k1, k2, k3, k4⟩ := laid_errs E he h3 h1
  have hnd := k4.nodup h2
  have hz : ((es.map (·.code)).zip as).map (fun p => (p.2.block, p.2.off)) = as.map fun a => (a.block, a.off) := by
    rw [show (fun p : Nat × Addr => (p.2.block, p.2.off)) = (fun a : Addr => (a.block, a.off)) ∘ Prod.snd from rfl, ← List.map_map, List.map_snd_zip (by simp [k1])]
  have hap : ((es.map (·.code)).zip as).map (fun p => (p.2.block, p.2.off)) |>.Nodup := by
    rw [hz]
    have := (List.nodup_append.1 hnd).1
    have h2 : as.map (fun a => MemPlace.cell a.block a.off) = (as.map fun a => (a.block, a.off)).map fun p => MemPlace.cell p.1 p.2 := by simp
    rw [h2] at this
    exact List.Pairwise.of_map _ (fun a b hab e => hab (by rw [e])) this
  have hadr : ∀ e ∈ es, ∃ (i : Nat) (hi : i < es.length) (hia : i < as.length), es[i] = e ∧ adr (top ((es.map (·.code)).zip as)) ((es.map (·.code)).zip as) e.code = as[i] := by
    intro e hm
    obtain ⟨i, hi, hei⟩ := List.mem_iff_getElem.1 hm
    have hia : i < as.length := by omega
    refine ⟨i, hi, hia, hei, ?_⟩
    -- the code's place is the one that is listed
    have hfind : ((es.map (·.code)).zip as).find? (fun p => Nat.beq p.1 e.code) = some (e.code, as[i]) := by
      have key : ∀ (l : List Nat) (as : List Addr) (i : Nat) (h1 : i < l.length) (h2 : i < as.length), l.Nodup → (l.zip as).find? (fun p => Nat.beq p.1 l[i]) = some (l[i], as[i]) := by
        intro l
        induction l with
        | nil => intro as i h1; simp at h1
        | cons x l ih =>
          intro as i h1 h2 hn
          cases as with
          | nil => simp at h2
          | cons a as =>
            cases i with
            | zero => simp
            | succ i =>
              have h1' : i < l.length := by simpa using h1
              have hx : Nat.beq x l[i] = false := by
                cases hb : Nat.beq x l[i] with
                | false => rfl
                | true =>
                  exfalso
                  have := Nat.eq_of_beq_eq_true hb
                  exact (List.nodup_cons.1 hn).1 (this ▸ List.getElem_mem _)
              simp only [List.zip_cons_cons, List.getElem_cons_succ, List.find?_cons, hx]
              exact ih as i (by simpa using h1) (by simpa using h2) (List.nodup_cons.1 hn).2
      have := key (es.map (·.code)) as i (by simp; omega) hia hd
      simp only [List.getElem_map, hei] at this
      exact this
    unfold adr
    rw [hfind]
  refine ⟨epsL P (top ((es.map (·.code)).zip as)) ((es.map (·.code)).zip as), fun gt hgt => epsL_ok top_lt (apart hap) fun g n hg hn => ?_, fun gt e hm => ?_, ⟨q, k3, (List.nodup_append.1 hnd).2.1, fun b off hb => h3 b off (k4.subset (List.mem_append_right _ hb))⟩⟩
  · rcases hgt g n hg with h0 | ⟨e, hm, rfl⟩
    · exact absurd h0 hn
    · obtain ⟨i, hi, hia, hei, ha⟩ := hadr e hm
      rw [ha]
      exact (h3 as[i].block as[i].off (k4.subset (List.mem_append_left _ (List.mem_map.2 ⟨as[i], List.getElem_mem _, rfl⟩)))).1
  · obtain ⟨i, hi, hia, hei, ha⟩ := hadr e hm
    have hmem : (e, as[i]) ∈ es.zip as := by
      refine List.mem_iff_getElem.2 ⟨i, by simp [k1]; omega, ?_⟩
      simp [hei]
    exact glb_err (hc e hm) (k2 _ hmem) ha
theorem gtL_errs {l : List (Nat × AV)} {codes : List Nat} (h : (l.all fun p => match p.2 with | .err n => codes.contains n | _ => true) = true) :
    ∀ g n, gtL l g = some (.err n) → n ∈ codes := by
  intro g n hg
  induction l with
  | nil => simp [gtL] at hg
  | cons p l ih =>
    obtain ⟨j, a⟩ := p
    simp only [List.all_cons, Bool.and_eq_true] at h
    simp only [gtL] at hg
    cases hb : Nat.beq j g with
    | true =>
      simp only [hb, cond_true, Option.some.injEq] at hg
      subst hg
      simpa using h.1
    | false => simp only [hb, cond_false] at hg; exact ih h.2 hg
end Go.Ev
namespace Go.Ev
open Go.ChangeShapes
inductive OS where
  | int (k : IntKind)
  | bool
  | str
  | isl (k : IntKind)
  | rsl (k : IntKind)
  | ints (k : IntKind) (n : Nat)
  | gsl (t : T)
  | agg (l : List OS)
mutual
def OS.len : OS → Nat
  | .ints _ n => n
  | .agg l => OS.lenL l
  | .int _ | .bool | .str | .isl _ | .rsl _ | .gsl _ => 1
def OS.lenL : List OS → Nat
  | [] => 0
  | s :: l => OS.len s + OS.lenL l
end
def isSl (P : Program) (k : IntKind) (t : TypeId) : Bool := match P.underlying t with
  | some (.slice e) => (match P.underlying e with | some (.int k') => decide (k = k') | _ => false) && Nat.beq (P.cellsOf e) 1
  | _ => false
mutual
def T.isT (P : Program) : T → TypeId → Bool
  | .int k, t => match P.underlying t with | some (.int k') => decide (k = k') | _ => false
  | .bool, t => match P.underlying t with | some .bool => true | _ => false
  | .str, t => match P.underlying t with | some .string => true | _ => false
  | .arr k n, t => match P.underlying t with
    | some (.array m e) => (match P.underlying e with | some (.int k') => decide (k = k') | _ => false) && Nat.beq (P.cellsOf e) 1 && Nat.beq m n && Nat.beq (P.cellsOf t) n
    | _ => false
  | .sl k, t => isSl P k t
  | .rw s, t => match P.underlying t with
    | some (.slice e) => !s.isInt && (Nat.blt 0 s.len && (Nat.beq (P.cellsOf e) s.len && T.isT P s e))
    | _ => false
  | .st l, t => match P.underlying t with
    | some (.struct fs) => T.isTL P l fs.toList 0 (P.cellsOf t)
    | _ => false
def T.isTL (P : Program) : List T → List Field → Nat → Nat → Bool
  | [], [], off, tot => Nat.beq off tot
  | s :: l, f :: fs, off, tot => Nat.beq f.offset off && Nat.beq (P.cellsOf f.type) (T.len s) && T.isT P s f.type && T.isTL P l fs (off + T.len s) tot
  | _, _, _, _ => false
end
mutual
def goodT : (t : T) → Den t → Prop
  | .int k, n => (Lit.int k n).wf = true
  | .bool, _ => True
  | .str, l => List.length l ≤ maxLen
  | .arr k n, l => List.length l = n ∧ ∀ x, x ∈ (show List Int from l) → (Lit.int k x).wf = true
  | .sl k, l => List.length l ≤ maxLen ∧ ∀ x, x ∈ (show List Int from l) → (Lit.int k x).wf = true
  | .rw t, l => List.length l ≤ maxLen ∧ ∀ x, x ∈ (show List (Den t) from l) → goodT t x
  | .st ts, x => goodTL ts x
def goodTL : (ts : List T) → DenL ts → Prop
  | [], _ => True
  | t :: ts, x => goodT t x.1 ∧ goodTL ts x.2
end
mutual
def OS.is (P : Program) : OS → TypeId → Bool
  | .int k, t => match P.underlying t with | some (.int k') => decide (k = k') | _ => false
  | .bool, t => match P.underlying t with | some .bool => true | _ => false
  | .str, t => match P.underlying t with | some .string => true | _ => false
  | .isl k, t => isSl P k t
  | .rsl k, t => match P.underlying t with | some (.slice e) => isSl P k e && Nat.beq (P.cellsOf e) 1 | _ => false
  | .ints k n, t => match P.underlying t with
    | some (.array m e) => (match P.underlying e with | some (.int k') => decide (k = k') | _ => false) && Nat.beq (P.cellsOf e) 1 && Nat.beq m n && Nat.beq (P.cellsOf t) n
    | _ => false
  | .gsl s, t => match P.underlying t with
    | some (.slice e) => Nat.blt 0 s.len && (Nat.beq (P.cellsOf e) s.len && s.isT P e)
    | _ => false
  | .agg l, t => match P.underlying t with
    | some (.struct fs) => OS.isL P l fs.toList 0 (P.cellsOf t)
    | some (.array n e) => OS.isA P l e && Nat.beq l.length n && Nat.beq (P.cellsOf t) (n * P.cellsOf e)
    | _ => false
def OS.isL (P : Program) : List OS → List Field → Nat → Nat → Bool
  | [], [], off, tot => Nat.beq off tot
  | s :: l, f :: fs, off, tot => Nat.beq f.offset off && Nat.beq (P.cellsOf f.type) (OS.len s) && OS.is P s f.type && OS.isL P l fs (off + OS.len s) tot
  | _, _, _, _ => false
def OS.isA (P : Program) : List OS → TypeId → Bool
  | [], _ => true
  | s :: l, e => OS.is P s e && Nat.beq (P.cellsOf e) (OS.len s) && OS.isA P l e
end
mutual
def OS.good : OS → AV → Prop
  | .int k, v => ∃ n, v = .int k n ∧ (Lit.int k n).wf = true
  | .bool, v => ∃ b, v = .bool b
  | .str, v => ∃ l, v = .str l ∧ l.length ≤ maxLen
  | .isl k, v => ∃ nl l, v = .isl k (some nl) l ∧ (∀ x ∈ l, (Lit.int k x).wf = true) ∧ l.length ≤ maxLen ∧ (nl = true → l = [])
  | .rsl k, v => ∃ ll, v = .rsl k ll ∧ ll.length ≤ maxLen ∧ ∀ l ∈ ll, (∀ x ∈ l, (Lit.int k x).wf = true) ∧ l.length ≤ maxLen
  | .ints k n, v => ∃ l, v = .ints k n l ∧ l.length = n ∧ ∀ x ∈ l, (Lit.int k x).wf = true
  | .gsl t, v => ∃ l : List (Den t), v = .gsl t l ∧ l.length ≤ maxLen ∧ ∀ x ∈ l, goodT t x
  | .agg ss, v => ∃ l, v = .agg l ∧ OS.goodL ss l
def OS.goodL : List OS → List AV → Prop
  | [], [] => True
  | s :: ss, v :: vs => OS.good s v ∧ OS.goodL ss vs
  | _, _ => False
end
theorem OS.goodL_cons {s : OS} {ss : List OS} {vs : List AV} (h : OS.goodL (s :: ss) vs) : ∃ v l, vs = v :: l ∧ OS.good s v ∧ OS.goodL ss l := by
  cases vs with
  | nil => simp [OS.goodL] at h
  | cons v l => simp only [OS.goodL] at h; exact ⟨v, l, rfl, h.1, h.2⟩
theorem OS.goodL_nil {vs : List AV} (h : OS.goodL [] vs) : vs = [] := by
  cases vs with
  | nil => rfl
  | cons v l => simp [OS.goodL] at h
theorem OS.good_int {k : IntKind} {v : AV} (h : OS.good (.int k) v) : ∃ n, v = .int k n ∧ (Lit.int k n).wf = true := by simpa only [OS.good] using h
theorem OS.good_ints {k : IntKind} {n : Nat} {v : AV} (h : OS.good (.ints k n) v) : ∃ l, v = .ints k n l ∧ l.length = n ∧ ∀ x ∈ l, (Lit.int k x).wf = true := by simpa only [OS.good] using h
theorem OS.good_gsl {t : T} {v : AV} (h : OS.good (.gsl t) v) : ∃ l : List (Den t), v = .gsl t l ∧ l.length ≤ maxLen ∧ ∀ x ∈ l, goodT t x := by simpa only [OS.good] using h
theorem OS.good_agg {ss : List OS} {v : AV} (h : OS.good (.agg ss) v) : ∃ l, v = .agg l ∧ OS.goodL ss l := by simpa only [OS.good] using h
section
variable {H : Type} {enc : TypeId × Value → H} {P : Program} {gt : Nat → Option AV} {eps : Nat → Value} {W : World}
theorem wf_nn {k : IntKind} {l : List Int} (h : ∀ x ∈ l, (Lit.int k x).wf = true) : NN k l := by
  intro hk x hx
  have := h x hx
  simp only [Lit.wf, IntKind.min, hk, Bool.false_eq_true, if_false, Bool.and_eq_true, decide_eq_true_eq] at this
  exact this.1
theorem add_spot {w : World} {a : Addr} {i : Nat} {v : Value} (h : w.cell? (a.add i) = some v) (h0 : ∃ v, w.cell? (a.add 0) = some v) : a.add i = ⟨a.block, a.off + i, none⟩ ∧ a.spot = none := by
  have key : ∀ b v, w.cell? b = some v → b.spot = none := by
    intro b v g
    cases hsp : b.spot with
    | none => rfl
    | some s =>
      simp only [World.cell?] at g
      split at g
      · simp [hsp] at g
      · cases g
  obtain ⟨v0, h0⟩ := h0
  have e0 : a.add 0 = a := by cases a; simp [Addr.add]
  rw [e0] at h0
  have hs := key a v0 h0
  refine ⟨?_, hs⟩
  unfold Addr.add
  split
  · rename_i hi
    subst hi
    cases a; simp_all
  · rfl
theorem open_isl {k : IntKind} {t : TypeId} {fuel : Nat} {cs : List Value} {x : DataW H × List MemPlace} (hs : isSl P k t = true)
    (h : DataW.trod enc P W 0 (fun _ => true) true fuel t cs = some x) :
    ∃ nl l v, cs = [v] ∧ IsSl W (cx (bare P gt eps W) [] [] W).A k (some nl) l v ∧ (∀ x ∈ l, (Lit.int k x).wf = true) ∧ l.length ≤ maxLen ∧ (nl = true → l = []) := by
  unfold isSl at hs
  split at hs
  · rename_i e hu
    simp only [Bool.and_eq_true] at hs
    obtain ⟨h1, h2⟩ := hs
    have h2 := Nat.eq_of_beq_eq_true h2
    split at h1
    · rename_i k' he
      have hk := of_decide_eq_true h1
      subst hk
      rcases open_ints hu he h2 h with ⟨rfl, _⟩ | ⟨a, len, cap, zs, rfl, _, hl, hm, hz, _, hc, hw⟩
      · refine ⟨true, [], _, rfl, ⟨by simp [NN], none, 0, rfl, Nat.le_refl _, by simp, fun _ => ⟨rfl, rfl⟩, fun p hp => by cases hp⟩, by simp, by simp [maxLen], fun _ => rfl⟩
      · simp only [if_true] at hz
        have htl : (zs.take len).length = len := by simp; omega
        have hw' : ∀ x ∈ zs.take len, (Lit.int k x).wf = true := fun x hx => hw x (List.mem_of_mem_take hx)
        refine ⟨false, zs.take len, _, rfl, ⟨wf_nn hw', some a, cap, by rw [htl], by omega, by simp, (fun e => by cases e), fun p hp => ?_⟩, hw', by omega, fun e => by cases e⟩
        simp only [Option.some.injEq] at hp
        subst hp
        have hcell : ∀ i (hi : i < (zs.take len).length), a.spot = none ∧ W.cell? ⟨a.block, a.off + i, none⟩ = some (.int k (zs.take len)[i]) := by
          intro i hi
          have hi' : i < zs.length := by simp at hi; omega
          have g := hc i hi'
          have e : a.add i = ⟨a.block, a.off + i, none⟩ ∧ a.spot = none := add_spot g (by
            have g0 := hc 0 (by omega)
            exact ⟨_, g0⟩)
          refine ⟨e.2, ?_⟩
          rw [e.1] at g
          rw [g]
          simp [List.getD, hi']
        refine ⟨fun hne => ?_, fun i hi => ⟨(hcell i hi).2, bare_A _ _ _ _ _ _⟩⟩
        exact (hcell 0 (List.length_pos_iff.2 hne)).1
    · cases h1
  · cases hs
theorem add_none (a : Addr) (h : a.spot = none) (i : Nat) : a.add i = ⟨a.block, a.off + i, none⟩ := by
  unfold Addr.add
  split
  · rename_i hi
    subst hi
    cases a; simp_all
  · rfl
theorem open_rw {α : Type} {n : Nat} {F : α → List Value → Prop} {g : α → Prop} {t e : TypeId} {fuel : Nat} {cs : List Value} {x : DataW H × List MemPlace} (hu : P.underlying t = some (.slice e)) (hn : 0 < n) (hc : P.cellsOf e = n)
    (hx : ∀ fuel cs x, DataW.trod enc P W 0 (fun _ => true) true fuel e cs = some x → ∃ y : α, F y cs ∧ g y) (h : DataW.trod enc P W 0 (fun _ => true) true fuel t cs = some x) :
    ∃ (l : List α) (v : Value), cs = [v] ∧ IsRw W (cx (bare P gt eps W) [] [] W).A n F l v ∧ l.length ≤ maxLen ∧ ∀ x ∈ l, g x := by
  rcases DataW.trod_slice hu h with ⟨rfl, _⟩ | ⟨a, len, cap, elems, rest, m, _, rfl, _, hb, hl, hm, hlen, hel, _, _⟩
  · exact ⟨[], _, rfl, ⟨none, 0, rfl, Nat.le_refl _, fun _ => ⟨rfl, rfl⟩, fun p hp => by cases hp⟩, by simp [maxLen], by simp⟩
  · have raw : ∀ i, i < len → ∃ (y : α) (cs' : List Value), F y cs' ∧ g y ∧ cs'.length = n ∧ ∀ j, j < n → W.cell? ((a.add (i * n)).add j) = cs'[j]? := by
      intro i hi
      have hb := hel i hi
      rw [List.getElem?_eq_getElem (by omega), hc, Option.bind_eq_some_iff] at hb
      obtain ⟨cs', hcs, hy⟩ := hb
      obtain ⟨y, q1, q2⟩ := hx _ _ _ hy
      obtain ⟨_, r1, r2⟩ := World.cells?_some hcs
      exact ⟨y, cs', q1, q2, r1, r2⟩
    have spot : 0 < len → a.spot = none := by
      intro h0
      obtain ⟨y, cs', _, _, r1, r2⟩ := raw 0 h0
      have e1 := r2 0 hn
      rw [Nat.zero_mul, List.getElem?_eq_getElem (by omega)] at e1
      have e0 : (a.add 0).add 0 = a.add 0 := by simp [Addr.add]
      rw [e0] at e1
      exact (add_spot e1 ⟨_, e1⟩).2
    have each : ∀ i, i < len → ∃ (y : α) (cs' : List Value), g y ∧ F y cs' ∧ cs'.length = n ∧ ∀ j (hj : j < cs'.length), W.cell? ⟨a.block, a.off + n * i + j, none⟩ = some cs'[j] ∧ ¬ (cx (bare P gt eps W) [] [] W).A a.block (a.off + n * i + j) := by
      intro i hi
      obtain ⟨y, cs', q1, q2, r1, r2⟩ := raw i hi
      refine ⟨y, cs', q2, q1, r1, fun j hj => ⟨?_, bare_A _ _ _ _ _ _⟩⟩
      have e1 := r2 j (by omega)
      rw [add_none a (spot (by omega)), add_none _ rfl, List.getElem?_eq_getElem hj] at e1
      rw [Nat.mul_comm n i]
      exact e1
    have all : ∀ m, m ≤ len → ∃ ll : List α, ll.length = m ∧ (∀ x ∈ ll, g x) ∧ ∀ i (hi : i < ll.length), ∃ cs' : List Value, F ll[i] cs' ∧ cs'.length = n ∧
        ∀ j (hj : j < cs'.length), W.cell? ⟨a.block, a.off + n * i + j, none⟩ = some cs'[j] ∧ ¬ (cx (bare P gt eps W) [] [] W).A a.block (a.off + n * i + j) := by
      intro m
      induction m with
      | zero => intro _; exact ⟨[], rfl, by simp, fun i hi => by simp at hi⟩
      | succ m ih =>
        intro hm
        obtain ⟨ll, e1, e0, e2⟩ := ih (by omega)
        obtain ⟨y, cs', q0, q⟩ := each m (by omega)
        refine ⟨ll ++ [y], by simp [e1], ?_, fun i hi => ?_⟩
        · intro x hx
          rcases List.mem_append.1 hx with hx | hx
          · exact e0 x hx
          · rw [List.mem_singleton.1 hx]; exact q0
        · rcases Nat.lt_or_ge i m with hlt | hge
          · rw [List.getElem_append_left (by omega)]
            exact e2 i (by omega)
          · have : i = m := by simp at hi; omega
            subst this
            have hx : (ll ++ [y])[i] = y := by rw [List.getElem_append_right (by omega)]; simp [e1]
            rw [hx]
            exact ⟨cs', q⟩
    obtain ⟨ll, e1, e0, e2⟩ := all len (Nat.le_refl _)
    refine ⟨ll, _, rfl, ⟨some a, cap, by rw [e1], by omega, (fun e => by cases e), fun p hp => ?_⟩, by omega, e0⟩
    simp only [Option.some.injEq] at hp
    subst hp
    exact ⟨fun hne => spot (by have := List.length_pos_iff.2 hne; omega), e2⟩
theorem open_num {k : IntKind} {m : Nat} {t e : TypeId} {fuel : Nat} {cs : List Value} {x : DataW H × List MemPlace} (hu : P.underlying t = some (.array m e)) (he : P.underlying e = some (.int k)) (h2 : P.cellsOf e = 1) (h4 : P.cellsOf t = m)
    (h : DataW.trod enc P W 0 (fun _ => true) true fuel t cs = some x) : ∃ l : List Int, cs = l.map (Value.int k) ∧ l.length = m ∧ ∀ x ∈ l, (Lit.int k x).wf = true := by
  obtain ⟨xs, f, _, _, hlen, hxl, hx⟩ := DataW.trod_array hu h
  rw [h4] at hlen
  have each : ∀ i (hi : i < cs.length), ∃ z, cs[i] = .int k z ∧ (Lit.int k z).wf = true := by
    intro i hi
    have q := hx i (by omega)
    rw [List.getElem?_eq_getElem (by omega), h2, Nat.mul_one] at q
    obtain ⟨z, q1, _, q2⟩ := DataW.trod_int he q
    have : (cs.drop i).take 1 = [cs[i]] := by
      rw [List.drop_eq_getElem_cons hi]; rfl
    rw [this, List.cons.injEq] at q1
    exact ⟨z, q1.1, q2⟩
  have all : ∀ (cs : List Value), (∀ i (hi : i < cs.length), ∃ z, cs[i] = .int k z ∧ (Lit.int k z).wf = true) → ∃ l : List Int, cs = l.map (Value.int k) ∧ ∀ x ∈ l, (Lit.int k x).wf = true := by
    intro cs
    induction cs with
    | nil => intro _; exact ⟨[], rfl, by simp⟩
    | cons c cs ih =>
      intro hq
      obtain ⟨z, e1, e2⟩ := hq 0 (by simp)
      obtain ⟨l, e3, e4⟩ := ih fun i hi => hq (i + 1) (by simpa using hi)
      refine ⟨z :: l, by simp at e1; simp [e1, e3], fun x hx => ?_⟩
      rcases List.mem_cons.1 hx with rfl | hx
      · exact e2
      · exact e4 x hx
  obtain ⟨l, rfl, hl⟩ := all cs each
  exact ⟨l, rfl, by simpa using hlen, hl⟩
mutual
theorem open_fz : ∀ (s : T) (t : TypeId) (fuel : Nat) (cs : List Value) (x : DataW H × List MemPlace), s.isT P t = true → DataW.trod enc P W 0 (fun _ => true) true fuel t cs = some x →
    ∃ y : Den s, Fz W (cx (bare P gt eps W) [] [] W).A s y cs ∧ goodT s y
  | .int k, t, fuel, cs, x, hs, h => by
    simp only [T.isT] at hs
    split at hs
    · rename_i k' hu
      have hk := of_decide_eq_true hs
      subst hk
      obtain ⟨n, rfl, _, hw⟩ := DataW.trod_int hu h
      exact ⟨n, ⟨rfl, wf_nn (by intro x hx; rw [List.mem_singleton] at hx; subst hx; exact hw)⟩, hw⟩
    · cases hs
  | .bool, t, fuel, cs, x, hs, h => by
    simp only [T.isT] at hs
    split at hs
    · rename_i hu
      cases fuel with
      | zero => simp [DataW.trod] at h
      | succ n =>
        match cs with
        | [] => simp [DataW.trod, hu] at h
        | _ :: _ :: _ => simp [DataW.trod, hu] at h
        | [c] =>
          cases c with
          | bool b => exact ⟨b, rfl, trivial⟩
          | _ => simp [DataW.trod, hu] at h
    · cases hs
  | .str, t, fuel, cs, x, hs, h => by
    simp only [T.isT] at hs
    split at hs
    · rename_i hu
      obtain ⟨s, rfl, _, hl⟩ := DataW.trod_string hu h
      refine ⟨s.data.toList, ?_, by simpa [goodT] using hl⟩
      show [Value.string s] = _
      cases s; simp
    · cases hs
  | .arr k n, t, fuel, cs, x, hs, h => by
    simp only [T.isT] at hs
    split at hs
    · rename_i m e hu
      simp only [Bool.and_eq_true] at hs
      obtain ⟨⟨⟨h1, h2⟩, h3⟩, h4⟩ := hs
      have h2 := Nat.eq_of_beq_eq_true h2
      have h3 := Nat.eq_of_beq_eq_true h3
      have h4 := Nat.eq_of_beq_eq_true h4
      subst h3
      split at h1
      · rename_i k' he
        have hk := of_decide_eq_true h1
        subst hk
        obtain ⟨l, rfl, hll, hl⟩ := open_num hu he h2 h4 h
        exact ⟨l, ⟨hll, wf_nn hl, rfl⟩, hll, hl⟩
      · cases h1
    · cases hs
  | .sl k, t, fuel, cs, x, hs, h => by
    simp only [T.isT] at hs
    obtain ⟨nl, l, v, rfl, h1, h2, h3, _⟩ := open_isl (gt := gt) (eps := eps) hs h
    obtain ⟨z0, ad, cp, z1, z2, _, z4, z5⟩ := h1
    exact ⟨l, ⟨v, rfl, z0, ad, cp, z1, z2, (fun b hb => by cases hb), z4, z5⟩, h3, h2⟩
  | .rw s, t, fuel, cs, x, hs, h => by
    simp only [T.isT] at hs
    split at hs
    · rename_i e hu
      simp only [Bool.and_eq_true, Bool.not_eq_true'] at hs
      obtain ⟨h1, h2, h3, h4⟩ := hs
      obtain ⟨l, v, rfl, q1, q2, q3⟩ := open_rw (gt := gt) (eps := eps) (g := goodT s) hu (Nat.le_of_ble_eq_true h2) (Nat.eq_of_beq_eq_true h3) (fun fuel cs x hx => open_fz s e fuel cs x h4 hx) h
      exact ⟨l, Fz_rw h1 ⟨v, rfl, q1⟩, q2, q3⟩
    · cases hs
  | .st ts, t, fuel, cs, x, hs, h => by
    simp only [T.isT] at hs
    split at hs
    · rename_i fs hu
      obtain ⟨xs, n, _, _, hlen, hxl, hx⟩ := DataW.trod_struct hu h
      obtain ⟨y, h1, h2⟩ := open_fzL ts fs.toList 0 (P.cellsOf t) n cs hs hlen (fun j f hf => by
        have : fs[j]? = some f := by simpa using hf
        have hj : j < xs.length := by rw [hxl]; exact (Array.getElem?_eq_some_iff.1 this).1
        exact ⟨xs[j], by rw [hx j f this, List.getElem?_eq_getElem hj]⟩)
      have h1' : FzL W (cx (bare P gt eps W) [] [] W).A ts y cs := by simpa using h1
      exact ⟨y, h1', h2⟩
    · cases hs
theorem open_fzL : ∀ (ss : List T) (fs : List Field) (off tot n : Nat) (cs : List Value), T.isTL P ss fs off tot = true → cs.length = tot →
    (∀ (j : Nat) f, fs[j]? = some f → ∃ y, DataW.trod enc P W 0 (fun _ => true) true n f.type ((cs.drop f.offset).take (P.cellsOf f.type)) = some y) →
    ∃ y : DenL ss, FzL W (cx (bare P gt eps W) [] [] W).A ss y (cs.drop off) ∧ goodTL ss y
  | [], [], off, tot, n, cs, hs, hl, hx => by
    simp only [T.isTL] at hs
    have := Nat.eq_of_beq_eq_true hs
    refine ⟨(), ?_, trivial⟩
    show cs.drop off = []
    exact List.drop_eq_nil_of_le (by omega)
  | [], _ :: _, off, tot, n, cs, hs, hl, hx => by simp [T.isTL] at hs
  | _ :: _, [], off, tot, n, cs, hs, hl, hx => by simp [T.isTL] at hs
  | s :: ss, f :: fs, off, tot, n, cs, hs, hl, hx => by
    simp only [T.isTL, Bool.and_eq_true] at hs
    obtain ⟨⟨⟨h1, h2⟩, h3⟩, h4⟩ := hs
    have h1 := Nat.eq_of_beq_eq_true h1
    have h2 := Nat.eq_of_beq_eq_true h2
    obtain ⟨y, hy⟩ := hx 0 f rfl
    obtain ⟨av, g1, g2⟩ := open_fz s f.type n _ y h3 hy
    obtain ⟨l, g3, g4⟩ := open_fzL ss fs (off + T.len s) tot n cs h4 hl (fun j f' hf => hx (j + 1) f' (by simpa using hf))
    refine ⟨(av, l), ⟨_, _, ?_, g1, g3⟩, g2, g4⟩
    rw [h1, h2]
    rw [show cs.drop (off + s.len) = (cs.drop off).drop s.len by rw [List.drop_drop], List.take_append_drop]
end
mutual
theorem open_cells : ∀ (s : OS) (t : TypeId) (fuel : Nat) (cs : List Value) (x : DataW H × List MemPlace), s.is P t = true → DataW.trod enc P W 0 (fun _ => true) true fuel t cs = some x →
    ∃ av, Cells (cx (bare P gt eps W) [] [] W) av cs ∧ s.good av
  | .int k, t, fuel, cs, x, hs, h => by
    simp only [OS.is] at hs
    split at hs
    · rename_i k' hu
      have hk := of_decide_eq_true hs
      subst hk
      obtain ⟨n, rfl, _, hw⟩ := DataW.trod_int hu h
      exact ⟨.int k n, ⟨_, rfl, rfl, wf_nn (by intro x hx; rw [List.mem_singleton] at hx; subst hx; exact hw)⟩, n, rfl, hw⟩
    · cases hs
  | .bool, t, fuel, cs, x, hs, h => by
    simp only [OS.is] at hs
    split at hs
    · rename_i hu
      cases fuel with
      | zero => simp [DataW.trod] at h
      | succ n =>
        match cs with
        | [] => simp [DataW.trod, hu] at h
        | _ :: _ :: _ => simp [DataW.trod, hu] at h
        | [c] =>
          cases c with
          | bool b => exact ⟨.bool b, ⟨_, rfl, rfl⟩, b, rfl⟩
          | _ => simp [DataW.trod, hu] at h
    · cases hs
  | .str, t, fuel, cs, x, hs, h => by
    simp only [OS.is] at hs
    split at hs
    · rename_i hu
      obtain ⟨s, rfl, _, hl⟩ := DataW.trod_string hu h
      refine ⟨.str s.data.toList, ⟨_, rfl, ?_⟩, s.data.toList, rfl, by simpa using hl⟩
      show Value.string s = _
      cases s; simp
    · cases hs
  | .isl k, t, fuel, cs, x, hs, h => by
    obtain ⟨nl, l, v, rfl, h1, h2⟩ := open_isl (gt := gt) (eps := eps) hs h
    exact ⟨.isl k (some nl) l, ⟨_, rfl, h1⟩, nl, l, rfl, h2⟩
  | .rsl k, t, fuel, cs, x, hs, h => by
    simp only [OS.is] at hs
    split at hs
    · rename_i e hu
      simp only [Bool.and_eq_true] at hs
      obtain ⟨h1, h2⟩ := hs
      have h2 := Nat.eq_of_beq_eq_true h2
      rcases DataW.trod_slice hu h with ⟨rfl, _⟩ | ⟨a, len, cap, elems, rest, n, _, rfl, _, hb, hl, hm, hlen, hel, _, _⟩
      · exact ⟨.rsl k [], ⟨_, rfl, none, 0, rfl, Nat.le_refl _, fun _ => ⟨rfl, rfl⟩, fun p hp => by cases hp⟩, [], rfl, by simp [maxLen], by simp⟩
      · -- each element is a slice
        have each : ∀ i, i < len → ∃ l y, a.spot = none ∧ W.cell? ⟨a.block, a.off + i, none⟩ = some y ∧ IsSl W (cx (bare P gt eps W) [] [] W).A k none l y ∧ (∀ x ∈ l, (Lit.int k x).wf = true) ∧ l.length ≤ maxLen := by
          intro i hi
          have hb := hel i hi
          rw [List.getElem?_eq_getElem (by omega), h2, Nat.mul_one, Option.bind_eq_some_iff] at hb
          obtain ⟨cs', hcs, hy⟩ := hb
          obtain ⟨nl, l, v, rfl, q1, q2, q3, _⟩ := open_isl (gt := gt) (eps := eps) h1 hy
          have g := cell_of_cells?_one hcs
          have e : a.add i = ⟨a.block, a.off + i, none⟩ ∧ a.spot = none := add_spot g (by
            have hb := hel 0 (by omega)
            rw [List.getElem?_eq_getElem (by omega), h2, Nat.mul_one, Option.bind_eq_some_iff] at hb
            obtain ⟨cs', hcs, hy⟩ := hb
            obtain ⟨nl, l, v, rfl, _⟩ := open_isl (gt := gt) (eps := eps) h1 hy
            exact ⟨_, cell_of_cells?_one hcs⟩)
          rw [e.1] at g
          refine ⟨l, v, e.2, g, ?_, q2, q3⟩
          obtain ⟨z0, ad, cp, z1, z2, _, z4, z5⟩ := q1
          exact ⟨z0, ad, cp, z1, z2, (fun b hb => by cases hb), z4, z5⟩
        have all : ∀ m, m ≤ len → ∃ ll : List (List Int), ll.length = m ∧ ∀ i (hi : i < ll.length), ∃ y, a.spot = none ∧ W.cell? ⟨a.block, a.off + i, none⟩ = some y ∧ IsSl W (cx (bare P gt eps W) [] [] W).A k none ll[i] y ∧
            (∀ x ∈ ll[i], (Lit.int k x).wf = true) ∧ ll[i].length ≤ maxLen := by
          intro m
          induction m with
          | zero => intro _; exact ⟨[], rfl, fun i hi => by simp at hi⟩
          | succ m ih =>
            intro hm
            obtain ⟨ll, e1, e2⟩ := ih (by omega)
            obtain ⟨l, y, q⟩ := each m (by omega)
            refine ⟨ll ++ [l], by simp [e1], fun i hi => ?_⟩
            rcases Nat.lt_or_ge i m with hlt | hge
            · rw [List.getElem_append_left (by omega)]
              exact e2 i (by omega)
            · have : i = m := by simp at hi; omega
              subst this
              have hx : (ll ++ [l])[i] = l := by rw [List.getElem_append_right (by omega)]; simp [e1]
              rw [hx]
              exact ⟨y, q⟩
        obtain ⟨ll, e1, e2⟩ := all len (Nat.le_refl _)
        refine ⟨.rsl k ll, ⟨_, rfl, some a, cap, by rw [e1], by omega, (fun e => by cases e), fun p hp => ?_⟩, ll, rfl, by omega, fun l hl' => ?_⟩
        · simp only [Option.some.injEq] at hp
          subst hp
          refine ⟨fun hne => ?_, fun i hi => ?_⟩
          · obtain ⟨y, q, _⟩ := e2 0 (List.length_pos_iff.2 hne); exact q
          · obtain ⟨y, _, q1, q2, _⟩ := e2 i hi
            exact ⟨y, q1, bare_A _ _ _ _ _ _, q2⟩
        · obtain ⟨i, hi, rfl⟩ := List.mem_iff_getElem.1 hl'
          obtain ⟨y, _, _, _, q3, q4⟩ := e2 i hi
          exact ⟨q3, q4⟩
    · cases hs
  | .ints k n, t, fuel, cs, x, hs, h => by
    simp only [OS.is] at hs
    split at hs
    · rename_i m e hu
      simp only [Bool.and_eq_true] at hs
      obtain ⟨⟨⟨h1, h2⟩, h3⟩, h4⟩ := hs
      have h2 := Nat.eq_of_beq_eq_true h2
      have h3 := Nat.eq_of_beq_eq_true h3
      have h4 := Nat.eq_of_beq_eq_true h4
      subst h3
      split at h1
      · rename_i k' he
        have hk := of_decide_eq_true h1
        subst hk
        obtain ⟨xs, f, _, _, hlen, hxl, hx⟩ := DataW.trod_array hu h
        rw [h4] at hlen
        have each : ∀ i (hi : i < cs.length), ∃ z, cs[i] = .int k z ∧ (Lit.int k z).wf = true := by
          intro i hi
          have q := hx i (by omega)
          rw [List.getElem?_eq_getElem (by omega), h2, Nat.mul_one] at q
          obtain ⟨z, q1, _, q2⟩ := DataW.trod_int he q
          have : (cs.drop i).take 1 = [cs[i]] := by
            rw [List.drop_eq_getElem_cons hi]; rfl
          rw [this, List.cons.injEq] at q1
          exact ⟨z, q1.1, q2⟩
        have all : ∀ (cs : List Value), (∀ i (hi : i < cs.length), ∃ z, cs[i] = .int k z ∧ (Lit.int k z).wf = true) → ∃ l : List Int, cs = l.map (Value.int k) ∧ ∀ x ∈ l, (Lit.int k x).wf = true := by
          intro cs
          induction cs with
          | nil => intro _; exact ⟨[], rfl, by simp⟩
          | cons c cs ih =>
            intro hq
            obtain ⟨z, e1, e2⟩ := hq 0 (by simp)
            obtain ⟨l, e3, e4⟩ := ih fun i hi => hq (i + 1) (by simpa using hi)
            refine ⟨z :: l, by simp at e1; simp [e1, e3], fun x hx => ?_⟩
            rcases List.mem_cons.1 hx with rfl | hx
            · exact e2
            · exact e4 x hx
        obtain ⟨l, rfl, hl⟩ := all cs each
        have hll : l.length = m := by simpa using hlen
        exact ⟨.ints k m l, ⟨hll, wf_nn hl, rfl⟩, l, rfl, hll, hl⟩
      · cases h1
    · cases hs
  | .gsl s, t, fuel, cs, x, hs, h => by
    simp only [OS.is] at hs
    split at hs
    · rename_i e hu
      simp only [Bool.and_eq_true] at hs
      obtain ⟨h2, h3, h4⟩ := hs
      obtain ⟨l, v, rfl, q1, q2, q3⟩ := open_rw (gt := gt) (eps := eps) (g := goodT s) hu (Nat.le_of_ble_eq_true h2) (Nat.eq_of_beq_eq_true h3) (fun fuel cs x hx => open_fz s e fuel cs x h4 hx) h
      exact ⟨.gsl s l, ⟨v, rfl, q1⟩, l, rfl, q2, q3⟩
    · cases hs
  | .agg ss, t, fuel, cs, x, hs, h => by
    simp only [OS.is] at hs
    split at hs
    · rename_i fs hu
      obtain ⟨xs, n, _, _, hlen, hxl, hx⟩ := DataW.trod_struct hu h
      obtain ⟨l, h1, h2⟩ := open_fields ss fs.toList 0 (P.cellsOf t) n cs hs hlen (fun j f hf => by
        have : fs[j]? = some f := by simpa using hf
        have hj : j < xs.length := by rw [hxl]; exact (Array.getElem?_eq_some_iff.1 this).1
        exact ⟨xs[j], by rw [hx j f this, List.getElem?_eq_getElem hj]⟩)
      have h1' : CellsL (cx (bare P gt eps W) [] [] W) l cs := by simpa using h1
      exact ⟨.agg l, h1', l, rfl, h2⟩
    · rename_i n e hu
      simp only [Bool.and_eq_true] at hs
      obtain ⟨⟨h1, h2⟩, h3⟩ := hs
      have h2 := Nat.eq_of_beq_eq_true h2
      have h3 := Nat.eq_of_beq_eq_true h3
      obtain ⟨xs, f, _, _, hlen, hxl, hx⟩ := DataW.trod_array hu h
      obtain ⟨l, g1, g2⟩ := open_elems ss e f cs h1 (by rw [hlen, h3, h2]) (fun i hi => by
        refine ⟨xs[i]'(by omega), ?_⟩
        rw [hx i (by omega), List.getElem?_eq_getElem (by omega)])
      exact ⟨.agg l, g1, l, rfl, g2⟩
    · cases hs
theorem open_fields : ∀ (ss : List OS) (fs : List Field) (off tot n : Nat) (cs : List Value), OS.isL P ss fs off tot = true → cs.length = tot →
    (∀ (j : Nat) f, fs[j]? = some f → ∃ y, DataW.trod enc P W 0 (fun _ => true) true n f.type ((cs.drop f.offset).take (P.cellsOf f.type)) = some y) →
    ∃ l, CellsL (cx (bare P gt eps W) [] [] W) l (cs.drop off) ∧ OS.goodL ss l
  | [], [], off, tot, n, cs, hs, hl, hx => by
    simp only [OS.isL] at hs
    have := Nat.eq_of_beq_eq_true hs
    refine ⟨[], ?_, trivial⟩
    show cs.drop off = []
    exact List.drop_eq_nil_of_le (by omega)
  | [], _ :: _, off, tot, n, cs, hs, hl, hx => by simp [OS.isL] at hs
  | _ :: _, [], off, tot, n, cs, hs, hl, hx => by simp [OS.isL] at hs
  | s :: ss, f :: fs, off, tot, n, cs, hs, hl, hx => by
    simp only [OS.isL, Bool.and_eq_true] at hs
    obtain ⟨⟨⟨h1, h2⟩, h3⟩, h4⟩ := hs
    have h1 := Nat.eq_of_beq_eq_true h1
    have h2 := Nat.eq_of_beq_eq_true h2
    obtain ⟨y, hy⟩ := hx 0 f rfl
    obtain ⟨av, g1, g2⟩ := open_cells s f.type n _ y h3 hy
    obtain ⟨l, g3, g4⟩ := open_fields ss fs (off + OS.len s) tot n cs h4 hl (fun j f' hf => hx (j + 1) f' (by simpa using hf))
    refine ⟨av :: l, ⟨_, _, ?_, g1, g3⟩, g2, g4⟩
    rw [h1, h2]
    rw [show cs.drop (off + s.len) = (cs.drop off).drop s.len by rw [List.drop_drop], List.take_append_drop]
theorem open_elems : ∀ (ss : List OS) (e : TypeId) (n : Nat) (cs : List Value), OS.isA P ss e = true → cs.length = ss.length * P.cellsOf e →
    (∀ (i : Nat), i < ss.length → ∃ y, DataW.trod enc P W 0 (fun _ => true) true n e ((cs.drop (i * P.cellsOf e)).take (P.cellsOf e)) = some y) →
    ∃ l, CellsL (cx (bare P gt eps W) [] [] W) l cs ∧ OS.goodL ss l
  | [], e, n, cs, hs, hl, hx => by
    refine ⟨[], ?_, trivial⟩
    show cs = []
    exact List.eq_nil_of_length_eq_zero (by simpa using hl)
  | s :: ss, e, n, cs, hs, hl, hx => by
    simp only [OS.isA, Bool.and_eq_true] at hs
    obtain ⟨⟨h1, h2⟩, h3⟩ := hs
    obtain ⟨y, hy⟩ := hx 0 (by simp)
    obtain ⟨av, g1, g2⟩ := open_cells s e n _ y h1 hy
    simp only [List.length_cons, Nat.add_mul, Nat.one_mul] at hl
    obtain ⟨l, g3, g4⟩ := open_elems ss e n (cs.drop (P.cellsOf e)) h3 (by simp; omega) (fun i hi => by
      obtain ⟨y, hy⟩ := hx (i + 1) (by simpa using hi)
      refine ⟨y, ?_⟩
      rw [List.drop_drop, show P.cellsOf e + i * P.cellsOf e = (i + 1) * P.cellsOf e by rw [Nat.add_mul]; omega]
      exact hy)
    refine ⟨av :: l, ⟨_, _, ?_, g1, g3⟩, g2, g4⟩
    simp only [Nat.zero_mul, List.drop_zero]
    rw [List.take_append_drop]
end
def OS.isAll (P : Program) : List OS → List TypeId → Bool
  | [], [] => true
  | s :: ss, t :: ts => s.is P t && OS.isAll P ss ts
  | _, _ => false
theorem OS.isAll_ok {P : Program} : ∀ {ss : List OS} {ts : List TypeId}, OS.isAll P ss ts = true → All2 (fun s t => s.is P t = true) ss ts
  | [], [], _ => trivial
  | s :: ss, t :: ts, h => by
    simp only [OS.isAll, Bool.and_eq_true] at h
    exact ⟨h.1, OS.isAll_ok h.2⟩
  | [], _ :: _, h => by simp [OS.isAll] at h
  | _ :: _, [], h => by simp [OS.isAll] at h
theorem open_all {base : Nat} : ∀ (ss : List OS) (ts : List TypeId) (vs : List Value) (ds : List (DataW H)) (ps : List MemPlace), All2 (fun s t => s.is P t = true) ss ts →
    (∀ (j : Nat) t v, ts[j]? = some t → vs[j]? = some v → Value.okWide P W .any base t v) → DataW.TrodAll enc P W 0 (fun _ => true) true ts vs ds ps →
    ∃ avs, All2 (Val (cx (bare P gt eps W) [] [] W)) avs vs ∧ OS.goodL ss avs
  | [], [], [], [], _, _, _, _ => ⟨[], trivial, trivial⟩
  | s :: ss, t :: ts, v :: vs, d :: ds, ps, hs, hok, h => by
    obtain ⟨p, q, ⟨fuel, h1⟩, h2, _⟩ := h
    obtain ⟨av, g1, g2⟩ := open_cells (gt := gt) (eps := eps) s t fuel _ _ hs.1 h1
    obtain ⟨l, g3, g4⟩ := open_all ss ts vs ds q hs.2 (fun j t' v' ht hv => hok (j + 1) t' v' (by simpa using ht) (by simpa using hv)) h2
    refine ⟨av :: l, ⟨?_, g3⟩, g2, g4⟩
    have hv := hok 0 t v rfl rfl
    -- a value of several cells is an aggregate
    have agg : (∃ cs, v = .agg cs) → ∃ cs, v = .agg cs ∧ v.cells = cs := fun ⟨cs, e⟩ => ⟨cs, e, by rw [e]; rfl⟩
    have one : ∀ x, v.cells.toList = [x] → (∀ cs, v ≠ .agg cs) → v = x := by
      intro x hx hne
      cases v <;> simp [Value.cells] at hx <;> first | exact hx | exact absurd rfl (hne _)
    have hs1 := hs.1
    unfold Value.okWide at hv
    cases s with
    | ints k n =>
      simp only [OS.is] at hs1
      split at hs1
      · rename_i m e hu
        rw [hu] at hv
        obtain ⟨cs, rfl, _⟩ := hv
        obtain ⟨l0, rfl, q1, q2⟩ := g2
        obtain ⟨r1, r2, r3⟩ := g1
        exact ⟨r1, r2, congrArg Value.agg (by rw [← r3]; simp [Value.cells])⟩
      · cases hs1
    | agg ss' =>
      obtain ⟨l0, rfl, q1⟩ := g2
      have : ∃ cs, v = .agg cs := by
        simp only [OS.is] at hs1
        split at hs1
        · rename_i fs hu
          rw [hu] at hv
          obtain ⟨cs, e, _⟩ := hv; exact ⟨cs, e⟩
        · rename_i n e hu
          rw [hu] at hv
          obtain ⟨cs, e, _⟩ := hv; exact ⟨cs, e⟩
        · cases hs1
      obtain ⟨cs, rfl⟩ := this
      exact ⟨_, g1, congrArg Value.agg (by simp [Value.cells])⟩
    | int k =>
      obtain ⟨n, rfl, _⟩ := g2
      obtain ⟨x, hx, hl⟩ := g1
      simp only [OS.is] at hs1
      split at hs1
      · rename_i k' hu
        rw [hu] at hv
        rw [one x hx (by rintro cs rfl; simp [Cell.okWide, Cell.ok, hu] at hv)]
        exact hl
      · cases hs1
    | bool =>
      obtain ⟨n, rfl⟩ := g2
      obtain ⟨x, hx, hl⟩ := g1
      simp only [OS.is] at hs1
      split at hs1
      · rename_i hu
        rw [hu] at hv
        rw [one x hx (by rintro cs rfl; simp [Cell.okWide, Cell.ok, hu] at hv)]
        exact hl
      · cases hs1
    | str =>
      obtain ⟨n, rfl, _⟩ := g2
      obtain ⟨x, hx, hl⟩ := g1
      simp only [OS.is] at hs1
      split at hs1
      · rename_i hu
        rw [hu] at hv
        rw [one x hx (by rintro cs rfl; simp [Cell.okWide, Cell.ok, hu] at hv)]
        exact hl
      · cases hs1
    | isl k =>
      obtain ⟨nl, l0, rfl, _⟩ := g2
      obtain ⟨x, hx, hl⟩ := g1
      simp only [OS.is, isSl] at hs1
      split at hs1
      · rename_i e hu
        rw [hu] at hv
        rw [one x hx (by rintro cs rfl; simp [Cell.okWide, Cell.ok, hu] at hv)]
        exact hl
      · cases hs1
    | gsl s =>
      obtain ⟨l0, rfl, _⟩ := g2
      obtain ⟨x, hx, hl⟩ := g1
      simp only [OS.is] at hs1
      split at hs1
      · rename_i e hu
        rw [hu] at hv
        rw [one x hx (by rintro cs rfl; simp [Cell.okWide, Cell.ok, hu] at hv)]
        exact hl
      · cases hs1
    | rsl k =>
      obtain ⟨ll, rfl, _⟩ := g2
      obtain ⟨x, hx, hl⟩ := g1
      simp only [OS.is] at hs1
      split at hs1
      · rename_i e hu
        rw [hu] at hv
        rw [one x hx (by rintro cs rfl; simp [Cell.okWide, Cell.ok, hu] at hv)]
        exact hl
      · cases hs1
  | [], _ :: _, _, _, _, hs, _, _ => hs.elim
  | _ :: _, [], _, _, _, hs, _, _ => hs.elim
  | [], [], _ :: _, _, _, _, _, h => by simp [DataW.TrodAll] at h
  | [], [], [], _ :: _, _, _, _, h => by simp [DataW.TrodAll] at h
  | _ :: _, _ :: _, [], _, _, _, _, h => by simp [DataW.TrodAll] at h
  | _ :: _, _ :: _, _ :: _, [], _, _, _, h => by simp [DataW.TrodAll] at h
theorem trodAll_again {W' : World} (hl : laidOutB P = true) (hm : mapsRowed P = true) (hz : ∀ t e, t < P.types.size → P.underlying t = some (.slice e) → 0 < P.cellsOf e) (hk : W.keptBut W' (fun _ => False)) :
    ∀ {ts : List TypeId} {vs : List Value} {ds : List (DataW H)} {ps : List MemPlace}, (∀ t ∈ ts, t < P.types.size) → DataW.TrodAll enc P W 0 (fun _ => true) true ts vs ds ps →
    DataW.TrodAll enc P W' 0 (fun b => decide (b < W.heap.size)) true ts vs ds ps
  | [], [], [], _, _, h => h
  | t :: ts, v :: vs, d :: ds, ps, hT, h => by
    obtain ⟨p, q, ⟨n, h1⟩, h2, e⟩ := h
    have hlt : ∀ x ∈ p, x.block < W.heap.size := fun x hx => DataW.trod_lt n _ _ _ h1 x hx
    have g := DataW.trod_respare (spare' := fun b => decide (b < W.heap.size)) (kids_rows hl hm) hz n _ _ _ (hT t List.mem_cons_self) h1 (fun x hx => decide_eq_true (hlt x hx))
    have g' := DataW.trod_carry (w' := W') n _ _ _ g (fun x hx => by
      have hkk := (World.keptBut_none_iff.1 hk).2.2 x.block (hlt x hx)
      cases x with
      | cell b o => show W'.cell? _ = W.cell? _; unfold World.cell?; rw [show W'.heap[b]? = W.heap[b]? from hkk]
      | map b => exact hkk)
    exact ⟨p, q, ⟨n, g'⟩, trodAll_again hl hm hz hk (fun t' ht' => hT t' (List.mem_cons_of_mem _ ht')) h2, e⟩
  | [], [], _ :: _, _, _, h => by simp [DataW.TrodAll] at h
  | [], _ :: _, _, _, _, h => by simp [DataW.TrodAll] at h
  | _ :: _, [], _, _, _, h => by simp [DataW.TrodAll] at h
  | _ :: _, _ :: _, [], _, _, h => by simp [DataW.TrodAll] at h
theorem trodAll_len : ∀ {ts : List TypeId} {vs : List Value} {ds : List (DataW H)} {ps : List MemPlace}, DataW.TrodAll enc P W 0 (fun _ => true) true ts vs ds ps → ds.length = ts.length
  | [], [], [], _, _ => rfl
  | t :: ts, v :: vs, d :: ds, ps, h => by
    obtain ⟨p, q, _, h2, _⟩ := h
    simp [trodAll_len h2]
  | [], [], _ :: _, _, h => by simp [DataW.TrodAll] at h
  | [], _ :: _, _, _, h => by simp [DataW.TrodAll] at h
  | _ :: _, [], _, _, h => by simp [DataW.TrodAll] at h
  | _ :: _, _ :: _, [], _, h => by simp [DataW.TrodAll] at h
theorem law_row {f : Nat} {fn : Func} {tb : TypeId} {spec : ChangeSpec} {base : Nat} {args : Array Value} {ds gs : List (DataW H)} {before : List MemPlace} {C : Con} {ss : List OS}
    (hl : laidOutB P = true) (hm : mapsRowed P = true) (hz : ∀ t e, t < P.types.size → P.underlying t = some (.slice e) → 0 < P.cellsOf e)
    (hvars : spec.vars = []) (hres : fn.resultTypes = #[tb]) (hb : P.underlying tb = some .bool) (hT0 : (fn.params.toList.all fun t => Nat.blt t P.types.size) = true)
    (hspec : ∀ ds : List (DataW H), ds.length = fn.params.toList.length → spec.fn H ds = { results := [.lit (.bool true)], args := ds })
    (hss0 : OS.isAll P ss fn.params.toList = true)
    (hval0 : ∀ (j : Nat) t v, fn.params[j]? = some t → args[j]? = some v → Value.okWide P W .any base t v)
    (hW : DataW.Whole enc P fn.params.toList spec.vars false W args.toList ds gs before)
    (hs : SoundC P gt f C) (he : EpsOk P eps gt W) (hg : ∀ g v, gt g = some v → glbAt P gt eps W g v) (hC : ∀ avs, OS.goodL ss avs → C Unit avs [] yes = some ()) :
    Calls P f args W fun e W' => ∃ v, e = .returned v ∧ spec.post enc P fn false true false false W args v W' := by
  have hW' := hW
  have hT : ∀ t ∈ fn.params.toList, t < P.types.size := fun t ht => Nat.le_of_ble_eq_true (List.all_eq_true.1 hT0 t ht)
  have hss := OS.isAll_ok hss0
  obtain ⟨p, q, hA, hV, rfl, hfz, hnd⟩ := hW
  rw [hvars] at hV
  have hgs : gs = [] := by
    cases gs with
    | nil => rfl
    | cons a l => simp [DataW.TrodVars] at hV
  subst hgs
  obtain ⟨avs, h1, h2⟩ := open_all (gt := gt) (eps := eps) ss fn.params.toList args.toList ds p hss (fun j t v ht hv => hval0 j t v (by simpa using ht) (by simpa using hv)) hA
  refine (law_calls hs he hg h1 (hC avs h2)).mono fun e W' ⟨e1, hk⟩ => ?_
  subst e1
  have hlen : ds.length = fn.params.toList.length := (trodAll_len hA)
  refine ⟨_, rfl, ds, [], _, [], p, [], hW', ?_, ?_, ?_, World.keptBut_mono (fun _ h => h.elim) hk, fun h => by cases h⟩
  · rw [List.append_nil, hspec ds hlen, hres]
    exact ⟨[], [], Go.RowKit.shut_bool hb true, rfl, rfl⟩
  · rw [List.append_nil, hspec ds hlen]
    exact trodAll_again hl hm hz hk hT hA
  · rw [List.append_nil, hspec ds hlen, hvars]
    rfl
end
end Go.Ev
namespace Go.Ev
open Go
theorem back_nil {X : Fx} {k : IntKind} {e : Ending} {w : World} (h : Back X [] [] (.isl k (some true) []) [] e w) : Back X [] [] (.own 0 [] 0 none) [.row k true []] e w := by
  cases e with
  | outgrown => exact h.elim
  | panicked => exact h.elim
  | returned cv =>
    obtain ⟨L', I, _, _, hv⟩ := h
    have hL : L' = [] := List.length_eq_zero_iff.1 I.len
    subst hL
    have I' := (I.upd (h' := [.row k true []]) (L' := [default]) (fun _ _ => False) rfl (Step.refl _ w) (fun _ _ q => q.elim) (fun id s hs _ => by simp at hs)
      (fun b o q => by
        obtain ⟨i, s, p, h1, h2, h3⟩ := q
        cases i with
        | succ i => simp at h1
        | zero =>
          simp only [List.map_cons, List.map_nil, List.getElem?_cons_zero, Option.some.injEq] at h1
          subst h1
          obtain ⟨hh, _⟩ := h3; cases hh)
      (fun i j s t p q b o hij hs ht _ _ _ _ => by
        cases i with
        | succ i => simp at hs
        | zero => cases j with
          | succ j => simp at ht
          | zero => exact hij rfl)
      (fun _ id b p hb hp => by
        cases id with
        | succ id => simp at hb
        | zero =>
          simp only [List.getElem?_cons_zero, Option.some.injEq] at hb
          subst hb
          exact .inr ⟨by simp [NN], fun _ => rfl, fun hh => by cases hh⟩))
    refine ⟨[default], I'.1, fun i _ hi => by simp at hi, fun i _ _ _ hi => by simp at hi, ?_⟩
    have hv' : IsSl w (cx X [] [] w).A k (some true) [] cv := hv
    obtain ⟨_, a, cap, rfl, _, ha, hn, _⟩ := hv'
    have ha := ha true rfl
    cases a with
    | some q => cases ha
    | none =>
      obtain ⟨_, rfl⟩ := hn rfl
      exact own_nil rfl rfl
theorem clone_sound {P : Program} {gt : Nat → Option AV} {f : Nat} {k : IntKind} {C1 C2 : Con} (h1 : SoundC P gt f C1) (h2 : SoundC P gt f C2)
    (e1 : ∀ (R : Type) (κ : AV → List Blk → Option R), C1 R [.isl k (some true) []] [] κ = κ (.isl k (some true) []) []) {c : List Int → Bool}
    (e2 : ∀ (R : Type) (κ : AV → List Blk → Option R) (l : List Int), c l = true → C2 R [.isl k (some false) l] [] κ = κ (.own 0 [] 0 none) [.row k l.isEmpty l]) :
    SoundC P gt f (fun _ args bs κ => match args, bs with
      | [.isl k' _ l], [] => cond (decide (k' = k)) (cond (c l) (κ (.own 0 [] 0 none) [.row k l.isEmpty l]) none) none
      | _, _ => none) := by
  intro R args bs κ r h
  dsimp only at h
  split at h
  · rename_i k' nl l
    obtain ⟨hk, h⟩ := cond_none h
    obtain ⟨hc, h⟩ := cond_none h
    have hk := of_decide_eq_true hk
    subst hk
    refine ⟨_, _, h, fun X L w cargs hP hgt hw hpin I hall => ?_⟩
    obtain ⟨x, hx, hv⟩ : ∃ x, cargs.toList = [x] ∧ Val (cx X [] L w) (.isl k' nl l) x := by
      cases hcl : cargs.toList with
      | nil => rw [hcl] at hall; exact hall.elim
      | cons x t =>
        rw [hcl] at hall
        obtain ⟨q1, q2⟩ := hall
        cases t with
        | nil => exact ⟨x, rfl, q1⟩
        | cons => exact q2.elim
    have hv' : IsSl w (cx X [] L w).A k' nl l x := hv
    obtain ⟨n1, a, cap, rfl, n2, _, n4, n5⟩ := hv'
    have hL : L = [] := List.length_eq_zero_iff.1 I.len
    subst hL
    cases a with
    | none =>
      have hl := (n4 rfl).1
      subst hl
      have hv1 : Val (cx X [] [] w) (.isl k' (some true) []) (.slice none ([] : List Int).length cap) := ⟨n1, none, cap, rfl, n2, fun b hb => by simpa using hb, n4, fun p hp => by cases hp⟩
      obtain ⟨v, bs', q1, q2⟩ := h1 (AV × List Blk) [.isl k' (some true) []] [] (fun v bs => some (v, bs)) (.isl k' (some true) [], []) (e1 _ _)
      simp only [Option.some.injEq, Prod.mk.injEq] at q1
      obtain ⟨rfl, rfl⟩ := q1
      refine Calls.mono (q2 X [] w cargs hP hgt hw hpin I (by rw [hx]; exact ⟨hv1, trivial⟩)) fun e w' hb => ?_
      exact back_nil hb
    | some q =>
      have hv1 : Val (cx X [] [] w) (.isl k' (some false) l) (.slice (some q) l.length cap) := ⟨n1, some q, cap, rfl, n2, fun b hb => by simpa using hb, fun hh => (by cases hh), n5⟩
      obtain ⟨v, bs', q1, q2⟩ := h2 (AV × List Blk) [.isl k' (some false) l] [] (fun v bs => some (v, bs)) (.own 0 [] 0 none, [.row k' l.isEmpty l]) (e2 _ _ _ hc)
      simp only [Option.some.injEq, Prod.mk.injEq] at q1
      obtain ⟨rfl, rfl⟩ := q1
      exact q2 X [] w cargs hP hgt hw hpin I (by rw [hx]; exact ⟨hv1, trivial⟩)
  · cases h
def nilAt : List Blk → Bool
  | .var (.agg (.nils :: _)) :: _ => true
  | _ => false
theorem SoundC.either {P : Program} {gt : Nat → Option AV} {f : Nat} {C0 C1 : Con} (t : List Blk → Bool) (h0 : SoundC P gt f C0) (h1 : SoundC P gt f C1) : SoundC P gt f (fun R args bs κ => cond (t bs) (C0 R args bs κ) (C1 R args bs κ)) := by
  intro R args bs κ r h
  cases ht : t bs with
  | true => simp only [ht, cond_true] at h; exact h0 R args bs κ r h
  | false => simp only [ht, cond_false] at h; exact h1 R args bs κ r h
end Go.Ev
