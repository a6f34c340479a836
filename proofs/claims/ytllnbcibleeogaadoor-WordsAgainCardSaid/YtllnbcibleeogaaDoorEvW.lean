/- The evaluator's soundness: operations in any order. -/
import Derived.Test.YtllnbcibleeogaaDoorEvV
namespace Go.Ev

def lastW {β : Type} (f : En → Option β) (S : Nat → Bool) : List En → Nat → Option β
  | [], _ => none
  | e :: es, i => match lastW f S es (i + 1) with
    | some b => some b
    | none => if S i then f e else none

theorem lastW_congr {β : Type} {f : En → Option β} {S S' : Nat → Bool} : ∀ {es : List En} {i : Nat}, (∀ (k : Nat) e, es[k]? = some e → f e ≠ none → S (i + k) = S' (i + k)) → lastW f S es i = lastW f S' es i
  | [], _, _ => rfl
  | e :: es, i, h => by
    have ih := lastW_congr (f := f) (S := S) (S' := S') (es := es) (i := i + 1) fun k e' he hn => by
      have := h (k + 1) e' (by simpa using he) hn
      rw [show i + 1 + k = i + (k + 1) by omega]; exact this
    simp only [lastW, ih]
    cases lastW f S' es (i + 1) with
    | some b => rfl
    | none =>
      cases hf : f e with
      | none => simp
      | some b => rw [show S i = S' i from h 0 e (by simp) (by rw [hf]; simp)]

theorem lastW_none {β : Type} {f : En → Option β} {S : Nat → Bool} : ∀ {es : List En} {i : Nat}, (∀ (k : Nat) e, es[k]? = some e → f e ≠ none → S (i + k) = false) → lastW f S es i = none
  | [], _, _ => rfl
  | e :: es, i, h => by
    have ih := lastW_none (f := f) (S := S) (es := es) (i := i + 1) fun k e' he hn => by
      have := h (k + 1) e' (by simpa using he) hn
      rw [show i + 1 + k = i + (k + 1) by omega]; exact this
    simp only [lastW, ih]
    cases hf : f e with
    | none => simp
    | some b => rw [show S i = false from h 0 e (by simp) (by rw [hf]; simp)]; rfl

theorem lastW_top {β : Type} {f : En → Option β} {S : Nat → Bool} {b : β} : ∀ {es : List En} {i k : Nat} {e : En}, es[k]? = some e → f e = some b → S (i + k) = true →
    (∀ (j : Nat) e', k < j → es[j]? = some e' → f e' ≠ none → S (i + j) = false) → lastW f S es i = some b
  | [], _, _, _, h, _, _, _ => by simp at h
  | e0 :: es, i, 0, e, h, hf, hs, hn => by
    simp only [List.getElem?_cons_zero, Option.some.injEq] at h
    subst h
    have : lastW f S es (i + 1) = none := lastW_none fun k e' he hne => by
      have := hn (k + 1) e' (by omega) (by simpa using he) hne
      rw [show i + 1 + k = i + (k + 1) by omega]; exact this
    simp only [lastW, this]
    rw [show S i = true from hs]; simpa using hf
  | e0 :: es, i, k + 1, e, h, hf, hs, hn => by
    have ih := lastW_top (f := f) (S := S) (es := es) (i := i + 1) (k := k) (e := e) (by simpa using h) hf (by rw [show i + 1 + k = i + (k + 1) by omega]; exact hs) fun j e' hj he hne => by
      have := hn (j + 1) e' (by omega) (by simpa using he) hne
      rw [show i + 1 + j = i + (j + 1) by omega]; exact this
    simp only [lastW, ih]

/-- One more, that nobody hides. -/
theorem lastW_add {β : Type} {f : En → Option β} {S S' : Nat → Bool} {es : List En} {i : Nat} {e : En} (he : es[i]? = some e) (hS : ∀ k, S' k = (S k || Nat.beq k i))
    (hn : f e ≠ none → ∀ (j : Nat) e', i < j → es[j]? = some e' → f e' ≠ none → S j = false) : lastW f S' es 0 = match f e with | some b => some b | none => lastW f S es 0 := by
  cases hf : f e with
  | some b =>
    refine lastW_top (k := i) he hf (by rw [hS]; simp [Nat.beq_refl]) fun j e' hj he' hne => ?_
    rw [hS]
    have : Nat.beq (0 + j) i = false := by cases hb : Nat.beq (0 + j) i; rfl; have := Nat.eq_of_beq_eq_true hb; omega
    rw [this, show 0 + j = j by omega, hn (by rw [hf]; simp) j e' hj he' hne]; rfl
  | none =>
    refine lastW_congr fun k e' he' hne => ?_
    rw [hS]
    have : Nat.beq (0 + k) i = false := by
      cases hb : Nat.beq (0 + k) i
      · rfl
      · have := Nat.eq_of_beq_eq_true hb
        have hk : k = i := by omega
        subst hk
        rw [he] at he'; simp only [Option.some.injEq] at he'; subst he'
        exact absurd hf hne
    rw [this]; simp

def fT (x : Nat) (e : En) : Option AV := if e.dst = some x then some e.v else none
def fH (id : Nat) (e : En) : Option Blk := updOf e.us id

def stS (st0 : St) (es : List En) (S : Nat → Bool) : St :=
  ⟨(List.range st0.t.length).map fun x => (lastW (fT x) S es 0).getD (st0.t.getD x und), (List.range st0.h.length).map fun id => (lastW (fH id) S es 0).getD (hAt st0.h id)⟩

theorem stS_t {st0 : St} {es : List En} {S : Nat → Bool} (x : Nat) : (stS st0 es S).t.getD x und = if x < st0.t.length then (lastW (fT x) S es 0).getD (st0.t.getD x und) else und := by
  simp only [stS, List.getD, List.getElem?_map]
  by_cases hx : x < st0.t.length
  · rw [List.getElem?_range hx, if_pos hx]; rfl
  · rw [List.getElem?_eq_none (by simpa using hx), if_neg hx]; rfl

theorem stS_h {st0 : St} {es : List En} {S : Nat → Bool} (id : Nat) : (stS st0 es S).h[id]? = if id < st0.h.length then some ((lastW (fH id) S es 0).getD (hAt st0.h id)) else none := by
  simp only [stS, List.getElem?_map]
  by_cases hx : id < st0.h.length
  · rw [List.getElem?_range hx, if_pos hx]; rfl
  · rw [List.getElem?_eq_none (by simpa using hx), if_neg hx]; rfl

theorem stS_congr {st0 : St} {es : List En} {S S' : Nat → Bool} (h : ∀ k, k < es.length → S k = S' k) : stS st0 es S = stS st0 es S' := by
  unfold stS
  congr 1
  · refine List.map_congr_left fun x _ => ?_
    rw [lastW_congr (f := fT x) (S := S) (S' := S') (es := es) (i := 0) fun k e he _ => by simpa using h k (getElem?_lt he)]
  · refine List.map_congr_left fun x _ => ?_
    rw [lastW_congr (f := fH x) (S := S) (S' := S') (es := es) (i := 0) fun k e he _ => by simpa using h k (getElem?_lt he)]

theorem stS_none {st0 : St} {es : List En} {S : Nat → Bool} (h : ∀ k, S k = false) : stS st0 es S = st0 := by
  obtain ⟨t, hh⟩ := st0
  unfold stS
  congr 1
  · apply List.ext_getElem?
    intro x
    simp only [List.getElem?_map]
    have hn : ∀ x, lastW (fT x) S es 0 = none := fun x => lastW_none fun k e _ _ => h _
    simp only [hn]
    by_cases hx : x < t.length
    · rw [List.getElem?_range hx]; simp [List.getD, hx]
    · rw [List.getElem?_eq_none (by simpa using hx), List.getElem?_eq_none (by simpa using hx)]; rfl
  · apply List.ext_getElem?
    intro x
    simp only [List.getElem?_map]
    have hn : ∀ x, lastW (fH x) S es 0 = none := fun x => lastW_none fun k e _ _ => h _
    simp only [hn]
    by_cases hx : x < hh.length
    · rw [List.getElem?_range hx]; simp [hAt, List.getD, hx]
    · rw [List.getElem?_eq_none (by simpa using hx), List.getElem?_eq_none (by simpa using hx)]; rfl

theorem app_stS {st0 : St} {es : List En} {S S' : Nat → Bool} {i : Nat} {e : En} (he : es[i]? = some e) (hS : ∀ k, S' k = (S k || Nat.beq k i))
    (ht : ∀ d, e.dst = some d → ∀ (j : Nat) e', i < j → es[j]? = some e' → e'.dst = some d → S j = false)
    (hh : ∀ id, updOf e.us id ≠ none → ∀ (j : Nat) e', i < j → es[j]? = some e' → updOf e'.us id ≠ none → S j = false) : app (stS st0 es S) e = stS st0 es S' := by
  have h1 : putT (stS st0 es S).t e.dst e.v = (stS st0 es S').t := by
    apply List.ext_getElem?
    intro x
    have key : ∀ S, (stS st0 es S).t[x]? = if x < st0.t.length then some ((lastW (fT x) S es 0).getD (st0.t.getD x und)) else none := by
      intro S
      simp only [stS, List.getElem?_map]
      by_cases hx : x < st0.t.length
      · rw [List.getElem?_range hx, if_pos hx]; rfl
      · rw [List.getElem?_eq_none (by simpa using hx), if_neg hx]; rfl
    rw [key S', lastW_add he hS (f := fT x) (by
      intro hn j e' hj he' hne
      simp only [fT] at hn hne
      by_cases h1 : e.dst = some x
      · by_cases h2 : e'.dst = some x
        · exact ht x h1 j e' hj he' h2
        · simp [h2] at hne
      · simp [h1] at hn)]
    cases hd : e.dst with
    | none => simp only [putT, fT, hd, reduceCtorEq, if_false]; exact key S
    | some d =>
      simp only [putT, fT, hd, Option.some.injEq]
      by_cases hdx : d = x
      · subst hdx
        simp only [if_true, List.getElem?_set, Option.getD_some]
        have : (stS st0 es S).t.length = st0.t.length := by simp [stS]
        rw [this]
      · simp only [hdx, if_false]
        rw [List.getElem?_set_ne hdx]; exact key S
  have h2 : applyU (stS st0 es S).h e.us = (stS st0 es S').h := by
    apply List.ext_getElem?
    intro id
    rw [applyU_get, stS_h, stS_h, lastW_add he hS (f := fH id) (fun hn j e' hj he' hne => hh id hn j e' hj he' hne)]
    have : (stS st0 es S).h.length = st0.h.length := by simp [stS]
    rw [this]
    simp only [fH]
    cases hu : updOf e.us id with
    | none => rfl
    | some b => rfl
  unfold app
  rw [h1, h2]

theorem take_stS {st0 : St} {es : List En} : ∀ (i : Nat), i ≤ es.length → (es.take i).foldl app st0 = stS st0 es (fun k => decide (k < i))
  | 0, _ => by rw [stS_none (by simp)]; rfl
  | i + 1, hi => by
    have hlt : i < es.length := by omega
    have ih := take_stS (st0 := st0) (es := es) i (by omega)
    rw [List.take_succ_eq_append_getElem hlt, List.foldl_append, ih]
    simp only [List.foldl_cons, List.foldl_nil]
    refine app_stS (List.getElem?_eq_getElem hlt) (fun k => ?_) (fun _ _ j _ hj _ _ => by simp; omega) (fun _ _ j _ hj _ _ => by simp; omega)
    rw [Bool.eq_iff_iff]
    simp only [decide_eq_true_eq, Bool.or_eq_true, Nat.beq_eq]
    omega

/-! ### what the trace says of two operations -/

def fpPair (bits : Nat) (e : En) (j : Nat) (ej : En) : Prop := bits.testBit j = true ∨ ((∀ x, updOf ej.us x ≠ none → x ∉ e.rd ∧ updOf e.us x = none) ∧ ∀ x ∈ ej.rd, updOf e.us x = none)

theorem disjN_spec : ∀ {l m : List Nat}, disjN l m = true → ∀ x ∈ l, x ∉ m
  | [], _, _, x, hx => by simp at hx
  | n :: l, m, h, x, hx => by
    simp only [disjN, Bool.and_eq_true, Bool.not_eq_true'] at h
    simp only [List.mem_cons] at hx
    rcases hx with rfl | hx
    · intro hm; rw [memN_iff.2 hm] at h; simp at h
    · exact disjN_spec h.2 x hx

theorem updOf_ids {us : List (Nat × Blk)} {x : Nat} (h : updOf us x ≠ none) : x ∈ ids us := by
  induction us with
  | nil => exact absurd rfl h
  | cons u us ih =>
    obtain ⟨i, b⟩ := u
    simp only [updOf] at h
    cases hu : updOf us x with
    | some y => exact List.mem_cons_of_mem _ (ih (by rw [hu]; simp))
    | none =>
      simp only [hu] at h
      by_cases hi : i = x
      · subst hi; simp [ids]
      · simp [hi] at h

theorem fpPair_of {bits : Nat} {e : En} : ∀ {fs : List FP}, fpOk bits e.rd (ids e.us) fs = true → ∀ f ∈ fs, bits.testBit f.i = true ∨ (disjN f.wr (e.rd ++ ids e.us) = true ∧ disjN f.rd (ids e.us) = true)
  | [], _, f, hf => by simp at hf
  | g :: fs, h, f, hf => by
    simp only [fpOk, Bool.and_eq_true, Bool.or_eq_true] at h
    simp only [List.mem_cons] at hf
    rcases hf with rfl | hf
    · exact h.1
    · exact fpPair_of h.2 f hf

theorem Tr_get {G : Gi} {ops : Array Oper} {bef : Array Nat} : ∀ {l : List Oper} {es : List En} {i nid : Nat} {fps : List FP} {st : St}, Tr G ops true bef l es i nid fps st → es.length = l.length ∧
    ∀ (k : Nat) o e, l[k]? = some o → es[k]? = some e → EnOk G ops true o (nid + resvL (l.take k)) ((es.take k).foldl app st) e ∧
      (∀ f ∈ fps, (bef.getD (i + k) 0).testBit f.i = true ∨ (disjN f.wr (e.rd ++ ids e.us) = true ∧ disjN f.rd (ids e.us) = true)) ∧
      ∀ (j : Nat) ej, j < k → es[j]? = some ej → fpPair (bef.getD (i + k) 0) e (i + j) ej
  | [], [], _, _, _, _, _ => ⟨rfl, fun k o e h _ => by simp at h⟩
  | o0 :: l, e0 :: es, i, nid, fps, st, ⟨h1, h2, h3⟩ => by
    obtain ⟨q1, q2⟩ := Tr_get h3
    refine ⟨by simp [q1], fun k o e hk he => ?_⟩
    cases k with
    | zero =>
      simp only [List.getElem?_cons_zero, Option.some.injEq] at hk he
      subst hk; subst he
      refine ⟨by simpa [resvL] using h1, fpPair_of (h2 rfl), fun j ej hj => by omega⟩
    | succ k =>
      simp only [List.getElem?_cons_succ] at hk he
      obtain ⟨r1, r2, r3⟩ := q2 k o e hk he
      rw [show i + 1 + k = i + (k + 1) by omega] at r2 r3
      refine ⟨?_, fun f hf => r2 f (by simp [hf]), fun j ej hj hej => ?_⟩
      · simp only [List.take_succ_cons, List.foldl_cons, resvL]
        rw [← Nat.add_assoc]; exact r1
      · cases j with
        | zero =>
          simp only [List.getElem?_cons_zero, Option.some.injEq] at hej
          subst hej
          rcases r2 ⟨i, e0.rd, ids e0.us⟩ (by simp) with q | ⟨q, q'⟩
          · exact .inl q
          · have d1 := disjN_spec q
            have d2 := disjN_spec q'
            refine .inr ⟨fun x hx => ?_, fun x hx => ?_⟩
            · have := d1 x (updOf_ids hx)
              simp only [List.mem_append, not_or] at this
              refine ⟨this.1, ?_⟩
              cases hu : updOf e.us x with
              | none => rfl
              | some b => exact absurd (updOf_ids (by rw [hu]; simp)) this.2
            · cases hu : updOf e.us x with
              | none => rfl
              | some b => exact absurd (updOf_ids (by rw [hu]; simp)) (d2 x hx)
        | succ j =>
          simp only [List.getElem?_cons_succ] at hej
          have := r3 j ej (by omega) hej
          rwa [show i + 1 + j = i + (j + 1) by omega] at this
  | [], _ :: _, _, _, _, _, h => h.elim
  | _ :: _, [], _, _, _, _, h => h.elim

/-! ### what the region's order says -/

theorem lex_spec {ops : Array Oper} : ∀ (n k : Nat) (listed : Array Bool), n + k = ops.size → listed.size = ops.size → (∀ j, j < ops.size → listed.getD j false = decide (j < k)) → Region.lexFrom .any ops n k listed = true →
    ∀ (i : Nat) o, k ≤ i → ops[i]? = some o → (∀ e ∈ o.after, Region.binds .any e = true → e.on < i) ∧
      ∀ (j : Nat) oj, i < j → ops[j]? = some oj → (∃ e ∈ oj.after, Region.binds .any e = true ∧ e.on = i) ∨ o.apart ops oj = true
  | 0, k, listed, hn, _, _, _, i, o, hi, ho => by
    have := (Array.getElem?_eq_some_iff.1 ho).1
    omega
  | n + 1, k, listed, hn, hsz, hl, h, i, o, hi, ho => by
    simp only [Region.lexFrom, Bool.and_eq_true] at h
    obtain ⟨⟨hr, hf⟩, hrest⟩ := h
    have hk : k < ops.size := by omega
    rcases Nat.lt_or_ge k i with hlt | hge
    · refine lex_spec n (k + 1) _ (by omega) (by simp [hsz]) (fun j hj => ?_) hrest i o (by omega) ho
      by_cases hjk : k = j
      · subst hjk
        simp [hsz, hk]
      · rw [getD_set_ne false hjk, hl j hj]
        rw [Bool.eq_iff_iff]; simp only [decide_eq_true_eq]; omega
    · have : i = k := by omega
      subst this
      have hr' : i ∈ Region.ready .any ops listed := by simpa using hr
      obtain ⟨_, o', ho', hall⟩ := mem_ready.1 hr'
      rw [ho] at ho'; simp only [Option.some.injEq] at ho'; subst ho'
      constructor
      · intro e he hb
        have h1 := hall e he hb
        rcases Nat.lt_or_ge e.on ops.size with q | q
        · rw [hl _ q] at h1; simpa using h1
        · simp [Array.getElem?_eq_none (hsz ▸ q)] at h1
      · intro j oj hj hoj
        by_cases hex : ∃ e ∈ oj.after, Region.binds .any e = true ∧ e.on = i
        · exact .inl hex
        · refine .inr (Region.free_spec ho hf j oj hoj (by omega) ?_ fun e he hb hon => hex ⟨e, he, hb, hon⟩)
          have hjs := (Array.getElem?_eq_some_iff.1 hoj).1
          have h1 := hl j hjs
          have : listed[j]? = some (listed[j]'(by omega)) := Array.getElem?_eq_getElem _
          simp only [Array.getD_eq_getD_getElem?, this, Option.getD_some] at h1 ⊢
          rw [h1]; simp; omega

def Closed (ops : Array Oper) (S : Nat → Bool) : Prop := ∀ (i : Nat) o, ops[i]? = some o → S i = true → ∀ e ∈ o.after, Region.binds .any e = true → S e.on = true

theorem before_fold {ops : Array Oper} {S : Nat → Bool} (hS : Closed ops S) : ∀ (l pre : List Oper) (acc : Array Nat), pre ++ l = ops.toList → acc.size = pre.length →
    (∀ (i : Nat) o, pre[i]? = some o → (∀ e ∈ o.after, Region.binds .any e = true → S e.on = true) → ∀ j, (acc.getD i 0).testBit j = true → S j = true) →
    ∀ (i : Nat) o, ops[i]? = some o → (∀ e ∈ o.after, Region.binds .any e = true → S e.on = true) →
      ∀ j, ((l.foldl (fun acc o => acc.push (o.after.foldl (fun s e => if Region.binds .any e then s ||| 2 ^ e.on ||| acc.getD e.on 0 else s) 0)) acc).getD i 0).testBit j = true → S j = true
  | [], pre, acc, hl, hsz, hp, i, o, ho, hd, j, hj => by
    simp only [List.append_nil] at hl
    refine hp i o ?_ hd j hj
    rw [hl]; simpa using ho
  | x :: l, pre, acc, hl, hsz, hp, i, o, ho, hd, j, hj => by
    simp only [List.foldl_cons] at hj
    refine before_fold hS l (pre ++ [x]) _ (by simpa using hl) (by simp [hsz]) (fun k o' hk hdk j' hj' => ?_) i o ho hd j hj
    rcases Nat.lt_or_ge k pre.length with hlt | hge
    · rw [List.getElem?_append_left hlt] at hk
      refine hp k o' hk hdk j' ?_
      rw [Array.getD_eq_getD_getElem?, Array.getElem?_push, if_neg (by omega)] at hj'
      rw [Array.getD_eq_getD_getElem?]; exact hj'
    · rw [List.getElem?_append_right hge] at hk
      have hk0 : k = pre.length := by
        have := getElem?_lt hk
        simp at this; omega
      subst hk0
      simp only [Nat.sub_self, List.getElem?_cons_zero, Option.some.injEq] at hk
      subst hk
      rw [Array.getD_eq_getD_getElem?, Array.getElem?_push, if_pos (by omega), Option.getD_some, ← Array.foldl_toList] at hj'
      have aux : ∀ (es : List Edge) (s : Nat), (∀ e ∈ es, e ∈ x.after) → (∀ j, s.testBit j = true → S j = true) → ∀ j,
          (es.foldl (fun s e => if Region.binds .any e then s ||| 2 ^ e.on ||| acc.getD e.on 0 else s) s).testBit j = true → S j = true := by
        intro es
        induction es with
        | nil => intro s _ hs j hj; exact hs j hj
        | cons e es ih =>
          intro s hm hs j hj
          simp only [List.foldl_cons] at hj
          refine ih _ (fun e' he' => hm e' (by simp [he'])) (fun j hj => ?_) j hj
          split at hj
          · rename_i hb
            have hon := hdk e (hm e (by simp)) hb
            simp only [Nat.testBit_or, Bool.or_eq_true] at hj
            rcases hj with (hj | hj) | hj
            · exact hs j hj
            · rw [Nat.testBit_two_pow] at hj
              have : e.on = j := by simpa using hj
              rw [← this]; exact hon
            · rcases Nat.lt_or_ge e.on pre.length with q | q
              · have hpe : pre[e.on]? = some pre[e.on] := List.getElem?_eq_getElem q
                have hoe : ops[e.on]? = some pre[e.on] := by
                  have : ops.toList[e.on]? = some pre[e.on] := by rw [← hl, List.getElem?_append_left q]; exact hpe
                  simpa using this
                exact hp e.on _ hpe (hS e.on _ hoe hon) j hj
              · rw [Array.getD_eq_getD_getElem?, Array.getElem?_eq_none (by omega)] at hj
                simp at hj
          · exact hs j hj
      exact aux x.after.toList 0 (fun e he => by simpa using he) (fun j hj => by simp at hj) j' hj'

theorem before_spec {ops : Array Oper} {S : Nat → Bool} (hS : Closed ops S) {i : Nat} {o : Oper} (ho : ops[i]? = some o) (hd : ∀ e ∈ o.after, Region.binds .any e = true → S e.on = true) (j : Nat)
    (hj : ((Region.before ops).getD i 0).testBit j = true) : S j = true := by
  refine before_fold hS ops.toList [] #[] (by simp) rfl (fun i o h => by simp at h) i o ho hd j ?_
  unfold Region.before at hj
  rw [← Array.foldl_toList] at hj
  exact hj

end Go.Ev
