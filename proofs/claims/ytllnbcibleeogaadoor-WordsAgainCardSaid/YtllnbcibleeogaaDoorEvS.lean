/- The evaluator's soundness: the way into a call. -/
import Derived.Test.YtllnbcibleeogaaDoorEvR
namespace Go.Ev

def Ent (h : List Blk) (L : List Loc) (look lookS : Nat → Blk) (ρ : Ren) (bs : List Blk) (Lc : List Loc) (j : Nat) (e : Nat × List Nat) : Prop :=
  (∃ v x x' o hp, look e.1 = .var v ∧ h[e.1]? = some (.var v) ∧ L[e.1]? = some hp ∧ getP v e.2 = some x ∧ Sh.at (sh v) e.2 = some (o, sh x) ∧ trA lookS true ρ x = some x' ∧ bs[j]? = some (.var x') ∧
    Lc[j]? = some ⟨hp.b, hp.o + o, 0⟩) ∨
  (∃ k nl r hp, h[e.1]? = some (.row k nl r) ∧ L[e.1]? = some hp ∧ e.2 = [] ∧ bs[j]? = some (.row k nl r) ∧ Lc[j]? = some hp)

def locOf (h : List Blk) (L : List Loc) (e : Nat × List Nat) : Loc := match h[e.1]?, L[e.1]? with
  | some (.var v), some p => match Sh.at (sh v) e.2 with
    | some (o, _) => ⟨p.b, p.o + o, 0⟩
    | none => p
  | _, some p => p
  | _, none => default

def Snap (h : List Blk) (L : List Loc) (sids : List Nat) (b o : Nat) : Prop := ∃ id ∈ sids, Own1 h L id b o

def calleeFx (X : Fx) (h : List Blk) (L : List Loc) (w : World) (bs : List Blk) (Lc : List Loc) (sids : List Nat) : Fx :=
  { G := X.G, eps := X.eps, O := fun b o => b < w.heap.size ∧ X.av (h.map Blk.sh) L b o ∧ ¬ own (bs.map Blk.sh) Lc b o ∧ ¬ Snap h L sids b o, pin := own (bs.map Blk.sh) Lc, w0 := w }

theorem own_lt {X : Fx} {h : List Blk} {L : List Loc} {w : World} (I : Inv X h L w) {b o : Nat} (g : own (h.map Blk.sh) L b o) : b < w.heap.size := by
  rcases Nat.lt_or_ge b w.heap.size with q | q
  · exact q
  · exact absurd g (not_own_of_fresh I q)

theorem own_ent {h : List Blk} {L : List Loc} {look lookS : Nat → Blk} {ρ : Ren} {bs : List Blk} {Lc : List Loc} {E : List (Nat × List Nat)} (hlen : bs.length = E.length)
    (hE : ∀ (j : Nat) e, E[j]? = some e → Ent h L look lookS ρ bs Lc j e) {j b o : Nat} (g : Own1 bs Lc j b o) : ∃ e, E[j]? = some e ∧ Own1 h L e.1 b o := by
  obtain ⟨s, p, h1, h2, h3⟩ := g
  obtain ⟨bb, hb, rfl⟩ := shAt' h1
  have hj : j < E.length := by have := getElem?_lt hb; omega
  refine ⟨E[j], by simp [hj], ?_⟩
  rcases hE j E[j] (by simp [hj]) with ⟨v, x, x', o', hp, _, q1, q2, q3, q4, q5, q6, q7⟩ | ⟨k, nl, r, hp, q1, q2, q3, q4, q5⟩
  · rw [hb] at q6; simp only [Option.some.injEq] at q6; subst q6
    rw [h2] at q7; simp only [Option.some.injEq] at q7; subst q7
    obtain ⟨r1, r2, r3⟩ := h3
    have hbd := at_len _ _ _ _ q4
    rw [tr_sh _ _ q5] at r3
    simp only at r1 r2 r3
    exact ⟨_, hp, shAt q1, q2, r1, by omega, by omega⟩
  · rw [hb] at q4; simp only [Option.some.injEq] at q4; subst q4
    rw [h2] at q5; simp only [Option.some.injEq] at q5; subst q5
    exact ⟨_, _, shAt q1, q2, h3⟩

theorem nodup_idx {E : List (Nat × List Nat)} (hnd : (E.map (·.1)).Nodup) {i j : Nat} {e e' : Nat × List Nat} (hi : E[i]? = some e) (hj : E[j]? = some e') (h : e.1 = e'.1) : i = j := by
  have h1 : (E.map (·.1))[i]? = some e.1 := by simp [hi]
  have h2 : (E.map (·.1))[j]? = some e.1 := by simp [hj, h]
  have hi' := getElem?_lt h1
  have hj' := getElem?_lt h2
  rw [List.getElem?_eq_getElem hi', Option.some.injEq] at h1
  rw [List.getElem?_eq_getElem hj', Option.some.injEq] at h2
  have hp := List.pairwise_iff_getElem.1 hnd
  have he := h1.trans h2.symm
  rcases Nat.lt_trichotomy i j with q | q | q
  · exact absurd he (hp i j hi' hj' q)
  · exact q
  · exact absurd he.symm (hp j i hj' hi' q)

theorem trL_all2 {c c' : Cx} {look : Nat → Blk} {snap : Bool} {ρ : Ren} (T : TrOk c c' look snap ρ) (hs : RO c c') : ∀ {l l' : List AV} {m : List Value}, trL look snap ρ l = some l' → All2 (Val c) l m → All2 (Val c') l' m
  | [], l', [], h, _ => by rw [trL_nil h]; trivial
  | v :: l, l', y :: m, h, ⟨g1, g2⟩ => by
    obtain ⟨v', l1, rfl, q1, q2⟩ := trL_cons h
    exact ⟨tr_Val T v v' y (.inr hs) q1 g1, trL_all2 T hs q2 g2⟩
  | [], _, _ :: _, _, h => h.elim
  | _ :: _, _, [], _, h => h.elim

theorem call_in {X : Fx} {h : List Blk} {L : List Loc} {w : World} (hG : GOk X.G) (I : Inv X h L w) {look : Nat → Blk} (hl : lookOk look h) {args : List AV} {cargs : List Value} (hargs : All2 (Val (cx X h L w)) args cargs)
    {Er : List (Nat × List Nat)} (hEr : ∀ e ∈ Er, e.2 = []) (hnd : ((ptrs args ++ Er).map (·.1)).Nodup) {sids : List Nat} (hsids : ∀ id ∈ sids, id ∉ (ptrs args ++ Er).map (·.1))
    {lookS : Nat → Blk} (hlS : lookS = fun id => cond (memN id sids) (look id) .rsv) {ρ : Ren} (hρ : ρ = fun id path => findE id path (ptrs args ++ Er) 0)
    {bs : List Blk} {as : List AV} (hbs : entBlks look lookS ρ (ptrs args ++ Er) = some bs) (has : trL lookS true ρ args = some as) :
    ∃ Lc, Lc.length = bs.length ∧ bs.length = (ptrs args ++ Er).length ∧ (∀ (j : Nat) e, (ptrs args ++ Er)[j]? = some e → Ent h L look lookS ρ bs Lc j e) ∧ (∀ e ∈ ptrs args, ∃ v, h[e.1]? = some (.var v)) ∧
      Inv (calleeFx X h L w bs Lc sids) bs Lc w ∧ All2 (Val (cx (calleeFx X h L w bs Lc sids) bs Lc w)) as cargs := by
  obtain ⟨hlen, hget⟩ := entBlks_get hbs
  let Lc := (ptrs args ++ Er).map (locOf h L)
  have hLc : ∀ (j : Nat) e, (ptrs args ++ Er)[j]? = some e → Lc[j]? = some (locOf h L e) := fun j e he => by simp only [Lc, List.getElem?_map, he, Option.map_some]
  have hptr : ∀ e ∈ ptrs args, (∀ v, h[e.1]? = some (.var v) → ∃ o t, Sh.at (sh v) e.2 = some (o, t)) ∧ ∀ k nl r, h[e.1]? = some (.row k nl r) → e.2 ≠ [] := by
    intro e he
    obtain ⟨y, _, hy⟩ := All2_mem hargs _ (ptrs_mem he)
    have hy := (Val_leaf rfl (by simp) (by simp)).1 hy
    refine ⟨fun v hv => ?_, fun k nl r hv => ?_⟩
    · obtain ⟨p, hp⟩ := I.loc hv
      have hL : (cx X h L w).L[e.1]? = some p := hp
      simp only [leaf, cx_S hv, Blk.sh, hL] at hy
      obtain ⟨o, t, h1, _⟩ := hy
      exact ⟨o, t, h1⟩
    · obtain ⟨p, hp⟩ := I.loc hv
      have hL : (cx X h L w).L[e.1]? = some p := hp
      simp only [leaf, cx_S hv, Blk.sh, hL] at hy
      obtain ⟨_, i, h1, _⟩ := hy
      rw [h1]; simp
  have hEnt : ∀ (j : Nat) e, (ptrs args ++ Er)[j]? = some e → Ent h L look lookS ρ bs Lc j e := by
    intro j e he
    obtain ⟨b, hb, hc⟩ := hget j e he
    rcases hc with ⟨v, x, x', q1, q2, q3, rfl⟩ | ⟨k, nl, r, q1, q2, rfl⟩
    · have hv := hl.get q1 (by simp)
      obtain ⟨p, hp⟩ := I.loc hv
      have hat : ∃ o t, Sh.at (sh v) e.2 = some (o, t) := by
        rcases List.mem_append.1 (List.mem_of_getElem? he) with hm | hm
        · exact (hptr e hm).1 v hv
        · rw [hEr e hm]; exact ⟨0, sh v, by cases hs : sh v <;> rfl⟩
      obtain ⟨o, t, hat⟩ := hat
      have := sh_getP _ _ _ _ _ q2 hat
      subst this
      refine .inl ⟨v, x, x', o, p, q1, hv, hp, q2, hat, q3, hb, ?_⟩
      rw [hLc j e he]
      simp only [locOf, hv, hp, hat]
    · have hv := hl.get q1 (by simp)
      obtain ⟨p, hp⟩ := I.loc hv
      refine .inr ⟨k, nl, r, p, hv, hp, q2, hb, ?_⟩
      rw [hLc j e he]
      simp only [locOf, hv, hp]
  have hvar : ∀ e ∈ ptrs args, ∃ v, h[e.1]? = some (.var v) := by
    intro e he
    obtain ⟨j, hj⟩ := List.getElem?_of_mem he
    have hj' : (ptrs args ++ Er)[j]? = some e := by rw [List.getElem?_append_left (getElem?_lt hj)]; exact hj
    rcases hEnt j e hj' with ⟨v, x, x', o, hp, _, q1, _⟩ | ⟨k, nl, r, hp, q1, q2, q3, q4, q5⟩
    · exact ⟨v, q1⟩
    · exact absurd q3 ((hptr e he).2 k nl r q1)
  let X' := calleeFx X h L w bs Lc sids
  have hownIn : ∀ b o, own (bs.map Blk.sh) Lc b o → ∃ (j : Nat) (e : Nat × List Nat), (ptrs args ++ Er)[j]? = some e ∧ Own1 h L e.1 b o ∧ Own1 bs Lc j b o := by
    rintro b o ⟨j, s, p, h1, h2, h3⟩
    have g : Own1 bs Lc j b o := ⟨s, p, h1, h2, h3⟩
    obtain ⟨e, q1, q2⟩ := own_ent hlen hEnt g
    exact ⟨j, e, q1, q2, g⟩
  have hAsub : ∀ b o, (cx X' bs Lc w).A b o → (cx X h L w).A b o := by
    rintro b o (q | q)
    · exact q.2.1
    · obtain ⟨j, e, _, g, _⟩ := hownIn b o q
      exact .inr g.own
  have hro : RO (cx X h L w) (cx X' bs Lc w) := fun b o v hv hA => ⟨hv, fun q => hA (hAsub b o q)⟩
  have T : TrOk (cx X h L w) (cx X' bs Lc w) lookS true ρ := by
    refine ⟨rfl, fun x x' v hx ht g => ?_⟩
    cases x <;> simp only [AV.isRef, Bool.false_eq_true] at hx
    · rename_i id path off len
      rcases tr_own ht with ⟨j, q, hr, rfl⟩ | ⟨hr, _, k, l, rfl, hc, hsrc⟩
      · rw [hρ] at hr
        obtain ⟨rfl, i, hi, hE⟩ := findE_some hr
        simp only [Nat.zero_add] at hi; subst hi
        rcases hEnt _ _ hE with ⟨v0, x, x', o, hp, _, q1, q2, q3, q4, q5, q6, q7⟩ | ⟨k, nl, r, hp, q1, q2, q3, q4, q5⟩
        · have hL : (cx X h L w).L[id]? = some hp := q2
          have hL' : (cx X' bs Lc w).L[j]? = some _ := q7
          simp only [leaf, cx_S q1, Blk.sh, hL] at g
          simp only [leaf, cx_S q6, Blk.sh, hL']
          obtain ⟨o1, n, g1, g2, qq, g3, g4, g5⟩ := g
          simp only at q4
          rw [q4] at g1
          simp only [Option.some.injEq, Prod.mk.injEq] at g1
          obtain ⟨rfl, g1⟩ := g1
          refine ⟨0, n, ?_, g2, qq, g3, g4, fun hlt => ?_⟩
          · rw [tr_sh _ _ q5, g1]; rfl
          · simpa using g5 hlt
        · have hL : (cx X h L w).L[id]? = some hp := q2
          have hL' : (cx X' bs Lc w).L[j]? = some _ := q5
          simp only [leaf, cx_S q1, Blk.sh, hL] at g
          simp only [leaf, cx_S q4, Blk.sh, hL']
          exact ⟨by trivial, g.2⟩
      · subst hlS
        have hm : memN id sids = true := by
          cases hb : memN id sids with
          | true => rfl
          | false => rcases hsrc with ⟨nl, m, e⟩ | ⟨v, n, m, e, _⟩ <;> simp [hb] at e
        have hlo : lookOk (fun id => cond (memN id sids) (look id) .rsv) h := by
          intro id hn
          cases hb : memN id sids with
          | true => simp only [hb, cond_true] at hn ⊢; exact hl id hn
          | false => simp [hb] at hn
        refine snap_ok I hlo hc hsrc ((Val_leaf rfl (by simp) (by simp)).2 g) _ fun b o ho hA => ?_
        have hid := memN_iff.1 hm
        rcases hA with q | q
        · exact q.2.2.2 ⟨id, hid, ho⟩
        · obtain ⟨j, e, hj, g1, _⟩ := hownIn b o q
          have := Own1.unique I ho g1
          refine hsids id hid ?_
          rw [this]
          exact List.mem_map.2 ⟨e, List.mem_of_getElem? hj, rfl⟩
    · rename_i id path
      obtain ⟨j, q, hr, rfl⟩ := tr_ptr ht
      rw [hρ] at hr
      obtain ⟨rfl, i, hi, hE⟩ := findE_some hr
      simp only [Nat.zero_add] at hi; subst hi
      rcases hEnt _ _ hE with ⟨v0, x, x', o, hp, _, q1, q2, q3, q4, q5, q6, q7⟩ | ⟨k, nl, r, hp, q1, q2, q3, q4, q5⟩
      · have hL : (cx X h L w).L[id]? = some hp := q2
        have hL' : (cx X' bs Lc w).L[j]? = some _ := q7
        simp only [leaf, cx_S q1, Blk.sh, hL] at g
        simp only [leaf, cx_S q6, Blk.sh, hL']
        obtain ⟨o1, n, g1, rfl⟩ := g
        simp only at q4
        rw [q4] at g1
        simp only [Option.some.injEq, Prod.mk.injEq] at g1
        obtain ⟨rfl, g1⟩ := g1
        exact ⟨0, sh x', by cases hs : sh x' <;> rfl, by simp⟩
      · have hL : (cx X h L w).L[id]? = some hp := q2
        simp only [leaf, cx_S q1, Blk.sh, hL] at g
        obtain ⟨_, i, g1, _⟩ := g
        simp only at q3
        rw [q3] at g1
        simp at g1
  have T0 : TrOk (cx X h L w) (cx X' bs Lc w) noLook false (fun _ _ => none) := by
    refine ⟨rfl, fun x x' v hx ht g => ?_⟩
    cases x <;> simp only [AV.isRef, Bool.false_eq_true] at hx <;> simp [trA] at ht
  refine ⟨Lc, by simp [Lc, hlen], hlen, hEnt, hvar, ⟨I.eok, by simp [Lc, hlen], fun j b p hb hp => ?_, fun i j s t p q b o hij hs ht hp hq o1 o2 => ?_, fun b o q hO => hO.2.2.1 q, fun b o q => .inr q, fun b o q => q.1, Step.refl _ _, fun g v hg => ?_⟩, ?_⟩
  · have hj : j < (ptrs args ++ Er).length := by have := getElem?_lt hb; omega
    rcases hEnt j _ (List.getElem?_eq_getElem hj) with ⟨v0, x, x', o, hp', _, q1, q2, q3, q4, q5, q6, q7⟩ | ⟨k, nl, r, hp', q1, q2, q3, q4, q5⟩
    · rw [hb] at q6; simp only [Option.some.injEq] at q6; subst q6
      rw [hp] at q7; simp only [Option.some.injEq] at q7; subst q7
      obtain ⟨cs, g1, g2⟩ := I.blk _ _ _ q1 q2
      obtain ⟨pre, c1, post, rfl, hpre, r1, r2, _⟩ := Cells_at _ _ _ _ _ _ g1 q3 q4
      refine ⟨c1, tr_Cells T x x' c1 (.inr hro) q5 r1, fun i hi => ?_⟩
      have := g2 (o + i) (by simp [hpre]; omega)
      simp only [cx] at this ⊢
      rw [show hp'.o + o + i = hp'.o + (o + i) by omega]
      refine ⟨?_, this.2⟩
      rw [this.1]
      have e : (pre ++ c1 ++ post)[o + i]? = some c1[i] := by
        rw [List.append_assoc, List.getElem?_append_right (by omega), List.getElem?_append_left (by omega)]
        simp [hpre, hi]
      rw [← List.getElem?_eq_getElem, e]
    · rw [hb] at q4; simp only [Option.some.injEq] at q4; subst q4
      rw [hp] at q5; simp only [Option.some.injEq] at q5; subst q5
      exact I.blk _ _ _ q1 q2
  · obtain ⟨e, he, g1⟩ := own_ent hlen hEnt (show Own1 bs Lc i b o from ⟨s, p, hs, hp, o1⟩)
    obtain ⟨e', he', g2⟩ := own_ent hlen hEnt (show Own1 bs Lc j b o from ⟨t, q, ht, hq, o2⟩)
    exact hij (nodup_idx hnd he he' (Own1.unique I g1 g2))
  · obtain ⟨cs, g1, g2⟩ := I.glb g v hg
    refine ⟨cs, tr_Cells T0 v v cs (.inr hro) (hG.gtr g v hg) g1, fun i hi => ⟨(g2 i hi).1, fun q => (g2 i hi).2 (hAsub _ _ q)⟩⟩
  · exact trL_all2 T hro has hargs

end Go.Ev
