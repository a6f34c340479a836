/- The evaluator's soundness: the way back out of a call. -/
import Derived.Test.YtllnbcibleeogaaDoorEvS
namespace Go.Ev

theorem call_out {X : Fx} {h : List Blk} {L : List Loc} {w : World} (I : Inv X h L w) {look lookS : Nat → Blk} {ρ : Ren}
    {E0 Er : List (Nat × List Nat)} (hnd : ((E0 ++ Er).map (·.1)).Nodup) {sids : List Nat} (hsids : ∀ id ∈ sids, id ∉ (E0 ++ Er).map (·.1))
    {bs : List Blk} {Lc : List Loc} (hlen : bs.length = (E0 ++ Er).length) (hEnt : ∀ (j : Nat) e, (E0 ++ Er)[j]? = some e → Ent h L look lookS ρ bs Lc j e) (hvar : ∀ e ∈ E0, ∃ v, h[e.1]? = some (.var v))
    {bs' : List Blk} {L1 : List Loc} {w' : World} (I2 : Inv (calleeFx X h L w bs Lc sids) bs' L1 w') (keep : KeepV bs bs' Lc L1)
    {nid : Nat} {us ns : List (Nat × Blk)} {v v' : AV} (hus : backBlks look (backE E0 nid) E0 (bs'.take E0.length) = some us) (hns : newBlks (backE E0 nid) nid (bs'.drop E0.length) = some ns)
    (hv : trA noLook false (backE E0 nid) v = some v') (hnl : ns.length ≤ maxNew) (hel : E0.length ≤ bs'.length) (hrsv : ∀ i, i < maxNew → h[nid + i]? = some .rsv)
    {ks : List Nat} (hks : (slf v = true ∧ bs'.all slfB = true) ∨ ks = sids) (hks' : ∀ id ∈ ks, id ∈ sids) :
    ∃ L', Inv X (applyU h (kills ks ++ (us ++ (kills (Er.map (·.1)) ++ ns)))) L' w' ∧ Cx.Le (cx X h L w) (cx X (applyU h (kills ks ++ (us ++ (kills (Er.map (·.1)) ++ ns)))) L' w') ∧
      ∀ cv, Val (cx (calleeFx X h L w bs Lc sids) bs' L1 w') v cv → Val (cx X (applyU h (kills ks ++ (us ++ (kills (Er.map (·.1)) ++ ns)))) L' w') v' cv := by
  obtain ⟨hnsl, hnu⟩ := newBlks_upd hns
  have hnd0 : (E0.map (·.1)).Nodup := by rw [List.map_append] at hnd; exact (List.nodup_append.1 hnd).1
  have hdis0 : ∀ id, id ∈ E0.map (·.1) → id ∉ Er.map (·.1) := by
    rw [List.map_append] at hnd
    intro id h1 h2
    exact (List.nodup_append.1 hnd).2.2 id h1 id h2 rfl
  obtain ⟨hbu, hbn⟩ := backBlks_upd hus hnd0
  simp only [List.length_drop] at hnu hnsl
  generalize hm : bs'.length - E0.length = m at hnu hnsl
  let h' := applyU h (kills ks ++ (us ++ (kills (Er.map (·.1)) ++ ns)))
  let L' : List Loc := (List.range L.length).map fun id => if nid ≤ id ∧ id < nid + m then L1.getD (E0.length + (id - nid)) default else L.getD id default
  have hL'len : L'.length = h'.length := by simp [L', h', applyU_length, I.len]
  have hL'new : ∀ k, k < m → nid + k < h.length → L'[nid + k]? = L1[E0.length + k]? := by
    intro k hk hlt
    have e1 : L'[nid + k]? = some (L1.getD (E0.length + k) default) := by
      simp only [L', List.getElem?_map]
      rw [List.getElem?_range (by rw [I.len]; exact hlt)]
      simp only [Option.map_some]
      rw [if_pos (by omega)]
      congr 3; omega
    have hlt1 : E0.length + k < L1.length := by rw [I2.len]; omega
    rw [e1, List.getD, List.getElem?_eq_getElem hlt1]; rfl
  have hL'old : ∀ id, ¬(nid ≤ id ∧ id < nid + m) → L'[id]? = L[id]? := by
    intro id hid
    rcases Nat.lt_or_ge id L.length with hlt | hge
    · simp only [L', List.getElem?_map]
      rw [List.getElem?_range hlt]
      simp only [Option.map_some]
      rw [if_neg hid, List.getD, List.getElem?_eq_getElem hlt]; rfl
    · rw [List.getElem?_eq_none hge, List.getElem?_eq_none (by simpa [L'] using hge)]
  have hrs : ∀ k, k < m → h[nid + k]? = some .rsv := fun k hk => hrsv k (by omega)
  have hnew : ∀ k, k < m → ∃ b b', bs'[E0.length + k]? = some b ∧ trB noLook false (backE E0 nid) b = some b' ∧ h'[nid + k]? = some b' := by
    intro k hk
    obtain ⟨b, b', q1, q2, q3⟩ := (hnu (nid + k)).1 (by omega)
    refine ⟨b, b', ?_, q2, ?_⟩
    · rw [List.getElem?_drop] at q1
      rw [show nid + k - nid = k by omega] at q1
      exact q1
    · simp only [h', applyU_get, updOf_append, q3]
      rw [if_pos (getElem?_lt (hrs k hk))]
  have hold : ∀ id, ¬(nid ≤ id ∧ id < nid + m) → id < h.length → h'[id]? = (if id ∈ Er.map (·.1) then some .dead else match updOf us id with | some b => some b | none => if id ∈ ks then some .dead else h[id]?) := by
    intro id hid hlt
    simp only [h', applyU_get, updOf_append, updOf_kills, (hnu id).2 hid]
    by_cases h1 : id ∈ Er.map (·.1)
    · simp only [h1, if_true, hlt]
    · simp only [h1, if_false]
      cases hu : updOf us id with
      | some b => simp only [hlt, if_true]
      | none =>
        by_cases h2 : id ∈ ks
        · simp only [h2, if_true, hlt]
        · simp only [h2, if_false]
  have hnotnew : ∀ id b, h[id]? = some b → b ≠ .rsv → ¬(nid ≤ id ∧ id < nid + m) := by
    intro id b hb hn hid
    have := hrs (id - nid) (by omega)
    rw [show nid + (id - nid) = id by omega, hb] at this
    simp only [Option.some.injEq] at this
    exact hn this
  -- what came in by a pointer
  have hE0 : ∀ (j : Nat) e, E0[j]? = some e → ∃ v0 x y y' v1 o hp, h[e.1]? = some (.var v0) ∧ L[e.1]? = some hp ∧ getP v0 e.2 = some x ∧ Sh.at (sh v0) e.2 = some (o, sh x) ∧ bs'[j]? = some (.var y) ∧ sh y = sh x ∧
      L1[j]? = some ⟨hp.b, hp.o + o, 0⟩ ∧ trA noLook false (backE E0 nid) y = some y' ∧ setP v0 e.2 y' = some v1 ∧ kindOk v0 e.2 y' = true ∧ h'[e.1]? = some (.var v1) ∧ sh v1 = sh v0 ∧
      (∃ x', bs[j]? = some (.var x') ∧ sh x' = sh x) ∧ Lc[j]? = some ⟨hp.b, hp.o + o, 0⟩ := by
    intro j e he
    have hj : j < E0.length := getElem?_lt he
    have he' : (E0 ++ Er)[j]? = some e := by rw [List.getElem?_append_left hj]; exact he
    obtain ⟨vv, hvv⟩ := hvar e (List.mem_of_getElem? he)
    rcases hEnt j e he' with ⟨v0, x, x', o, hp, q0, q1, q2, q3, q4, q5, q6, q7⟩ | ⟨k, nl, r, hp, q1, q2, q3, q4, q5⟩
    · obtain ⟨v2, y, y', v1, r1, r2, r3, r4, r5, r6⟩ := hbu j e he
      rw [q0] at r1
      simp only [Blk.var.injEq] at r1
      subst r1
      have r2' : bs'[j]? = some (.var y) := by rw [List.getElem?_take, if_pos hj] at r2; exact r2
      obtain ⟨y2, k1, k2, k3⟩ := keep j x' q6
      rw [r2'] at k1
      simp only [Option.some.injEq, Blk.var.injEq] at k1
      subst k1
      have hsy : sh y = sh x := by rw [k2, tr_sh _ _ q5]
      have hsv1 : sh v1 = sh v0 := setP_sh _ _ _ _ _ _ r4 q4 (by rw [tr_sh _ _ r3, hsy])
      refine ⟨v0, x, y, y', v1, o, hp, q1, q2, q3, q4, r2', hsy, by rw [k3, q7], r3, r4, r5, ?_, hsv1, ⟨x', q6, tr_sh _ _ q5⟩, q7⟩
      rw [hold _ (hnotnew _ _ q1 (by simp)) (getElem?_lt q1), if_neg (hdis0 _ (List.mem_map.2 ⟨e, List.mem_of_getElem? he, rfl⟩)), r6]
    · rw [hvv] at q1; simp at q1
  have hownIn : ∀ b o, own (bs.map Blk.sh) Lc b o → ∃ (j : Nat) (e : Nat × List Nat), (E0 ++ Er)[j]? = some e ∧ Own1 h L e.1 b o ∧ Own1 bs Lc j b o := by
    rintro b o ⟨j, s, p, h1, h2, h3⟩
    have g : Own1 bs Lc j b o := ⟨s, p, h1, h2, h3⟩
    obtain ⟨e, q1, q2⟩ := own_ent hlen hEnt g
    exact ⟨j, e, q1, q2, g⟩
  have hmemE : ∀ (j : Nat) e, (E0 ++ Er)[j]? = some e → e.1 ∈ (E0 ++ Er).map (·.1) := fun j e he => List.mem_map.2 ⟨e, List.mem_of_getElem? he, rfl⟩
  -- a cell that came in by a pointer is the callee's then too
  have hstay : ∀ (j : Nat) e b o, E0[j]? = some e → Own1 bs Lc j b o → Own1 bs' L1 j b o := by
    rintro j e b o he ⟨s, p, g1, g2, g3⟩
    obtain ⟨v0, x, y, y', v1, o1, hp, q1, q2, q3, q4, q5, q6, q7, _, _, _, _, _, ⟨x', r1, r2⟩, r3⟩ := hE0 j e he
    rw [shAt r1] at g1; simp only [Option.some.injEq] at g1; subst g1
    rw [r3] at g2; simp only [Option.some.injEq] at g2; subst g2
    refine ⟨_, _, shAt q5, q7, ?_⟩
    simp only [Blk.sh, BSh.owns] at g3 ⊢
    rw [q6, ← r2]; exact g3
  -- whose a cell is afterwards
  have hcase : ∀ id b o, Own1 h' L' id b o → ((nid ≤ id ∧ id < nid + m) ∧ Own1 bs' L1 (E0.length + (id - nid)) b o) ∨
      (¬(nid ≤ id ∧ id < nid + m) ∧ Own1 h L id b o ∧ id ∉ Er.map (·.1) ∧ (id ∉ ks)) := by
    rintro id b o ⟨s, p, g1, g2, g3⟩
    obtain ⟨bb, hb, rfl⟩ := shAt' g1
    have hlt : id < h.length := by have := getElem?_lt hb; simpa [h', applyU_length] using this
    by_cases hid : nid ≤ id ∧ id < nid + m
    · refine .inl ⟨hid, ?_⟩
      obtain ⟨b0, b1, q1, q2, q3⟩ := hnew (id - nid) (by omega)
      rw [show nid + (id - nid) = id by omega] at q3
      rw [hb] at q3; simp only [Option.some.injEq] at q3; subst q3
      have q4 := hL'new (id - nid) (by omega) (by omega)
      rw [show nid + (id - nid) = id by omega, g2] at q4
      refine ⟨_, p, shAt q1, q4.symm, ?_⟩
      rw [← trB_sh q2]; exact g3
    · refine .inr ⟨hid, ?_⟩
      rw [hL'old id hid] at g2
      rw [hold id hid hlt] at hb
      by_cases h1 : id ∈ Er.map (·.1)
      · rw [if_pos h1] at hb; simp only [Option.some.injEq] at hb; subst hb; exact g3.elim
      · rw [if_neg h1] at hb
        by_cases h0 : id ∈ E0.map (·.1)
        · obtain ⟨e, he, rfl⟩ := List.mem_map.1 h0
          obtain ⟨j, hj⟩ := List.getElem?_of_mem he
          obtain ⟨v0, x, y, y', v1, o1, hp, q1, q2, q3, q4, q5, q6, q7, r1, r2, r3, r4, r5, _⟩ := hE0 j e hj
          have hb' : h'[e.1]? = some bb := by rw [hold _ hid hlt, if_neg h1]; exact hb
          rw [r4] at hb'; simp only [Option.some.injEq] at hb'; subst hb'
          refine ⟨⟨_, p, shAt q1, g2, ?_⟩, h1, fun hk => hsids _ (hks' _ hk) (hmemE j e (by rw [List.getElem?_append_left (getElem?_lt hj)]; exact hj))⟩
          simp only [Blk.sh, BSh.owns] at g3 ⊢
          rw [← r5]; exact g3
        · rw [hbn id h0] at hb
          by_cases h2 : id ∈ ks
          · simp only [h2, if_true, Option.some.injEq] at hb; subst hb; exact g3.elim
          · simp only [h2, if_false] at hb
            exact ⟨⟨_, p, shAt hb, g2, g3⟩, h1, h2⟩
  have I2new : ∀ k b o, Own1 bs' L1 k b o → w.heap.size ≤ b ∨ own (bs.map Blk.sh) Lc b o := fun k b o g => I2.new b o g.own
  -- new and old are apart
  have hapart : ∀ i j b o, (nid ≤ i ∧ i < nid + m) → Own1 bs' L1 (E0.length + (i - nid)) b o → Own1 h L j b o → j ∉ Er.map (·.1) → False := by
    intro i j b o hi g1 g2 hj
    rcases I2new _ b o g1 with q | q
    · exact not_own_of_fresh I q g2.own
    · obtain ⟨k, e, q1, q2, q3⟩ := hownIn b o q
      have := Own1.unique I q2 g2
      subst this
      have hk : k < E0.length := by
        rcases Nat.lt_or_ge k E0.length with q | q
        · exact q
        · rw [List.getElem?_append_right q] at q1
          exact absurd (List.mem_map.2 ⟨e, List.mem_of_getElem? q1, rfl⟩) hj
      rw [List.getElem?_append_left hk] at q1
      have := Own1.unique I2 (hstay k e b o q1 q3) g1
      omega
  have hS : ∀ (id : Nat) s, (h.map Blk.sh)[id]? = some s → s ≠ .rsv → ((h'.map Blk.sh)[id]? = some s ∧ L'[id]? = L[id]?) ∨ (h'.map Blk.sh)[id]? = some .dead := by
    intro id s hs hr
    obtain ⟨b, hb, rfl⟩ := shAt' hs
    have hid := hnotnew id b hb (fun e => by subst e; exact hr rfl)
    have hlt := getElem?_lt hb
    rw [hL'old id hid]
    by_cases h1 : id ∈ Er.map (·.1)
    · exact .inr (shAt (b := .dead) (by rw [hold id hid hlt, if_pos h1]))
    · by_cases h0 : id ∈ E0.map (·.1)
      · obtain ⟨e, he, rfl⟩ := List.mem_map.1 h0
        obtain ⟨j, hj⟩ := List.getElem?_of_mem he
        obtain ⟨v0, x, y, y', v1, o1, hp, q1, q2, q3, q4, q5, q6, q7, r1, r2, r3, r4, r5, _⟩ := hE0 j e hj
        rw [q1] at hb; simp only [Option.some.injEq] at hb; subst hb
        refine .inl ⟨?_, rfl⟩
        rw [shAt r4]; simp only [Blk.sh, r5]
      · by_cases h2 : id ∈ ks
        · refine .inr (shAt (b := .dead) ?_)
          rw [hold id hid hlt, if_neg h1, hbn id h0]; simp only [h2, if_true]
        · refine .inl ⟨shAt ?_, rfl⟩
          rw [hold id hid hlt, if_neg h1, hbn id h0]; simp only [h2, if_false]; exact hb
  have T2 : TrOk (cx (calleeFx X h L w bs Lc sids) bs' L1 w') (cx X h' L' w') noLook false (backE E0 nid) := by
    refine ⟨rfl, fun z z' u hz ht g => ?_⟩
    have hin : ∀ (j : Nat) e p, E0[j]? = some e → backE E0 nid j p = some (e.1, e.2 ++ p) := fun j e p he => by simp only [backE, he]
    have hout : ∀ (j : Nat) p, E0.length ≤ j → backE E0 nid j p = some (nid + (j - E0.length), p) := fun j p hj => by simp only [backE, List.getElem?_eq_none hj]
    have hbj : ∀ (j : Nat), E0.length ≤ j → ∀ s, (cx (calleeFx X h L w bs Lc sids) bs' L1 w').S[j]? = some s → (cx X h' L' w').S[nid + (j - E0.length)]? = some s ∧ (cx X h' L' w').L[nid + (j - E0.length)]? = (cx (calleeFx X h L w bs Lc sids) bs' L1 w').L[j]? := by
      intro j hj s hs
      obtain ⟨b, hb, rfl⟩ := shAt' hs
      have hjl := getElem?_lt hb
      obtain ⟨b0, b1, q1, q2, q3⟩ := hnew (j - E0.length) (by omega)
      rw [show E0.length + (j - E0.length) = j by omega] at q1
      rw [hb] at q1; simp only [Option.some.injEq] at q1; subst q1
      refine ⟨?_, ?_⟩
      · show (h'.map Blk.sh)[_]? = _
        rw [shAt q3, trB_sh q2]
      · show L'[_]? = L1[j]?
        rw [hL'new (j - E0.length) (by omega) (getElem?_lt (hrs _ (by omega)))]
        congr 1; omega
    cases z <;> simp only [AV.isRef, Bool.false_eq_true] at hz
    · rename_i j p off len
      obtain ⟨j', q', hr, rfl⟩ : ∃ j' q', backE E0 nid j p = some (j', q') ∧ z' = .own j' q' off len := by
        rcases tr_own ht with q | ⟨_, q, _⟩
        · exact q
        · cases q
      rcases Nat.lt_or_ge j E0.length with hj | hj
      · obtain ⟨v0, x, y, y', v1, o, hp, q1, q2, q3, q4, q5, q6, q7, r1, r2, r3, r4, r5, _⟩ := hE0 j _ (List.getElem?_eq_getElem hj)
        rw [hin j _ p (List.getElem?_eq_getElem hj)] at hr
        simp only [Option.some.injEq, Prod.mk.injEq] at hr
        obtain ⟨rfl, rfl⟩ := hr
        have hL1 : (cx (calleeFx X h L w bs Lc sids) bs' L1 w').L[j]? = some _ := q7
        have hL2 : (cx X h' L' w').L[E0[j].1]? = some hp := by show L'[_]? = _; rw [hL'old _ (hnotnew _ _ q1 (by simp))]; exact q2
        simp only [leaf, cx_S q5, Blk.sh, hL1] at g
        have hS2 : (cx X h' L' w').S[E0[j].1]? = some (.var (sh v1)) := cx_S r4
        simp only [leaf, hS2, hL2]
        obtain ⟨o1, n, g1, g2, qq, g3, g4, g5⟩ := g
        refine ⟨o + o1, n, ?_, g2, qq, g3, g4, fun hlt => ?_⟩
        · rw [r5]; exact at_app _ _ _ _ _ _ _ q4 (by rw [← q6]; exact g1)
        · rw [g5 hlt]; simp [Nat.add_assoc]
      · rw [hout j p hj] at hr
        simp only [Option.some.injEq, Prod.mk.injEq] at hr
        obtain ⟨rfl, rfl⟩ := hr
        simp only [leaf] at g ⊢
        cases hs : (cx (calleeFx X h L w bs Lc sids) bs' L1 w').S[j]? with
        | none => simp [hs] at g
        | some s =>
          obtain ⟨e1, e2⟩ := hbj j hj s hs
          rw [e1, e2]; rw [hs] at g; exact g
    · rename_i j p
      obtain ⟨j', q', hr, rfl⟩ := tr_ptr ht
      rcases Nat.lt_or_ge j E0.length with hj | hj
      · obtain ⟨v0, x, y, y', v1, o, hp, q1, q2, q3, q4, q5, q6, q7, r1, r2, r3, r4, r5, _⟩ := hE0 j _ (List.getElem?_eq_getElem hj)
        rw [hin j _ p (List.getElem?_eq_getElem hj)] at hr
        simp only [Option.some.injEq, Prod.mk.injEq] at hr
        obtain ⟨rfl, rfl⟩ := hr
        have hL1 : (cx (calleeFx X h L w bs Lc sids) bs' L1 w').L[j]? = some _ := q7
        have hL2 : (cx X h' L' w').L[E0[j].1]? = some hp := by show L'[_]? = _; rw [hL'old _ (hnotnew _ _ q1 (by simp))]; exact q2
        simp only [leaf, cx_S q5, Blk.sh, hL1] at g
        have hS2 : (cx X h' L' w').S[E0[j].1]? = some (.var (sh v1)) := cx_S r4
        simp only [leaf, hS2, hL2]
        obtain ⟨o1, t, g1, rfl⟩ := g
        refine ⟨o + o1, t, ?_, by simp [Nat.add_assoc]⟩
        rw [r5]; exact at_app _ _ _ _ _ _ _ q4 (by rw [← q6]; exact g1)
      · rw [hout j p hj] at hr
        simp only [Option.some.injEq, Prod.mk.injEq] at hr
        obtain ⟨rfl, rfl⟩ := hr
        simp only [leaf] at g ⊢
        cases hs : (cx (calleeFx X h L w bs Lc sids) bs' L1 w').S[j]? with
        | none => simp [hs] at g
        | some s =>
          obtain ⟨e1, e2⟩ := hbj j hj s hs
          rw [e1, e2]; rw [hs] at g; exact g
  have hRO : ks = sids → RO (cx (calleeFx X h L w bs Lc sids) bs' L1 w') (cx X h' L' w') := by
    rintro rfl b o u hu hA
    refine ⟨hu, fun hA2 => hA ?_⟩
    rcases hA2 with q | ⟨id, s, p, g1, g2, g3⟩
    · refine .inl ⟨Nat.lt_of_lt_of_le (I.obd b o q) I.stp.size, .inl q, fun q2 => ?_, ?_⟩
      · obtain ⟨_, e, _, g, _⟩ := hownIn b o q2
        exact I.out b o g.own q
      · rintro ⟨id, _, g⟩; exact I.out b o g.own q
    · rcases hcase id b o ⟨s, p, g1, g2, g3⟩ with ⟨_, q⟩ | ⟨_, q, q1, q2⟩
      · exact .inr q.own
      · by_cases hb : own (bs.map Blk.sh) Lc b o
        · obtain ⟨k, e, r1, r2, r3⟩ := hownIn b o hb
          have := Own1.unique I r2 q
          subst this
          have hk : k < E0.length := by
            rcases Nat.lt_or_ge k E0.length with qq | qq
            · exact qq
            · rw [List.getElem?_append_right qq] at r1
              exact absurd (List.mem_map.2 ⟨e, List.mem_of_getElem? r1, rfl⟩) q1
          rw [List.getElem?_append_left hk] at r1
          exact .inr (hstay k e b o r1 r3).own
        · refine .inl ⟨own_lt I q.own, .inr q.own, hb, ?_⟩
          rintro ⟨id', h1, h2⟩
          have := Own1.unique I h2 q
          subst this
          exact q2 h1
  have hsv : slf v = true ∨ RO (cx (calleeFx X h L w bs Lc sids) bs' L1 w') (cx X h' L' w') := hks.imp (·.1) hRO
  have hsb : ∀ (k : Nat) b, bs'[k]? = some b → slfB b = true ∨ RO (cx (calleeFx X h L w bs Lc sids) bs' L1 w') (cx X h' L' w') := fun k b hb =>
    hks.imp (fun q => List.all_eq_true.1 q.2 b (List.mem_of_getElem? hb)) hRO
  obtain ⟨I3, hle⟩ := I.upd (own (bs.map Blk.sh) Lc) (L' := L') (h' := h') (w' := w') hL'len I2.stp
    (fun b o q => by obtain ⟨_, e, _, g, _⟩ := hownIn b o q; exact g.own) hS
    (by
      rintro b o ⟨id, s, p, g1, g2, g3⟩
      rcases hcase id b o ⟨s, p, g1, g2, g3⟩ with ⟨_, q⟩ | ⟨_, q, _⟩
      · rcases I2new _ b o q with r | r
        · exact .inr r
        · obtain ⟨_, e, _, g, _⟩ := hownIn b o r; exact .inl g.own
      · exact .inl q.own)
    (by
      intro i j s t p q b o hij hs ht hp hq o1 o2
      rcases hcase i b o ⟨s, p, hs, hp, o1⟩ with ⟨hi, g1⟩ | ⟨hi, g1, g2, _⟩ <;> rcases hcase j b o ⟨t, q, ht, hq, o2⟩ with ⟨hj, k1⟩ | ⟨hj, k1, k2, _⟩
      · have := Own1.unique I2 g1 k1; omega
      · exact hapart i j b o hi g1 k1 k2
      · exact hapart j i b o hj k1 g1 g2
      · exact hij (Own1.unique I g1 k1))
    (by
      intro hle id b p hb hp
      have hlt : id < h.length := by have := getElem?_lt hb; simpa [h', applyU_length] using this
      by_cases hid : nid ≤ id ∧ id < nid + m
      · obtain ⟨b0, b1, q1, q2, q3⟩ := hnew (id - nid) (by omega)
        rw [show nid + (id - nid) = id by omega] at q3
        rw [hb] at q3; simp only [Option.some.injEq] at q3; subst q3
        have q4 := hL'new (id - nid) (by omega) (by omega)
        rw [show nid + (id - nid) = id by omega, hp] at q4
        exact .inr (BlkOK.tr T2 rfl (hsb _ _ q1) q2 (I2.blk _ _ _ q1 q4.symm))
      · rw [hL'old id hid] at hp
        have hb0 := hb
        rw [hold id hid hlt] at hb
        by_cases h1 : id ∈ Er.map (·.1)
        · rw [if_pos h1] at hb; simp only [Option.some.injEq] at hb; subst hb; exact .inr trivial
        · rw [if_neg h1] at hb
          by_cases h0 : id ∈ E0.map (·.1)
          · obtain ⟨e, he, rfl⟩ := List.mem_map.1 h0
            obtain ⟨j, hj⟩ := List.getElem?_of_mem he
            obtain ⟨v0, x, y, y', v1, o1, hp1, q1, q2, q3, q4, q5, q6, q7, r1, r2, r3, r4, r5, ⟨x', r6, r6'⟩, r7⟩ := hE0 j e hj
            rw [r4] at hb0; simp only [Option.some.injEq] at hb0; subst hb0
            rw [q2] at hp; simp only [Option.some.injEq] at hp; subst hp
            refine .inr ?_
            obtain ⟨cs, g1, g2⟩ := I.blk _ _ _ q1 q2
            have g1' := Cells.le hle v0 cs g1
            obtain ⟨pre, c1, post, rfl, hpre, s1, s2, s3⟩ := Cells_at e.2 v0 x cs o1 (sh x) g1' q3 q4
            obtain ⟨cy, t1, t2⟩ := I2.blk _ _ _ q5 q7
            have t1' := tr_Cells T2 y y' cy ((hsb _ _ q5).imp (fun h => h) id) r1 t1
            obtain ⟨u1, u2⟩ := s3 y' cy v1 t1' (by rw [tr_sh _ _ r1, q6]) r2 r3
            refine ⟨_, u1, fun i hi => ?_⟩
            have l1 := Cells_len _ _ s1
            have l2 := Cells_len _ _ t1
            rw [q6] at l2
            -- the cells behind and ahead are as they were
            have side : ∀ i (hi : i < (pre ++ c1 ++ post).length), (i < o1 ∨ o1 + c1.length ≤ i) → w'.cell? ⟨hp1.b, hp1.o + i, none⟩ = some (pre ++ c1 ++ post)[i] ∧ w'.frozen? ⟨hp1.b, hp1.o + i, none⟩ = false := by
              intro i hi hor
              have := g2 i hi
              simp only [cx] at this
              have hblk := World.block_lt_of_cell? w _ this.1
              have hno : ¬ own (bs.map Blk.sh) Lc hp1.b (hp1.o + i) := by
                intro q
                obtain ⟨k, e', d1, d2, d3⟩ := hownIn _ _ q
                have hown0 : Own1 h L e.1 hp1.b (hp1.o + i) := ⟨_, hp1, shAt q1, q2, rfl, by omega, by
                  have := Cells_len _ _ g1; omega⟩
                have he1 := Own1.unique I d2 hown0
                have hj' : (E0 ++ Er)[j]? = some e := by rw [List.getElem?_append_left (getElem?_lt hj)]; exact hj
                have := nodup_idx hnd d1 hj' he1
                subst this
                obtain ⟨s, p, z1, z2, z3⟩ := d3
                rw [shAt r6] at z1; simp only [Option.some.injEq] at z1; subst z1
                rw [r7] at z2; simp only [Option.some.injEq] at z2; subst z2
                simp only [Blk.sh, BSh.owns, r6'] at z3
                omega
              exact ⟨(I2.stp.cell hblk hno).trans this.1, (I2.stp.frozen hblk).trans this.2⟩
            have key : ∀ z fr, (w'.cell? ⟨hp1.b, hp1.o + i, none⟩ = some z ∧ w'.frozen? ⟨hp1.b, hp1.o + i, none⟩ = fr) → (pre ++ cy ++ post)[i]? = some z → fr = false →
                (cx X h' L' w').w.cell? ⟨hp1.b, hp1.o + i, none⟩ = some (pre ++ cy ++ post)[i] ∧ (cx X h' L' w').w.frozen? ⟨hp1.b, hp1.o + i, none⟩ = false := by
              intro z fr h1 h2 h3
              subst h3
              refine ⟨?_, h1.2⟩
              rw [← List.getElem?_eq_getElem hi, h2]; exact h1.1
            simp only [List.length_append] at hi
            rcases Nat.lt_or_ge i o1 with hlo | hge
            · have hi' : i < (pre ++ c1 ++ post).length := by simp; omega
              refine key _ _ (side i hi' (.inl hlo)) ?_ rfl
              rw [← List.getElem?_eq_getElem hi', get3, get3, if_pos (by omega), if_pos (by omega)]
            · rcases Nat.lt_or_ge i (o1 + cy.length) with hmid | hge2
              · have := t2 (i - o1) (by omega)
                simp only [cx] at this
                rw [show hp1.o + o1 + (i - o1) = hp1.o + i by omega] at this
                refine key _ _ this ?_ rfl
                rw [get3, if_neg (by omega), if_pos (by omega), hpre]
                simp
              · have hi' : i < (pre ++ c1 ++ post).length := by simp; omega
                refine key _ _ (side i hi' (.inr (by omega))) ?_ rfl
                rw [← List.getElem?_eq_getElem hi', get3, get3, if_neg (by omega), if_neg (by omega), if_neg (by omega), if_neg (by omega), l1, l2]
          · rw [hbn id h0] at hb
            by_cases h2 : id ∈ ks
            · simp only [h2, if_true, Option.some.injEq] at hb; subst hb; exact .inr trivial
            · simp only [h2, if_false] at hb
              refine .inl ⟨hb, hp, fun b2 o2 hx hy => ?_⟩
              obtain ⟨k, e, d1, d2, _⟩ := hownIn _ _ hy
              have hown0 : Own1 h L id b2 o2 := ⟨_, p, shAt hb, hp, hx⟩
              have := Own1.unique I d2 hown0
              subst this
              have hin := hmemE k e d1
              rw [List.map_append, List.mem_append] at hin
              exact hin.elim h0 h1)
  exact ⟨L', I3, hle, fun cv hcv => tr_Val T2 v v' cv hsv hv hcv⟩

end Go.Ev
