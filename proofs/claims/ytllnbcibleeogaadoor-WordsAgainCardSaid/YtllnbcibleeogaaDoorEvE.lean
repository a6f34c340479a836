/- The evaluator's soundness: how the state goes on. -/
import Derived.Test.YtllnbcibleeogaaDoorEvD
namespace Go.Ev

theorem Step.trans' {A M : Nat → Nat → Prop} {u v w : World} (h : Step A u v) (k : Step M v w) (hm : ∀ b o, b < u.heap.size → M b o → A b o) : Step A u w := by
  refine ⟨k.os.trans h.os, k.tape.trans h.tape, k.output.trans h.output, Nat.le_trans h.size k.size, fun b hb => ?_⟩
  rcases h.blk b hb with h1 | ⟨c, c', e, f, h1, h2, h3, h4⟩
  · rcases k.blk b (Nat.lt_of_lt_of_le hb h.size) with k1 | ⟨c, c', e, f, k1, k2, k3, k4⟩
    · exact .inl (k1.trans h1)
    · exact .inr ⟨c, c', e, f, h1 ▸ k1, k2, k3, fun o ho => k4 o fun hmo => ho (hm b o hb hmo)⟩
  · rcases k.blk b (Nat.lt_of_lt_of_le hb h.size) with k1 | ⟨d, d', e', f', k1, k2, k3, k4⟩
    · exact .inr ⟨c, c', e, f, h1, k1.trans h2, h3, h4⟩
    · rw [h2] at k1
      simp only [Option.some.injEq, Obj.cells.injEq] at k1
      obtain ⟨rfl, rfl, rfl⟩ := k1
      exact .inr ⟨c, d', e, f, h1, k2, k3.trans h3, fun o ho => (k4 o fun hmo => ho (hm b o hb hmo)).trans (h4 o ho)⟩

theorem BlkOK.keep {c c' : Cx} (hle : c.Le c') {M : Nat → Nat → Prop} (hst : Step M c.w c'.w) {b : Blk} {p : Loc} (hM : ∀ x y, b.sh.owns p x y → ¬ M x y) (h : BlkOK c b p) : BlkOK c' b p := by
  cases b with
  | rsv => trivial
  | dead => trivial
  | var v =>
    obtain ⟨cs, h1, h2⟩ := h
    refine ⟨cs, Cells.le hle v cs h1, fun i hi => ?_⟩
    have hlt := World.block_lt_of_cell? c.w _ (h2 i hi).1
    have ho : Blk.sh (.var v) |>.owns p p.b (p.o + i) := ⟨rfl, by omega, by rw [← Cells_len v cs h1]; omega⟩
    exact ⟨(hst.cell hlt (hM _ _ ho)).trans (h2 i hi).1, (hst.frozen hlt).trans (h2 i hi).2⟩
  | row k nl l =>
    obtain ⟨h0, h1, h2⟩ := h
    refine ⟨h0, h1, fun hn => ?_⟩
    obtain ⟨q1, q2, q3⟩ := h2 hn
    have own (i : Nat) (hi : i < p.cap) : Blk.sh (.row k nl l) |>.owns p p.b (p.o + i) := ⟨hn, rfl, by omega, by omega⟩
    refine ⟨q1, fun i hi => ?_, fun i hi => ?_⟩
    · have hlt := World.block_lt_of_cell? c.w _ (q2 i hi)
      exact (hst.cell hlt (hM _ _ (own i (by omega)))).trans (q2 i hi)
    · obtain ⟨⟨x, hx⟩, hf⟩ := q3 i hi
      have hlt := World.block_lt_of_cell? c.w _ hx
      exact ⟨⟨x, (hst.cell hlt (hM _ _ (own i hi))).trans hx⟩, (hst.frozen hlt).trans hf⟩

theorem Inv.upd {X : Fx} {h h' : List Blk} {L L' : List Loc} {w w' : World} (I : Inv X h L w) (M : Nat → Nat → Prop) (hlen : L'.length = h'.length)
    (hst : Step M w w') (hM : ∀ b o, M b o → own (h.map Blk.sh) L b o)
    (hS : ∀ (id : Nat) s, (h.map Blk.sh)[id]? = some s → s ≠ .rsv → ((h'.map Blk.sh)[id]? = some s ∧ L'[id]? = L[id]?) ∨ (h'.map Blk.sh)[id]? = some .dead)
    (hown : ∀ b o, own (h'.map Blk.sh) L' b o → own (h.map Blk.sh) L b o ∨ w.heap.size ≤ b)
    (hdis : ∀ (i j : Nat) s t p q b o, i ≠ j → (h'.map Blk.sh)[i]? = some s → (h'.map Blk.sh)[j]? = some t → L'[i]? = some p → L'[j]? = some q → s.owns p b o → t.owns q b o → False)
    (hblk : Cx.Le (cx X h L w) (cx X h' L' w') → ∀ (id : Nat) b p, h'[id]? = some b → L'[id]? = some p →
      (h[id]? = some b ∧ L[id]? = some p ∧ ∀ x y, b.sh.owns p x y → ¬ M x y) ∨ BlkOK (cx X h' L' w') b p) :
    Inv X h' L' w' ∧ Cx.Le (cx X h L w) (cx X h' L' w') := by
  have hle : Cx.Le (cx X h L w) (cx X h' L' w') := by
    refine ⟨rfl, fun b o v hv hA => ?_, hS⟩
    have hlt := World.block_lt_of_cell? w _ hv
    have hno : ¬ own (h.map Blk.sh) L b o := fun q => hA (.inr q)
    refine ⟨(hst.cell hlt fun q => hno (hM b o q)).trans hv, fun q => ?_⟩
    rcases q with q | q
    · exact hA (.inl q)
    · rcases hown b o q with r | r
      · exact hno r
      · have : b < w.heap.size := hlt
        omega
  refine ⟨⟨I.eok, hlen, fun id b p hb hp => ?_, hdis, fun b o q hO => ?_, fun b o q => ?_, I.obd, ?_, fun g v hg => ?_⟩, hle⟩
  · rcases hblk hle id b p hb hp with ⟨h1, h2, h3⟩ | h1
    · exact BlkOK.keep hle hst h3 (I.blk id b p h1 h2)
    · exact h1
  · rcases hown b o q with r | r
    · exact I.out b o r hO
    · have := I.obd b o hO; have := I.stp.size; omega
  · rcases hown b o q with r | r
    · exact I.new b o r
    · exact .inl (Nat.le_trans I.stp.size r)
  · exact I.stp.trans' hst fun b o hb hm => (I.new b o (hM b o hm)).resolve_left (by omega)
  · obtain ⟨cs, h1, h2⟩ := I.glb g v hg
    refine ⟨cs, Cells.le hle v cs h1, fun i hi => ?_⟩
    exact hle.cell g i _ (h2 i hi).1 (h2 i hi).2

theorem getElem?_set_cases {α : Type} {l : List α} {i j : Nat} {a b : α} (h : (l.set i a)[j]? = some b) : (i = j ∧ a = b ∧ i < l.length) ∨ (i ≠ j ∧ l[j]? = some b) := by
  by_cases hij : i = j
  · subst hij
    by_cases hi : i < l.length
    · rw [List.getElem?_set_self hi] at h; exact .inl ⟨rfl, by simpa using h, hi⟩
    · rw [List.getElem?_eq_none (by rw [List.length_set]; omega)] at h; cases h
  · rw [List.getElem?_set_ne hij] at h; exact .inr ⟨hij, h⟩

theorem map_set_sh (h : List Blk) (i : Nat) (b : Blk) : (h.set i b).map Blk.sh = (h.map Blk.sh).set i b.sh := by simp [List.map_set]

theorem own_set {S : List BSh} {L : List Loc} {i : Nat} {s : BSh} {p : Loc} {b o : Nat} (h : own (S.set i s) (L.set i p) b o) : s.owns p b o ∨ own S L b o := by
  obtain ⟨id, t, q, h1, h2, h3⟩ := h
  rcases getElem?_set_cases h1 with ⟨rfl, rfl, _⟩ | ⟨hne, h1'⟩
  · rcases getElem?_set_cases h2 with ⟨_, rfl, _⟩ | ⟨hne, _⟩
    · exact .inl h3
    · exact absurd rfl hne
  · rw [List.getElem?_set_ne hne] at h2
    exact .inr ⟨id, t, q, h1', h2, h3⟩

theorem not_own_of_fresh {X : Fx} {h : List Blk} {L : List Loc} {w : World} (I : Inv X h L w) {b o : Nat} (hb : w.heap.size ≤ b) : ¬ own (h.map Blk.sh) L b o := by
  rintro ⟨id, s, p, h1, h2, h3⟩
  rw [List.getElem?_map] at h1
  cases hb' : h[id]? with
  | none => simp [hb'] at h1
  | some blk =>
    simp only [hb', Option.map_some, Option.some.injEq] at h1
    subst h1
    have hk := I.blk id blk p hb' h2
    cases blk with
    | rsv => exact h3
    | dead => exact h3
    | var v =>
      obtain ⟨cs, g1, g2⟩ := hk
      obtain ⟨rfl, q1, q2⟩ := h3
      have := Cells_len v cs g1
      have hlt := World.block_lt_of_cell? w _ (g2 (o - p.o) (by omega)).1
      simp at hlt; omega
    | row k nl l =>
      obtain ⟨hn, rfl, q1, q2⟩ := h3
      obtain ⟨_, _, g⟩ := hk
      obtain ⟨x, hx⟩ := ((g hn).2.2 (o - p.o) (by omega)).1
      have hlt := World.block_lt_of_cell? w _ hx
      simp at hlt; omega

/-- A new block. -/
theorem Inv.alloc {X : Fx} {h : List Blk} {L : List Loc} {w : World} (I : Inv X h L w) {nid : Nat} (hn : h[nid]? = some .rsv) (b : Blk) (p : Loc) (ob : Obj)
    (hp : ∀ x y, b.sh.owns p x y → x = w.heap.size)
    (hb : Cx.Le (cx X h L w) (cx X (h.set nid b) (L.set nid p) (w.alloc ob)) → BlkOK (cx X (h.set nid b) (L.set nid p) (w.alloc ob)) b p) :
    Inv X (h.set nid b) (L.set nid p) (w.alloc ob) ∧ Cx.Le (cx X h L w) (cx X (h.set nid b) (L.set nid p) (w.alloc ob)) := by
  have hnid : nid < h.length := by
    rcases Nat.lt_or_ge nid h.length with q | q
    · exact q
    · simp [List.getElem?_eq_none q] at hn
  refine I.upd (fun _ _ => False) (by simp [I.len]) (Step.alloc _ _ _) (fun _ _ q => q.elim) ?_ ?_ ?_ ?_
  · intro id s hs hr
    rw [map_set_sh]
    have hne : nid ≠ id := by rintro rfl; rw [List.getElem?_map, hn] at hs; simp at hs; exact hr hs.symm
    exact .inl ⟨by rw [List.getElem?_set_ne hne]; exact hs, by rw [List.getElem?_set_ne hne]⟩
  · intro x y q
    rw [map_set_sh] at q
    rcases own_set q with q | q
    · exact .inr (by rw [hp x y q]; exact Nat.le_refl _)
    · exact .inl q
  · intro i j s t p' q' x y hij hs ht hp' hq' ho1 ho2
    rw [map_set_sh] at hs ht
    have old (id : Nat) (t : BSh) (q : Loc) (h1 : (h.map Blk.sh)[id]? = some t) (h2 : L[id]? = some q) (h3 : t.owns q x y) : x ≠ w.heap.size := fun e =>
      not_own_of_fresh I (b := x) (o := y) (by omega) ⟨id, t, q, h1, h2, h3⟩
    rcases getElem?_set_cases hs with ⟨rfl, rfl, _⟩ | ⟨hne, hs'⟩
    · rcases getElem?_set_cases hp' with ⟨_, rfl, _⟩ | ⟨hne, _⟩
      · rw [List.getElem?_set_ne hij] at ht hq'
        exact old j t q' ht hq' ho2 (hp _ _ ho1)
      · exact hne rfl
    · rw [List.getElem?_set_ne hne] at hp'
      rcases getElem?_set_cases ht with ⟨rfl, rfl, _⟩ | ⟨hne2, ht'⟩
      · rcases getElem?_set_cases hq' with ⟨_, rfl, _⟩ | ⟨hne, _⟩
        · exact old i s p' hs' hp' ho1 (hp _ _ ho2)
        · exact hne rfl
      · rw [List.getElem?_set_ne hne2] at hq'
        exact I.dis i j s t p' q' x y hij hs' ht' hp' hq' ho1 ho2
  · intro hle id b' p' hb' hp'
    rcases getElem?_set_cases hb' with ⟨rfl, rfl, _⟩ | ⟨hne, hb''⟩
    · rcases getElem?_set_cases hp' with ⟨_, rfl, _⟩ | ⟨hne, _⟩
      · exact .inr (hb hle)
      · exact absurd rfl hne
    · rw [List.getElem?_set_ne hne] at hp'
      exact .inl ⟨hb'', hp', fun _ _ _ q => q⟩

theorem list_set_self {α : Type} (l : List α) (i : Nat) (a : α) (h : l[i]? = some a) : l.set i a = l := by
  apply List.ext_getElem?
  intro j
  by_cases hj : i = j
  · subst hj
    have : i < l.length := by
      rcases Nat.lt_or_ge i l.length with q | q
      · exact q
      · simp [List.getElem?_eq_none q] at h
    rw [List.getElem?_set_self this, h]
  · rw [List.getElem?_set_ne hj]

/-- A block written: its shape and its place stay. -/
theorem Inv.write {X : Fx} {h : List Blk} {L : List Loc} {w w' : World} (I : Inv X h L w) {id : Nat} {b0 b : Blk} {p : Loc} (h0 : h[id]? = some b0) (hp : L[id]? = some p)
    (hsh : b.sh = b0.sh) (hst : Step (fun x y => b0.sh.owns p x y) w w')
    (hb : Cx.Le (cx X h L w) (cx X (h.set id b) L w') → BlkOK (cx X (h.set id b) L w') b p) :
    Inv X (h.set id b) L w' ∧ Cx.Le (cx X h L w) (cx X (h.set id b) L w') := by
  have hS : (h.set id b).map Blk.sh = h.map Blk.sh := by
    rw [map_set_sh]
    exact list_set_self _ _ _ (by rw [List.getElem?_map, h0]; simp [hsh])
  refine I.upd (fun x y => b0.sh.owns p x y) (by simp [I.len]) hst (fun x y q => ⟨id, b0.sh, p, by rw [List.getElem?_map, h0]; rfl, hp, q⟩) ?_ ?_ ?_ ?_
  · intro i s hs _; rw [hS]; exact .inl ⟨hs, rfl⟩
  · intro x y q; rw [hS] at q; exact .inl q
  · rw [hS]; exact I.dis
  · intro hle i b' p' hb' hp'
    rcases getElem?_set_cases hb' with ⟨rfl, rfl, _⟩ | ⟨hne, hb''⟩
    · rw [hp] at hp'; simp only [Option.some.injEq] at hp'; subst hp'
      exact .inr (hb hle)
    · refine .inl ⟨hb'', hp', fun x y q1 q2 => ?_⟩
      exact I.dis i id b'.sh b0.sh p' p x y (Ne.symm hne) (by rw [List.getElem?_map, hb'']; rfl) (by rw [List.getElem?_map, h0]; rfl) hp' hp q1 q2

/-- A block given up. -/
theorem Inv.kill {X : Fx} {h : List Blk} {L : List Loc} {w : World} (I : Inv X h L w) (id : Nat) :
    Inv X (h.set id .dead) L w ∧ Cx.Le (cx X h L w) (cx X (h.set id .dead) L w) := by
  have key (i : Nat) (s : BSh) (hs : ((h.map Blk.sh).set id .dead)[i]? = some s) : s = .dead ∨ (h.map Blk.sh)[i]? = some s := by
    rcases getElem?_set_cases hs with ⟨_, rfl, _⟩ | ⟨_, hs'⟩
    · exact .inl rfl
    · exact .inr hs'
  refine I.upd (fun _ _ => False) (by simp [I.len]) (Step.refl _ _) (fun _ _ q => q.elim) ?_ ?_ ?_ ?_
  · intro i s hs hne
    rw [map_set_sh]
    by_cases hi : id = i
    · subst hi
      refine .inr ?_
      have : id < (h.map Blk.sh).length := by
        rcases Nat.lt_or_ge id (h.map Blk.sh).length with q | q
        · exact q
        · simp [List.getElem?_eq_none q] at hs
      exact List.getElem?_set_self this
    · rw [List.getElem?_set_ne hi]; exact .inl ⟨hs, rfl⟩
  · intro x y q
    rw [map_set_sh] at q
    obtain ⟨i, s, p, h1, h2, h3⟩ := q
    rcases key i s h1 with rfl | h1'
    · exact h3.elim
    · exact .inl ⟨i, s, p, h1', h2, h3⟩
  · intro i j s t p q x y hij hs ht hp hq o1 o2
    rw [map_set_sh] at hs ht
    rcases key i s hs with rfl | hs'
    · exact o1
    · rcases key j t ht with rfl | ht'
      · exact o2
      · exact I.dis i j s t p q x y hij hs' ht' hp hq o1 o2
  · intro _ i b p hb hp
    rcases getElem?_set_cases hb with ⟨_, rfl, _⟩ | ⟨hne, hb'⟩
    · exact .inr trivial
    · exact .inl ⟨hb', hp, fun _ _ _ q => q⟩

end Go.Ev
