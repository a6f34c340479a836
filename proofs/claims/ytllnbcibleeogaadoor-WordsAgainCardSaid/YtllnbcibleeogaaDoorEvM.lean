/- The evaluator's soundness: append, copy, a string's bytes. -/
import Derived.Test.YtllnbcibleeogaaDoorEvL
namespace Go.Ev
set_option linter.unusedSimpArgs false
set_option linter.unusedVariables false

/-- What is put behind. -/
def SrcRun (P : Program) (w : World) (k : IntKind) (xs : List Int) (x : Value) : Prop :=
  NN k xs ∧ (Builtin.lenOf x).run P w = .ok xs.length w ∧ ∀ w', (∀ a : Addr, w'.cell? a = w.cell? a) → ∀ n, n ≤ xs.length → (Builtin.firstCells 1 n x).run P w' = .ok ((xs.take n).map (Value.int k)).toArray w'

theorem srcE_run {look : Nat → Blk} {k : IntKind} {av : AV} {xs : List Int} (h0 : srcE look k av = some xs) (X : Fx) (h : List Blk) (L : List Loc) (w : World) (x : Value) (I : Inv X h L w) (hl : lookOk look h)
    (hv : Val (cx X h L w) av x) : SrcRun X.G.P w k xs x := by
  unfold srcE at h0
  split at h0
  · rename_i l
    obtain ⟨hk, h1⟩ := cond_none h0
    clear h0
    have hk := of_decide_eq_true hk
    subst hk
    simp only [Option.some.injEq] at h1
    subst h1
    obtain rfl := hv
    refine ⟨fun _ z hz => ?_, ?_, fun w' _ n hn => ?_⟩
    · obtain ⟨b, _, rfl⟩ := List.mem_map.1 hz; exact Int.natCast_nonneg _
    · simp [Builtin.lenOf, ofStr, ByteArray.size]
    · have : ((ByteArray.mk l.toArray).extract 0 n).data.toList = l.take n := by simp
      simp only [Builtin.firstCells, Sem.run_pure]
      congr 1
      apply Array.ext'
      rw [Array.toList_map, this]
      simp only [ofStr, List.map_take, List.map_map]
      rfl
  · have := cont_run h0 X h L w x I hl hv
    obtain ⟨hnn, a, cap, rfl, h2, h3, h4⟩ := this
    refine ⟨hnn, by simp [Builtin.lenOf], fun w' hw n hn => ?_⟩
    cases a with
    | none => have := h3 rfl; subst this; simp [Builtin.firstCells]
    | some p =>
      have hl' : (xs.take n).length = n := by simp; omega
      have := run_loadCells_ints (w := w') (P := X.G.P) (k := k) (l := xs.take n) (p := p) (fun i hi => by
        have hi' : i < xs.length := by rw [hl'] at hi; omega
        obtain ⟨q1, q2⟩ := h4 p rfl i hi'
        exact ⟨q1, by rw [hw, q2]; simp⟩)
      rw [hl'] at this
      simp only [Builtin.firstCells, Nat.mul_one, this]

theorem run_append_room' {P : Program} {w : World} {t tx ty e : TypeId} {i : TypeInfo} {k : IntKind} {xs : List Int} {x : Value} (ht : P.underlying t = some (.slice e)) (hi : P.info? e = some i) (hs : i.size = 1) (hx : notInt P tx = true)
    (hr : SrcRun P w k xs x) {q : Addr} {sLen sCap : Nat} (hroom : sLen + xs.length ≤ sCap) (hq : xs ≠ [] → q.spot = none ∧ (∀ j, j < xs.length → (w.cell? ⟨q.block, q.off + sLen + j, none⟩).isSome = true) ∧ (∀ j, j < xs.length → w.frozen? ⟨q.block, q.off + sLen + j, none⟩ = false)) :
    (Builtin.append_ #[t, tx] ty #[.slice (some q) sLen sCap, x]).run P w = .ok (.slice (some q) (sLen + xs.length) sCap) (w.setCells q.block (q.off + sLen) (xs.map (Value.int k))) := by
  obtain ⟨_, r1, r2⟩ := hr
  have r2 := r2 w (fun _ => rfl) xs.length (Nat.le_refl _)
  rw [List.take_length] at r2
  have hst : (storeCells (q.add sLen) (xs.map (Value.int k))).run P w = .ok () (w.setCells q.block (q.off + sLen) (xs.map (Value.int k))) := by
    by_cases hxs : xs = []
    · subst hxs; rfl
    · obtain ⟨h1, h2, h3⟩ := hq hxs
      rw [addr_add _ _ h1]
      have := run_storeCells_cells (P := P) q.block (q.off + sLen) (xs.map (Value.int k)) 0 w (by simpa using h2) (by simpa using h3) (fun v hv => by obtain ⟨z, _, rfl⟩ := List.mem_map.1 hv; rfl)
      simpa using this
  unfold notInt at hx
  have hst' : (storeCells (q.add (sLen * 1)) ((xs.map (Value.int k)).toArray).toList).run P w = .ok () (w.setCells q.block (q.off + sLen) (xs.map (Value.int k))) := by simpa using hst
  split at hx
  · rename_i e' hu
    simp [Builtin.append_, run_underlying' ht, run_underlying' hu, sizeOf, typeInfo, hi, hs, r1, r2, hroom, hst]
  · rename_i hu
    simp [Builtin.append_, run_underlying' ht, run_underlying' hu, sizeOf, typeInfo, hi, hs, r1, r2, hroom, hst]
  · cases hx

theorem run_append_nil' {P : Program} {w : World} {t tx ty e : TypeId} {i : TypeInfo} {k : IntKind} {x : Value} (ht : P.underlying t = some (.slice e)) (hi : P.info? e = some i) (hs : i.size = 1) (hx : notInt P tx = true)
    (hr : SrcRun P w k [] x) : (Builtin.append_ #[t, tx] ty #[.slice none 0 0, x]).run P w = .ok (.slice none 0 0) w := by
  obtain ⟨_, r1, r2⟩ := hr
  have r2 := r2 w (fun _ => rfl) 0 (Nat.le_refl _)
  simp only [List.length_nil] at r1
  unfold notInt at hx
  split at hx
  · rename_i e' hu
    simp [Builtin.append_, run_underlying' ht, run_underlying' hu, sizeOf, typeInfo, hi, hs, r1, r2]
  · rename_i hu
    simp [Builtin.append_, run_underlying' ht, run_underlying' hu, sizeOf, typeInfo, hi, hs, r1, r2]
  · cases hx

theorem run_append_grow' {P : Program} {w : World} {t tx ty e : TypeId} {i : TypeInfo} {k : IntKind} {xs olds : List Int} {x : Value} (ht : P.underlying t = some (.slice e)) (hi : P.info? e = some i) (hs : i.size = 1) (hz : i.zero = some (.int k 0))
    (hx : notInt P tx = true) (hr : SrcRun P w k xs x) {base : Option Addr} {sCap : Nat} (hg : sCap < olds.length + xs.length) (hb : (olds.length + xs.length) * i.bytes ≤ 140737488355328) (h63 : olds.length + xs.length ≤ 140737488355328)
    (ho : ∀ w', (∀ a : Addr, w'.cell? a = w.cell? a) → (Builtin.firstCells 1 olds.length (.slice base olds.length sCap)).run P w' = .ok (olds.map (Value.int k)).toArray w') :
    (Builtin.append_ #[t, tx] ty #[.slice base olds.length sCap, x]).run P w = .ok (.slice (some ⟨w.heap.size, 0, none⟩) (olds.length + xs.length) (grownCap w (olds.length + xs.length) sCap e))
      (w.drew.alloc (.cells ((olds.map (Value.int k)).toArray ++ (xs.map (Value.int k)).toArray ++ Builtin.zeroCells #[.int k 0] (grownCap w (olds.length + xs.length) sCap e - (olds.length + xs.length))) e)) := by
  obtain ⟨_, r1, r2⟩ := hr
  have r2 := r2 w.drew (fun _ => rfl) xs.length (Nat.le_refl _)
  rw [List.take_length] at r2
  have ho := ho w.drew (fun _ => rfl)
  have hn : ¬ (olds.length + xs.length ≤ sCap) := by omega
  have h63' : ¬ (9223372036854775807 < ((olds.length : Int) + (xs.length : Int))) := by omega
  have h48' : ¬ (281474976710656 < Builtin.nextslicecap (olds.length + xs.length) sCap * i.bytes) := by have := growslice_fits hg hb; omega
  unfold notInt at hx
  split at hx
  · rename_i e' hu
    simp [Builtin.append_, run_underlying' ht, run_underlying' hu, sizeOf, typeInfo, zeroValue, hi, hz, hs, r1, r2, ho, hn, h63', h48', Question.forced, newRow, grownCap, Value.cells]
    congr 2
    apply Array.ext'
    simp
  · rename_i hu
    simp [Builtin.append_, run_underlying' ht, run_underlying' hu, sizeOf, typeInfo, zeroValue, hi, hz, hs, r1, r2, ho, hn, h63', h48', Question.forced, newRow, grownCap, Value.cells]
    congr 2
    apply Array.ext'
    simp
  · cases hx


theorem getElem?_set_set {α : Type} {l : List α} {i j x : Nat} {a b c : α} (hij : i ≠ j) (h : ((l.set i a).set j b)[x]? = some c) : (x = j ∧ b = c) ∨ (x = i ∧ a = c) ∨ (x ≠ i ∧ x ≠ j ∧ l[x]? = some c) := by
  rcases getElem?_set_cases h with ⟨rfl, rfl, _⟩ | ⟨hne, h1⟩
  · exact .inl ⟨rfl, rfl⟩
  · rcases getElem?_set_cases h1 with ⟨rfl, rfl, _⟩ | ⟨hne2, h2⟩
    · exact .inr (.inl ⟨rfl, rfl⟩)
    · exact .inr (.inr ⟨Ne.symm hne2, Ne.symm hne, h2⟩)

/-- What is put behind finds room: the row goes on where it lies. -/
theorem Inv.moveRow {X : Fx} {h : List Blk} {L : List Loc} {w : World} (I : Inv X h L w) {id nid off : Nat} {k : IntKind} {l old xs : List Int} {p : Loc} (hb : h[id]? = some (.row k false l)) (hp : L[id]? = some p) (hn : h[nid]? = some .rsv)
    (hold : ∀ i (hi : i < old.length), ∃ hm : off + i < l.length, old[i] = l[off + i]) (hroom : old.length + xs.length ≤ p.cap - off) (hxs : NN k xs) (hon : NN k old) :
    Inv X ((h.set id .dead).set nid (.row k false (old ++ xs))) (L.set nid ⟨p.b, p.o + off, p.cap - off⟩) (w.setCells p.b (p.o + off + old.length) (xs.map (Value.int k))) ∧
      Cx.Le (cx X h L w) (cx X ((h.set id .dead).set nid (.row k false (old ++ xs))) (L.set nid ⟨p.b, p.o + off, p.cap - off⟩) (w.setCells p.b (p.o + off + old.length) (xs.map (Value.int k)))) ∧
      (∀ j, j < xs.length → (w.cell? ⟨p.b, p.o + off + old.length + j, none⟩).isSome = true) ∧ (∀ j, j < xs.length → w.frozen? ⟨p.b, p.o + off + old.length + j, none⟩ = false) := by
  have hne : id ≠ nid := by rintro rfl; rw [hb] at hn; simp at hn
  obtain ⟨g1, g2, g3⟩ := I.blk id _ p hb hp
  obtain ⟨q1, q2, q3⟩ := g3 rfl
  have hsome : ∀ j, j < xs.length → (w.cell? ⟨p.b, p.o + off + old.length + j, none⟩).isSome = true := fun j hj => by
    obtain ⟨⟨x, hx⟩, _⟩ := q3 (off + old.length + j) (by omega)
    have hx : w.cell? _ = _ := hx
    rw [show p.o + off + old.length + j = p.o + (off + old.length + j) by omega, hx]; rfl
  have hfr : ∀ j, j < xs.length → w.frozen? ⟨p.b, p.o + off + old.length + j, none⟩ = false := fun j hj => by
    have := (q3 (off + old.length + j) (by omega)).2
    have hx : w.frozen? _ = _ := this
    rw [show p.o + off + old.length + j = p.o + (off + old.length + j) by omega, hx]
  have hSid : (h.map Blk.sh)[id]? = some (.row k false l.length) := by rw [List.getElem?_map, hb]; rfl
  have hSmap : ((h.set id .dead).set nid (.row k false (old ++ xs))).map Blk.sh = ((h.map Blk.sh).set id .dead).set nid (.row k false (old ++ xs).length) := by
    rw [map_set_sh, map_set_sh]; rfl
  have hsub : ∀ b o, BSh.owns (.row k false (old ++ xs).length) ⟨p.b, p.o + off, p.cap - off⟩ b o → BSh.owns (.row k false l.length) p b o := by
    rintro b o ⟨_, h1, h2, h3⟩
    exact ⟨rfl, h1, by simp at h2 ⊢; omega, by simp at h2 h3 ⊢; omega⟩
  obtain ⟨I', hle⟩ := I.upd (h' := (h.set id .dead).set nid (.row k false (old ++ xs))) (L' := L.set nid ⟨p.b, p.o + off, p.cap - off⟩) (w' := w.setCells p.b (p.o + off + old.length) (xs.map (Value.int k)))
    (fun b o => BSh.owns (.row k false l.length) p b o) (by simp [I.len]) (Step.setCells _ _ _ _ fun j hj => ⟨rfl, rfl, by omega, by simp at hj; omega⟩) (fun b o q => ⟨id, _, p, hSid, hp, q⟩)
    (by
      intro i s hs hr
      rw [hSmap]
      have hin : nid ≠ i := by rintro rfl; rw [List.getElem?_map, hn] at hs; simp at hs; exact hr hs.symm
      by_cases hid : id = i
      · subst hid
        refine .inr ?_
        rw [List.getElem?_set_ne hin, List.getElem?_set_self (by have := getElem?_lt hs; exact this)]
      · refine .inl ⟨?_, ?_⟩
        · rw [List.getElem?_set_ne hin, List.getElem?_set_ne hid]; exact hs
        · rw [List.getElem?_set_ne hin])
    (by
      rintro b o ⟨i, s, q, h1, h2, h3⟩
      rw [hSmap] at h1
      rcases getElem?_set_set hne h1 with ⟨rfl, rfl⟩ | ⟨rfl, rfl⟩ | ⟨r1, r2, r3⟩
      · rcases getElem?_set_cases h2 with ⟨_, rfl, _⟩ | ⟨hh, _⟩
        · exact .inl ⟨id, _, p, hSid, hp, hsub b o h3⟩
        · exact absurd rfl hh
      · exact h3.elim
      · rw [List.getElem?_set_ne (Ne.symm r2)] at h2
        exact .inl ⟨i, s, q, r3, h2, h3⟩)
    (by
      intro i j s t q1' q2' b o hij hs ht hq1 hq2 ho1 ho2
      rw [hSmap] at hs ht
      have red : ∀ (i : Nat) (s : BSh) (q : Loc), (((h.map Blk.sh).set id .dead).set nid (.row k false (old ++ xs).length))[i]? = some s → (L.set nid ⟨p.b, p.o + off, p.cap - off⟩)[i]? = some q → s.owns q b o →
          (i = nid ∧ BSh.owns (.row k false l.length) p b o) ∨ (i ≠ nid ∧ i ≠ id ∧ (h.map Blk.sh)[i]? = some s ∧ L[i]? = some q) := by
        intro i s q h1 h2 h3
        rcases getElem?_set_set hne h1 with ⟨rfl, rfl⟩ | ⟨rfl, rfl⟩ | ⟨r1, r2, r3⟩
        · rcases getElem?_set_cases h2 with ⟨_, rfl, _⟩ | ⟨hh, _⟩
          · exact .inl ⟨rfl, hsub b o h3⟩
          · exact absurd rfl hh
        · exact h3.elim
        · rw [List.getElem?_set_ne (Ne.symm r2)] at h2
          exact .inr ⟨r2, r1, r3, h2⟩
      rcases red i s q1' hs hq1 ho1 with ⟨rfl, a1⟩ | ⟨a1, a2, a3, a4⟩
      · rcases red j t q2' ht hq2 ho2 with ⟨rfl, b1⟩ | ⟨b1, b2, b3, b4⟩
        · exact hij rfl
        · exact I.dis id j _ t p q2' b o (Ne.symm b2) hSid b3 hp b4 a1 ho2
      · rcases red j t q2' ht hq2 ho2 with ⟨rfl, b1⟩ | ⟨b1, b2, b3, b4⟩
        · exact I.dis i id s _ q1' p b o a2 a3 hSid a4 hp ho1 b1
        · exact I.dis i j s t q1' q2' b o hij a3 b3 a4 b4 ho1 ho2)
    (by
      intro hle i b q hb' hq'
      rcases getElem?_set_set hne hb' with ⟨rfl, rfl⟩ | ⟨rfl, rfl⟩ | ⟨r1, r2, r3⟩
      · rcases getElem?_set_cases hq' with ⟨_, rfl, _⟩ | ⟨hh, _⟩
        · refine .inr ⟨fun hk y hy => ?_, by simp, fun _ => ⟨by simp; omega, fun j hj => ?_, fun j hj => ⟨?_, ?_⟩⟩⟩
          · rcases List.mem_append.1 hy with hy | hy
            · exact hon hk _ hy
            · exact hxs hk _ hy
          · show (w.setCells p.b (p.o + off + old.length) (xs.map (Value.int k))).cell? _ = _
            by_cases hjo : j < old.length
            · obtain ⟨hm, he⟩ := hold j hjo
              rw [World.cell?_setCells_out _ _ _ _ _ (fun _ _ => .inl (by simp; omega))]
              have : w.cell? _ = _ := q2 (off + j) hm
              rw [show p.o + off + j = p.o + (off + j) by omega, this]
              simp [hjo, he]
            · have hj' : j - old.length < xs.length := by simp at hj; omega
              have := World.cell?_setCells_in p.b (xs.map (Value.int k)) (p.o + off + old.length) w (by simpa using hsome) (j - old.length) (by simpa using hj')
              rw [show p.o + off + old.length + (j - old.length) = p.o + off + j by omega] at this
              rw [this]
              simp [List.getElem_append, hjo]
          · simp only at hj
            by_cases hin : old.length ≤ j ∧ j < old.length + xs.length
            · have := World.cell?_setCells_in p.b (xs.map (Value.int k)) (p.o + off + old.length) w (by simpa using hsome) (j - old.length) (by simp; omega)
              rw [show p.o + off + old.length + (j - old.length) = p.o + off + j by omega] at this
              exact ⟨_, this⟩
            · obtain ⟨⟨x, hx⟩, _⟩ := q3 (off + j) (by omega)
              refine ⟨x, ?_⟩
              show (w.setCells p.b (p.o + off + old.length) (xs.map (Value.int k))).cell? _ = _
              rw [World.cell?_setCells_out _ _ _ _ _ (fun _ _ => by simp; omega)]
              have hx : w.cell? _ = _ := hx
              rw [show p.o + off + j = p.o + (off + j) by omega, hx]
          · show (w.setCells p.b (p.o + off + old.length) (xs.map (Value.int k))).frozen? _ = _
            rw [World.frozen?_setCells]
            have hx : w.frozen? _ = _ := (q3 (off + j) (by simp only at hj; omega)).2
            rw [show p.o + off + j = p.o + (off + j) by omega, hx]
        · exact absurd rfl hh
      · exact .inr trivial
      · rw [List.getElem?_set_ne (Ne.symm r2)] at hq'
        refine .inl ⟨r3, hq', fun x y h1 h2 => ?_⟩
        exact I.dis i id b.sh _ q p x y r1 (by rw [List.getElem?_map, r3]; rfl) hSid hq' hp h1 h2)
  exact ⟨I', hle, hsome, hfr⟩


theorem own_mk {X : Fx} {h : List Blk} {L : List Loc} {w : World} {nid : Nat} {k : IntKind} {l : List Int} {p : Loc} {q : Addr} {n cap : Nat} (hb : h[nid]? = some (.row k false l)) (hp : L[nid]? = some p)
    (hn : n = l.length) (hc : cap = p.cap) (hq : q.block = p.b ∧ q.spot = none) (hq2 : 0 < p.cap → q = ⟨p.b, p.o, none⟩) : Val (cx X h L w) (.own nid [] 0 none) (.slice (some q) n cap) := by
  rw [Val_leaf rfl (by simp) (by simp)]
  simp only [leaf, cx_S hb, Blk.sh]
  have hL' : (cx X h L w).L[nid]? = some p := hp
  rw [hL']
  refine ⟨by trivial, by simp [olen], ?_⟩
  simp only [Bool.false_eq_true, if_false]
  exact ⟨q, by simp [olen, hn, hc], hq, fun hh => by rw [hq2 hh]; simp⟩

theorem own_nil {X : Fx} {h : List Blk} {L : List Loc} {w : World} {nid : Nat} {k : IntKind} {p : Loc} (hb : h[nid]? = some (.row k true [])) (hp : L[nid]? = some p) :
    Val (cx X h L w) (.own nid [] 0 none) (.slice none 0 0) := by
  rw [Val_leaf rfl (by simp) (by simp)]
  simp only [leaf, cx_S hb, Blk.sh]
  have hL' : (cx X h L w).L[nid]? = some p := hp
  rw [hL']
  exact ⟨by trivial, by simp [olen], by simp⟩

/-- A new row that is nil. -/
theorem Inv.nilRow {X : Fx} {h : List Blk} {L : List Loc} {w : World} (I : Inv X h L w) {nid : Nat} (hn : h[nid]? = some .rsv) (k : IntKind) :
    Inv X (h.set nid (.row k true [])) L w ∧ Cx.Le (cx X h L w) (cx X (h.set nid (.row k true [])) L w) := by
  refine I.upd (fun _ _ => False) (by simp [I.len]) (Step.refl _ _) (fun _ _ q => q.elim) ?_ ?_ ?_ ?_
  · intro i s hs hr
    rw [map_set_sh]
    have hne : nid ≠ i := by rintro rfl; rw [List.getElem?_map, hn] at hs; simp at hs; exact hr hs.symm
    exact .inl ⟨by rw [List.getElem?_set_ne hne]; exact hs, rfl⟩
  · rintro x y ⟨i, s, p, h1, h2, h3⟩
    rw [map_set_sh] at h1
    rcases getElem?_set_cases h1 with ⟨_, rfl, _⟩ | ⟨_, h1'⟩
    · obtain ⟨hh, _⟩ := h3; cases hh
    · exact .inl ⟨i, s, p, h1', h2, h3⟩
  · intro i j s t p q x y hij hs ht hp hq o1 o2
    rw [map_set_sh] at hs ht
    rcases getElem?_set_cases hs with ⟨_, rfl, _⟩ | ⟨_, hs'⟩
    · obtain ⟨hh, _⟩ := o1; cases hh
    · rcases getElem?_set_cases ht with ⟨_, rfl, _⟩ | ⟨_, ht'⟩
      · obtain ⟨hh, _⟩ := o2; cases hh
      · exact I.dis i j s t p q x y hij hs' ht' hp hq o1 o2
  · intro _ i b p hb hp
    rcases getElem?_set_cases hb with ⟨_, rfl, _⟩ | ⟨hne, hb'⟩
    · exact .inr ⟨by simp [NN], fun _ => rfl, fun hh => by cases hh⟩
    · exact .inl ⟨hb', hp, fun _ _ _ q => q⟩

theorem NN.append {k : IntKind} {l m : List Int} (h1 : NN k l) (h2 : NN k m) : NN k (l ++ m) := fun hk x hx => (List.mem_append.1 hx).elim (h1 hk x) (h2 hk x)

theorem grown_arr {k : IntKind} {olds xs : List Int} {g : Nat} (hg : olds.length + xs.length ≤ g) :
    (∀ i (hi : i < (olds ++ xs).length), ((olds.map (Value.int k)).toArray ++ (xs.map (Value.int k)).toArray ++ Builtin.zeroCells #[.int k 0] (g - (olds.length + xs.length)))[i]? = some (.int k (olds ++ xs)[i])) ∧
      ((olds.map (Value.int k)).toArray ++ (xs.map (Value.int k)).toArray ++ Builtin.zeroCells #[.int k 0] (g - (olds.length + xs.length))).size = g := by
  constructor
  · intro i hi
    rw [Array.getElem?_append_left (by simp at hi ⊢; omega)]
    simp only [List.append_toArray, List.getElem?_toArray]
    rw [← List.map_append, List.getElem?_map, List.getElem?_eq_getElem hi]
    rfl
  · simp [Builtin.zeroCells]; omega

/-- Both ways, for a row of whatever begin. -/
theorem append_any {X : Fx} {h : List Blk} {L : List Loc} {w : World} (I : Inv X h L w) {t tx ty e : TypeId} {i : TypeInfo} {k : IntKind} {xs old : List Int} {x : Value} (ht : X.G.P.underlying t = some (.slice e)) (hi : X.G.P.info? e = some i)
    (hs : i.size = 1) (hz : i.zero = some (.int k 0)) (hx : notInt X.G.P tx = true) (hr : SrcRun X.G.P w k xs x) {nid : Nat} (hn : h[nid]? = some .rsv)
    {base : Option Addr} {sCap : Nat} (hg : sCap < old.length + xs.length) (hb : (old.length + xs.length) * i.bytes ≤ 140737488355328) (h63 : old.length + xs.length ≤ 140737488355328) (hon : NN k old)
    (ho : ∀ w', (∀ a : Addr, w'.cell? a = w.cell? a) → (Builtin.firstCells 1 old.length (.slice base old.length sCap)).run X.G.P w' = .ok (old.map (Value.int k)).toArray w') :
    ∃ cv L' w', (Builtin.append_ #[t, tx] ty #[.slice base old.length sCap, x]).run X.G.P w = .ok cv w' ∧ Inv X (h.set nid (.row k false (old ++ xs))) L' w' ∧ Cx.Le (cx X h L w) (cx X (h.set nid (.row k false (old ++ xs))) L' w') ∧
      Val (cx X (h.set nid (.row k false (old ++ xs))) L' w') (.own nid [] 0 none) cv := by
  have hrun := run_append_grow' (ty := ty) ht hi hs hz hx hr hg hb h63 ho
  have hge := grownCap_ge w (old.length + xs.length) sCap e
  obtain ⟨a1, a2⟩ := grown_arr (k := k) hge
  obtain ⟨L', I', hle, hval⟩ := I.newRow hn (hon.append hr.1) e a1 (by rw [a2]; simp; omega) (grownCap w (old.length + xs.length) sCap e) (by simp; omega) (by rw [a2]; exact Nat.le_refl _) w.drew (.inr rfl)
  exact ⟨_, L', _, hrun, I', hle, by simpa using hval⟩

theorem appendE_ok {G : Gi} {R : Type} {κ : Kop R} {r : R} {o : Oper} {c : Call} {d s : Operand} {t : List AV} {look : Nat → Blk} {nid : Nat} (ho : o.op = .call c) (hc : c.callee = .builtin .append) (ha : c.args.toList = [d, s])
    (hat : ∀ tx, argT c 1 = tx → notInt G.P tx = true → c.argTypes[0]? = some (argT c 0) ∧ c.argTypes[1]? = some (argT c 1) ∧ c.argTypes = #[argT c 0, argT c 1])
    (h0 : appendE G look nid κ (argT c 0) (argT c 1) (evO t d) (evO t s) = some r) : ∃ v us, κ v us = some r ∧ OpOk G o t look nid v us := by
  unfold appendE at h0
  split at h0
  · rename_i e hu
    split at h0
    · rename_i k i hk hi
      obtain ⟨hcc, h0⟩ := cond_none h0
      simp only [Bool.and_eq_true] at hcc
      obtain ⟨⟨c1, c2⟩, c3⟩ := hcc
      have c1 := Nat.eq_of_beq_eq_true c1
      have c2 := intZero_ok c2
      obtain ⟨_, _, hargs⟩ := hat _ rfl c3
      have hca : c.args = #[d, s] := by
        have : c.args.toList = (#[d, s] : Array Operand).toList := ha
        exact Array.toList_inj.1 this
      split at h0
      · rename_i xs hsrc
        have run : ∀ (a : Act) (w : World) (cv : Value) (w' : World), (Builtin.append_ #[argT c 0, argT c 1] o.type #[a.eval d, a.eval s]).run G.P w = .ok cv w' → (execOp a.eval o).run G.P w = .ok (.value cv) w' := by
          intro a w cv w' hrun
          simp only [execOp, ho, resolve, hc, hca, hargs, Sem.run_bind, Sem.run_pure, Result.andThen_ok, invoke, builtin]
          simp [hrun]
        have hops : ∀ (x : Operand), x = d ∨ x = s → x ∈ o.op.operands.toList := by
          intro x hx
          simp only [ho, Op.operands, Call.operands, hc, hca]
          simpa using hx
        split at h0
        · rename_i had
          obtain ⟨b1, h1⟩ := cond_none h0
          obtain ⟨b2, h2⟩ := cond_none h1
          have b1 := of_decide_eq_true b1
          have b2 := of_decide_eq_true b2
          refine ⟨_, _, h2, fun X hXG => ?_⟩
          subst hXG
          refine fun h L a w next Q I hvv hl hr hk' => .inl ?_
          have hn := hr 0 (by simp [resv, ho, hc])
          simp only [Nat.add_zero] at hn
          have e1 := hvv d (hops d (.inl rfl))
          have e2 := hvv s (hops s (.inr rfl))
          rw [had] at e1
          have e1 : a.eval d = .slice none 0 0 := e1
          have hsr := srcE_run hsrc X h L w _ I hl e2
          unfold Oper.wp
          cases xs with
          | nil =>
            rw [run a w _ w (by rw [e1]; exact run_append_nil' hu hi c1 c3 hsr)]
            obtain ⟨I', hle⟩ := I.nilRow hn k
            have hlt := getElem?_lt hn
            obtain ⟨p, hp⟩ := I.loc hn
            exact hk' _ L w (by simpa [applyU] using I') (by simpa [applyU] using hle) (by
              simp only [applyU, List.isEmpty_nil]
              exact own_nil (List.getElem?_set_self hlt) hp)
          | cons x xs =>
            obtain ⟨cv, L', w', g1, g2, g3, g4⟩ := append_any (ty := o.type) (old := []) (base := none) (sCap := 0) I hu hi c1 c2 c3 hsr hn (by simp) (by simpa using b1) (by simpa using b2) (by simp [NN]) (fun w' _ => by simp [Builtin.firstCells])
            rw [run a w cv w' (by rw [e1]; exact g1)]
            exact hk' cv L' w' (by simpa [applyU] using g2) (by simpa [applyU] using g3) (by simpa [applyU] using g4)
        · rename_i id path off len had
          split at h0
          · rename_i k' nl l hb
            obtain ⟨hkk, h1⟩ := cond_none h0
            clear h0
            have hkk := of_decide_eq_true hkk
            subst hkk
            simp only at h1
            obtain ⟨b1, h2⟩ := cond_none h1
            obtain ⟨b2, h3⟩ := cond_none h2
            have b1 := of_decide_eq_true b1
            have b2 := of_decide_eq_true b2
            refine ⟨_, _, h3, fun X hXG => ?_⟩
            subst hXG
            refine fun h L a w next Q I hvv hl hr hk' => .inl ?_
            have hn := hr 0 (by simp [resv, ho, hc])
            simp only [Nat.add_zero] at hn
            have e1 := hvv d (hops d (.inl rfl))
            have e2 := hvv s (hops s (.inr rfl))
            rw [had] at e1
            have hsr := srcE_run hsrc X h L w _ I hl e2
            have hcont : cont look k (.own id [] off len) = some (cut len off l) := by simp [cont, hb]
            have hC := cont_run hcont X h L w _ I hl e1
            have hb' := lookOk.get hl hb (by simp)
            have hne : id ≠ nid := by rintro rfl; rw [hb'] at hn; simp at hn
            obtain ⟨p, hp, g1, g2, g3⟩ := own_row I hb' e1
            have hold : ∀ i (hi : i < (cut len off l).length), ∃ hm : off + i < l.length, (cut len off l)[i] = l[off + i] := by
              cases len with
              | none => intro i hi; simp [cut] at hi; exact ⟨by omega, by simp [cut]⟩
              | some n => intro i hi; simp [cut] at hi; exact ⟨by omega, by simp [cut]⟩
            have holen : (cut len off l).length = olen len l.length off := by
              cases len with
              | none => simp [olen, cut]
              | some n => simp [olen, cut] at g1 ⊢; omega
            generalize hold' : (cut len off l) = old at *
            obtain ⟨hon, ca, ccap, cx1, cx2, cx3, cx4⟩ := hC
            have hfc : ∀ w', (∀ a : Addr, w'.cell? a = w.cell? a) → (Builtin.firstCells 1 old.length (.slice ca old.length ccap)).run X.G.P w' = .ok (old.map (Value.int k)).toArray w' := by
              intro w' hw
              cases ca with
              | none => have := cx3 rfl; subst this; simp [Builtin.firstCells]
              | some q =>
                have := run_loadCells_ints (w := w') (P := X.G.P) (k := k) (l := old) (p := q) (fun i hi => ⟨(cx4 q rfl i hi).1, by rw [hw]; exact (cx4 q rfl i hi).2⟩)
                simp only [Builtin.firstCells, Nat.mul_one, this]
            unfold Oper.wp
            have hkill := I.kill id
            have hn' : (h.set id .dead)[nid]? = some .rsv := by rw [List.getElem?_set_ne hne]; exact hn
            by_cases hroom : old.length + xs.length ≤ ccap
            · cases nl with
              | true =>
                obtain ⟨q1, q2⟩ := g2 rfl
                rw [q1] at cx1
                simp only [Value.slice.injEq] at cx1
                obtain ⟨rfl, _, rfl⟩ := cx1
                have hxs : xs = [] := List.length_eq_zero_iff.1 (by omega)
                have hol : old = [] := List.length_eq_zero_iff.1 (by omega)
                subst hxs; subst hol
                rw [run a w _ w (by rw [q1]; exact run_append_nil' hu hi c1 c3 hsr)]
                obtain ⟨I', hle⟩ := hkill.1.nilRow hn' k
                have hlt := getElem?_lt hn'
                obtain ⟨p', hp'⟩ := I.loc hn
                exact hk' _ L w (by simpa [applyU] using I') (by simpa [applyU] using hkill.2.trans hle) (by
                  simp only [applyU, List.isEmpty_nil, Bool.and_true, List.append_nil]
                  exact own_nil (List.getElem?_set_self hlt) hp')
              | false =>
                obtain ⟨q, q1, q2, q3⟩ := g3 rfl
                rw [q1] at cx1
                simp only [Value.slice.injEq] at cx1
                obtain ⟨rfl, hle1, rfl⟩ := cx1
                obtain ⟨I', hle, hsome, hfr⟩ := I.moveRow (xs := xs) hb' hp hn hold hroom hsr.1 hon
                have hqq : xs ≠ [] → q = ⟨p.b, p.o + off, none⟩ := fun hxs => q3 (by have := List.length_pos_iff.2 hxs; omega)
                have hrun := run_append_room' (ty := o.type) (q := q) (sLen := old.length) (sCap := p.cap - off) hu hi c1 c3 hsr hroom (fun hxs => by
                  rw [hqq hxs]
                  exact ⟨rfl, hsome, hfr⟩)
                have hw' : w.setCells q.block (q.off + old.length) (xs.map (Value.int k)) = w.setCells p.b (p.o + off + old.length) (xs.map (Value.int k)) := by
                  by_cases hxs : xs = []
                  · subst hxs; rfl
                  · rw [hqq hxs]
                rw [run a w _ _ (by rw [q1, hle1]; exact hrun), hw']
                have hlt := getElem?_lt hn'
                have hlt2 : nid < L.length := by rw [I.len]; exact getElem?_lt hn
                exact hk' _ _ _ (by simpa [applyU] using I') (by simpa [applyU] using hle) (by
                  simp only [applyU, Bool.false_and]
                  exact own_mk (List.getElem?_set_self hlt) (List.getElem?_set_self hlt2) (by simp) rfl q2 (fun hh => by rw [q3 (by simp only at hh; omega)]))
            · obtain ⟨cv, L', w', r1, r2, r3, r4⟩ := append_any (ty := o.type) (old := old) (base := ca) (sCap := ccap) hkill.1 hu hi c1 c2 c3 hsr hn' (by omega) b1 b2 hon hfc
              rw [run a w cv w' (by rw [cx1]; exact r1)]
              have hnl : (nl && xs.isEmpty) = false := by
                cases nl with
                | false => rfl
                | true =>
                  obtain ⟨q1, q2⟩ := g2 rfl
                  rw [q1] at cx1
                  simp only [Value.slice.injEq] at cx1
                  cases xs with
                  | nil => simp at hroom; omega
                  | cons => rfl
              exact hk' cv L' w' (by simpa [applyU, hnl] using r2) (by simpa [applyU, hnl] using hkill.2.trans r3) (by simpa [applyU, hnl] using r4)
          · cases h0
        · cases h0
      · cases h0
    · cases h0
  · cases h0

end Go.Ev
