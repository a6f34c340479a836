/- The evaluator's soundness: structs and arrays written out; copy; the rest. -/
import Derived.Test.YtllnbcibleeogaaDoorEvN
namespace Go.Ev
set_option linter.unusedSimpArgs false
set_option linter.unusedVariables false

theorem foldl_splice : ∀ (vs : List Value) (k off : Nat) (pre old post : List Value), pre.length = off + k → old.length = vs.length →
    (vs.zipIdx k).foldl (fun (cs : Array Value) (p : Value × Nat) => cs.setIfInBounds (off + p.2) p.1) (pre ++ old ++ post).toArray = (pre ++ vs ++ post).toArray
  | [], k, off, pre, old, post, h1, h2 => by
    have : old = [] := List.length_eq_zero_iff.1 h2
    subst this; rfl
  | v :: vs, k, off, pre, [], post, h1, h2 => by simp at h2
  | v :: vs, k, off, pre, o :: old, post, h1, h2 => by
    simp only [List.zipIdx_cons, List.foldl_cons]
    have : (pre ++ o :: old ++ post).toArray.setIfInBounds (off + k) v = ((pre ++ [v]) ++ old ++ post).toArray := by
      rw [List.setIfInBounds_toArray]
      congr 1
      rw [← h1]
      simp
    rw [this, foldl_splice vs (k + 1) off (pre ++ [v]) old post (by simp; omega) (by simpa using h2)]
    simp

theorem fillE_ok {c : Cx} (he : EOk c) {place : Nat → Option (Nat × Nat)} {vals : Operand → Value} : ∀ (ps : List (Nat × Operand)) (t : List AV) (z v : AV) (cs : List Value),
    fillE place (ps.map fun p => (p.1, evO t p.2)) z = some v → Cells c z cs → (∀ p ∈ ps, Val c (evO t p.2) (vals p.2)) →
    ∃ cs', Instr.fill place cs.toArray (ps.map fun p => (p.1, vals p.2)) = some cs'.toArray ∧ Cells c v cs'
  | [], t, z, v, cs, h, hc, _ => by
    simp only [List.map_nil, fillE, Option.some.injEq] at h
    subst h
    exact ⟨cs, rfl, hc⟩
  | p :: ps, t, z, v, cs, h, hc, hv => by
    simp only [List.map_cons, fillE] at h
    split at h
    · rename_i off size o s hpl hat
      obtain ⟨hcc, h⟩ := cond_none h
      simp only [Bool.and_eq_true] at hcc
      obtain ⟨⟨⟨⟨c1, c2⟩, c3⟩, c4⟩, c5⟩ := hcc
      have c1 := Nat.eq_of_beq_eq_true c1
      have c2 := Nat.eq_of_beq_eq_true c2
      have c3 := shbeq _ _ c3
      split at h
      · rename_i z' hset
        have hx := Cells_of_Val he (hv p (by simp)) c4
        have hg : ∃ old, getP z [p.1] = some old := by
          cases z <;> simp [sh, Sh.at] at hat
          · exact ⟨_, rfl⟩
          · rename_i l
            simp only [shL_eq, List.getElem?_map] at hat
            cases hl : l[p.1]? with
            | none => simp [hl] at hat
            | some x => exact ⟨x, by simp [getP, hl]⟩
        obtain ⟨old, hg⟩ := hg
        obtain ⟨pre, cold, post, rfl, hpre, q1, q2, q3⟩ := Cells_at [p.1] z old cs o s hc hg hat
        obtain ⟨r1, r2⟩ := q3 _ _ z' hx c3 hset c5
        obtain ⟨cs', g1, g2⟩ := fillE_ok he ps t z' v _ h r1 (fun p hp => hv p (by simp [hp]))
        refine ⟨cs', ?_, g2⟩
        have hl1 : (vals p.2).cells.size = size := by
          have := Cells_len _ _ hx
          rw [c3, Array.length_toList] at this
          omega
        have hl2 : cold.length = (vals p.2).cells.toList.length := by rw [Cells_len _ _ q1, q2, Array.length_toList]; omega
        simp only [List.map_cons, Instr.fill, hpl]
        rw [if_neg (by simp; simp at hl2; omega)]
        have hz : (vals p.2).cells.zipIdx.foldl (fun cs x => cs.setIfInBounds (off + x.2) x.1) (pre ++ cold ++ post).toArray = (pre ++ (vals p.2).cells.toList ++ post).toArray := by
          rw [← Array.foldl_toList, Array.toList_zipIdx]
          exact foldl_splice _ 0 off pre cold post (by omega) hl2
        rw [hz]
        exact g1
      · cases h
    · cases h

theorem places_run {P : Program} {w : World} : ∀ (fs : List Field) (l : List (Nat × Nat)), places P fs = some l → (fs.mapM fun f => do pure (f.offset, ← sizeOf f.type) : Sem (List (Nat × Nat))).run P w = .ok l w
  | [], l, h => by simp only [places, Option.some.injEq] at h; subst h; rfl
  | f :: fs, l, h => by
    simp only [places] at h
    split at h
    · rename_i i l' hi hl
      simp only [Option.some.injEq] at h
      subst h
      have := places_run (w := w) fs l' hl
      simp only [List.mapM_cons, Sem.run_bind, sizeOf, typeInfo, run_program, Result.andThen_ok, hi, Sem.run_pure] at this ⊢
      simp only [this, Result.andThen_ok, Sem.run_pure]
    · cases h

theorem buildE_ok {G : Gi} {R : Type} {κ : Kop R} {r : R} {o : Oper} {ty : TypeId} {parts : Array (Nat × Operand)} {t : List AV} {look : Nat → Blk} {nid : Nat} (ho : o.op = .build ty parts)
    (h0 : buildE G κ ty (parts.toList.map fun p => (p.1, evO t p.2)) = some r) : ∃ v us, κ v us = some r ∧ OpOk G o t look nid v us := by
  have hops : ∀ (X : Fx) (h : List Blk) (L : List Loc) (a : Act) (w : World), (∀ x ∈ o.op.operands.toList, Val (cx X h L w) (evO t x) (a.eval x)) → ∀ p ∈ parts.toList, Val (cx X h L w) (evO t p.2) (a.eval p.2) :=
    fun X h L a w hv p hp => hv p.2 (by simp only [ho, Op.operands, List.mem_map]; exact ⟨p, hp, rfl⟩)
  unfold buildE at h0
  split at h0
  · cases h0
  · rename_i z hz
    split at h0
    · rename_i fs hu
      split at h0
      · rename_i l hl
        split at h0
        · rename_i v hf
          obtain ⟨hag, h0⟩ := cond_none h0
          refine ⟨v, [], h0, OpOk.pure fun X hXG => ?_⟩
          subst hXG
          refine fun h L a w I hv _ => ?_
          obtain ⟨zv, q1, q2⟩ := zeroAV_ok (c := cx X h L w) I.eok hz w
          obtain ⟨cs', g1, g2⟩ := fillE_ok (c := cx X h L w) I.eok (vals := a.eval) parts.toList t z v _ hf q2 (hops X h L a w hv)
          rw [Array.toArray_toList] at g1
          refine ⟨.agg cs'.toArray, ?_, Val_of_Cells_ag g2 hag⟩
          have hm := places_run (P := X.G.P) (w := w) fs.toList l hl
          have hm' : (fs.mapM fun f => do pure (f.offset, ← sizeOf f.type) : Sem (Array (Nat × Nat))).run X.G.P w = .ok l.toArray w := by
            rw [Array.mapM_eq_mapM_toList]
            simp only [Sem.run_map, hm, Result.andThen_ok]
          have hpl : (fun (i : Nat) => (l.toArray : Array (Nat × Nat))[i]?) = (fun (i : Nat) => l[i]?) := by funext i; simp
          simp only [execOp, ho, Instr.build, Sem.run_bind, q1, Result.andThen_ok, run_underlying' hu, hm', hpl]
          simp only [Array.toList_map, g1, Sem.run_pure, Result.andThen_ok]
        · cases h0
      · cases h0
    · rename_i n e hu
      obtain ⟨hs, h0⟩ := cond_none h0
      split at h0
      · rename_i v hf
        obtain ⟨hag, h0⟩ := cond_none h0
        refine ⟨v, [], h0, OpOk.pure fun X hXG => ?_⟩
        subst hXG
        refine fun h L a w I hv _ => ?_
        obtain ⟨zv, q1, q2⟩ := zeroAV_ok (c := cx X h L w) I.eok hz w
        obtain ⟨cs', g1, g2⟩ := fillE_ok (c := cx X h L w) I.eok (vals := a.eval) parts.toList t z v _ hf q2 (hops X h L a w hv)
        rw [Array.toArray_toList] at g1
        refine ⟨.agg cs'.toArray, ?_, Val_of_Cells_ag g2 hag⟩
        simp only [execOp, ho, Instr.build, Sem.run_bind, q1, Result.andThen_ok, run_underlying' hu, run_sizeOf' hs, Nat.mul_one]
        simp only [Array.toList_map, g1, Sem.run_pure, Result.andThen_ok]
      · cases h0
    · cases h0

end Go.Ev
