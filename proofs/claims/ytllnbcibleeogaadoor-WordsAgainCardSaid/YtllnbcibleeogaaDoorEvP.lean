/- The evaluator's soundness: comparisons of arrays and errors; copy. -/
import Derived.Test.YtllnbcibleeogaaDoorEvO
import Derived.Laws.StructEq
import Derived.Laws.Cover3
namespace Go.Ev
set_option linter.unusedSimpArgs false
set_option linter.unusedVariables false

theorem run_part_int {P : Program} {w : World} {e : TypeId} {k : IntKind} {l : List Int} {i : Nat} (he : P.underlying e = some (.int k)) (hi : i < l.length) :
    (part e (l.map (Value.int k)).toArray (i * 1)).run P w = .ok (.int k (l.getD i 0)) w := by
  have : (l.map (Value.int k)).toArray[i * 1]? = some (.int k (l.getD i 0)) := by simp [List.getElem?_eq_getElem hi, List.getD]
  simp only [part, Sem.run_bind, isAgg, run_underlying' he, Result.andThen_ok, Sem.run_pure, Bool.false_eq_true, if_false, this]

theorem forIn_eq_run {P : Program} {w : World} {e : TypeId} {k : IntKind} {d : Nat} (he : P.underlying e = some (.int k)) (xs ys : List Int) (hl : xs.length = ys.length) : ∀ (m i : Nat), i + m = xs.length →
    (forIn (List.range' i m) ((none : Option Bool), ()) fun i __s => (do
              let a ← part e (xs.map (Value.int k)).toArray (i * 1)
              let b ← part e (ys.map (Value.int k)).toArray (i * 1)
              let r ← Op.equalIn (d + 1) e a b
              if (!r) = true then pure (ForInStep.done (some false, ())) else pure (ForInStep.yield (none, ())) : Sem (ForInStep (Option Bool × Unit)))).run P w =
      .ok ((if xs.drop i == ys.drop i then none else some false), ()) w
  | 0, i, h => by
    have h1 : xs.drop i = [] := List.drop_eq_nil_of_le (by omega)
    have h2 : ys.drop i = [] := List.drop_eq_nil_of_le (by omega)
    simp [h1, h2]
  | m + 1, i, h => by
    have hx : i < xs.length := by omega
    have hy : i < ys.length := by omega
    have ih := forIn_eq_run (w := w) (d := d) he xs ys hl m (i + 1) (by omega)
    rw [List.range'_succ, List.forIn_cons]
    simp only [Sem.run_bind, run_part_int he hx, run_part_int he hy, Result.andThen_ok, run_equalIn_int w d e k k _ _ he]
    have hdx : xs.drop i = xs.getD i 0 :: xs.drop (i + 1) := by rw [List.drop_eq_getElem_cons hx]; simp [List.getD, hx]
    have hdy : ys.drop i = ys.getD i 0 :: ys.drop (i + 1) := by rw [List.drop_eq_getElem_cons hy]; simp [List.getD, hy]
    rw [hdx, hdy]
    generalize xs.getD i 0 = A
    generalize ys.getD i 0 = B
    by_cases hab : A = B
    · have hb : (A == B) = true := by simp [hab]
      simp only [hb, Bool.not_true, Bool.false_eq_true, if_false, Sem.run_pure, Result.andThen_ok]
      rw [ih]
      simp [hab]
    · have hb : (A == B) = false := by simp [hab]
      simp only [hb, Bool.not_false, if_true, Sem.run_pure, Result.andThen_ok]
      have : (A :: xs.drop (i + 1) == B :: ys.drop (i + 1)) = false := by simp [hab]
      rw [this]
      simp

theorem run_equal_ints {P : Program} {w : World} {t e : TypeId} {k : IntKind} {n : Nat} (hu : P.underlying t = some (.array n e)) (he : P.underlying e = some (.int k)) (hs : szIs P e 1 = true) (xs ys : List Int)
    (hx : xs.length = n) (hy : ys.length = n) : (Op.equal t (.agg (xs.map (Value.int k)).toArray) (.agg (ys.map (Value.int k)).toArray)).run P w = .ok (xs == ys) w := by
  refine run_equal_of ?_
  have := forIn_eq_run (P := P) (w := w) (d := 9998) he xs ys (by omega) n 0 (by omega)
  unfold Op.equalIn
  simp only [Sem.run_bind, run_underlying' hu, Result.andThen_ok, Std.Legacy.Range.forIn_eq_forIn_range', Std.Legacy.Range.size, run_sizeOf' hs]
  have hz : (n - 0 + 1 - 1) / 1 = n := by simp
  rw [hz, this]
  simp only [List.drop_zero, Result.andThen_ok]
  by_cases hxy : xs = ys
  · subst hxy; simp
  · have : (xs == ys) = false := by simp [hxy]
    simp [this]

theorem eqGuard_ints {P : Program} {t e : TypeId} {k : IntKind} {n : Nat} (hu : P.underlying t = some (.array n e)) (he : P.underlying e = some (.int k)) : P.eqGuardType P.depth t = false := by
  have : P.depth = (2 * (P.types.size + Made.depth)) + 1 + 1 := rfl
  rw [this]
  simp [Program.eqGuardType, hu, he]

/-- All comparisons but of errors. -/
theorem binE_run' {R : Type} {G : Gi} {κ : Kop R} {r : R} {op : BinOp} {ty : TypeId} {av bv : AV} (h : binE G κ op ty av bv = some r) : ∃ v, κ v [] = some r ∧ BinRun G.P op ty av bv v := by
  by_cases h1 : ∃ k n l, av = .ints k n l
  · obtain ⟨k, n, l, rfl⟩ := h1
    unfold binE at h
    split at h
    · contradiction
    · contradiction
    · contradiction
    · rename_i k1 n1 a k2 n2 b q1
      simp only [AV.ints.injEq] at q1
      obtain ⟨rfl, rfl, rfl⟩ := q1
      split at h
      · rename_i m e hu
        split at h
        · rename_i k'' he
          obtain ⟨hc, hz⟩ := cond_none h
          clear h
          simp only [Bool.and_eq_true, decide_eq_true_eq] at hc
          obtain ⟨⟨⟨⟨rfl, rfl⟩, c3⟩, c4⟩, c5⟩ := hc
          have h := hz
          clear hz
          have c3 := Nat.eq_of_beq_eq_true c3
          have c4 := Nat.eq_of_beq_eq_true c4
          subst c3; subst c4
          have key : ∀ (c : Cx) (x y : Value) (xo yo : Operand), Val c (.ints k n l) x → Val c (.ints k n b) y → (eqGuard op ty xo yo x y).run G.P c.w = .ok () c.w ∧ (Op.equal ty x y).run G.P c.w = .ok (l == b) c.w ∧ (∃ xs ys, x = .agg xs ∧ y = .agg ys) := by
            rintro c x y xo yo ⟨hx, _, rfl⟩ ⟨hy, _, rfl⟩
            exact ⟨run_eqGuard_agg c.w op ty xo yo _ _ (eqGuard_ints hu he), run_equal_ints hu he c5 l b hx hy, _, _, rfl, rfl⟩
          split at h
          · refine ⟨_, h, fun c x y xo yo hx hy => ?_⟩
            obtain ⟨q1, q2, xs, ys, rfl, rfl⟩ := key c x y xo yo hx hy
            refine ⟨.bool (l == b), q1, ?_, rfl⟩
            simp only [binOp, Sem.run_bind, q2, Result.andThen_ok, Sem.run_pure]
          · refine ⟨_, h, fun c x y xo yo hx hy => ?_⟩
            obtain ⟨q1, q2, xs, ys, rfl, rfl⟩ := key c x y xo yo hx hy
            refine ⟨.bool (!(l == b)), q1, ?_, rfl⟩
            simp only [binOp, Sem.run_bind, q2, Result.andThen_ok, Sem.run_pure]
          · cases h
        · cases h
      · cases h
    · contradiction
    · cases h
  · by_cases h2 : ∃ k nl l, av = .isl k nl l
    · obtain ⟨k, nl, l, rfl⟩ := h2
      unfold binE at h
      split at h
      · contradiction
      · contradiction
      · contradiction
      · contradiction
      · rename_i k1 nl1 l1 q1
        simp only [AV.isl.injEq] at q1
        obtain ⟨rfl, rfl, rfl⟩ := q1
        split at h
        · rename_i e hu
          refine ⟨_, h, ?_⟩
          rintro c x y xo yo ⟨_, a, cap, rfl, _, hn, _⟩ rfl
          refine ⟨.bool nl1, run_eqGuard _ _ _ _ _ _ _ _ (.inl (by simp)) (.inl (by simp)), ?_, rfl⟩
          simp only [binOp, Sem.run_bind, run_equal_slice_nil c.w ty e a _ _ hu, Result.andThen_ok, Sem.run_pure, hn nl1 rfl]
        · rename_i e hu
          refine ⟨_, h, ?_⟩
          rintro c x y xo yo ⟨_, a, cap, rfl, _, hn, _⟩ rfl
          refine ⟨.bool (!nl1), run_eqGuard _ _ _ _ _ _ _ _ (.inl (by simp)) (.inl (by simp)), ?_, rfl⟩
          simp only [binOp, Sem.run_bind, run_equal_slice_nil c.w ty e a _ _ hu, Result.andThen_ok, Sem.run_pure, hn nl1 rfl]
        · cases h
      · cases h
    · exact binE_run (fun k n l e => h1 ⟨k, n, l, e⟩) (fun k n l e => h2 ⟨k, n, l, e⟩) h

theorem ofVal_err {v : Value} {n : Nat} (h : ofVal v = .err n) : v = .nilIface ∧ n = 0 := by
  unfold ofVal at h
  split at h
  · rename_i k m
    cases hk : (k.signed || decide (0 ≤ m)) <;> simp [hk] at h
  all_goals first | (cases h; exact ⟨rfl, rfl⟩) | cases h

theorem run_equalIn_err {P : Program} {t : TypeId} {ms : Array (String × TypeId)} (hu : P.underlying t = some (.interface ms)) (d : Nat) (x : Value) (hx : x = .nilIface ∨ ∃ T v, x = .iface T v) (w : World) :
    (Op.equalIn (d + 1) t x .nilIface).run P w = .ok (match x with | .nilIface => true | _ => false) w := by
  rcases hx with rfl | ⟨T, v, rfl⟩ <;> simp only [Op.equalIn, Sem.run_bind, run_underlying' hu, Result.andThen_ok, Sem.run_pure]

theorem errE_run {R : Type} {G : Gi} {κ : Kop R} {r : R} {op : BinOp} {ty : TypeId} {av bv : AV} {xo yo : Operand} (h : errE G κ op ty av bv xo yo = some r) :
    ∃ v, κ v [] = some r ∧ ∀ (c : Cx) (x y : Value), EOk c → Val c av x → Val c bv y → (∃ u, yo = .const u) ∧ ∃ cv, (eqGuard op ty xo yo x y).run G.P c.w = .ok () c.w ∧ (binOp op ty x y).run G.P c.w = .ok cv c.w ∧ Val c v cv := by
  have key : ∀ (n : Nat) (u : Value) (ms : Array (String × TypeId)) (c : Cx) (x y : Value), G.P.underlying ty = some (.interface ms) → EOk c → Val c (.err n) x → Val c (.err 0) y →
      (eqGuard op ty xo (.const u) x y).run G.P c.w = .ok () c.w ∧ (Op.equal ty x y).run G.P c.w = .ok (Nat.beq n 0) c.w ∧ y = .nilIface ∧ (x = .nilIface ∨ ∃ T v, x = .iface T v) := by
    intro n u ms c x y hu he hx hy
    have hy : y = .nilIface := by
      have hy : y = c.eps 0 := hy
      rw [hy, he.1]
    have hx : x = c.eps n := hx
    subst hy
    have hxx : x = .nilIface ∨ ∃ T v, x = .iface T v := by
      by_cases hn : n = 0
      · subst hn; exact .inl (hx.trans he.1)
      · obtain ⟨T, v, hv⟩ := he.2 n hn; exact .inr ⟨T, v, hx.trans hv⟩
    refine ⟨?_, ?_, rfl, hxx⟩
    · rcases hxx with rfl | ⟨T, v, rfl⟩
      · unfold eqGuard
        cases op <;> simp
      · exact run_eqGuard _ _ _ _ _ _ _ _ (.inl (by simp)) (.inl (by simp))
    · refine run_equal_of ((run_equalIn_err hu 9999 x hxx c.w).trans ?_)
      by_cases hn : n = 0
      · subst hn
        have : x = .nilIface := hx.trans he.1
        subst this
        rfl
      · obtain ⟨T, v, hv⟩ := he.2 n hn
        have : x = .iface T v := hx.trans hv
        subst this
        cases n with
        | zero => exact absurd rfl hn
        | succ n => rfl
  unfold errE at h
  split at h
  · rename_i n u ms hu
    refine ⟨_, h, fun c x y he hx hy => ⟨⟨u, rfl⟩, ?_⟩⟩
    obtain ⟨q1, q2, rfl, q3⟩ := key n u ms c x y hu he hx hy
    refine ⟨.bool (Nat.beq n 0), q1, ?_, rfl⟩
    rcases q3 with rfl | ⟨T, v, rfl⟩ <;> simp only [binOp, Sem.run_bind, q2, Result.andThen_ok, Sem.run_pure]
  · rename_i n u ms hu
    refine ⟨_, h, fun c x y he hx hy => ⟨⟨u, rfl⟩, ?_⟩⟩
    obtain ⟨q1, q2, rfl, q3⟩ := key n u ms c x y hu he hx hy
    refine ⟨.bool (!Nat.beq n 0), q1, ?_, rfl⟩
    rcases q3 with rfl | ⟨T, v, rfl⟩ <;> simp only [binOp, Sem.run_bind, q2, Result.andThen_ok, Sem.run_pure]
  · cases h


/-! ### copy -/

theorem lenOf_slice {P : Program} {w : World} (a : Option Addr) (n c : Nat) : (Builtin.lenOf (.slice a n c)).run P w = .ok n w := rfl

theorem run_copy' {P : Program} {w : World} {t ts e ty : TypeId} {k : IntKind} {xs : List Int} {x : Value} (ht : P.underlying t = some (.slice e)) (hs : szIs P e 1 = true) (hr : SrcRun P w k xs x) {q : Addr} {dLen dCap : Nat}
    (hq : 0 < min xs.length dLen → q.spot = none ∧ (∀ j, j < min xs.length dLen → (w.cell? ⟨q.block, q.off + j, none⟩).isSome = true) ∧ (∀ j, j < min xs.length dLen → w.frozen? ⟨q.block, q.off + j, none⟩ = false)) :
    (Builtin.copy_ #[t, ts] ty #[.slice (some q) dLen dCap, x]).run P w = .ok (.int .i64 (min xs.length dLen : Nat)) (w.setCells q.block q.off ((xs.take (min xs.length dLen)).map (Value.int k))) := by
  obtain ⟨_, r1, r2⟩ := hr
  have r2 := r2 w (fun _ => rfl) (min xs.length dLen) (Nat.min_le_left _ _)
  have hst : (storeCells q (((xs.take (min xs.length dLen)).map (Value.int k)).toArray).toList).run P w = .ok () (w.setCells q.block q.off ((xs.take (min xs.length dLen)).map (Value.int k))) := by
    by_cases h0 : min xs.length dLen = 0
    · rw [h0]; rfl
    · obtain ⟨h1, h2, h3⟩ := hq (by omega)
      have hl : ((xs.take (min xs.length dLen)).map (Value.int k)).length = min xs.length dLen := by simp
      have := run_storeCells_cells (P := P) q.block q.off ((xs.take (min xs.length dLen)).map (Value.int k)) 0 w (by rw [hl]; simpa using h2) (by rw [hl]; simpa using h3) (fun v hv => by obtain ⟨z, _, rfl⟩ := List.mem_map.1 hv; rfl)
      have hqq : q = ⟨q.block, q.off, none⟩ := by cases q; simp_all
      rw [← hqq] at this
      simpa using this
  have hmin : Nat.min xs.length dLen = min xs.length dLen := rfl
  simp only [Builtin.copy_, List.getElem?_toArray, List.getElem?_cons_zero, List.getElem?_cons_succ, Sem.run_bind, run_underlying' ht, Result.andThen_ok, r1, hmin, run_sizeOf' hs, r2, hst, Sem.run_pure, goInt]

theorem run_copy_nil' {P : Program} {w : World} {t ts e ty : TypeId} {k : IntKind} {xs : List Int} {x : Value} (ht : P.underlying t = some (.slice e)) (hs : szIs P e 1 = true) (hr : SrcRun P w k xs x) :
    (Builtin.copy_ #[t, ts] ty #[.slice none 0 0, x]).run P w = .ok (.int .i64 0) w := by
  obtain ⟨_, r1, r2⟩ := hr
  have r2 := r2 w (fun _ => rfl) 0 (Nat.zero_le _)
  have hmin : Nat.min xs.length 0 = 0 := Nat.min_zero _
  simp only [Builtin.copy_, List.getElem?_toArray, List.getElem?_cons_zero, List.getElem?_cons_succ, Sem.run_bind, run_underlying' ht, Result.andThen_ok, r1, hmin, run_sizeOf' hs, r2, Sem.run_pure, goInt]
  rfl

theorem get3 {α : Type} (a b c : List α) (i : Nat) : (a ++ b ++ c)[i]? = if i < a.length then a[i]? else if i < a.length + b.length then b[i - a.length]? else c[i - a.length - b.length]? := by
  by_cases h1 : i < a.length
  · rw [if_pos h1, List.append_assoc, List.getElem?_append_left h1]
  · rw [if_neg h1, List.append_assoc, List.getElem?_append_right (by omega)]
    by_cases h2 : i < a.length + b.length
    · rw [if_pos h2, List.getElem?_append_left (by omega)]
    · rw [if_neg h2, List.getElem?_append_right (by omega)]

theorem splice_get {l ys : List Int} {off i : Nat} (h : off + ys.length ≤ l.length) (hi : i < (l.take off ++ (ys ++ l.drop (off + ys.length))).length) :
    ∃ hi' : i < l.length, (l.take off ++ (ys ++ l.drop (off + ys.length)))[i] = (if h : off ≤ i ∧ i < off + ys.length then ys[i - off]'(by omega) else l[i]) := by
  have hlen : (l.take off ++ (ys ++ l.drop (off + ys.length))).length = l.length := by simp; omega
  refine ⟨by omega, ?_⟩
  simp only [List.getElem_append, List.length_take, Nat.min_eq_left (show off ≤ l.length by omega)]
  by_cases h1 : i < off
  · rw [dif_pos h1, dif_neg (by omega)]; simp
  · rw [dif_neg h1]
    by_cases h2 : i < off + ys.length
    · rw [dif_pos (by omega), dif_pos ⟨by omega, h2⟩]
    · rw [dif_neg (by omega), dif_neg (by omega)]
      rw [List.getElem_drop]
      congr 1; omega

/-- A row's elements written from a place on. -/
theorem Inv.putRow {X : Fx} {h : List Blk} {L : List Loc} {w : World} (I : Inv X h L w) {id off : Nat} {k : IntKind} {l ys : List Int} {p : Loc} (hb : h[id]? = some (.row k false l)) (hp : L[id]? = some p) (hlen : off + ys.length ≤ l.length) (hy : NN k ys) :
    Inv X (h.set id (.row k false (l.take off ++ (ys ++ l.drop (off + ys.length))))) L (w.setCells p.b (p.o + off) (ys.map (Value.int k))) ∧
      Cx.Le (cx X h L w) (cx X (h.set id (.row k false (l.take off ++ (ys ++ l.drop (off + ys.length))))) L (w.setCells p.b (p.o + off) (ys.map (Value.int k)))) ∧
      (∀ j, j < ys.length → (w.cell? ⟨p.b, p.o + off + j, none⟩).isSome = true) ∧ (∀ j, j < ys.length → w.frozen? ⟨p.b, p.o + off + j, none⟩ = false) := by
  obtain ⟨g1, g2, g3⟩ := I.blk id _ p hb hp
  obtain ⟨q1, q2, q3⟩ := g3 rfl
  have hsome : ∀ j, j < ys.length → (w.cell? ⟨p.b, p.o + off + j, none⟩).isSome = true := fun j hj => by
    obtain ⟨⟨x, hx⟩, _⟩ := q3 (off + j) (by omega)
    have hx : w.cell? _ = _ := hx
    rw [show p.o + off + j = p.o + (off + j) by omega, hx]; rfl
  have hfr : ∀ j, j < ys.length → w.frozen? ⟨p.b, p.o + off + j, none⟩ = false := fun j hj => by
    have hx : w.frozen? _ = _ := (q3 (off + j) (by omega)).2
    rw [show p.o + off + j = p.o + (off + j) by omega, hx]
  have hl2 : (l.take off ++ (ys ++ l.drop (off + ys.length))).length = l.length := by simp; omega
  obtain ⟨I', hle⟩ := I.write (b := .row k false (l.take off ++ (ys ++ l.drop (off + ys.length)))) (w' := w.setCells p.b (p.o + off) (ys.map (Value.int k))) hb hp (by simp only [Blk.sh, hl2])
    (Step.setCells _ _ _ _ fun j hj => ⟨rfl, rfl, by omega, by simp at hj; omega⟩) (fun hle => by
      refine ⟨fun hk z hz => ?_, by simp, fun _ => ⟨by omega, fun i hi => ?_, fun i hi => ⟨?_, ?_⟩⟩⟩
      · rcases List.mem_append.1 hz with hz | hz
        · exact g1 hk _ (List.mem_of_mem_take hz)
        · rcases List.mem_append.1 hz with hz | hz
          · exact hy hk _ hz
          · exact g1 hk _ (List.mem_of_mem_drop hz)
      · show (w.setCells p.b (p.o + off) (ys.map (Value.int k))).cell? _ = _
        obtain ⟨hi', he⟩ := splice_get hlen hi
        rw [he]
        by_cases hin : off ≤ i ∧ i < off + ys.length
        · rw [dif_pos hin]
          have := World.cell?_setCells_in p.b (ys.map (Value.int k)) (p.o + off) w (by simpa using hsome) (i - off) (by simp; omega)
          rw [show p.o + off + (i - off) = p.o + i by omega] at this
          rw [this]; simp
        · rw [dif_neg hin, World.cell?_setCells_out _ _ _ _ _ (fun _ _ => by simp; omega)]
          exact q2 i hi'
      · by_cases hin : off ≤ i ∧ i < off + ys.length
        · have := World.cell?_setCells_in p.b (ys.map (Value.int k)) (p.o + off) w (by simpa using hsome) (i - off) (by simp; omega)
          rw [show p.o + off + (i - off) = p.o + i by omega] at this
          exact ⟨_, this⟩
        · obtain ⟨⟨x, hx⟩, _⟩ := q3 i hi
          refine ⟨x, ?_⟩
          show (w.setCells p.b (p.o + off) (ys.map (Value.int k))).cell? _ = _
          rw [World.cell?_setCells_out _ _ _ _ _ (fun _ _ => by simp; omega)]
          exact hx
      · show (w.setCells p.b (p.o + off) (ys.map (Value.int k))).frozen? _ = _
        rw [World.frozen?_setCells]; exact (q3 i hi).2)
  exact ⟨I', hle, hsome, hfr⟩

/-- An array's elements written from a place on. -/
theorem Inv.putArr {X : Fx} {h : List Blk} {L : List Loc} {w : World} (I : Inv X h L w) {id off o : Nat} {path : List Nat} {k : IntKind} {n : Nat} {v v' : AV} {l ys : List Int} {p : Loc} (hb : h[id]? = some (.var v)) (hp : L[id]? = some p)
    (hg : getP v path = some (.ints k n l)) (hat : Sh.at (sh v) path = some (o, .ints n)) (hlen : off + ys.length ≤ l.length) (hy : NN k ys)
    (hset : setP v path (.ints k n (l.take off ++ (ys ++ l.drop (off + ys.length)))) = some v') :
    Inv X (h.set id (.var v')) L (w.setCells p.b (p.o + o + off) (ys.map (Value.int k))) ∧ Cx.Le (cx X h L w) (cx X (h.set id (.var v')) L (w.setCells p.b (p.o + o + off) (ys.map (Value.int k)))) ∧
      (∀ j, j < ys.length → (w.cell? ⟨p.b, p.o + o + off + j, none⟩).isSome = true) ∧ (∀ j, j < ys.length → w.frozen? ⟨p.b, p.o + o + off + j, none⟩ = false) := by
  obtain ⟨cs, g1, g2⟩ := I.blk id _ p hb hp
  obtain ⟨pre, cold, post, rfl, hpre, q1, q2, q3⟩ := Cells_at path v _ cs o _ g1 hg hat
  obtain ⟨hl, hnn, rfl⟩ := q1
  have hl2 : (l.take off ++ (ys ++ l.drop (off + ys.length))).length = l.length := by simp; omega
  have hcy : Cells (cx X h L w) (.ints k n (l.take off ++ (ys ++ l.drop (off + ys.length)))) ((l.take off ++ (ys ++ l.drop (off + ys.length))).map (Value.int k)) := by
    refine ⟨by omega, fun hk z hz => ?_, rfl⟩
    rcases List.mem_append.1 hz with hz | hz
    · exact hnn hk _ (List.mem_of_mem_take hz)
    · rcases List.mem_append.1 hz with hz | hz
      · exact hy hk _ hz
      · exact hnn hk _ (List.mem_of_mem_drop hz)
  have hkind : ∀ (p : List Nat) (v : AV) (m : List Int), getP v p = some (.ints k n l) → kindOk v p (.ints k n m) = true := by
    intro p
    induction p with
    | nil => intro v m _; cases v <;> rfl
    | cons i p ih =>
      intro v m hg
      cases v with
      | ints k' n' l' => cases p <;> simp [getP] at hg
      | agg l' =>
        simp only [getP] at hg
        simp only [kindOk]
        cases hv : l'[i]? with
        | none => simp [hv] at hg
        | some v0 => simp only [hv] at hg ⊢; exact ih v0 m hg
      | _ => simp [getP] at hg
  obtain ⟨r1, r2⟩ := q3 _ _ v' hcy rfl hset (hkind path v _ hg)
  have hclen := Cells_len _ _ g1
  have hin : ∀ j, j < l.length → o + j < (pre ++ l.map (Value.int k) ++ post).length := fun j hj => by simp [hpre]; omega
  have hsome : ∀ j, j < ys.length → (w.cell? ⟨p.b, p.o + o + off + j, none⟩).isSome = true := fun j hj => by
    have : w.cell? _ = _ := (g2 (o + (off + j)) (hin _ (by omega))).1
    rw [show p.o + o + off + j = p.o + (o + (off + j)) by omega, this]; rfl
  have hfr : ∀ j, j < ys.length → w.frozen? ⟨p.b, p.o + o + off + j, none⟩ = false := fun j hj => by
    have : w.frozen? _ = _ := (g2 (o + (off + j)) (hin _ (by omega))).2
    rw [show p.o + o + off + j = p.o + (o + (off + j)) by omega, this]
  obtain ⟨I', hle⟩ := I.write (b := .var v') (w' := w.setCells p.b (p.o + o + off) (ys.map (Value.int k))) hb hp (by simp [Blk.sh, r2]) (Step.setCells _ _ _ _ fun j hj => by
      refine ⟨rfl, by omega, ?_⟩
      have := hin (off + j) (by simp at hj; omega)
      rw [hclen] at this
      omega) (fun hle => by
    refine ⟨_, Cells.le hle _ _ r1, fun i hi => ?_⟩
    have hi' : i < (pre ++ l.map (Value.int k) ++ post).length := by simp at hi ⊢; omega
    have hold := g2 i hi'
    simp only [cx] at hold
    refine ⟨?_, ?_⟩
    · show (w.setCells p.b (p.o + o + off) (ys.map (Value.int k))).cell? _ = _
      by_cases hi1 : o + off ≤ i ∧ i < o + off + ys.length
      · have := World.cell?_setCells_in p.b (ys.map (Value.int k)) (p.o + o + off) w (by simpa using hsome) (i - (o + off)) (by simp; omega)
        rw [show p.o + o + off + (i - (o + off)) = p.o + i by omega] at this
        rw [this]
        have hi2 : i - o < (l.take off ++ (ys ++ l.drop (off + ys.length))).length := by omega
        obtain ⟨_, he⟩ := splice_get hlen hi2
        have e : (pre ++ (l.take off ++ (ys ++ l.drop (off + ys.length))).map (Value.int k) ++ post)[i]? = some (.int k ((l.take off ++ (ys ++ l.drop (off + ys.length)))[i - o])) := by
          rw [List.append_assoc, List.getElem?_append_right (by omega), List.getElem?_append_left (by simp only [List.length_map]; omega), hpre, List.getElem?_map, List.getElem?_eq_getElem hi2]
          rfl
        rw [← List.getElem?_eq_getElem, ← List.getElem?_eq_getElem, e, he, dif_pos (by omega)]
        simp only [List.getElem?_map, List.getElem?_eq_getElem (show i - (o + off) < ys.length by omega), Option.map_some]
        congr 2
        congr 1; omega
      · rw [World.cell?_setCells_out _ _ _ _ _ (fun _ _ => by simp; omega), hold.1]
        have e : (pre ++ (l.take off ++ (ys ++ l.drop (off + ys.length))).map (Value.int k) ++ post)[i]? = (pre ++ l.map (Value.int k) ++ post)[i]? := by
          rw [get3, get3, hpre]
          simp only [List.length_map, hl2]
          by_cases h1 : i < o
          · rw [if_pos h1, if_pos h1]
          · rw [if_neg h1, if_neg h1]
            by_cases h2 : i < o + l.length
            · rw [if_pos h2, if_pos h2]
              have hi2 : i - o < (l.take off ++ (ys ++ l.drop (off + ys.length))).length := by omega
              obtain ⟨hh, he⟩ := splice_get hlen hi2
              rw [List.getElem?_map, List.getElem?_map, List.getElem?_eq_getElem hi2, List.getElem?_eq_getElem hh, he, dif_neg (by omega)]
            · rw [if_neg h2, if_neg h2]
        rw [← List.getElem?_eq_getElem, ← List.getElem?_eq_getElem, e]
    · show (w.setCells p.b (p.o + o + off) (ys.map (Value.int k))).frozen? _ = _
      rw [World.frozen?_setCells]; exact hold.2)
  exact ⟨I', hle, hsome, hfr⟩

theorem copyE_ok {G : Gi} {R : Type} {κ : Kop R} {r : R} {o : Oper} {c : Call} {d s : Operand} {t : List AV} {look : Nat → Blk} {nid : Nat} (ho : o.op = .call c) (hc : c.callee = .builtin .copy) (ha : c.args.toList = [d, s])
    (hat : ∃ ts, c.argTypes = #[argT c 0, ts]) (h0 : copyE G look κ (argT c 0) (evO t d) (evO t s) = some r) : ∃ v us, κ v us = some r ∧ OpOk G o t look nid v us := by
  obtain ⟨ts, hargs⟩ := hat
  have hca : c.args = #[d, s] := by
    have : c.args.toList = (#[d, s] : Array Operand).toList := ha
    exact Array.toList_inj.1 this
  have hops : ∀ (x : Operand), x = d ∨ x = s → x ∈ o.op.operands.toList := by
    intro x hx
    simp only [ho, Op.operands, Call.operands, hc, hca]
    simpa using hx
  have run : ∀ (a : Act) (w : World) (cv : Value) (w' : World), (Builtin.copy_ #[argT c 0, ts] o.type #[a.eval d, a.eval s]).run G.P w = .ok cv w' → (execOp a.eval o).run G.P w = .ok (.value cv) w' := by
    intro a w cv w' hrun
    simp only [execOp, ho, resolve, hc, hca, hargs, Sem.run_bind, Sem.run_pure, Result.andThen_ok, invoke, builtin]
    simp [hrun]
  unfold copyE at h0
  split at h0
  · rename_i e hu
    split at h0
    · rename_i k hk
      obtain ⟨hs, h1⟩ := cond_none h0
      clear h0
      split at h1
      · rename_i xs id path off len hsrc hd
        split at h1
        · rename_i k' nl l hb
          split at h1
          · obtain ⟨hkk, h2⟩ := cond_none h1
            clear h1
            have hkk := of_decide_eq_true hkk
            subst hkk
            refine ⟨_, _, h2, fun X hXG => ?_⟩
            subst hXG
            refine fun h L a w next Q I hvv hl _ hk' => .inl ?_
            have hb' := lookOk.get hl hb (by simp)
            have e1 := hvv d (hops d (.inl rfl))
            have e2 := hvv s (hops s (.inr rfl))
            rw [hd] at e1
            have hsr := srcE_run hsrc X h L w _ I hl e2
            obtain ⟨p, hp, g1, g2, g3⟩ := own_row I hb' e1
            unfold Oper.wp
            cases nl with
            | true =>
              obtain ⟨q1, rfl⟩ := g2 rfl
              have hz : olen len ([] : List Int).length off = 0 := by simp only [List.length_nil] at g1 ⊢; omega
              have hoff : off = 0 := by simp only [List.length_nil] at g1; omega
              rw [run a w _ w (by rw [q1]; exact run_copy_nil' hu hs hsr)]
              refine hk' _ L w ?_ ?_ ?_
              · simp only [applyU, hz, Nat.min_zero, List.take_zero, List.take_nil, List.drop_nil, List.append_nil]
                rw [list_set_self _ _ _ hb']; exact I
              · simp only [applyU, hz, Nat.min_zero, List.take_zero, List.take_nil, List.drop_nil, List.append_nil]
                rw [list_set_self _ _ _ hb']; exact Cx.Le.refl _
              · simp only [hz, Nat.min_zero]
                exact ⟨rfl, by simp [NN, IntKind.signed]⟩
            | false =>
              obtain ⟨q, q1, q2, q3⟩ := g3 rfl
              have hylen : (xs.take (min xs.length (olen len l.length off))).length = min xs.length (olen len l.length off) := by simp
              obtain ⟨I', hle, hsome, hfr⟩ := I.putRow (off := off) (ys := xs.take (min xs.length (olen len l.length off))) hb' hp (by rw [hylen]; omega) (hsr.1.sub fun z hz => List.mem_of_mem_take hz)
              obtain ⟨rr1, rr2, rr3⟩ := (I.blk id _ p hb' hp).2.2 rfl
              have hqq : 0 < min xs.length (olen len l.length off) → q = ⟨p.b, p.o + off, none⟩ := fun hh => q3 (by omega)
              have hrun := run_copy' (ty := o.type) (ts := ts) (q := q) (dLen := olen len l.length off) (dCap := p.cap - off) hu hs hsr (fun hh => by
                rw [hqq hh]
                rw [hylen] at hsome hfr
                exact ⟨rfl, hsome, hfr⟩)
              have hw' : w.setCells q.block q.off ((xs.take (min xs.length (olen len l.length off))).map (Value.int k)) = w.setCells p.b (p.o + off) ((xs.take (min xs.length (olen len l.length off))).map (Value.int k)) := by
                by_cases hh : 0 < min xs.length (olen len l.length off)
                · rw [hqq hh]
                · have : min xs.length (olen len l.length off) = 0 := by omega
                  rw [this]; rfl
              rw [run a w _ _ (by rw [q1]; exact hrun), hw']
              rw [hylen] at I' hle
              exact hk' _ L _ (by simpa only [applyU] using I') (by simpa only [applyU] using hle) ⟨rfl, by simp [NN, IntKind.signed]⟩
          · cases h1
        · rename_i v hb
          split at h1
          · rename_i k' m l hg
            obtain ⟨hkk, h2⟩ := cond_none h1
            clear h1
            have hkk := of_decide_eq_true hkk
            subst hkk
            simp only at h2
            split at h2
            · rename_i v' hset
              refine ⟨_, _, h2, fun X hXG => ?_⟩
              subst hXG
              refine fun h L a w next Q I hvv hl _ hk' => .inl ?_
              have hb' := lookOk.get hl hb (by simp)
              have e1 := hvv d (hops d (.inl rfl))
              have e2 := hvv s (hops s (.inr rfl))
              rw [hd] at e1
              have hsr := srcE_run hsrc X h L w _ I hl e2
              obtain ⟨p, oo, hp, hat, hml, hnn, g1, ⟨q, q1, q2, q3⟩, g3⟩ := own_arr I hb' hg e1
              have hylen : (xs.take (min xs.length (olen len m off))).length = min xs.length (olen len m off) := by simp
              obtain ⟨I', hle, hsome, hfr⟩ := I.putArr (off := off) (ys := xs.take (min xs.length (olen len m off))) hb' hp hg hat (by rw [hylen]; omega) (hsr.1.sub fun z hz => List.mem_of_mem_take hz) (by rw [hylen]; exact hset)
              have hqq : 0 < min xs.length (olen len m off) → q = ⟨p.b, p.o + oo + off, none⟩ := fun hh => q3 (by omega)
              have hrun := run_copy' (ty := o.type) (ts := ts) (q := q) (dLen := olen len m off) (dCap := m - off) hu hs hsr (fun hh => by
                rw [hqq hh]
                rw [hylen] at hsome hfr
                exact ⟨rfl, hsome, hfr⟩)
              have hw' : w.setCells q.block q.off ((xs.take (min xs.length (olen len m off))).map (Value.int k)) = w.setCells p.b (p.o + oo + off) ((xs.take (min xs.length (olen len m off))).map (Value.int k)) := by
                by_cases hh : 0 < min xs.length (olen len m off)
                · rw [hqq hh]
                · have : min xs.length (olen len m off) = 0 := by omega
                  rw [this]; rfl
              unfold Oper.wp
              rw [run a w _ _ (by rw [q1]; exact hrun), hw']
              exact hk' _ L _ (by simpa only [applyU] using I') (by simpa only [applyU] using hle) ⟨rfl, by simp [NN, IntKind.signed]⟩
            · cases h2
          · cases h1
        · cases h1
      · rename_i xs hsrc hd
        refine ⟨_, _, h1, fun X hXG => ?_⟩
        subst hXG
        refine fun h L a w next Q I hvv hl _ hk' => .inl ?_
        have e1 := hvv d (hops d (.inl rfl))
        have e2 := hvv s (hops s (.inr rfl))
        rw [hd] at e1
        have e1 : a.eval d = .slice none 0 0 := e1
        have hsr := srcE_run hsrc X h L w _ I hl e2
        unfold Oper.wp
        rw [run a w _ w (by rw [e1]; exact run_copy_nil' hu hs hsr)]
        exact hk' _ L w I (Cx.Le.refl _) ⟨rfl, by simp [NN, IntKind.signed]⟩
      · cases h1
    · cases h0
  · cases h0

end Go.Ev
