/- The evaluator's soundness: what is built, made, put behind. -/
import Derived.Test.YtllnbcibleeogaaDoorEvK
namespace Go.Ev
set_option linter.unusedSimpArgs false
set_option linter.unusedVariables false

/-! ### slices made -/

theorem intZero_ok {i : TypeInfo} {k : IntKind} (h : intZero i k = true) : i.zero = some (.int k 0) := by
  unfold intZero at h
  split at h
  · rename_i k' n hz
    simp only [Bool.and_eq_true, decide_eq_true_eq] at h
    obtain ⟨rfl, rfl⟩ := h
    exact hz
  · cases h

theorem slZero_ok {i : TypeInfo} (h : slZero i = true) : i.zero = some (.slice none 0 0) := by
  unfold slZero at h
  split at h
  · assumption
  · cases h

theorem range0 : Array.range 0 = #[] := by apply Array.ext <;> simp

theorem run_makeSlice' {P : Program} (w : World) {t e : TypeId} {i : TypeInfo} {k kl kc : IntKind} {l c : Int} (ht : P.underlying t = some (.slice e)) (hi : P.info? e = some i) (hz : i.zero = some (.int k 0)) (hs : i.size = 1)
    (h0 : 0 ≤ IntKind.i64.wrap l) (hlc : IntKind.i64.wrap l ≤ IntKind.i64.wrap c) (hb : (i.bytes : Int) * IntKind.i64.wrap c ≤ 140737488355328) :
    (Instr.makeSlice t (.int kl l) (.int kc c)).run P w = .ok (.slice (some ⟨w.heap.size, 0, none⟩) (IntKind.i64.wrap l).toNat (IntKind.i64.wrap c).toNat)
      (w.alloc (.cells (Array.replicate (IntKind.i64.wrap c).toNat (.int k 0)) e)) := by
  have n1 : ¬ IntKind.i64.wrap c < 0 := by omega
  have n2 : ¬ (281474976710656 < (i.bytes : Int) * IntKind.i64.wrap c) := by omega
  have n3 : ¬ IntKind.i64.wrap l < 0 := by omega
  have n4 : ¬ IntKind.i64.wrap c < IntKind.i64.wrap l := by omega
  by_cases hn : (IntKind.i64.wrap c).toNat = 0
  · simp [Instr.makeSlice, run_underlying' ht, asInt, asIntOf, typeInfo, hi, sizeOf, n1, n2, n3, n4, hn, hs, newRow, askRoom, roomBytes, range0]
  · simp [Instr.makeSlice, run_underlying' ht, asInt, asIntOf, typeInfo, hi, sizeOf, zeroValue, hz, n1, n2, n3, n4, hn, hs, newRow, askRoom, roomBytes, Value.cells]
    congr 2
    apply Array.ext
    · simp
    · intro j h1 h2
      simp [Nat.mod_one]

theorem makeSliceE_ok {G : Gi} {R : Type} {κ : Kop R} {r : R} {o : Oper} {ty : TypeId} {x y : Operand} {t : List AV} {look : Nat → Blk} {nid : Nat} (ho : o.op = .makeSlice ty x y)
    (h0 : makeSliceE G nid κ ty (evO t x) (evO t y) = some r) : ∃ v us, κ v us = some r ∧ OpOk G o t look nid v us := by
  unfold makeSliceE at h0
  split at h0
  · rename_i e kl n kc m hu hex hey
    split at h0
    · rename_i k i hk hi
      obtain ⟨c1, h1⟩ := cond_none h0
      obtain ⟨c2, h2⟩ := cond_none h1
      obtain ⟨c3, h3⟩ := cond_none h2
      obtain ⟨c4, h4⟩ := cond_none h3
      clear h0 h1 h2 h3
      simp only [Bool.and_eq_true] at c1
      have c0 := Nat.eq_of_beq_eq_true c1.1
      have cz := intZero_ok c1.2
      have c2 := of_decide_eq_true c2
      have c3 := of_decide_eq_true c3
      have c4 := of_decide_eq_true c4
      refine ⟨_, _, h4, fun X hXG => ?_⟩
      subst hXG
      refine fun h L a w next Q I hvv _ hr hk => .inl ?_
      have e1 := hvv x (by simp [ho, Op.operands])
      have e2 := hvv y (by simp [ho, Op.operands])
      rw [hex] at e1; rw [hey] at e2
      obtain ⟨e1, _⟩ := e1
      obtain ⟨e2, _⟩ := e2
      have hn := hr 0 (by simp [resv, ho])
      obtain ⟨L', I', hle, hval⟩ := I.newRow (by simpa using hn) (k := k) (l := List.replicate (IntKind.i64.wrap n).toNat 0) (fun _ z hz => by rw [List.mem_replicate] at hz; omega) e
        (cs := Array.replicate (IntKind.i64.wrap m).toNat (.int k 0)) (fun i hi => by
          rw [Array.getElem?_replicate, if_pos (by rw [List.length_replicate] at hi; have := Int.toNat_le_toNat c3; omega)]; simp) (by simp; omega) (IntKind.i64.wrap m).toNat (by simp; omega) (by simp) w (.inl rfl)
      unfold Oper.wp
      have : (execOp a.eval o).run X.G.P w = .ok (.value (.slice (some ⟨w.heap.size, 0, none⟩) (IntKind.i64.wrap n).toNat (IntKind.i64.wrap m).toNat)) (w.alloc (.cells (Array.replicate (IntKind.i64.wrap m).toNat (.int k 0)) e)) := by
        simp only [execOp, ho, e1, e2, Sem.run_bind, run_makeSlice' w hu hi cz c0 c2 c3 c4, Result.andThen_ok, Sem.run_pure]
      rw [this]
      rw [List.length_replicate] at hval
      exact hk _ L' _ (by simpa [applyU] using I') (by simpa [applyU] using hle) (by simpa [applyU] using hval)
    · cases h0
  · cases h0

/-! ### slices written out -/

def setAll {α : Type} : List (Nat × α) → List α → List α
  | [], l => l
  | (i, x) :: ps, l => setAll ps (l.set i x)

theorem setAll_len {α : Type} : ∀ (ps : List (Nat × α)) (l : List α), (setAll ps l).length = l.length
  | [], _ => rfl
  | (i, x) :: ps, l => by simp [setAll, setAll_len ps]

def All2 {α β : Type} (r : α → β → Prop) : List α → List β → Prop
  | [], [] => True
  | a :: l, b :: m => r a b ∧ All2 r l m
  | _, _ => False

/-- Parts of one cell, laid in. -/
theorem fill_rel {α : Type} (Rl : α → Value → Prop) : ∀ (ps : List (Nat × α)) (vs : List (Nat × Value)) (l : List α) (cells : Array Value),
    All2 (fun (p : Nat × α) (q : Nat × Value) => p.1 = q.1 ∧ Rl p.2 q.2 ∧ q.2.cells = #[q.2] ∧ p.1 < l.length) ps vs →
    cells.size = l.length → (∀ j (h : j < l.length), ∃ v, cells[j]? = some v ∧ Rl l[j] v) →
    ∃ cells', Instr.fill (fun i => some (i * 1, 1)) cells vs = some cells' ∧ cells'.size = (setAll ps l).length ∧ ∀ j (h : j < (setAll ps l).length), ∃ v, cells'[j]? = some v ∧ Rl (setAll ps l)[j] v
  | [], [], l, cells, h, hs, hr => ⟨cells, rfl, hs, hr⟩
  | [], _ :: _, _, _, h, _, _ => h.elim
  | _ :: _, [], _, _, h, _, _ => h.elim
  | (i, x) :: ps, (i', u) :: vs, l, cells, h, hs, hr => by
    obtain ⟨⟨rfl, h3, h4, h5⟩, h2⟩ := h
    simp only at h3 h4 h5
    obtain ⟨cells', g1, g2, g3⟩ := fill_rel Rl ps vs (l.set i x) (cells.setIfInBounds i u) (by simpa using h2) (by simp [hs]) (fun j hj => by
      have hj' : j < l.length := by simpa using hj
      by_cases hij : i = j
      · subst hij
        exact ⟨u, by simp [hs, hj'], by simpa using h3⟩
      · obtain ⟨v, q1, q2⟩ := hr j hj'
        exact ⟨v, by rw [Array.getElem?_setIfInBounds_ne hij]; exact q1, by rw [List.getElem_set_ne hij]; exact q2⟩)
    refine ⟨cells', ?_, g2, g3⟩
    have hsz : u.cells.size = 1 := by rw [h4]; rfl
    simp only [Instr.fill, Nat.mul_one, hsz, ne_eq, not_true_eq_false, decide_false, Bool.false_or, decide_eq_true_eq]
    rw [if_neg (by omega), h4]
    simpa using g1

theorem setL_ok {k : IntKind} : ∀ (ps : List (Nat × AV)) (l l' : List Int), setL k ps l = some l' → ∃ qs : List (Nat × Int), ps = qs.map (fun q => (q.1, .int k q.2)) ∧ (∀ q ∈ qs, q.1 < l.length) ∧ l' = setAll qs l
  | [], l, l', h => by simp only [setL, Option.some.injEq] at h; subst h; exact ⟨[], rfl, by simp, rfl⟩
  | (i, x) :: ps, l, l', h => by
    cases x <;> simp only [setL, reduceCtorEq] at h
    rename_i k' x
    obtain ⟨h1, h2⟩ := cond_none h
    simp only [Bool.and_eq_true, decide_eq_true_eq] at h1
    obtain ⟨rfl, h3⟩ := h1
    have h3 : i < l.length := by simpa [Nat.blt_eq] using h3
    obtain ⟨qs, rfl, q2, q3⟩ := setL_ok ps _ _ h2
    refine ⟨(i, x) :: qs, rfl, ?_, q3⟩
    intro q hq
    rcases List.mem_cons.1 hq with rfl | hq
    · exact h3
    · simpa using q2 q hq

theorem mem_setAll {α : Type} : ∀ (ps : List (Nat × α)) (l : List α) (x : α), x ∈ setAll ps l → x ∈ l ∨ ∃ p ∈ ps, p.2 = x
  | [], l, x, h => .inl h
  | (i, y) :: ps, l, x, h => by
    rcases mem_setAll ps _ x h with h | ⟨p, hp, e⟩
    · rcases List.mem_or_eq_of_mem_set h with h | rfl
      · exact .inl h
      · exact .inr ⟨(i, x), by simp, rfl⟩
    · exact .inr ⟨p, by simp [hp], e⟩

theorem buildSlice_run {P : Program} {w : World} {t e : TypeId} {i : TypeInfo} {z : Value} {len : Nat} {parts : Array (Nat × Value)} {cells : Array Value} (ht : P.underlying t = some (.slice e)) (hi : P.info? e = some i) (hz : i.zero = some z)
    (hzs : z.cells = #[z]) (hs : i.size = 1) (hlen : len ≤ 100000) (hf : Instr.fill (fun i => some (i * 1, 1)) (Array.replicate len z) parts.toList = some cells) :
    (Instr.buildSlice t len parts).run P w = .ok (.slice (some ⟨w.heap.size, 0, none⟩) len len) (w.alloc (.cells cells e)) := by
  have n1 : ¬ 16777216 < len := by omega
  have key : (Array.range len).map (fun j => #[z][j % 1]!) = Array.replicate len z := by
    apply Array.ext
    · simp
    · intro j h1 h2; simp [Nat.mod_one]
  by_cases h0 : len = 0
  · subst h0
    have hf' : Instr.fill (fun i => some (i, 1)) #[] parts.toList = some cells := by simpa using hf
    simp [Instr.buildSlice, run_underlying' ht, sizeOf, typeInfo, hi, hs, range0, hf', newRow]
  · have hf' : Instr.fill (fun i => some (i, 1)) ((Array.range len).map (fun j => #[z][j % 1]!)) parts.toList = some cells := by rw [key]; simpa using hf
    simp [Instr.buildSlice, run_underlying' ht, sizeOf, typeInfo, hi, hs, n1, h0, zeroValue, hz, hzs] at hf' ⊢
    simp [hf', newRow]


theorem parts_all2 {c : Cx} (a : Act) (t : List AV) {α : Type} (emb : α → AV) : ∀ (ps : List (Nat × Operand)) (qs : List (Nat × α)) (n : Nat), ps.map (fun p => (p.1, evO t p.2)) = qs.map (fun q => (q.1, emb q.2)) →
    (∀ p ∈ ps, Val c (evO t p.2) (a.eval p.2)) → (∀ q ∈ qs, q.1 < n) → (∀ x v, Val c (emb x) v → v.cells = #[v]) →
    All2 (fun (p : Nat × α) (q : Nat × Value) => p.1 = q.1 ∧ Val c (emb p.2) q.2 ∧ q.2.cells = #[q.2] ∧ p.1 < n) qs (ps.map fun p => (p.1, a.eval p.2))
  | [], [], _, _, _, _, _ => trivial
  | [], _ :: _, _, h, _, _, _ => by simp at h
  | _ :: _, [], _, h, _, _, _ => by simp at h
  | p :: ps, q :: qs, n, h, hv, hn, hc => by
    simp only [List.map_cons, List.cons.injEq, Prod.mk.injEq] at h
    obtain ⟨⟨h1, h2⟩, h3⟩ := h
    have hq := hv p (by simp)
    rw [h2] at hq
    exact ⟨⟨h1.symm, hq, hc _ _ hq, hn q (by simp)⟩, parts_all2 a t emb ps qs n h3 (fun p hp => hv p (by simp [hp])) (fun q hq => hn q (by simp [hq])) hc⟩

theorem rowsL_ok {k : IntKind} : ∀ (ps : List (Nat × AV)) (l l' : List (List Int)), rowsL k ps l = some l' →
    ∃ qs : List (Nat × (Option (Option Bool) × List Int)), ps = qs.map (fun q => (q.1, match q.2.1 with | some nl => AV.isl k nl q.2.2 | none => AV.nils)) ∧ (∀ q ∈ qs, q.1 < l.length ∧ (q.2.1 = none → q.2.2 = [])) ∧ l' = setAll (qs.map fun q => (q.1, q.2.2)) l
  | [], l, l', h => by simp only [rowsL, Option.some.injEq] at h; subst h; exact ⟨[], rfl, by simp, rfl⟩
  | (i, x) :: ps, l, l', h => by
    cases x <;> simp only [rowsL, reduceCtorEq] at h
    · obtain ⟨h3, h2⟩ := cond_none h
      have h3 : i < l.length := by simpa [Nat.blt_eq] using h3
      obtain ⟨qs, rfl, q2, q3⟩ := rowsL_ok ps _ _ h2
      refine ⟨(i, none, []) :: qs, rfl, ?_, q3⟩
      intro q hq
      rcases List.mem_cons.1 hq with rfl | hq
      · exact ⟨h3, fun _ => rfl⟩
      · simpa using q2 q hq
    · rename_i k' nl x
      obtain ⟨h1, h2⟩ := cond_none h
      simp only [Bool.and_eq_true, decide_eq_true_eq] at h1
      obtain ⟨rfl, h3⟩ := h1
      have h3 : i < l.length := by simpa [Nat.blt_eq] using h3
      obtain ⟨qs, rfl, q2, q3⟩ := rowsL_ok ps _ _ h2
      refine ⟨(i, some nl, x) :: qs, rfl, ?_, q3⟩
      intro q hq
      rcases List.mem_cons.1 hq with rfl | hq
      · exact ⟨h3, fun e => by cases e⟩
      · simpa using q2 q hq

theorem IsSl_nil {w : World} {A : Nat → Nat → Prop} {k : IntKind} : IsSl w A k none [] (.slice none 0 0) :=
  ⟨by simp [NN], none, 0, rfl, Nat.le_refl _, by simp, fun _ => ⟨rfl, rfl⟩, fun p hp => by cases hp⟩

theorem IsSl.none {w : World} {A : Nat → Nat → Prop} {k : IntKind} {nl : Option Bool} {l : List Int} {v : Value} (h : IsSl w A k nl l v) : IsSl w A k none l v := by
  obtain ⟨h0, a, cap, h1, h2, _, h4, h5⟩ := h
  exact ⟨h0, a, cap, h1, h2, by simp, h4, h5⟩

/-- A new block that nobody owns. -/
theorem Inv.other {X : Fx} {h : List Blk} {L : List Loc} {w : World} (I : Inv X h L w) (o : Obj) : Inv X h L (w.alloc o) ∧ Cx.Le (cx X h L w) (cx X h L (w.alloc o)) :=
  I.upd (fun _ _ => False) I.len (Step.alloc _ _ _) (fun _ _ q => q.elim) (fun id s hs _ => .inl ⟨hs, rfl⟩) (fun b o q => .inl q) I.dis (fun _ id b p hb hp => .inl ⟨hb, hp, fun _ _ _ q => q⟩)

theorem not_av_fresh {X : Fx} {h : List Blk} {L : List Loc} {w : World} (I : Inv X h L w) {b o : Nat} (hb : w.heap.size ≤ b) : ¬ X.av (h.map Blk.sh) L b o := by
  rintro (q | q)
  · have := I.obd b o q; have := I.stp.size; omega
  · exact not_own_of_fresh I hb q

theorem buildSliceE_ok {G : Gi} {R : Type} {κ : Kop R} {r : R} {o : Oper} {ty : TypeId} {n : Nat} {parts : Array (Nat × Operand)} {t : List AV} {look : Nat → Blk} {nid : Nat} (ho : o.op = .buildSlice ty n parts)
    (h0 : buildSliceE G nid κ ty n (parts.toList.map fun p => (p.1, evO t p.2)) = some r) : ∃ v us, κ v us = some r ∧ OpOk G o t look nid v us := by
  unfold buildSliceE at h0
  split at h0
  · rename_i e hu
    split at h0
    · rename_i i hi
      split at h0
      · rename_i k hk
        obtain ⟨hc, h0⟩ := cond_none h0
        simp only [Bool.and_eq_true] at hc
        obtain ⟨⟨c1, c2⟩, c3⟩ := hc
        have c1 := Nat.eq_of_beq_eq_true c1
        have c2 := intZero_ok c2
        have c3 := Nat.le_of_ble_eq_true c3
        split at h0
        · rename_i l hl
          refine ⟨_, _, h0, fun X hXG => ?_⟩
          subst hXG
          refine fun h L a w next Q I hvv _ hr hk => .inl ?_
          obtain ⟨qs, q1, q2, q3⟩ := setL_ok _ _ _ hl
          have hval : ∀ p ∈ parts.toList, Val (cx X h L w) (evO t p.2) (a.eval p.2) := fun p hp => hvv p.2 (by
            simp only [ho, Op.operands, List.mem_map]; exact ⟨p, hp, rfl⟩)
          have hall := parts_all2 (c := cx X h L w) a t (emb := fun x => AV.int k x) parts.toList qs n q1 hval (fun q hq => by have := q2 q hq; simpa using this)
            (fun x v hv => by obtain ⟨rfl, _⟩ := hv; rfl)
          obtain ⟨cells, g1, g2, g3⟩ := fill_rel (fun x v => Val (cx X h L w) (AV.int k x) v) qs _ (List.replicate n 0) (Array.replicate n (.int k 0)) (by simpa using hall) (by simp)
            (fun j hj => ⟨.int k 0, by rw [List.length_replicate] at hj; rw [Array.getElem?_replicate, if_pos hj], by simp; exact ⟨rfl, by simp [NN]⟩⟩)
          subst q3
          have hlen : (setAll qs (List.replicate n 0)).length = n := by rw [setAll_len]; simp
          have hn := hr 0 (by simp [resv, ho])
          obtain ⟨L', I', hle, hval'⟩ := I.newRow (by simpa using hn) (k := k) (l := setAll qs (List.replicate n 0)) (fun hs z hz => by
              rcases mem_setAll _ _ _ hz with hz | ⟨p, hp, rfl⟩
              · rw [List.mem_replicate] at hz; omega
              · have hmem : (p.1, AV.int k p.2) ∈ parts.toList.map fun p => (p.1, evO t p.2) := by rw [q1]; exact List.mem_map.2 ⟨p, hp, rfl⟩
                obtain ⟨pp, hpp, e⟩ := List.mem_map.1 hmem
                simp only [Prod.mk.injEq] at e
                have := hval pp hpp
                rw [e.2] at this
                exact this.2 hs _ (by simp)) e
            (cs := cells) (fun i hi => by
              obtain ⟨v, r1, r2⟩ := g3 i hi
              rw [r1, r2.1]) (by rw [g2]; exact Nat.le_refl _) n (by omega) (by rw [g2]; omega) w (.inl rfl)
          unfold Oper.wp
          have : (execOp a.eval o).run X.G.P w = .ok (.value (.slice (some ⟨w.heap.size, 0, none⟩) n n)) (w.alloc (.cells cells e)) := by
            have hrun := buildSlice_run (P := X.G.P) (w := w) (t := ty) (parts := parts.map fun p => (p.1, a.eval p.2)) hu hi c2 rfl c1 c3 (by simpa using g1)
            simp only [execOp, ho, Sem.run_bind, hrun, Result.andThen_ok, Sem.run_pure]
          rw [this]
          rw [hlen] at hval'
          exact hk _ L' _ (by simpa [applyU] using I') (by simpa [applyU] using hle) (by simpa [applyU] using hval')
        · cases h0
      · rename_i e' hk'
        split at h0
        · rename_i k hk
          obtain ⟨hc, h0⟩ := cond_none h0
          simp only [Bool.and_eq_true] at hc
          obtain ⟨⟨c1, c2⟩, c3⟩ := hc
          have c1 := Nat.eq_of_beq_eq_true c1
          have c2 := slZero_ok c2
          have c3 := Nat.le_of_ble_eq_true c3
          split at h0
          · rename_i l hl
            refine ⟨_, _, h0, fun X hXG => ?_⟩
            subst hXG
            refine fun h L a w next Q I hvv _ hr hk => .inl ?_
            obtain ⟨qs, q1, q2, q3⟩ := rowsL_ok _ _ _ hl
            have hval : ∀ p ∈ parts.toList, Val (cx X h L w) (evO t p.2) (a.eval p.2) := fun p hp => hvv p.2 (by
              simp only [ho, Op.operands, List.mem_map]; exact ⟨p, hp, rfl⟩)
            have hall := parts_all2 (c := cx X h L w) a t (emb := fun (x : Option (Option Bool) × List Int) => match x.1 with | some nl => AV.isl k nl x.2 | none => AV.nils) parts.toList qs n q1 hval (fun q hq => by have := (q2 q hq).1; simpa using this)
              (fun x v hv => by
                obtain ⟨x1, x2⟩ := x
                cases x1 with
                | none => obtain rfl := hv; rfl
                | some nl => obtain ⟨_, b, cap, rfl, _⟩ := hv; rfl)
            have hall2 : All2 (fun (p : Nat × List Int) (q : Nat × Value) => p.1 = q.1 ∧ IsSl w (cx X h L w).A k none p.2 q.2 ∧ q.2.cells = #[q.2] ∧ p.1 < (List.replicate n ([] : List Int)).length) (qs.map fun q => (q.1, q.2.2))
                ((parts.map fun p => (p.1, a.eval p.2)).toList) := by
              have conv : ∀ (qs : List (Nat × (Option (Option Bool) × List Int))) (vs : List (Nat × Value)), (∀ q ∈ qs, q.2.1 = none → q.2.2 = []) →
                  All2 (fun (p : Nat × (Option (Option Bool) × List Int)) (q : Nat × Value) => p.1 = q.1 ∧ Val (cx X h L w) (match p.2.1 with | some nl => AV.isl k nl p.2.2 | none => AV.nils) q.2 ∧ q.2.cells = #[q.2] ∧ p.1 < n) qs vs →
                  All2 (fun (p : Nat × List Int) (q : Nat × Value) => p.1 = q.1 ∧ IsSl w (cx X h L w).A k none p.2 q.2 ∧ q.2.cells = #[q.2] ∧ p.1 < (List.replicate n ([] : List Int)).length) (qs.map fun q => (q.1, q.2.2)) vs := by
                intro qs
                induction qs with
                | nil => intro vs _ hh; cases vs <;> trivial
                | cons q qs ih =>
                  intro vs hq hh
                  cases vs with
                  | nil => exact hh.elim
                  | cons v vs =>
                    obtain ⟨⟨r1, r2, r3, r4⟩, r5⟩ := hh
                    refine ⟨⟨r1, ?_, r3, by simpa using r4⟩, ih vs (fun q hq' => hq q (by simp [hq'])) r5⟩
                    obtain ⟨i0, x1, x2⟩ := q
                    cases x1 with
                    | none =>
                      have hx2 : x2 = [] := hq (i0, none, x2) (List.mem_cons_self ..) rfl
                      subst hx2
                      have r2' : v.2 = .slice none 0 0 := r2
                      show IsSl w (cx X h L w).A k none [] v.2
                      rw [r2']
                      exact IsSl_nil
                    | some nl => exact IsSl.none r2
              have := conv qs _ (fun q hq => (q2 q hq).2) hall
              simpa using this
            obtain ⟨cells, g1, g2, g3⟩ := fill_rel (fun (x : List Int) v => IsSl w (cx X h L w).A k none x v) (qs.map fun q => (q.1, q.2.2)) _ (List.replicate n []) (Array.replicate n (.slice none 0 0)) hall2 (by simp)
              (fun j hj => ⟨.slice none 0 0, by rw [List.length_replicate] at hj; rw [Array.getElem?_replicate, if_pos hj], by simp; exact IsSl_nil⟩)
            subst q3
            have hlen : (setAll (qs.map fun q => (q.1, q.2.2)) (List.replicate n ([] : List Int))).length = n := by rw [setAll_len]; simp
            obtain ⟨I', hle⟩ := I.other (.cells cells e)
            unfold Oper.wp
            have : (execOp a.eval o).run X.G.P w = .ok (.value (.slice (some ⟨w.heap.size, 0, none⟩) n n)) (w.alloc (.cells cells e)) := by
              have hrun := buildSlice_run (P := X.G.P) (w := w) (t := ty) (parts := parts.map fun p => (p.1, a.eval p.2)) hu hi c2 rfl c1 c3 (by simpa using g1)
              simp only [execOp, ho, Sem.run_bind, hrun, Result.andThen_ok, Sem.run_pure]
            rw [this]
            refine hk _ L _ I' hle ?_
            rw [Val_leaf rfl (by simp) (by simp)]
            refine ⟨some ⟨w.heap.size, 0, none⟩, n, by rw [hlen], by omega, fun e => (by cases e), fun p hp => ?_⟩
            simp only [Option.some.injEq] at hp
            subst hp
            refine ⟨rfl, fun i hi => ?_⟩
            obtain ⟨v, r1, r2⟩ := g3 i hi
            refine ⟨v, ?_, ?_, ?_⟩
            · show (w.alloc (.cells cells e)).cell? _ = _
              rw [World.cell?_alloc_new, Nat.zero_add, r1]
            · exact not_av_fresh I (Nat.le_refl _)
            · exact IsSl.le hle r2
          · cases h0
        · cases h0
      · cases h0
    · cases h0
  · cases h0

end Go.Ev
