/- The evaluator's soundness: writes, and what is put behind. -/
import Derived.Test.YtllnbcibleeogaaDoorEvJ
namespace Go.Ev
set_option linter.unusedSimpArgs false
set_option linter.unusedVariables false

mutual
theorem shbeq : ∀ (a b : Sh), Sh.beq a b = true → a = b
  | .leaf, b, h => by cases b <;> simp [Sh.beq] at h; rfl
  | .ints n, b, h => by cases b <;> simp [Sh.beq] at h; rw [h]
  | .agg l, b, h => by
    cases b <;> simp [Sh.beq] at h
    rename_i m
    rw [shbeqL l m h]
theorem shbeqL : ∀ (a b : List Sh), Sh.beqL a b = true → a = b
  | [], b, h => by cases b <;> simp [Sh.beqL] at h; rfl
  | x :: l, b, h => by
    cases b <;> simp [Sh.beqL] at h
    rename_i y m
    rw [shbeq x y h.1, shbeqL l m h.2]
end

mutual
theorem Cells_one {c : Cx} (he : EOk c) : ∀ (v : AV) (cs : List Value), Cells c v cs → ∀ x ∈ cs, x.oneCell' = true
  | .ints k n l, cs, ⟨_, _, e⟩, x, hx => by subst e; obtain ⟨y, _, rfl⟩ := List.mem_map.1 hx; rfl
  | .agg l, cs, h, x, hx => CellsL_one he l cs h x hx
  | .dead, _, ⟨y, e, g⟩, x, hx => by
    subst e; rw [List.mem_singleton] at hx; subst hx
    have := g.2
    cases x <;> first | rfl | simp at this
  | .tup _, _, ⟨y, e, g⟩, x, hx => g.elim
  | .int a b, _, ⟨y, e, g⟩, x, hx => by subst e; rw [List.mem_singleton] at hx; subst hx; exact (leaf_cells he g rfl).2
  | .bool a, _, ⟨y, e, g⟩, x, hx => by subst e; rw [List.mem_singleton] at hx; subst hx; exact (leaf_cells he g rfl).2
  | .str a, _, ⟨y, e, g⟩, x, hx => by subst e; rw [List.mem_singleton] at hx; subst hx; exact (leaf_cells he g rfl).2
  | .nils, _, ⟨y, e, g⟩, x, hx => by subst e; rw [List.mem_singleton] at hx; subst hx; exact (leaf_cells he g rfl).2
  | .isl a b d, _, ⟨y, e, g⟩, x, hx => by subst e; rw [List.mem_singleton] at hx; subst hx; exact (leaf_cells he g rfl).2
  | .rsl a b, _, ⟨y, e, g⟩, x, hx => by subst e; rw [List.mem_singleton] at hx; subst hx; exact (leaf_cells he g rfl).2
  | .own a b d f, _, ⟨y, e, g⟩, x, hx => by subst e; rw [List.mem_singleton] at hx; subst hx; exact (leaf_cells he g rfl).2
  | .ptr a b, _, ⟨y, e, g⟩, x, hx => by subst e; rw [List.mem_singleton] at hx; subst hx; exact (leaf_cells he g rfl).2
  | .rpi a b, _, ⟨y, e, g⟩, x, hx => by subst e; rw [List.mem_singleton] at hx; subst hx; exact (leaf_cells he g rfl).2
  | .rps a b, _, ⟨y, e, g⟩, x, hx => by subst e; rw [List.mem_singleton] at hx; subst hx; exact (leaf_cells he g rfl).2
  | .nilp, _, ⟨y, e, g⟩, x, hx => by subst e; rw [List.mem_singleton] at hx; subst hx; exact (leaf_cells he g rfl).2
  | .err a, _, ⟨y, e, g⟩, x, hx => by subst e; rw [List.mem_singleton] at hx; subst hx; exact (leaf_cells he g rfl).2
  | .glo a, _, ⟨y, e, g⟩, x, hx => by subst e; rw [List.mem_singleton] at hx; subst hx; exact (leaf_cells he g rfl).2
  | .fn a, _, ⟨y, e, g⟩, x, hx => by subst e; rw [List.mem_singleton] at hx; subst hx; exact (leaf_cells he g rfl).2
theorem CellsL_one {c : Cx} (he : EOk c) : ∀ (l : List AV) (cs : List Value), CellsL c l cs → ∀ x ∈ cs, x.oneCell' = true
  | [], cs, h, x, hx => by simp only [CellsL] at h; subst h; cases hx
  | v :: l, cs, ⟨c1, c2, e, g1, g2⟩, x, hx => by
    subst e
    rcases List.mem_append.1 hx with hx | hx
    · exact Cells_one he v c1 g1 x hx
    · exact CellsL_one he l c2 g2 x hx
end

theorem Step.setCells {A : Nat → Nat → Prop} (b : Nat) : ∀ (vs : List Value) (o : Nat) (w : World), (∀ j, j < vs.length → A b (o + j)) → Step A w (w.setCells b o vs)
  | [], _, w, _ => Step.refl _ _
  | v :: r, o, w, h => (Step.setCell w ⟨b, o, none⟩ v (h 0 (by simp))).trans (Step.setCells b r (o + 1) _ fun j hj => by
      have := h (j + 1) (by simp; omega)
      rwa [show o + (j + 1) = o + 1 + j by omega] at this)

theorem run_storeVar' {P : Program} {t : TypeId} {w : World} {b o : Nat} {v : Value} {cs : List Value} (hv : v.cells.toList = cs) (hs : szIs P t cs.length = true)
    (hc : ∀ j, j < cs.length → (w.cell? ⟨b, o + j, none⟩).isSome = true) (hf : ∀ j, j < cs.length → w.frozen? ⟨b, o + j, none⟩ = false) (h1 : ∀ x ∈ cs, x.oneCell' = true) :
    (storeVar t ⟨b, o, none⟩ v).run P w = .ok () (w.setCells b o cs) := by
  have hsz : v.cells.size = cs.length := by rw [← hv]; simp
  simp only [storeVar, Sem.run_bind, run_sizeOf' hs, Result.andThen_ok, hsz, ne_eq, not_true_eq_false, if_false]
  rw [hv]
  have := run_storeCells_cells (P := P) b o cs 0 w (by simpa using hc) (by simpa using hf) h1
  simpa using this

/-- A write into a variable's part. -/
theorem Inv.setVar {X : Fx} {h : List Blk} {L : List Loc} {w : World} (I : Inv X h L w) {id : Nat} {v v' old x : AV} {path : List Nat} {p : Loc} {o : Nat} {s : Sh} {cx' : List Value}
    (hb : h[id]? = some (.var v)) (hp : L[id]? = some p) (hg : getP v path = some old) (hat : Sh.at (sh v) path = some (o, s)) (hx : Cells (cx X h L w) x cx') (hsx : sh x = s) (hset : setP v path x = some v')
    (hk : kindOk v path x = true) :
    Inv X (h.set id (.var v')) L (w.setCells p.b (p.o + o) cx') ∧ Cx.Le (cx X h L w) (cx X (h.set id (.var v')) L (w.setCells p.b (p.o + o) cx')) ∧
      (∀ j, j < cx'.length → (w.cell? ⟨p.b, p.o + o + j, none⟩).isSome = true) ∧ (∀ j, j < cx'.length → w.frozen? ⟨p.b, p.o + o + j, none⟩ = false) := by
  obtain ⟨cs, g1, g2⟩ := I.blk id _ p hb hp
  obtain ⟨pre, cold, post, rfl, hpre, q1, q2, q3⟩ := Cells_at path v old cs o s g1 hg hat
  obtain ⟨r1, r2⟩ := q3 x cx' v' hx hsx hset hk
  have hlc : cold.length = cx'.length := by rw [Cells_len _ _ q1, Cells_len _ _ hx, q2, hsx]
  have hin : ∀ j, j < cx'.length → o + j < (pre ++ cold ++ post).length := fun j hj => by simp [hpre]; omega
  have hsome : ∀ j, j < cx'.length → (w.cell? ⟨p.b, p.o + o + j, none⟩).isSome = true := fun j hj => by
    have : w.cell? _ = _ := (g2 (o + j) (hin j hj)).1
    rw [show p.o + o + j = p.o + (o + j) by omega, this]; rfl
  have hfr : ∀ j, j < cx'.length → w.frozen? ⟨p.b, p.o + o + j, none⟩ = false := fun j hj => by
    have : w.frozen? _ = _ := (g2 (o + j) (hin j hj)).2
    rw [show p.o + o + j = p.o + (o + j) by omega, this]
  have hlen := Cells_len _ _ g1
  obtain ⟨I', hle⟩ := I.write (b := .var v') (w' := w.setCells p.b (p.o + o) cx') hb hp (by simp [Blk.sh, r2]) (Step.setCells _ _ _ _ fun j hj => by
      refine ⟨rfl, by omega, ?_⟩
      have := hin j hj
      rw [hlen] at this
      omega) (fun hle => by
    refine ⟨pre ++ cx' ++ post, Cells.le hle _ _ r1, fun i hi => ?_⟩
    have hi' : i < (pre ++ cold ++ post).length := by simp at hi ⊢; omega
    have hold := g2 i hi'
    simp only [cx] at hold
    refine ⟨?_, ?_⟩
    · show (w.setCells p.b (p.o + o) cx').cell? _ = _
      by_cases hi1 : i < o
      · rw [World.cell?_setCells_out _ _ _ _ _ (fun _ _ => .inl (by simp; omega)), hold.1]
        congr 1
        rw [List.append_assoc, List.append_assoc] at *
        simp [List.getElem_append, hpre, hi1]
      · by_cases hi2 : i < o + cx'.length
        · have := World.cell?_setCells_in p.b cx' (p.o + o) w hsome (i - o) (by omega)
          rw [show p.o + o + (i - o) = p.o + i by omega] at this
          rw [this]
          congr 1
          simp only [List.append_assoc, List.getElem_append, hpre, hi1, dif_neg, not_false_eq_true]
          rw [dif_pos (by omega)]
        · rw [World.cell?_setCells_out _ _ _ _ _ (fun _ _ => .inr (by simp; omega)), hold.1]
          congr 1
          simp only [List.append_assoc, List.getElem_append, hpre, hi1, dif_neg, not_false_eq_true]
          rw [dif_neg (by omega), dif_neg (by omega)]
          simp only [hlc]
    · show (w.setCells p.b (p.o + o) cx').frozen? _ = _
      rw [World.frozen?_setCells]; exact hold.2)
  exact ⟨I', hle, hsome, hfr⟩

theorem Inv.setRow {X : Fx} {h : List Blk} {L : List Loc} {w : World} (I : Inv X h L w) {id i : Nat} {k : IntKind} {l : List Int} {p : Loc} {z : Int}
    (hb : h[id]? = some (.row k false l)) (hp : L[id]? = some p) (hi : i < l.length) (hz : NN k [z]) :
    Inv X (h.set id (.row k false (l.set i z))) L (w.setCells p.b (p.o + i) [.int k z]) ∧ Cx.Le (cx X h L w) (cx X (h.set id (.row k false (l.set i z))) L (w.setCells p.b (p.o + i) [.int k z])) := by
  obtain ⟨g1, g2, g3⟩ := I.blk id _ p hb hp
  obtain ⟨q1, q2, q3⟩ := g3 rfl
  refine I.write (b := .row k false (l.set i z)) hb hp (by simp [Blk.sh]) (Step.setCells _ _ _ _ fun j hj => ?_) (fun hle => ?_)
  · have : j = 0 := by simp at hj; omega
    subst this
    exact ⟨rfl, rfl, by omega, by omega⟩
  · refine ⟨fun hk y hy => ?_, by simp, fun _ => ⟨by simpa using q1, fun j hj => ?_, fun j hj => ⟨?_, ?_⟩⟩⟩
    · rw [list_set_split l i z hi] at hy
      simp only [List.mem_append, List.mem_cons] at hy
      rcases hy with hy | rfl | hy
      · exact g1 hk _ (List.mem_of_mem_take hy)
      · exact hz hk _ (by simp)
      · exact g1 hk _ (List.mem_of_mem_drop hy)
    · show (w.setCells p.b (p.o + i) [.int k z]).cell? _ = _
      have hj' : j < l.length := by simpa using hj
      by_cases hij : j = i
      · subst hij
        have := World.cell?_setCells_in p.b [Value.int k z] (p.o + j) w (fun a ha => by
          have : a = 0 := by simp at ha; omega
          subst this
          have : w.cell? _ = _ := q2 j hj'
          rw [Nat.add_zero, this]; rfl) 0 (by simp)
        rw [Nat.add_zero] at this
        rw [this]
        simp
      · rw [World.cell?_setCells_out _ _ _ _ _ (fun _ _ => by simp; omega)]
        have : w.cell? _ = _ := q2 j hj'
        rw [this]
        simp [List.getElem_set_ne (Ne.symm hij)]
    · obtain ⟨⟨y, hy⟩, _⟩ := q3 j hj
      by_cases hij : j = i
      · subst hij
        refine ⟨.int k z, ?_⟩
        show (w.setCells p.b (p.o + j) [.int k z]).cell? _ = _
        have := World.cell?_setCells_in p.b [Value.int k z] (p.o + j) w (fun a ha => by
            have : a = 0 := by simp at ha; omega
            subst this
            have : w.cell? _ = _ := hy
            rw [Nat.add_zero, this]; rfl) 0 (by simp)
        simpa using this
      · refine ⟨y, ?_⟩
        show (w.setCells p.b (p.o + i) [.int k z]).cell? _ = _
        rw [World.cell?_setCells_out _ _ _ _ _ (fun _ _ => by simp; omega)]
        exact hy
    · show (w.setCells p.b (p.o + i) [.int k z]).frozen? _ = _
      rw [World.frozen?_setCells]; exact (q3 j hj).2

theorem Val_und {c : Cx} : Val c und undef := ⟨[], rfl, rfl⟩

theorem storeE_ok {G : Gi} {R : Type} {κ : Kop R} {r : R} {o : Oper} {ty : TypeId} {x y : Operand} {t : List AV} {look : Nat → Blk} {nid : Nat} (ho : o.op = .store ty x y)
    (h0 : storeE G look κ ty (evO t x) (evO t y) = some r) : ∃ v us, κ v us = some r ∧ OpOk G o t look nid v us := by
  have hmx : x ∈ o.op.operands.toList := by simp [ho, Op.operands]
  have hmy : y ∈ o.op.operands.toList := by simp [ho, Op.operands]
  unfold storeE at h0
  split at h0
  · rename_i id path hax
    split at h0
    · rename_i v hv
      split at h0
      · rename_i old v' hg hset
        obtain ⟨hc, h0⟩ := cond_none h0
        simp only [Bool.and_eq_true] at hc
        obtain ⟨⟨⟨c1, c2⟩, c3⟩, c4⟩ := hc
        have c3 := shbeq _ _ c3
        refine ⟨_, _, h0, fun X hXG => ?_⟩
        subst hXG
        refine fun h L a w next Q I hvv hl _ hk => .inl ?_
        have hb := lookOk.get hl hv (by simp)
        have e1 := hvv x hmx
        have e2 := hvv y hmy
        rw [hax] at e1
        obtain ⟨p, oo, s, hp, hpv, hat⟩ := ptr_at I hb e1
        have hs := sh_getP _ _ _ _ _ hg hat
        have hcx := Cells_of_Val (c := cx X h L w) I.eok e2 c2
        obtain ⟨I', hle, hsome, hfr⟩ := I.setVar hb hp hg hat hcx (c3.trans hs) hset c4
        have hlen := Cells_len _ _ hcx
        have hrun := run_storeVar' (P := X.G.P) (t := ty) (w := w) (b := p.b) (o := p.o + oo) (v := a.eval y) rfl (by rw [hlen]; exact c1) hsome hfr (Cells_one (c := cx X h L w) I.eok _ _ hcx)
        unfold Oper.wp
        have : (execOp a.eval o).run X.G.P w = .ok .skip (w.setCells p.b (p.o + oo) (a.eval y).cells.toList) := by
          simp only [execOp, ho, Instr.storeAt, hpv, Instr.sureAddr, Sem.run_bind, Sem.run_pure, Result.andThen_ok, hrun]
        rw [this]
        exact hk undef L _ I' hle Val_und
      · cases h0
    · rename_i k nl l hv
      split at h0
      · rename_i i k' z hay
        obtain ⟨hc, h1⟩ := cond_none h0
        clear h0
        simp only [Bool.and_eq_true, decide_eq_true_eq] at hc
        obtain ⟨c1, rfl⟩ := hc
        refine ⟨_, _, h1, fun X hXG => ?_⟩
        subst hXG
        refine fun h L a w next Q I hvv hl _ hk => .inl ?_
        have hb := lookOk.get hl hv (by simp)
        have e1 := hvv x hmx
        have e2 := hvv y hmy
        rw [hax] at e1
        rw [hay] at e2
        obtain ⟨e2, hz⟩ := e2
        obtain ⟨p, hp, rfl, hpv, hlt, hnn, hcell, hfr⟩ := ptr_row I hb e1
        obtain ⟨I', hle⟩ := I.setRow hb hp hlt hz
        have hrun := run_storeVar' (P := X.G.P) (t := ty) (w := w) (b := p.b) (o := p.o + i) (v := .int k z) (cs := [.int k z]) rfl c1
          (fun j hj => by
            have : j = 0 := by simp at hj; omega
            subst this
            rw [Nat.add_zero, hcell]; rfl)
          (fun j hj => by
            have : j = 0 := by simp at hj; omega
            subst this
            rw [Nat.add_zero, hfr]) (by simp [Value.oneCell'])
        unfold Oper.wp
        have : (execOp a.eval o).run X.G.P w = .ok .skip (w.setCells p.b (p.o + i) [.int k z]) := by
          simp only [execOp, ho, Instr.storeAt, hpv, e2, Instr.sureAddr, Sem.run_bind, Sem.run_pure, Result.andThen_ok, hrun]
        rw [this]
        exact hk undef L _ I' hle Val_und
      · cases h0
    · cases h0
  · cases h0

end Go.Ev
