/- The evaluator's soundness: code. -/
import Derived.Test.YtllnbcibleeogaaDoorEvY
namespace Go.Ev

/-! ### loops and scopes, a round at a time -/

def LoopWp (P : Program) (c : Code) (Q : Exit → Act → World → Prop) (a : Act) (w : World) : Prop :=
  ∀ (b : Frame) (k : List Item) (cs : List Frame), ∃ e a' w', Q e a' w' ∧ Arrives P (lone (b.at a (.code c :: .inLoop c :: k)) cs w) b k cs e a' w'

theorem loop_step {P : Program} {c : Code} {Q : Exit → Act → World → Prop} {a : Act} {w : World} (h : c.wp P (Exit.then (LoopWp P c Q) Q) a w) : LoopWp P c Q a w := by
  intro b k cs
  obtain ⟨e, a₁, w₁, hq, harr⟩ := h b (.inLoop c :: k) cs
  cases e with
  | normal =>
    obtain ⟨e₂, a₂, w₂, hq₂, harr₂⟩ := hq b k cs
    exact ⟨e₂, a₂, w₂, hq₂, .of_steps (Steps.trans harr (.one step_inLoop)) harr₂⟩
  | exit id => exact ⟨_, a₁, w₁, hq, .pass (x := .inLoop c) rfl (fun _ _ => .inl (by simp)) harr⟩
  | goto l => exact ⟨_, a₁, w₁, hq, .pass (x := .inLoop c) rfl (fun _ _ => .inl (by simp)) harr⟩
  | ret => exact ⟨_, a₁, w₁, hq, .pass (x := .inLoop c) rfl (fun _ _ => .inl (by simp)) harr⟩
  | panic ch => exact ⟨_, a₁, w₁, hq, .pass (x := .inLoop c) rfl (fun _ _ => .inl (by simp)) harr⟩
  | outgrown => exact ⟨_, a₁, w₁, hq, .pass (x := .inLoop c) rfl (fun _ _ => .inl (by simp)) harr⟩

theorem wp_loop_of {P : Program} {c : Code} {Q : Exit → Act → World → Prop} {a : Act} {w : World} (h : LoopWp P c Q a w) : (Code.loop c).wp P Q a w := by
  intro b k cs
  obtain ⟨e, a', w', hq, harr⟩ := h b k cs
  exact ⟨e, a', w', hq, .of_steps (.one step_loop) harr⟩

def ScopeWp (P : Program) (c rest : Code) (Q : Exit → Act → World → Prop) (a : Act) (w : World) : Prop :=
  ∀ (b : Frame) (k : List Item) (cs : List Frame), ∃ e a' w', Q e a' w' ∧ Arrives P (lone (b.at a (.code rest :: .inScope c :: k)) cs w) b k cs e a' w'

def JumpWp (P : Program) (c : Code) (Q : Exit → Act → World → Prop) (l : Nat) (a : Act) (w : World) : Prop :=
  (findLabel c l = none ∧ Q (.goto l) a w) ∨ ∃ rest, findLabel c l = some rest ∧ ScopeWp P c rest Q a w

def Exit.jumps (J : Nat → Act → World → Prop) (Q : Exit → Act → World → Prop) : Exit → Act → World → Prop
  | .goto l, a, w => J l a w
  | e, a, w => Q e a w

theorem scope_step {P : Program} {c rest : Code} {Q : Exit → Act → World → Prop} {a : Act} {w : World} (h : rest.wp P (Exit.jumps (JumpWp P c Q) Q) a w) : ScopeWp P c rest Q a w := by
  intro b k cs
  obtain ⟨e, a₁, w₁, hq, harr⟩ := h b (.inScope c :: k) cs
  cases e with
  | normal => exact ⟨.normal, a₁, w₁, hq, Steps.trans harr (.one step_inScope)⟩
  | exit id => exact ⟨.exit id, a₁, w₁, hq, fun k' hk => harr k' (by simp [exitTo, hk])⟩
  | goto l =>
    rcases hq with ⟨hf, hq⟩ | ⟨rest', hf, hq⟩
    · exact ⟨.goto l, a₁, w₁, hq, fun k' hk => harr k' (by simp [gotoIn, hf, hk])⟩
    · obtain ⟨e₂, a₂, w₂, hq₂, harr₂⟩ := hq b k cs
      exact ⟨e₂, a₂, w₂, hq₂, .of_steps (harr _ (by simp [gotoIn, hf])) harr₂⟩
  | ret => exact ⟨_, a₁, w₁, hq, harr⟩
  | panic ch => exact ⟨_, a₁, w₁, hq, harr⟩
  | outgrown => exact ⟨_, a₁, w₁, hq, harr⟩

theorem wp_scope_of {P : Program} {c : Code} {Q : Exit → Act → World → Prop} {a : Act} {w : World} (h : ScopeWp P c c Q a w) : (Code.scope c).wp P Q a w := by
  intro b k cs
  obtain ⟨e, a', w', hq, harr⟩ := h b k cs
  exact ⟨e, a', w', hq, .of_steps (.one step_scope) harr⟩

/-! ### code -/

inductive Out where
  | nrm (st : St)
  | ext (i : Nat) (st : St)
  | gto (l : Nat) (st : St)
  | ret (st : St)

def Out.app {R : Type} (k : K R) : Out → Option R
  | .nrm st => k.nrm st
  | .ext i st => k.ext i st
  | .gto l st => k.gto l st
  | .ret st => k.ret st

def At (X : Fx) (b0 : List Blk) (L0 : List Loc) (st : St) (a : Act) (w : World) : Prop := ∃ L, RelP X b0 L0 st L a w

def PO (X : Fx) (b0 : List Blk) (L0 : List Loc) (o : Out) : Exit → Act → World → Prop
  | .normal, a, w => ∃ st, o = .nrm st ∧ At X b0 L0 st a w
  | .exit i, a, w => ∃ st, o = .ext i st ∧ At X b0 L0 st a w
  | .goto l, a, w => ∃ st, o = .gto l st ∧ At X b0 L0 st a w
  | .ret, a, w => ∃ st, o = .ret st ∧ At X b0 L0 st a w
  | .outgrown, _, _ => False
  | .panic _, _, _ => False

def CodeOk (G : Gi) (np : Nat) (c : Code) (st : St) (o : Out) : Prop :=
  ∀ (X : Fx), X.G = G → ∀ (b0 : List Blk) (L0 : List Loc) (a : Act) (w : World), b0.length = np → At X b0 L0 st a w → c.wp G.P (PO X b0 L0 o) a w

theorem findLabel_isSome (c : Code) (l : Nat) : (findLabel c l).isSome = hasL c l := by
  induction c with
  | seq a b iha ihb =>
    simp only [findLabel, hasL]
    rw [← iha, ← ihb]
    cases ha : findLabel a l with
    | none => simp
    | some r => simp
  | label l' =>
    simp only [findLabel, hasL]
    by_cases h : l' = l
    · subst h; simp [Nat.beq_refl]
    · have : Nat.beq l' l = false := by cases hb : Nat.beq l' l; rfl; exact absurd (Nat.eq_of_beq_eq_true hb) h
      simp [h, this]
  | _ => simp [findLabel, hasL]

theorem seq_out {G : Gi} {np : Nat} {a b : Code} {st : St} {o1 : Out} (ha : CodeOk G np a st o1) {o : Out}
    (hn : (∃ st1, o1 = .nrm st1 ∧ CodeOk G np b st1 o) ∨ ((∀ st1, o1 ≠ .nrm st1) ∧ o = o1)) : CodeOk G np (.seq a b) st o := by
  intro X hX b0 L0 ac w hb hat
  refine wp_seq (wp_mono (ha X hX b0 L0 ac w hb hat) fun e a' w' he => ?_)
  rcases hn with ⟨st1, rfl, hb2⟩ | ⟨hne, rfl⟩
  · cases e with
    | normal => obtain ⟨s, e1, h⟩ := he; cases e1; exact hb2 X hX b0 L0 a' w' hb h
    | exit i => obtain ⟨s, e1, h⟩ := he; cases e1
    | goto i => obtain ⟨s, e1, h⟩ := he; cases e1
    | ret => obtain ⟨s, e1, h⟩ := he; cases e1
    | outgrown => exact he.elim
    | panic ch => exact he.elim
  · cases e with
    | normal => obtain ⟨s, e1, h⟩ := he; exact absurd e1 (hne s)
    | exit i => exact he
    | goto i => exact he
    | ret => exact he
    | outgrown => exact he.elim
    | panic ch => exact he.elim

theorem nmOf_ok {G : Gi} (hG : GOk G) {np : Nat} {an : Option Ann} {st st' : St} (h : nmOf np an st = some st') {X : Fx} (hX : X.G = G) {b0 : List Blk} {L0 : List Loc} {a : Act} {w : World} (hb : b0.length = np)
    (hat : At X b0 L0 st a w) : At X b0 L0 st' a w := by
  cases an with
  | none => simp only [nmOf, Option.some.injEq] at h; subst h; exact hat
  | some n =>
    obtain ⟨L, R⟩ := hat
    subst hX; subst hb
    exact norm_ok hG h R

theorem evC_ok {G : Gi} (hG : GOk G) (hm : G.P.follows .mixedOrders = true) (A : Anns) (np n : Nat) {R : Type} : ∀ (c : Code),
    (∀ (k : K R) (st : St) (r : R), evC G A np n c none k st = some r → ∃ o, o.app k = some r ∧ CodeOk G np c st o) ∧
    (∀ (l : Nat) (k : K R) (st : St) (r : R), evC G A np n c (some l) k st = some r → ∃ rest, findLabel c l = some rest ∧ ∃ o, o.app k = some r ∧ CodeOk G np rest st o) := by
  intro c
  induction c with
  | skip =>
    refine ⟨fun k st r h => ?_, fun l k st r h => by simp [evC] at h⟩
    simp only [evC] at h
    exact ⟨.nrm st, h, fun X hX b0 L0 a w hb hat => wp_skip ⟨st, rfl, hat⟩⟩
  | label l' =>
    refine ⟨fun k st r h => ?_, fun l k st r h => ?_⟩
    · simp only [evC] at h
      exact ⟨.nrm st, h, fun X hX b0 L0 a w hb hat => wp_label ⟨st, rfl, hat⟩⟩
    · simp only [evC] at h
      obtain ⟨h1, h2⟩ := cond_none h
      have := Nat.eq_of_beq_eq_true h1
      subst this
      exact ⟨.skip, by simp [findLabel], .nrm st, h2, fun X hX b0 L0 a w hb hat => wp_skip ⟨st, rfl, hat⟩⟩
  | exit id =>
    refine ⟨fun k st r h => ?_, fun l k st r h => by simp [evC] at h⟩
    simp only [evC] at h
    exact ⟨.ext id st, h, fun X hX b0 L0 a w hb hat => wp_exit ⟨st, rfl, hat⟩⟩
  | goto l' =>
    refine ⟨fun k st r h => ?_, fun l k st r h => by simp [evC] at h⟩
    simp only [evC] at h
    exact ⟨.gto l' st, h, fun X hX b0 L0 a w hb hat => wp_goto ⟨st, rfl, hat⟩⟩
  | ret =>
    refine ⟨fun k st r h => ?_, fun l k st r h => by simp [evC] at h⟩
    simp only [evC] at h
    exact ⟨.ret st, h, fun X hX b0 L0 a w hb hat => wp_ret ⟨st, rfl, hat⟩⟩
  | region id ops draw =>
    refine ⟨fun k st r h => ?_, fun l k st r h => by simp [evC] at h⟩
    simp only [evC] at h
    obtain ⟨st', h1, h2⟩ := evR_ok hG hm h
    refine ⟨.nrm st', h1, fun X hX b0 L0 a w hb ⟨L, hR⟩ => ?_⟩
    exact h2 X hX b0 L0 L a w _ (fun L a w hR => ⟨st', rfl, L, hR⟩) hR
  | cond c a b iha ihb =>
    refine ⟨fun k st r h => ?_, fun l k st r h => by simp [evC] at h⟩
    simp only [evC] at h
    split at h
    · rename_i t ht
      have hev : ∀ {X : Fx} {b0 L0 ac w}, At X b0 L0 st ac w → ac.eval c = .bool t := by
        rintro X b0 L0 ac w ⟨L, hR⟩
        have := hR.rel.eval c
        rw [ht] at this
        exact this
      cases t with
      | true =>
        obtain ⟨o, h1, h2⟩ := iha.1 k st r h
        exact ⟨o, h1, fun X hX b0 L0 ac w hb hat => wp_cond_true (hev hat) (h2 X hX b0 L0 ac w hb hat)⟩
      | false =>
        obtain ⟨o, h1, h2⟩ := ihb.1 k st r h
        exact ⟨o, h1, fun X hX b0 L0 ac w hb hat => wp_cond_false (hev hat) (h2 X hX b0 L0 ac w hb hat)⟩
    · cases h
  | seq a b iha ihb =>
    have key : ∀ (x : Code) (k : K R) (st : St) (r : R) (o1 : Out), o1.app { k with nrm := evC G A np n b none k } = some r → CodeOk G np x st o1 → ∃ o, o.app k = some r ∧ CodeOk G np (.seq x b) st o := by
      intro x k st r o1 h1 h2
      cases o1 with
      | nrm st1 =>
        obtain ⟨o, h3, h4⟩ := ihb.1 k st1 r h1
        exact ⟨o, h3, seq_out h2 (.inl ⟨st1, rfl, h4⟩)⟩
      | ext i st1 => exact ⟨.ext i st1, h1, seq_out h2 (.inr ⟨by simp, rfl⟩)⟩
      | gto i st1 => exact ⟨.gto i st1, h1, seq_out h2 (.inr ⟨by simp, rfl⟩)⟩
      | ret st1 => exact ⟨.ret st1, h1, seq_out h2 (.inr ⟨by simp, rfl⟩)⟩
    refine ⟨fun k st r h => ?_, fun l k st r h => ?_⟩
    · simp only [evC] at h
      obtain ⟨o1, h1, h2⟩ := iha.1 _ st r h
      exact key a k st r o1 h1 h2
    · simp only [evC] at h
      cases hl : hasL a l with
      | true =>
        rw [hl] at h
        simp only [cond_true] at h
        obtain ⟨rest, hf, o1, h1, h2⟩ := iha.2 l _ st r h
        obtain ⟨o, h3, h4⟩ := key rest k st r o1 h1 h2
        exact ⟨.seq rest b, by simp [findLabel, hf], o, h3, h4⟩
      | false =>
        rw [hl] at h
        simp only [cond_false] at h
        obtain ⟨rest, hf, o, h1, h2⟩ := ihb.2 l k st r h
        have hn : findLabel a l = none := by
          have := findLabel_isSome a l
          rw [hl] at this
          simpa using this
        exact ⟨rest, by simp [findLabel, hn, hf], o, h1, h2⟩
  | block id b ihb =>
    refine ⟨fun k st r h => ?_, fun l k st r h => by simp [evC] at h⟩
    simp only [evC] at h
    obtain ⟨o1, h1, h2⟩ := ihb.1 _ st r h
    have other : (∀ st1, o1 ≠ .ext id st1) → o1.app k = some r → ∃ o, o.app k = some r ∧ CodeOk G np (.block id b) st o := by
      intro hne ho
      refine ⟨o1, ho, fun X hX b0 L0 a w hb hat => wp_block (wp_mono (h2 X hX b0 L0 a w hb hat) fun e a' w' he => ?_)⟩
      cases e with
      | exit i =>
        obtain ⟨s, e1, h⟩ := he
        simp only [Exit.inBlock]
        by_cases hi : i = id
        · subst hi; exact absurd e1 (hne s)
        · rw [if_neg hi]; exact ⟨s, e1, h⟩
      | _ => exact he
    cases o1 with
    | ext i st1 =>
      simp only [Out.app] at h1
      cases hi : Nat.beq i id with
      | true =>
        rw [hi] at h1
        have := Nat.eq_of_beq_eq_true hi
        subst this
        refine ⟨.nrm st1, h1, fun X hX b0 L0 a w hb hat => wp_block (wp_mono (h2 X hX b0 L0 a w hb hat) fun e a' w' he => ?_)⟩
        cases e with
        | exit j =>
          obtain ⟨s, e1, h⟩ := he
          cases e1
          simp only [Exit.inBlock, if_true]
          exact ⟨_, rfl, h⟩
        | normal => obtain ⟨s, e1, h⟩ := he; cases e1
        | goto j => obtain ⟨s, e1, h⟩ := he; cases e1
        | ret => obtain ⟨s, e1, h⟩ := he; cases e1
        | outgrown => exact he.elim
        | panic ch => exact he.elim
      | false =>
        rw [hi] at h1
        exact other (by intro s e; cases e; simp [Nat.beq_refl] at hi) h1
    | nrm st1 => exact other (by simp) h1
    | gto l st1 => exact other (by simp) h1
    | ret st1 => exact other (by simp) h1
  | loop b ihb =>
    refine ⟨fun k st r h => ?_, fun l k st r h => by simp [evC] at h⟩
    simp only [evC] at h
    split at h
    · rename_i st1 hst1
      have key : ∀ (m : Nat) (st : St), loopN (evC G A np n b none) k (nmOf np (A.loop (firstR b))) m st = some r → ∃ o, o.app k = some r ∧
          ∀ (X : Fx), X.G = G → ∀ (b0 : List Blk) (L0 : List Loc) (a : Act) (w : World), b0.length = np → At X b0 L0 st a w → LoopWp G.P b (PO X b0 L0 o) a w := by
        intro m
        induction m with
        | zero => intro st h; simp [loopN] at h
        | succ m ih =>
          intro st h
          simp only [loopN] at h
          obtain ⟨o1, h1, h2⟩ := ihb.1 _ st r h
          have other : (∀ st1, o1 ≠ .nrm st1) → o1.app k = some r → ∃ o, o.app k = some r ∧
              ∀ (X : Fx), X.G = G → ∀ (b0 : List Blk) (L0 : List Loc) (a : Act) (w : World), b0.length = np → At X b0 L0 st a w → LoopWp G.P b (PO X b0 L0 o) a w := by
            intro hne ho
            refine ⟨o1, ho, fun X hX b0 L0 a w hb hat => loop_step (wp_mono (h2 X hX b0 L0 a w hb hat) fun e a' w' he => ?_)⟩
            cases e with
            | normal => obtain ⟨s, e1, h⟩ := he; exact absurd e1 (hne s)
            | _ => exact he
          cases o1 with
          | nrm st2 =>
            simp only [Out.app] at h1
            split at h1
            · rename_i st3 hn
              obtain ⟨o, h3, h4⟩ := ih st3 h1
              refine ⟨o, h3, fun X hX b0 L0 a w hb hat => loop_step (wp_mono (h2 X hX b0 L0 a w hb hat) fun e a' w' he => ?_)⟩
              cases e with
              | normal =>
                obtain ⟨s, e1, h⟩ := he
                cases e1
                exact h4 X hX b0 L0 a' w' hb (nmOf_ok hG hn hX hb h)
              | exit j => obtain ⟨s, e1, h⟩ := he; cases e1
              | goto j => obtain ⟨s, e1, h⟩ := he; cases e1
              | ret => obtain ⟨s, e1, h⟩ := he; cases e1
              | outgrown => exact he.elim
              | panic ch => exact he.elim
            · cases h1
          | ext i st2 => exact other (by simp) h1
          | gto l st2 => exact other (by simp) h1
          | ret st2 => exact other (by simp) h1
      obtain ⟨o, h1, h2⟩ := key n st1 h
      exact ⟨o, h1, fun X hX b0 L0 a w hb hat => wp_loop_of (h2 X hX b0 L0 a w hb (nmOf_ok hG hst1 hX hb hat))⟩
    · cases h
  | scope b ihb =>
    refine ⟨fun k st r h => ?_, fun l k st r h => by simp [evC] at h⟩
    simp only [evC] at h
    have key : ∀ (m l : Nat) (st : St), jumpN (fun l => evC G A np n b (some l)) (hasL b) k (fun l => nmOf np (A.label l)) m l st = some r → ∃ o, o.app k = some r ∧
        ∀ (X : Fx), X.G = G → ∀ (b0 : List Blk) (L0 : List Loc) (a : Act) (w : World), b0.length = np → At X b0 L0 st a w → JumpWp G.P b (PO X b0 L0 o) l a w := by
      intro m
      induction m with
      | zero => intro l st h; simp [jumpN] at h
      | succ m ih =>
        intro l st h
        simp only [jumpN] at h
        cases hl : hasL b l with
        | false =>
          rw [hl] at h
          simp only [cond_false] at h
          have hn : findLabel b l = none := by
            have := findLabel_isSome b l
            rw [hl] at this
            simpa using this
          exact ⟨.gto l st, h, fun X hX b0 L0 a w hb hat => .inl ⟨hn, st, rfl, hat⟩⟩
        | true =>
          rw [hl] at h
          simp only [cond_true] at h
          split at h
          · rename_i st1 hst1
            obtain ⟨rest, hf, o1, h1, h2⟩ := ihb.2 l _ st1 r h
            have fin : ∀ o, o.app k = some r → (∀ (X : Fx), X.G = G → ∀ (b0 : List Blk) (L0 : List Loc), b0.length = np → ∀ e a' w', PO X b0 L0 o1 e a' w' → Exit.jumps (JumpWp G.P b (PO X b0 L0 o)) (PO X b0 L0 o) e a' w') →
                ∃ o, o.app k = some r ∧ ∀ (X : Fx), X.G = G → ∀ (b0 : List Blk) (L0 : List Loc) (a : Act) (w : World), b0.length = np → At X b0 L0 st a w → JumpWp G.P b (PO X b0 L0 o) l a w := by
              intro o ho hp
              exact ⟨o, ho, fun X hX b0 L0 a w hb hat => .inr ⟨rest, hf, scope_step (wp_mono (h2 X hX b0 L0 a w hb (nmOf_ok hG hst1 hX hb hat)) (hp X hX b0 L0 hb))⟩⟩
            cases o1 with
            | gto l2 st2 =>
              obtain ⟨o, h3, h4⟩ := ih l2 st2 h1
              refine fin o h3 fun X hX b0 L0 hb e a' w' he => ?_
              cases e with
              | goto j => obtain ⟨s, e1, h⟩ := he; cases e1; exact h4 X hX b0 L0 a' w' hb h
              | exit j => obtain ⟨s, e1, h⟩ := he; cases e1
              | normal => obtain ⟨s, e1, h⟩ := he; cases e1
              | ret => obtain ⟨s, e1, h⟩ := he; cases e1
              | outgrown => exact he.elim
              | panic ch => exact he.elim
            | nrm st2 =>
              refine fin (.nrm st2) h1 fun X hX b0 L0 hb e a' w' he => ?_
              cases e with
              | goto j => obtain ⟨s, e1, h⟩ := he; cases e1
              | _ => exact he
            | ext i st2 =>
              refine fin (.ext i st2) h1 fun X hX b0 L0 hb e a' w' he => ?_
              cases e with
              | goto j => obtain ⟨s, e1, h⟩ := he; cases e1
              | _ => exact he
            | ret st2 =>
              refine fin (.ret st2) h1 fun X hX b0 L0 hb e a' w' he => ?_
              cases e with
              | goto j => obtain ⟨s, e1, h⟩ := he; cases e1
              | _ => exact he
          · cases h
    obtain ⟨o1, h1, h2⟩ := ihb.1 _ st r h
    have fin : ∀ o, o.app k = some r → (∀ (X : Fx), X.G = G → ∀ (b0 : List Blk) (L0 : List Loc), b0.length = np → ∀ e a' w', PO X b0 L0 o1 e a' w' → Exit.jumps (JumpWp G.P b (PO X b0 L0 o)) (PO X b0 L0 o) e a' w') →
        ∃ o, o.app k = some r ∧ CodeOk G np (.scope b) st o := by
      intro o ho hp
      exact ⟨o, ho, fun X hX b0 L0 a w hb hat => wp_scope_of (scope_step (wp_mono (h2 X hX b0 L0 a w hb hat) (hp X hX b0 L0 hb)))⟩
    cases o1 with
    | gto l2 st2 =>
      obtain ⟨o, h3, h4⟩ := key n l2 st2 h1
      refine fin o h3 fun X hX b0 L0 hb e a' w' he => ?_
      cases e with
      | goto j => obtain ⟨s, e1, h⟩ := he; cases e1; exact h4 X hX b0 L0 a' w' hb h
      | exit j => obtain ⟨s, e1, h⟩ := he; cases e1
      | normal => obtain ⟨s, e1, h⟩ := he; cases e1
      | ret => obtain ⟨s, e1, h⟩ := he; cases e1
      | outgrown => exact he.elim
      | panic ch => exact he.elim
    | nrm st2 =>
      refine fin (.nrm st2) h1 fun X hX b0 L0 hb e a' w' he => ?_
      cases e with
      | goto j => obtain ⟨s, e1, h⟩ := he; cases e1
      | _ => exact he
    | ext i st2 =>
      refine fin (.ext i st2) h1 fun X hX b0 L0 hb e a' w' he => ?_
      cases e with
      | goto j => obtain ⟨s, e1, h⟩ := he; cases e1
      | _ => exact he
    | ret st2 =>
      refine fin (.ret st2) h1 fun X hX b0 L0 hb e a' w' he => ?_
      cases e with
      | goto j => obtain ⟨s, e1, h⟩ := he; cases e1
      | _ => exact he
  | _ => exact ⟨fun k st r h => by simp [evC] at h, fun l k st r h => by simp [evC] at h⟩

end Go.Ev
