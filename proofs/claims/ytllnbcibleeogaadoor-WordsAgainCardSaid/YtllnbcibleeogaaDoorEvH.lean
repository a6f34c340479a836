/- The evaluator's soundness: addresses, parts, conversions, lengths, slices of slices. -/
import Derived.Test.YtllnbcibleeogaaDoorEvG
import Derived.Laws.BytesArg
namespace Go.Ev

theorem lenL_take (l : List AV) (f : Nat) : Sh.lenL ((shL l).take f) = Sh.lenL (shL (l.take f)) := by simp [shL_eq, List.map_take]

theorem at_append : ∀ (p : List Nat) (s : Sh) (o : Nat) (l : List Sh) (f : Nat) (t : Sh), Sh.at s p = some (o, .agg l) → l[f]? = some t → Sh.at s (p ++ [f]) = some (o + Sh.lenL (l.take f), t) := by
  intro p
  induction p with
  | nil =>
    intro s o l f t h hf
    have : s = .agg l ∧ o = 0 := by cases s <;> simp_all [Sh.at]
    obtain ⟨rfl, rfl⟩ := this
    simp [Sh.at, hf]
  | cons i p ih =>
    intro s o l f t h hf
    cases s with
    | leaf => simp [Sh.at] at h
    | ints n =>
      cases p with
      | nil => simp only [Sh.at] at h; split at h <;> simp at h
      | cons => simp [Sh.at] at h
    | agg m =>
      simp only [Sh.at, List.cons_append] at h ⊢
      cases hm : m[i]? with
      | none => simp [hm] at h
      | some s0 =>
        simp only [hm] at h ⊢
        cases ha : Sh.at s0 p with
        | none => simp [ha] at h
        | some x =>
          obtain ⟨o', s'⟩ := x
          simp only [ha, Option.some.injEq, Prod.mk.injEq] at h
          obtain ⟨rfl, rfl⟩ := h
          rw [ih s0 o' l f t ha hf]
          simp [Nat.add_assoc]

theorem at_append_ints : ∀ (p : List Nat) (s : Sh) (o n i : Nat), Sh.at s p = some (o, .ints n) → i < n → Sh.at s (p ++ [i]) = some (o + i, .leaf) := by
  intro p
  induction p with
  | nil =>
    intro s o n i h hi
    have : s = .ints n ∧ o = 0 := by cases s <;> simp_all [Sh.at]
    obtain ⟨rfl, rfl⟩ := this
    simp [Sh.at, hi]
  | cons j p ih =>
    intro s o n i h hi
    cases s with
    | leaf => simp [Sh.at] at h
    | ints m =>
      cases p with
      | nil => simp only [Sh.at] at h; split at h <;> simp at h
      | cons => simp [Sh.at] at h
    | agg m =>
      simp only [Sh.at, List.cons_append] at h ⊢
      cases hm : m[j]? with
      | none => simp [hm] at h
      | some s0 =>
        simp only [hm] at h ⊢
        cases ha : Sh.at s0 p with
        | none => simp [ha] at h
        | some x =>
          obtain ⟨o', s'⟩ := x
          simp only [ha, Option.some.injEq, Prod.mk.injEq] at h
          obtain ⟨rfl, rfl⟩ := h
          rw [ih s0 o' n i ha hi]
          simp [Nat.add_assoc]

/-- A pointer to a variable's part, and what shape lies there. -/
theorem ptr_at {X : Fx} {h : List Blk} {L : List Loc} {w : World} (I : Inv X h L w) {id : Nat} {path : List Nat} {v : AV} {pv : Value} (hb : h[id]? = some (.var v))
    (hv : Val (cx X h L w) (.ptr id path) pv) : ∃ p o s, L[id]? = some p ∧ pv = .pointer (some ⟨p.b, p.o + o, none⟩) ∧ Sh.at (sh v) path = some (o, s) := by
  obtain ⟨p, hp⟩ := I.loc hb
  have hv' : leaf (cx X h L w) (.ptr id path) pv := hv
  simp only [leaf, cx_S hb, Blk.sh] at hv'
  have hL : (cx X h L w).L[id]? = some p := hp
  rw [hL] at hv'
  obtain ⟨o, s, hat, rfl⟩ := hv'
  exact ⟨p, o, s, hp, rfl, hat⟩

theorem ptr_mk {X : Fx} {h : List Blk} {L : List Loc} {w : World} {id : Nat} {path : List Nat} {v : AV} {p : Loc} {o : Nat} {s : Sh} (hb : h[id]? = some (.var v)) (hp : L[id]? = some p)
    (hat : Sh.at (sh v) path = some (o, s)) : Val (cx X h L w) (.ptr id path) (.pointer (some ⟨p.b, p.o + o, none⟩)) := by
  rw [Val_leaf rfl (by simp) (by simp)]
  simp only [leaf, cx_S hb, Blk.sh]
  have hL : (cx X h L w).L[id]? = some p := hp
  rw [hL]
  exact ⟨o, s, hat, rfl⟩

theorem sh_getP : ∀ (p : List Nat) (v x : AV) (o : Nat) (s : Sh), getP v p = some x → Sh.at (sh v) p = some (o, s) → sh x = s := by
  intro p
  induction p with
  | nil =>
    intro v x o s h1 h2
    have : x = v := by cases v <;> simp_all [getP]
    subst this
    cases hx : sh x <;> simp_all [Sh.at]
  | cons i p ih =>
    intro v x o s h1 h2
    cases v with
    | ints k n l =>
      cases p with
      | nil =>
        simp only [getP, Option.some.injEq] at h1
        subst h1
        simp only [sh, Sh.at] at h2
        split at h2 <;> simp at h2
        exact h2.2
      | cons => simp [getP] at h1
    | agg l =>
      simp only [getP] at h1
      simp only [sh, Sh.at, shL_eq, List.getElem?_map] at h2
      cases hv : l[i]? with
      | none => simp [hv] at h1
      | some v0 =>
        simp only [hv] at h1
        simp only [hv, Option.map_some] at h2
        cases hat : Sh.at (sh v0) p with
        | none => simp [hat] at h2
        | some os =>
          simp only [hat, Option.some.injEq, Prod.mk.injEq] at h2
          exact ih v0 x os.1 s h1 (by rw [← h2.2]; exact hat)
    | _ => simp [getP] at h1

theorem fieldAddrE_run {R : Type} {G : Gi} {κ : Kop R} {r : R} {look : Nat → Blk} {t : TypeId} {av : AV} {f : Nat} (h0 : fieldAddrE G look κ t av f = some r) :
    ∃ v, κ v [] = some r ∧ ∀ (X : Fx) h L w x, X.G = G → Inv X h L w → lookOk look h → Val (cx X h L w) av x → ∃ cv, (Instr.fieldAt t x f).run G.P w = .ok cv w ∧ Val (cx X h L w) v cv := by
  unfold fieldAddrE at h0
  split at h0
  · rename_i id path
    split at h0
    · rename_i v hv
      split at h0
      · rename_i l fs hg hu
        split at h0
        · rename_i fd hfd
          split at h0
          · rename_i i hi
            obtain ⟨hc, h0⟩ := cond_none h0
            simp only [Bool.and_eq_true, Bool.not_eq_true'] at hc
            obtain ⟨⟨c1, c2⟩, c3⟩ := hc
            have c2 : f < l.length := by simpa [Nat.blt_eq] using c2
            have c3 := Nat.eq_of_beq_eq_true c3
            refine ⟨_, h0, fun X h L w pv hG I hl hp => ?_⟩
            have hb := hl.get hv (by simp)
            obtain ⟨p, o, s, hp', rfl, hat⟩ := ptr_at I hb hp
            have hs := sh_getP _ _ _ _ _ hg hat
            have hs' : s = .agg (shL l) := by rw [← hs]; rfl
            subst hs'
            have hat2 := at_append path (sh v) o (shL l) f (sh l[f]) hat (by rw [shL_eq]; simp [c2])
            refine ⟨_, ?_, ptr_mk hb hp' hat2⟩
            have hsz : i.size ≠ 0 := by
              intro hz; rw [hz] at c1; simp at c1
            simp only [Instr.fieldAt, Sem.run_bind, run_underlying' hu, Result.andThen_ok, Instr.sureAddr, fieldPlace]
            simp only [hfd, Sem.run_bind, Sem.run_pure, Result.andThen_ok]
            simp only [sizeOf, typeInfo, Sem.run_bind, run_program, Result.andThen_ok, hi, Sem.run_pure, hsz, if_false, Sem.run_ite]
            rw [addr_add _ _ rfl, c3]
            simp [Nat.add_assoc]
          · cases h0
        · cases h0
      · cases h0
    · cases h0
  · cases h0


theorem nilE_run {R : Type} {κ : Kop R} {r : R} {av : AV} (h0 : nilE κ av = some r) : κ av [] = some r ∧ ∀ c x, Val c av x → ∃ a, x = .pointer (some a) := by
  unfold nilE at h0
  split at h0
  · exact ⟨h0, fun c x hx => leaf_ptr hx⟩
  · exact ⟨h0, fun c x hx => by obtain ⟨_, p, rfl, _⟩ := hx; exact ⟨p, rfl⟩⟩
  · exact ⟨h0, fun c x hx => by obtain ⟨p, y, rfl, _⟩ := hx; exact ⟨p, rfl⟩⟩
  · exact ⟨h0, fun c x hx => by obtain rfl := hx; exact ⟨_, rfl⟩⟩
  · cases h0

theorem fieldE_run {R : Type} {G : Gi} {κ : Kop R} {r : R} {t : TypeId} {av : AV} {f : Nat} (h0 : fieldE G κ t av f = some r) :
    ∃ v, κ v [] = some r ∧ ∀ (c : Cx) x, Val c av x → ∃ cv, (Instr.field t x f).run G.P c.w = .ok cv c.w ∧ Val c v cv := by
  unfold fieldE at h0
  split at h0
  · rename_i l
    split at h0
    · rename_i fs hu
      split at h0
      · rename_i fd v hfd hv
        obtain ⟨hc, h0⟩ := cond_none h0
        simp only [Bool.and_eq_true] at hc
        obtain ⟨c1, c2⟩ := hc
        have c2 := Nat.eq_of_beq_eq_true c2
        refine ⟨_, h0, fun c x hx => ?_⟩
        obtain ⟨cs, hcs, rfl⟩ := hx
        obtain ⟨hl, hi⟩ := list_split l f v hv
        rw [hl, CellsL_append] at hcs
        obtain ⟨a1, a2, rfl, g1, a3, a4, rfl, g2, g3⟩ := hcs
        have hlen := CellsL_len _ _ g1
        rw [← lenL_take] at hlen
        obtain ⟨f1, f2, f3⟩ := fits_ag c1
        simp only [Instr.field, Sem.run_bind, run_underlying' hu, Result.andThen_ok, hfd, asAgg, Sem.run_pure, part, run_isAgg f1]
        have hoff : fd.offset = a1.length := by rw [c2, hlen]
        cases ha : v.ag with
        | true =>
          rw [ha] at f2
          simp only [f2, if_true, Sem.run_bind, run_sizeOf' f3, Result.andThen_ok, Sem.run_pure]
          refine ⟨_, rfl, ?_⟩
          have : (a1 ++ (a3 ++ a4)).toArray.extract fd.offset (fd.offset + (sh v).len) = a3.toArray := by
            rw [hoff, ← Cells_len v a3 g2]
            simp
          rw [this]
          exact Val_of_Cells_ag g2 ha
        | false =>
          rw [ha] at f2
          obtain ⟨y, rfl, hy⟩ := Val_of_Cells_leaf g2 ha
          have : (a1 ++ ([y] ++ a4)).toArray[fd.offset]? = some y := by rw [hoff]; simp
          simp only [f2, Bool.false_eq_true, if_false, this, Sem.run_pure]
          exact ⟨y, rfl, hy⟩
      · cases h0
    · cases h0
  · cases h0

theorem indexE_run {R : Type} {G : Gi} {κ : Kop R} {r : R} {t : TypeId} {av iv : AV} (h0 : indexE G κ t av iv = some r) :
    ∃ v, κ v [] = some r ∧ ∀ (c : Cx) x y, Val c av x → Val c iv y → ∃ cv, (Instr.index t x y).run G.P c.w = .ok cv c.w ∧ Val c v cv := by
  unfold indexE at h0
  split at h0
  · rename_i k i
    split at h0
    · rename_i n e k' m l hu
      obtain ⟨hc, h1⟩ := cond_none h0
      obtain ⟨hi, h2⟩ := cond_none h1
      obtain ⟨hj, h3⟩ := cond_none h2
      clear h0 h1 h2
      simp only [Bool.and_eq_true, Bool.not_eq_true'] at hc
      obtain ⟨⟨⟨c1, c2⟩, c3⟩, c4⟩ := hc
      have c4 := Nat.eq_of_beq_eq_true c4
      subst c4
      have hi : 0 ≤ i := by simpa using hi
      have hj : i < n := by simpa using hj
      refine ⟨_, h3, fun c x y hx hy => ?_⟩
      obtain ⟨rfl, _⟩ := hy
      obtain ⟨hl, hnn, rfl⟩ := hx
      have hlt : i.toNat < l.length := by omega
      simp only [Instr.index, asIntOf, Sem.run_bind, Sem.run_pure, Result.andThen_ok, run_underlying' hu]
      rw [if_pos ⟨hi, hj⟩]
      simp only [Sem.run_bind, run_sizeOf' c1, Result.andThen_ok, Nat.mul_one, part, run_isAgg c2, c3, Bool.false_eq_true, if_false]
      have : (l.map (Value.int k')).toArray[i.toNat]? = some (.int k' (l.getD i.toNat 0)) := by
        simp [List.getElem?_eq_getElem hlt, List.getD]
      simp only [this, Sem.run_pure]
      exact ⟨_, rfl, rfl, fun hk z hz => by rw [List.mem_singleton] at hz; subst hz; exact hnn hk _ (getD_mem hlt)⟩
    · rename_i l hu
      obtain ⟨hi, h0⟩ := cond_none h0
      obtain ⟨hj, h0⟩ := cond_none h0
      have hi : 0 ≤ i := by simpa using hi
      have hj : i < l.length := by simpa using hj
      refine ⟨_, h0, fun c x y hx hy => ?_⟩
      obtain ⟨rfl, _⟩ := hy
      obtain rfl := hx
      have hlt : i.toNat < l.length := by omega
      have hs : (ByteArray.mk l.toArray)[i.toNat]? = some (l.getD i.toNat 0) := by
        have hz : i.toNat < (ByteArray.mk l.toArray).size := by simpa [ByteArray.size] using hlt
        rw [getElem?_pos (ByteArray.mk l.toArray) i.toNat hz]
        simp [List.getD, List.getElem?_eq_getElem hlt, ByteArray.getElem_eq_getElem_data]
      simp only [Instr.index, asIntOf, Sem.run_bind, Sem.run_pure, Result.andThen_ok, run_underlying' hu, if_pos hi, hs]
      exact ⟨_, rfl, rfl, fun _ z hz => by rw [List.mem_singleton] at hz; subst hz; exact Int.natCast_nonneg _⟩
    · cases h0
  · cases h0

theorem extractE_run {R : Type} {κ : Kop R} {r : R} {P : Program} {av : AV} {i : Nat} (h0 : extractE κ av i = some r) :
    ∃ v, κ v [] = some r ∧ ∀ (c : Cx) x, Val c av x → ∃ cv, (Instr.extract x i).run P c.w = .ok cv c.w ∧ Val c v cv := by
  unfold extractE at h0
  split at h0
  · rename_i l
    split at h0
    · rename_i v hv
      refine ⟨_, h0, fun c x hx => ?_⟩
      obtain ⟨vs, hvs, rfl⟩ := hx
      have key : ∀ (l : List AV) (vs : List Value) (i : Nat), ValL c l vs → l[i]? = some v → ∃ y, vs[i]? = some y ∧ Val c v y := by
        intro l
        induction l with
        | nil => intro vs i _ h; simp at h
        | cons u l ih =>
          rintro _ i ⟨y, r, rfl, g1, g2⟩ h
          cases i with
          | zero => simp at h; subst h; exact ⟨y, rfl, g1⟩
          | succ i => simpa using ih r i g2 (by simpa using h)
      obtain ⟨y, q1, q2⟩ := key l vs i hvs hv
      refine ⟨y, ?_, q2⟩
      simp [Instr.extract, q1]
    · cases h0
  · cases h0

theorem unE_run {R : Type} {κ : Kop R} {r : R} {P : Program} {op : UnOp} {av : AV} (h0 : unE κ op av = some r) :
    ∃ v, κ v [] = some r ∧ ∀ (c : Cx) x, Val c av x → ∃ cv, (Op.unary op x).run P c.w = .ok cv c.w ∧ Val c v cv := by
  unfold unE at h0
  split at h0
  · refine ⟨_, h0, fun c x hx => ?_⟩
    obtain ⟨rfl, _⟩ := hx
    exact ⟨_, by simp only [Op.unary, Op.intArith, Sem.run_pure], rfl, wrap_nn _ _⟩
  · refine ⟨_, h0, fun c x hx => ?_⟩
    obtain ⟨rfl, _⟩ := hx
    exact ⟨.int _ (inot _ _), by simp only [Op.unary, Op.intBits, Sem.run_pure]; rfl, rfl, inot_nn _ _⟩
  · refine ⟨_, h0, fun c x hx => ?_⟩
    obtain rfl := hx
    exact ⟨_, by simp only [Op.unary, Sem.run_pure], rfl⟩
  · cases h0

/-- What a slice's contents are: its address and its cells. -/
def Conts (w : World) (k : IntKind) (l : List Int) (x : Value) : Prop :=
  NN k l ∧ ∃ a cap, x = .slice a l.length cap ∧ l.length ≤ cap ∧ (a = none → l = []) ∧ ∀ p : Addr, a = some p → ∀ i (hi : i < l.length), p.spot = none ∧ w.cell? ⟨p.block, p.off + i, none⟩ = some (.int k l[i])

theorem own_row {X : Fx} {h : List Blk} {L : List Loc} {w : World} (I : Inv X h L w) {id off : Nat} {len : Option Nat} {k : IntKind} {nl : Bool} {l : List Int} {x : Value} (hb : h[id]? = some (.row k nl l))
    (hv : Val (cx X h L w) (.own id [] off len) x) : ∃ p, L[id]? = some p ∧ off + olen len l.length off ≤ l.length ∧ (nl = true → x = .slice none 0 0 ∧ l = []) ∧
      (nl = false → ∃ q : Addr, x = .slice (some q) (olen len l.length off) (p.cap - off) ∧ (q.block = p.b ∧ q.spot = none) ∧ (off < p.cap → q = ⟨p.b, p.o + off, none⟩)) := by
  obtain ⟨p, hp⟩ := I.loc hb
  have hv' := (Val_leaf rfl (by simp) (by simp)).1 hv
  simp only [leaf, cx_S hb, Blk.sh] at hv'
  have hL : (cx X h L w).L[id]? = some p := hp
  rw [hL] at hv'
  obtain ⟨_, h1, h2⟩ := hv'
  refine ⟨p, hp, h1, fun hn => ?_, fun hn => ?_⟩
  · subst hn
    simp only [if_true] at h2
    exact ⟨h2.1, List.length_eq_zero_iff.1 h2.2⟩
  · subst hn
    simpa using h2

theorem own_arr {X : Fx} {h : List Blk} {L : List Loc} {w : World} (I : Inv X h L w) {id off : Nat} {path : List Nat} {len : Option Nat} {k : IntKind} {n : Nat} {v : AV} {l : List Int} {x : Value} (hb : h[id]? = some (.var v))
    (hg : getP v path = some (.ints k n l)) (hv : Val (cx X h L w) (.own id path off len) x) :
    ∃ p o, L[id]? = some p ∧ Sh.at (sh v) path = some (o, .ints n) ∧ l.length = n ∧ NN k l ∧ off + olen len n off ≤ n ∧
      (∃ q : Addr, x = .slice (some q) (olen len n off) (n - off) ∧ (q.block = p.b ∧ q.spot = none) ∧ (off < n → q = ⟨p.b, p.o + o + off, none⟩)) ∧
      ∀ i (hi : i < l.length), w.cell? ⟨p.b, p.o + o + i, none⟩ = some (.int k l[i]) ∧ w.frozen? ⟨p.b, p.o + o + i, none⟩ = false := by
  obtain ⟨p, hp⟩ := I.loc hb
  have hv' := (Val_leaf rfl (by simp) (by simp)).1 hv
  simp only [leaf, cx_S hb, Blk.sh] at hv'
  have hL : (cx X h L w).L[id]? = some p := hp
  rw [hL] at hv'
  obtain ⟨o, m, hat, h1, h2⟩ := hv'
  have hs := sh_getP _ _ _ _ _ hg hat
  simp only [sh, Sh.ints.injEq] at hs
  subst hs
  obtain ⟨cs, g1, g2⟩ := I.blk id _ p hb hp
  obtain ⟨pre, cx', post, rfl, hpre, q1, q2, _⟩ := Cells_at path v _ cs o _ g1 hg hat
  obtain ⟨q3, q4, rfl⟩ := q1
  refine ⟨p, o, hp, hat, q3, q4, h1, h2, fun i hi => ?_⟩
  have := g2 (o + i) (by simp [hpre]; omega)
  rw [show p.o + o + i = p.o + (o + i) by omega]
  simp only [cx] at this
  refine ⟨?_, this.2⟩
  rw [this.1]
  have e : (pre ++ l.map (Value.int k) ++ post)[o + i]? = some (.int k l[i]) := by
    rw [List.append_assoc, List.getElem?_append_right (by omega), List.getElem?_append_left (by simp; omega)]
    simp [hpre, hi]
  rw [← List.getElem?_eq_getElem, e]

theorem NN.sub {k : IntKind} {l m : List Int} (h : NN k l) (hs : ∀ x ∈ m, x ∈ l) : NN k m := fun hk x hx => h hk x (hs x hx)

theorem cont_run {look : Nat → Blk} {k : IntKind} {av : AV} {l : List Int} (h0 : cont look k av = some l) (X : Fx) (h : List Blk) (L : List Loc) (w : World) (x : Value) (I : Inv X h L w) (hl : lookOk look h)
    (hv : Val (cx X h L w) av x) : Conts w k l x := by
  unfold cont at h0
  split at h0
  · simp only [Option.some.injEq] at h0; subst h0
    obtain rfl := hv
    exact ⟨by simp [NN], none, 0, rfl, Nat.le_refl _, fun _ => rfl, fun p hp => by cases hp⟩
  · obtain ⟨hk, h1⟩ := cond_none h0
    simp only [Option.some.injEq] at h1; subst h1
    have hk := of_decide_eq_true hk
    subst hk
    obtain ⟨hn, a, cap, rfl, h2, h3, h4, h5⟩ := hv
    exact ⟨hn, a, cap, rfl, h2, fun e => (h4 e).1, fun p hp i hi => ⟨(h5 p hp).1, ((h5 p hp).2 i hi).1⟩⟩
  · rename_i id path off len
    split at h0
    · rename_i k' nl m hb
      split at h0
      · obtain ⟨hk, h9⟩ := cond_none h0
        clear h0
        have h0 := h9
        clear h9
        have hk := of_decide_eq_true hk
        subst hk
        have hb := hl.get hb (by simp)
        obtain ⟨p, hp, h1, h2, h3⟩ := own_row I hb hv
        obtain ⟨g1, g2, g3⟩ := I.blk id _ p hb hp
        have hlen : l.length = olen len m.length off ∧ ∀ i (hi : i < l.length), ∃ hm : off + i < m.length, l[i] = m[off + i] := by
          cases len with
          | none => simp only [Option.some.injEq, cut] at h0; subst h0; exact ⟨by simp [olen], fun i hi => by simp at hi; exact ⟨by omega, by simp⟩⟩
          | some n => simp only [Option.some.injEq, cut] at h0; subst h0; simp only [olen] at h1; exact ⟨by simp [olen]; omega, fun i hi => by simp at hi; exact ⟨by omega, by simp⟩⟩
        have hmem : ∀ x ∈ l, x ∈ m := by
          intro y hy
          cases len with
          | none => simp only [Option.some.injEq, cut] at h0; subst h0; exact List.mem_of_mem_drop hy
          | some n => simp only [Option.some.injEq, cut] at h0; subst h0; exact List.mem_of_mem_drop (List.mem_of_mem_take hy)
        refine ⟨g1.sub hmem, ?_⟩
        cases nl with
        | true =>
          obtain ⟨rfl, rfl⟩ := h2 rfl
          have : l = [] := by
            cases l with
            | nil => rfl
            | cons y l => exact absurd (hmem y (by simp)) (by simp)
          subst this
          exact ⟨none, 0, rfl, Nat.le_refl _, fun _ => rfl, fun p hp => by cases hp⟩
        | false =>
          obtain ⟨q, rfl, hq, hq2⟩ := h3 rfl
          obtain ⟨r1, r2, r3⟩ := g3 rfl
          refine ⟨some q, _, by rw [hlen.1], by omega, fun e => (by cases e), fun p' hp' i hi => ?_⟩
          simp only [Option.some.injEq] at hp'
          subst hp'
          obtain ⟨hm, he⟩ := hlen.2 i hi
          have := hq2 (by omega)
          subst this
          refine ⟨rfl, ?_⟩
          have := r2 (off + i) hm
          simp only [cx] at this
          rw [show p.o + off + i = p.o + (off + i) by omega, this, he]
      · cases h0
    · rename_i v hb
      split at h0
      · rename_i k' n m hg
        obtain ⟨hk, h9⟩ := cond_none h0
        clear h0
        have h0 := h9
        clear h9
        have hk := of_decide_eq_true hk
        subst hk
        have hb := hl.get hb (by simp)
        obtain ⟨p, o, hp, hat, hml, hnn, h1, ⟨q, rfl, hq, hq2⟩, h3⟩ := own_arr I hb hg hv
        subst hml
        have hlen : l.length = olen len m.length off ∧ ∀ i (hi : i < l.length), ∃ hm : off + i < m.length, l[i] = m[off + i] := by
          cases len with
          | none => simp only [Option.some.injEq, cut] at h0; subst h0; exact ⟨by simp [olen], fun i hi => by simp at hi; exact ⟨by omega, by simp⟩⟩
          | some n => simp only [Option.some.injEq, cut] at h0; subst h0; simp only [olen] at h1; exact ⟨by simp [olen]; omega, fun i hi => by simp at hi; exact ⟨by omega, by simp⟩⟩
        have hmem : ∀ x ∈ l, x ∈ m := by
          intro y hy
          cases len with
          | none => simp only [Option.some.injEq, cut] at h0; subst h0; exact List.mem_of_mem_drop hy
          | some n => simp only [Option.some.injEq, cut] at h0; subst h0; exact List.mem_of_mem_drop (List.mem_of_mem_take hy)
        refine ⟨hnn.sub hmem, some q, _, by rw [hlen.1], by omega, fun e => (by cases e), fun p' hp' i hi => ?_⟩
        simp only [Option.some.injEq] at hp'
        subst hp'
        obtain ⟨hm, he⟩ := hlen.2 i hi
        have := hq2 (by omega)
        subst this
        refine ⟨rfl, ?_⟩
        have := (h3 (off + i) hm).1
        rw [show p.o + o + off + i = p.o + o + (off + i) by omega, this, he]
      · cases h0
    · cases h0
  · cases h0

end Go.Ev
