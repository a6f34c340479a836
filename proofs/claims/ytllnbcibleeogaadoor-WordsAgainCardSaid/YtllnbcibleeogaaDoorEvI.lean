/- The evaluator's soundness: conversions, lengths, elements' addresses, slices of slices. -/
import Derived.Test.YtllnbcibleeogaaDoorEvH
import Derived.Laws.BytesString
namespace Go.Ev
set_option linter.unusedSimpArgs false

theorem foldl_push : ∀ (ns : List Int) (s : ByteArray), ns.foldl (fun r n => r.push (UInt8.ofNat n.toNat)) s = ⟨s.data ++ (toStr ns).toArray⟩
  | [], s => by simp [toStr]
  | n :: ns, s => by
    rw [List.foldl_cons, foldl_push ns]
    simp [toStr, ByteArray.push]

theorem run_loadCells_ints {w : World} {P : Program} {k : IntKind} {l : List Int} {p : Addr} (h : ∀ i (hi : i < l.length), p.spot = none ∧ w.cell? ⟨p.block, p.off + i, none⟩ = some (.int k l[i])) :
    (loadCells p l.length).run P w = .ok (l.map (Value.int k)).toArray w := by
  have := run_loadCells_list (P := P) w p (l.map (Value.int k)) fun j v hj => by
    have hlt : j < l.length := by
      rcases Nat.lt_or_ge j l.length with q | q
      · exact q
      · simp [List.getElem?_eq_none q] at hj
    rw [addr_add _ _ (h j hlt).1, (h j hlt).2]
    simpa [hlt] using hj
  simpa using this

theorem convE_run {R : Type} {G : Gi} {κ : Kop R} {r : R} {look : Nat → Blk} {src dst : TypeId} {av : AV} (h0 : convE G look κ src dst av = some r) :
    ∃ v, κ v [] = some r ∧ ∀ (X : Fx) h L w x, X.G = G → Inv X h L w → lookOk look h → Val (cx X h L w) av x → ∃ cv, (convert src dst x).run G.P w = .ok cv w ∧ Val (cx X h L w) v cv := by
  unfold convE at h0
  split at h0
  · rename_i d k n hs hd
    refine ⟨_, h0, fun X h L w x hG I hl hx => ?_⟩
    obtain ⟨rfl, _⟩ := hx
    refine ⟨_, ?_, rfl, wrap_nn _ _⟩
    simp [convert, run_underlying' hs, run_underlying' hd, Conv.intToInt]
  · rename_i d l hs hd
    refine ⟨_, h0, fun X h L w x hG I hl hx => ?_⟩
    obtain rfl := hx
    refine ⟨_, ?_, rfl⟩
    simp [convert, run_underlying' hs, run_underlying' hd]
  · rename_i e hs hd hx1
    split at h0
    · rename_i he
      split at h0
      · rename_i l hc
        refine ⟨_, h0, fun X h L w x hG I hl hx => ?_⟩
        obtain ⟨hnn, a, cap, rfl, h2, h3, h4⟩ := cont_run hc X h L w x I hl hx
        rw [run_convert_bytes_string w src dst e a _ _ hs he hd]
        cases a with
        | none =>
          have := h3 rfl
          subst this
          exact ⟨_, by simp [Conv.bytesToString]; rfl, by simp [toStr]; rfl⟩
        | some p =>
          rw [run_bytesToString w p l.length cap l (run_loadCells_ints (h4 p rfl))]
          refine ⟨_, rfl, ?_⟩
          rw [foldl_push]
          have : (ByteArray.empty).data = #[] := rfl
          rw [this, Array.empty_append]
          rfl
      · cases h0
    · cases h0
  · cases h0

theorem slLen_run {look : Nat → Blk} {av : AV} {n : Nat} (h0 : slLen look av = some n) (X : Fx) (h : List Blk) (L : List Loc) (w : World) (x : Value) (I : Inv X h L w) (hl : lookOk look h)
    (hv : Val (cx X h L w) av x) : ∃ a cap, x = .slice a n cap := by
  unfold slLen at h0
  split at h0
  · simp only [Option.some.injEq] at h0; subst h0; obtain rfl := hv; exact ⟨_, _, rfl⟩
  · simp only [Option.some.injEq] at h0; subst h0; obtain ⟨_, a, cap, rfl, _⟩ := hv; exact ⟨_, _, rfl⟩
  · simp only [Option.some.injEq] at h0; subst h0; obtain ⟨a, cap, rfl, _⟩ := hv; exact ⟨_, _, rfl⟩
  · rename_i id path off len
    split at h0
    · rename_i k nl l hb
      simp only [Option.some.injEq] at h0; subst h0
      have hb := hl.get hb (by simp)
      have hv' := (Val_leaf rfl (by simp) (by simp)).1 hv
      have hpath : path = [] := by
        obtain ⟨p, hp⟩ := I.loc hb
        simp only [leaf, cx_S hb, Blk.sh] at hv'
        have hL : (cx X h L w).L[id]? = some p := hp
        rw [hL] at hv'
        exact hv'.1
      subst hpath
      obtain ⟨p, hp, h1, h2, h3⟩ := own_row I hb hv
      cases nl with
      | true =>
        obtain ⟨rfl, rfl⟩ := h2 rfl
        have : olen len ([] : List Int).length off = 0 := by simp at h1 ⊢; omega
        rw [this]; exact ⟨_, _, rfl⟩
      | false => obtain ⟨q, rfl, _⟩ := h3 rfl; exact ⟨_, _, rfl⟩
    · rename_i v hb
      split at h0
      · rename_i k m l hg
        simp only [Option.some.injEq] at h0; subst h0
        have hb := hl.get hb (by simp)
        obtain ⟨p, o, _, _, _, _, _, ⟨q, rfl, _⟩, _⟩ := own_arr I hb hg hv
        exact ⟨_, _, rfl⟩
      · cases h0
    · cases h0
  · cases h0

theorem lenE_run {R : Type} {G : Gi} {κ : Kop R} {r : R} {look : Nat → Blk} {t : TypeId} {av : AV} (h0 : lenE G look κ t av = some r) :
    ∃ v, κ v [] = some r ∧ ∀ (X : Fx) h L w x ty, X.G = G → Inv X h L w → lookOk look h → Val (cx X h L w) av x → ∃ cv, (Builtin.len_ #[t] ty #[x]).run G.P w = .ok cv w ∧ Val (cx X h L w) v cv := by
  unfold lenE at h0
  split at h0
  · rename_i hu
    split at h0
    · rename_i l
      refine ⟨_, h0, fun X h L w x ty hG I hl hx => ?_⟩
      obtain rfl := hx
      refine ⟨.int .i64 l.length, ?_, rfl, by simp [NN, IntKind.signed]⟩
      simp only [Builtin.len_, List.getElem?_toArray, List.getElem?_cons_zero, Sem.run_bind, run_underlying' hu, Result.andThen_ok, goInt, Sem.run_pure, ByteArray.size, List.size_toArray]
    · cases h0
  · rename_i n e hu
    refine ⟨_, h0, fun X h L w x ty hG I hl hx => ?_⟩
    refine ⟨.int .i64 n, ?_, rfl, by simp [NN, IntKind.signed]⟩
    simp [Builtin.len_, run_underlying' hu, goInt]
  · rename_i e hu
    split at h0
    · rename_i n hn
      refine ⟨_, h0, fun X h L w x ty hG I hl hx => ?_⟩
      obtain ⟨a, cap, rfl⟩ := slLen_run hn X h L w x I hl hx
      refine ⟨.int .i64 n, ?_, rfl, by simp [NN, IntKind.signed]⟩
      simp [Builtin.len_, run_underlying' hu, goInt]
    · cases h0
  · cases h0

theorem run_indexAt_slice {P : Program} {w : World} {t e : TypeId} {k : IntKind} {i : Int} {p : Addr} {len cap : Nat} (hu : P.underlying t = some (.slice e)) (hs : szIs P e 1 = true) (h0 : 0 ≤ i) (h1 : i < len) :
    (Instr.indexAt t (.slice (some p) len cap) (.int k i)).run P w = .ok (.pointer (some (p.add i.toNat))) w := by
  have hc : 0 ≤ i ∧ i < (len : Int) := ⟨h0, h1⟩
  simp [Instr.indexAt, asIntOf, run_underlying' hu, h0, h1, run_sizeOf' hs, hc]

theorem run_indexAt_array {P : Program} {w : World} {t e : TypeId} {k : IntKind} {i : Int} {p : Addr} {n : Nat} (hu : P.underlying t = some (.array n e)) (hs : szIs P e 1 = true) (h0 : 0 ≤ i) (h1 : i < n) :
    (Instr.indexAt t (.pointer (some p)) (.int k i)).run P w = .ok (.pointer (some (p.add i.toNat))) w := by
  have hc : 0 ≤ i ∧ i < (n : Int) := ⟨h0, h1⟩
  simp [Instr.indexAt, asIntOf, run_underlying' hu, Instr.sureAddr, h0, h1, run_sizeOf' hs, hc]

theorem indexAddrE_run {R : Type} {G : Gi} {κ : Kop R} {r : R} {look : Nat → Blk} {t : TypeId} {av iv : AV} (h0 : indexAddrE G look κ t av iv = some r) :
    ∃ v, κ v [] = some r ∧ ∀ (X : Fx) h L w x y, X.G = G → Inv X h L w → lookOk look h → Val (cx X h L w) av x → Val (cx X h L w) iv y →
      ∃ cv, (Instr.indexAt t x y).run G.P w = .ok cv w ∧ Val (cx X h L w) v cv := by
  unfold indexAddrE at h0
  split at h0
  · rename_i k i
    split at h0
    · rename_i n e hu
      split at h0
      · rename_i id path
        split at h0
        · rename_i v hb
          split at h0
          · rename_i k' m l hg
            obtain ⟨hc, h1⟩ := cond_none h0
            obtain ⟨hi, h2⟩ := cond_none h1
            obtain ⟨hj, h3⟩ := cond_none h2
            clear h0 h1 h2
            simp only [Bool.and_eq_true] at hc
            obtain ⟨c1, c2⟩ := hc
            have c2 := Nat.eq_of_beq_eq_true c2
            have hi := of_decide_eq_true hi
            have hj := of_decide_eq_true hj
            refine ⟨_, h3, fun X h L w x y hG I hl hx hy => ?_⟩
            obtain ⟨rfl, _⟩ := hy
            have hb := hl.get hb (by simp)
            obtain ⟨p, o, s, hp, rfl, hat⟩ := ptr_at I hb hx
            have hs := sh_getP _ _ _ _ _ hg hat
            simp only [sh] at hs
            subst hs
            refine ⟨_, run_indexAt_array hu c1 hi hj, ?_⟩
            have := at_append_ints path (sh v) o m i.toNat hat (by omega)
            rw [addr_add _ _ rfl]
            have q := ptr_mk (w := w) (X := X) hb hp this
            rw [show p.o + o + i.toNat = p.o + (o + i.toNat) by omega]
            exact q
          · cases h0
        · cases h0
      · cases h0
    · rename_i e hu
      split at h0
      · rename_i k' nl l
        obtain ⟨c1, h1⟩ := cond_none h0
        obtain ⟨hi, h2⟩ := cond_none h1
        obtain ⟨hj, h3⟩ := cond_none h2
        clear h0 h1 h2
        have hi := of_decide_eq_true hi
        have hj := of_decide_eq_true hj
        refine ⟨_, h3, fun X h L w x y hG I hl hx hy => ?_⟩
        obtain ⟨rfl, _⟩ := hy
        obtain ⟨hnn, a, cap, rfl, g2, g3, g4, g5⟩ := hx
        cases a with
        | none => have := (g4 rfl).1; subst this; simp at hj; omega
        | some p =>
          refine ⟨_, run_indexAt_slice hu c1 hi hj, ?_⟩
          obtain ⟨q1, q2⟩ := g5 p rfl
          have hlt : i.toNat < l.length := by omega
          rw [addr_add _ _ q1]
          refine ⟨fun hk z hz => by rw [List.mem_singleton] at hz; subst hz; exact hnn hk _ (getD_mem hlt), _, rfl, rfl, ?_, (q2 _ hlt).2⟩
          rw [(q2 _ hlt).1]
          simp [List.getD, List.getElem?_eq_getElem hlt]
      · rename_i k' ll
        obtain ⟨c1, h1⟩ := cond_none h0
        obtain ⟨hi, h2⟩ := cond_none h1
        obtain ⟨hj, h3⟩ := cond_none h2
        clear h0 h1 h2
        have hi := of_decide_eq_true hi
        have hj := of_decide_eq_true hj
        refine ⟨_, h3, fun X h L w x y hG I hl hx hy => ?_⟩
        obtain ⟨rfl, _⟩ := hy
        obtain ⟨a, cap, rfl, g2, g4, g5⟩ := hx
        cases a with
        | none => have := (g4 rfl).1; subst this; simp at hj; omega
        | some p =>
          refine ⟨_, run_indexAt_slice hu c1 hi hj, ?_⟩
          obtain ⟨q1, q2⟩ := g5 p rfl
          have hlt : i.toNat < ll.length := by omega
          obtain ⟨z, r1, r2, r3⟩ := q2 _ hlt
          rw [addr_add _ _ q1]
          refine ⟨_, z, rfl, rfl, r1, r2, ?_⟩
          simpa [List.getD, List.getElem?_eq_getElem hlt] using r3
      · rename_i id path off len
        split at h0
        · rename_i k' nl l hb
          split at h0
          · obtain ⟨c1, h1⟩ := cond_none h0
            obtain ⟨hi, h2⟩ := cond_none h1
            obtain ⟨hj, h3⟩ := cond_none h2
            clear h0 h1 h2
            have hi := of_decide_eq_true hi
            have hj := of_decide_eq_true hj
            refine ⟨_, h3, fun X h L w x y hG I hl hx hy => ?_⟩
            obtain ⟨rfl, _⟩ := hy
            have hb := hl.get hb (by simp)
            obtain ⟨p, hp, g1, g2, g3⟩ := own_row I hb hx
            cases nl with
            | true => obtain ⟨rfl, rfl⟩ := g2 rfl; simp only [List.length_nil] at g1 hj; omega
            | false =>
              obtain ⟨q, rfl, hq, hq2⟩ := g3 rfl
              obtain ⟨_, _, r⟩ := I.blk id _ p hb hp
              obtain ⟨r1, r2, r3⟩ := r rfl
              refine ⟨_, run_indexAt_slice hu c1 hi hj, ?_⟩
              have := hq2 (by omega)
              subst this
              rw [addr_add _ _ rfl, Val_leaf rfl (by simp) (by simp)]
              simp only [leaf, cx_S hb, Blk.sh]
              have hL : (cx X h L w).L[id]? = some p := hp
              rw [hL]
              exact ⟨rfl, _, rfl, by omega, by simp [Nat.add_assoc]⟩
          · cases h0
        · rename_i v hb
          split at h0
          · rename_i k' m l hg
            obtain ⟨c1, h1⟩ := cond_none h0
            obtain ⟨hi, h2⟩ := cond_none h1
            obtain ⟨hj, h3⟩ := cond_none h2
            clear h0 h1 h2
            have hi := of_decide_eq_true hi
            have hj := of_decide_eq_true hj
            refine ⟨_, h3, fun X h L w x y hG I hl hx hy => ?_⟩
            obtain ⟨rfl, _⟩ := hy
            have hb := hl.get hb (by simp)
            obtain ⟨p, o, hp, hat, hml, hnn, g1, ⟨q, rfl, hq, hq2⟩, g3⟩ := own_arr I hb hg hx
            refine ⟨_, run_indexAt_slice hu c1 hi hj, ?_⟩
            have := hq2 (by omega)
            subst this
            rw [addr_add _ _ rfl]
            have hat2 := at_append_ints path (sh v) o m (off + i.toNat) hat (by omega)
            have q := ptr_mk (w := w) (X := X) hb hp hat2
            simp only
            rw [show p.o + o + off + i.toNat = p.o + (o + (off + i.toNat)) by omega]
            exact q
          · cases h0
        · cases h0
      · cases h0
    · cases h0
  · cases h0


theorem bndE_ok {R : Type} {m len : Nat} {lo hi : Option AV} {κ : Nat → Nat → Option R} {r : R} (h0 : bndE m len lo hi κ = some r) :
    ∃ a b, κ a b = some r ∧ a ≤ b ∧ (len ≤ m → b ≤ m) ∧ ∀ (P : Program) (w : World) (c : Cx) (isS : Bool) (cap : Nat) (lv hv : Option Value), m ≤ cap →
      (∀ x, lo = some x → ∃ y, lv = some y ∧ Val c x y) → (lo = none → lv = none) → (∀ x, hi = some x → ∃ y, hv = some y ∧ Val c x y) → (hi = none → hv = none) →
      (Instr.sliceBounds isS len cap lv hv none).run P w = .ok (a, b, cap) w := by
  have low : ∀ h, (match lo with
      | none => κ 0 h
      | some (.int _ l) => cond (decide (0 ≤ l)) (cond (decide (l ≤ h)) (κ l.toNat h) none) none
      | some _ => none) = some r → ∃ a, κ a h = some r ∧ a ≤ h ∧ ∀ (P : Program) (w : World) (c : Cx) (code : BoundsCode) (lv : Option Value), (∀ x, lo = some x → ∃ y, lv = some y ∧ Val c x y) → (lo = none → lv = none) →
        (match lv with | some v => Instr.sliceBound v h code | none => pure 0).run P w = .ok a w := by
    intro h hk
    split at hk
    · exact ⟨0, hk, Nat.zero_le _, fun P w c code lv _ h2 => by rw [h2 rfl]; rfl⟩
    · rename_i k l
      obtain ⟨h1, h2⟩ := cond_none hk
      obtain ⟨h3, h4⟩ := cond_none h2
      have h1 := of_decide_eq_true h1
      have h3 := of_decide_eq_true h3
      refine ⟨_, h4, by omega, fun P w c code lv g1 _ => ?_⟩
      obtain ⟨y, rfl, rfl, _⟩ := g1 _ rfl
      simp [Instr.sliceBound, asIntOf, h1, h3]
    · cases hk
  unfold bndE at h0
  simp only at h0
  split at h0
  · obtain ⟨a, h1, h2, h3⟩ := low _ h0
    refine ⟨a, len, h1, h2, id, fun P w c isS cap lv hv hm g1 g2 g3 g4 => ?_⟩
    rw [g4 rfl]
    have := h3 P w c .sliceB lv g1 g2
    cases lv with
    | none => simp only [Instr.sliceBounds, Sem.run_bind, Sem.run_pure, Result.andThen_ok] at this ⊢; simp only [Result.ok.injEq] at this; rw [this.1]
    | some v => simp only [Instr.sliceBounds, Sem.run_bind, Sem.run_pure, Result.andThen_ok] at this ⊢; simp [this]
  · rename_i k h
    obtain ⟨q1, q2⟩ := cond_none h0
    obtain ⟨q3, q4⟩ := cond_none q2
    have q1 := of_decide_eq_true q1
    have q3 := of_decide_eq_true q3
    obtain ⟨a, h1, h2, h3⟩ := low _ q4
    refine ⟨a, h.toNat, h1, h2, fun _ => by omega, fun P w c isS cap lv hv hm g1 g2 g3 g4 => ?_⟩
    obtain ⟨y, rfl, rfl, _⟩ := g3 _ rfl
    have := h3 P w c .sliceB lv g1 g2
    have hle : 0 ≤ h ∧ h ≤ (cap : Int) := ⟨q1, by omega⟩
    have hb : ∀ code, (Instr.sliceBound (.int k h) cap code).run P w = .ok h.toNat w := fun code => by simp [Instr.sliceBound, asIntOf, hle]
    cases lv with
    | none => simp only [Instr.sliceBounds, Sem.run_bind, Sem.run_pure, Result.andThen_ok, hb] at this ⊢; simp only [Result.ok.injEq] at this; rw [this.1]
    | some v => simp only [Instr.sliceBounds, Sem.run_bind, Sem.run_pure, Result.andThen_ok, hb] at this ⊢; simp [this]
  · cases h0


theorem optVal {c : Cx} {o : Option AV} {v : Option Value} (h : match o, v with | some x, some y => Val c x y | none, none => True | _, _ => False) :
    (∀ x, o = some x → ∃ y, v = some y ∧ Val c x y) ∧ (o = none → v = none) := by
  cases o <;> cases v <;> simp_all

theorem sliceE_run {R : Type} {G : Gi} {κ : Kop R} {r : R} {look : Nat → Blk} {t : TypeId} {av : AV} {lo hi : Option AV} (h0 : sliceE G look κ t av lo hi = some r) :
    ∃ v, κ v [] = some r ∧ ∀ (X : Fx) h L w x lv hv, X.G = G → Inv X h L w → lookOk look h → Val (cx X h L w) av x →
      ((∀ x, lo = some x → ∃ y, lv = some y ∧ Val (cx X h L w) x y) ∧ (lo = none → lv = none)) → ((∀ x, hi = some x → ∃ y, hv = some y ∧ Val (cx X h L w) x y) ∧ (hi = none → hv = none)) →
      ∃ cv, (Instr.sliceAt t x lv hv none).run G.P w = .ok cv w ∧ Val (cx X h L w) v cv := by
  have arr : ∀ (id : Nat) (path : List Nat) (n : Nat) (e : TypeId) (κ : Kop R) , (match look id with
    | .var v => match getP v path with
      | some (.ints _ m _) => cond (Nat.beq n m) (bndE n n lo hi fun a b => κ (.own id path a (some (b - a))) []) none
      | _ => none
    | _ => none) = some r → szIs G.P e 1 = true → ∃ v, κ v [] = some r ∧ ∀ (X : Fx) h L w x lv hv, X.G = G → Inv X h L w → lookOk look h → Val (cx X h L w) (.ptr id path) x →
      ((∀ x, lo = some x → ∃ y, lv = some y ∧ Val (cx X h L w) x y) ∧ (lo = none → lv = none)) → ((∀ x, hi = some x → ∃ y, hv = some y ∧ Val (cx X h L w) x y) ∧ (hi = none → hv = none)) →
      ∃ a b p, (Instr.sliceBounds false n n lv hv none).run G.P w = .ok (a, b, n) w ∧ x = .pointer (some p) ∧
        Val (cx X h L w) v (.slice (some (if n = a then p else p.add (a * 1))) (b - a) (n - a)) := by
    intro id path n e κ hk he
    split at hk
    · rename_i v hb
      split at hk
      · rename_i k m l hg
        obtain ⟨c1, h1⟩ := cond_none hk
        have c1 := Nat.eq_of_beq_eq_true c1
        subst c1
        obtain ⟨a, b, g1, g2, g3, g4⟩ := bndE_ok h1
        refine ⟨_, g1, fun X h L w x lv hv hG I hl hx hlo hhi => ?_⟩
        have hb := hl.get hb (by simp)
        obtain ⟨p, o, s, hp, rfl, hat⟩ := ptr_at I hb hx
        have hs := sh_getP _ _ _ _ _ hg hat
        simp only [sh] at hs
        subst hs
        refine ⟨a, b, _, g4 G.P w (cx X h L w) false n lv hv (Nat.le_refl _) hlo.1 hlo.2 hhi.1 hhi.2, rfl, ?_⟩
        rw [Val_leaf rfl (by simp) (by simp)]
        simp only [leaf, cx_S hb, Blk.sh]
        have hL : (cx X h L w).L[id]? = some p := hp
        rw [hL]
        have g3 := g3 (Nat.le_refl _)
        refine ⟨o, n, hat, by simp [olen]; omega, (if n = a then (⟨p.b, p.o + o, none⟩ : Addr) else Addr.add ⟨p.b, p.o + o, none⟩ (a * 1)), by simp [olen], ?_, fun hlt => ?_⟩
        · split
          · exact ⟨rfl, rfl⟩
          · rw [addr_add _ _ rfl]; exact ⟨rfl, rfl⟩
        · rw [if_neg (by omega), addr_add _ _ rfl]; simp
      · cases hk
    · cases hk
  unfold sliceE at h0
  split at h0
  · rename_i l hu
    obtain ⟨a, b, g1, g2, g3, g4⟩ := bndE_ok h0
    refine ⟨_, g1, fun X h L w x lv hv hG I hl hx hlo hhi => ?_⟩
    obtain rfl := hx
    have hb := g4 G.P w (cx X h L w) false l.length lv hv (Nat.le_refl _) hlo.1 hlo.2 hhi.1 hhi.2
    have hsz : (ByteArray.mk l.toArray).size = l.length := rfl
    refine ⟨.string ⟨((l.take b).drop a).toArray⟩, ?_, rfl⟩
    simp only [Instr.sliceAt, Sem.run_bind, run_underlying' hu, Result.andThen_ok, Instr.slice, Option.isSome_none, Bool.false_eq_true, if_false, hsz, hb, Sem.run_pure]
    congr 2
    apply ByteArray.ext
    simp [List.drop_take]
  · rename_i e k nl l hu
    obtain ⟨c1, h1⟩ := cond_none h0
    obtain ⟨a, b, g1, g2, g3, g4⟩ := bndE_ok h1
    refine ⟨_, g1, fun X h L w x lv hv hG I hl hx hlo hhi => ?_⟩
    obtain ⟨hnn, ad, cap, rfl, q2, q3, q4, q5⟩ := hx
    have hb := g4 G.P w (cx X h L w) true cap lv hv q2 hlo.1 hlo.2 hhi.1 hhi.2
    refine ⟨_, by
      simp only [Instr.sliceAt, Sem.run_bind, run_underlying' hu, Result.andThen_ok, Instr.slice, hb, run_sizeOf' c1, Sem.run_pure]; rfl, ?_⟩
    refine ⟨hnn.sub fun y hy => List.mem_of_mem_take (List.mem_of_mem_drop hy), (if cap = a then ad else ad.map (·.add (a * 1))), cap - a, by simp; omega, by simp; omega, ?_, ?_, ?_⟩
    · intro bb hbb
      have := q3 bb hbb
      split
      · exact this
      · cases ad <;> simpa using this
    · intro hn
      have : ad = none := by
        split at hn
        · exact hn
        · simpa using hn
      obtain ⟨rfl, rfl⟩ := q4 this
      simp
    · intro p hp
      cases ad with
      | none => simp at hp
      | some p0 =>
        obtain ⟨r1, r2⟩ := q5 p0 rfl
        split at hp
        · rename_i hca
          simp only [Option.some.injEq] at hp; subst hp
          refine ⟨r1, fun i hi => ?_⟩
          simp at hi; omega
        · simp only [Option.map_some, Option.some.injEq] at hp; subst hp
          rw [addr_add _ _ r1]
          refine ⟨rfl, fun i hi => ?_⟩
          have hi' : a + i < l.length := by simp at hi; omega
          have := r2 (a + i) hi'
          simp only [Nat.mul_one]
          rw [show p0.off + a + i = p0.off + (a + i) by omega]
          refine ⟨?_, this.2⟩
          rw [this.1]
          simp
  · rename_i e id path off len hu
    obtain ⟨c1, h1⟩ := cond_none h0
    split at h1
    · rename_i k nl l hb
      split at h1
      · obtain ⟨a, b, g1, g2, g3, g4⟩ := bndE_ok h1
        refine ⟨_, g1, fun X h L w x lv hv hG I hl hx hlo hhi => ?_⟩
        have hb := hl.get hb (by simp)
        obtain ⟨p, hp, q1, q2, q3⟩ := own_row I hb hx
        have g3 := g3 (by omega)
        obtain ⟨_, _, rr⟩ := I.blk id _ p hb hp
        cases nl with
        | true =>
          obtain ⟨rfl, rfl⟩ := q2 rfl
          simp only [List.length_nil] at q1 g3 g4
          have h0' : olen len 0 off = 0 := by omega
          have hbd := g4 G.P w (cx X h L w) true 0 lv hv (by omega) hlo.1 hlo.2 hhi.1 hhi.2
          rw [h0'] at hbd
          have hb0 : b = 0 := by omega
          have ha0 : a = 0 := by omega
          subst hb0; subst ha0
          refine ⟨_, by
            simp only [Instr.sliceAt, Sem.run_bind, run_underlying' hu, Result.andThen_ok, Instr.slice, hbd, run_sizeOf' c1, Sem.run_pure]; rfl, ?_⟩
          rw [Val_leaf rfl (by simp) (by simp)]
          simp only [leaf, cx_S hb, Blk.sh]
          have hL : (cx X h L w).L[id]? = some p := hp
          rw [hL]
          exact ⟨by trivial, by simp [olen]; omega, by simp⟩
        | false =>
          obtain ⟨q, rfl, hq, hq2⟩ := q3 rfl
          obtain ⟨r1, r2, r3⟩ := rr rfl
          have hbd := g4 G.P w (cx X h L w) true (p.cap - off) lv hv (by omega) hlo.1 hlo.2 hhi.1 hhi.2
          refine ⟨_, by
            simp only [Instr.sliceAt, Sem.run_bind, run_underlying' hu, Result.andThen_ok, Instr.slice, hbd, run_sizeOf' c1, Sem.run_pure]; rfl, ?_⟩
          rw [Val_leaf rfl (by simp) (by simp)]
          simp only [leaf, cx_S hb, Blk.sh]
          have hL : (cx X h L w).L[id]? = some p := hp
          rw [hL]
          refine ⟨by trivial, by simp [olen]; omega, ?_⟩
          simp only [Bool.false_eq_true, if_false, Option.map_some]
          have hqs : off < p.cap → q.spot = none := fun hlt => by rw [hq2 hlt]
          by_cases hca : p.cap - off = a
          · rw [if_pos hca]
            exact ⟨q, by simp [olen]; omega, hq, fun hlt => by omega⟩
          · rw [if_neg hca]
            have hlt : off < p.cap := by omega
            have := hq2 hlt
            subst this
            rw [addr_add _ _ rfl]
            exact ⟨⟨p.b, p.o + off + a * 1, none⟩, by simp [olen]; omega, ⟨rfl, rfl⟩, fun _ => by simp [Nat.add_assoc]⟩
      · cases h1
    · rename_i v hb
      split at h1
      · rename_i k m l hg
        obtain ⟨a, b, g1, g2, g3, g4⟩ := bndE_ok h1
        refine ⟨_, g1, fun X h L w x lv hv hG I hl hx hlo hhi => ?_⟩
        have hb := hl.get hb (by simp)
        obtain ⟨p, o, hp, hat, hml, hnn, q1, ⟨q, rfl, hq, hq2⟩, q3⟩ := own_arr I hb hg hx
        have g3 := g3 (by omega)
        have hbd := g4 G.P w (cx X h L w) true (m - off) lv hv (by omega) hlo.1 hlo.2 hhi.1 hhi.2
        refine ⟨_, by
          simp only [Instr.sliceAt, Sem.run_bind, run_underlying' hu, Result.andThen_ok, Instr.slice, hbd, run_sizeOf' c1, Sem.run_pure]; rfl, ?_⟩
        rw [Val_leaf rfl (by simp) (by simp)]
        simp only [leaf, cx_S hb, Blk.sh]
        have hL : (cx X h L w).L[id]? = some p := hp
        rw [hL]
        refine ⟨o, m, hat, by simp [olen]; omega, ?_⟩
        simp only [Option.map_some]
        by_cases hca : m - off = a
        · rw [if_pos hca]
          exact ⟨q, by simp [olen]; omega, hq, fun hlt => by omega⟩
        · rw [if_neg hca]
          have hlt : off < m := by omega
          have := hq2 hlt
          subst this
          rw [addr_add _ _ rfl]
          exact ⟨⟨p.b, p.o + o + off + a * 1, none⟩, by simp [olen]; omega, ⟨rfl, rfl⟩, fun _ => by simp [Nat.add_assoc]⟩
      · cases h1
    · cases h1
  · rename_i n e id path hu
    obtain ⟨c1, h1⟩ := cond_none h0
    obtain ⟨v, g1, g2⟩ := arr id path n e κ h1 c1
    refine ⟨v, g1, fun X h L w x lv hv hG I hl hx hlo hhi => ?_⟩
    obtain ⟨a, b, p, q1, rfl, q2⟩ := g2 X h L w x lv hv hG I hl hx hlo hhi
    refine ⟨_, ?_, q2⟩
    simp only [Instr.sliceAt, Sem.run_bind, run_underlying' hu, Result.andThen_ok, Instr.sureAddr, Sem.run_pure, q1, run_sizeOf' c1]
  · rename_i u id path hu
    split at h0
    · rename_i n e hu2
      obtain ⟨c1, h1⟩ := cond_none h0
      obtain ⟨v, g1, g2⟩ := arr id path n e κ h1 c1
      refine ⟨v, g1, fun X h L w x lv hv hG I hl hx hlo hhi => ?_⟩
      obtain ⟨a, b, p, q1, rfl, q2⟩ := g2 X h L w x lv hv hG I hl hx hlo hhi
      refine ⟨_, ?_, q2⟩
      simp only [Instr.sliceAt, Sem.run_bind, run_underlying' hu, Result.andThen_ok, Instr.slice, asAddr, run_underlying' hu2, Sem.run_pure, q1, run_sizeOf' c1]
    · cases h0
  · cases h0

end Go.Ev
