/- The evaluator's soundness: operations that leave the memory alone. -/
import Derived.Test.YtllnbcibleeogaaDoorEvE
import Derived.Laws.Bits
namespace Go.Ev

def OpOk (G : Gi) (o : Oper) (t : List AV) (look : Nat → Blk) (nid : Nat) (v : AV) (us : List (Nat × Blk)) : Prop :=
  ∀ (X : Fx), X.G = G → ∀ (h : List Blk) (L : List Loc) (a : Act) (w : World) (next : Act → World → Prop) (Q : Exit → Act → World → Prop), Inv X h L w →
    (∀ x ∈ o.op.operands.toList, Val (cx X h L w) (evO t x) (a.eval x)) →
    (∀ id, look id ≠ .rsv → h[id]? = some (look id)) →
    (∀ i, i < resv o → h[nid + i]? = some .rsv) →
    (∀ cv L' w', Inv X (applyU h us) L' w' → Cx.Le (cx X h L w) (cx X (applyU h us) L' w') → Val (cx X (applyU h us) L' w') v cv → next (a.put o.dst cv) w') →
    o.wp X.G.P a w next Q ∨ (o.asks X.G.P a w ∧ LetsOut Q)

theorem Cx.Le.refl (c : Cx) : c.Le c := ⟨rfl, fun _ _ _ h1 h2 => ⟨h1, h2⟩, fun _ _ h _ => .inl ⟨h, rfl⟩⟩

theorem Cx.Le.trans {a b c : Cx} (h : a.Le b) (k : b.Le c) : a.Le c := by
  refine ⟨k.eps.trans h.eps, fun x o v h1 h2 => ?_, fun id s hs hr => ?_⟩
  · obtain ⟨q1, q2⟩ := h.cell x o v h1 h2
    exact k.cell x o v q1 q2
  · rcases h.sh id s hs hr with ⟨q1, q2⟩ | q
    · rcases k.sh id s q1 hr with ⟨r1, r2⟩ | r
      · exact .inl ⟨r1, r2.trans q2⟩
      · exact .inr r
    · rcases k.sh id .dead q (by simp) with ⟨r1, _⟩ | r
      · exact .inr r1
      · exact .inr r

theorem OpOk.pure {G : Gi} {o : Oper} {t : List AV} {look : Nat → Blk} {nid : Nat} {v : AV}
    (hp : ∀ (X : Fx), X.G = G → ∀ (h : List Blk) (L : List Loc) (a : Act) (w : World), Inv X h L w → (∀ x ∈ o.op.operands.toList, Val (cx X h L w) (evO t x) (a.eval x)) → (∀ id, look id ≠ .rsv → h[id]? = some (look id)) →
      ∃ cv, (execOp a.eval o).run X.G.P w = .ok (.value cv) w ∧ Val (cx X h L w) v cv) : OpOk G o t look nid v [] := by
  intro X hXG h L a w next Q I hv hl _ hk
  obtain ⟨cv, h1, h2⟩ := hp X hXG h L a w I hv hl
  refine .inl ?_
  unfold Oper.wp
  rw [h1]
  exact hk cv L w I (Cx.Le.refl _) h2

theorem Val_int {c : Cx} {k : IntKind} {n : Int} {v : Value} : Val c (.int k n) v ↔ v = .int k n ∧ NN k [n] := Iff.rfl
theorem Val_bool {c : Cx} {b : Bool} {v : Value} : Val c (.bool b) v ↔ v = .bool b := Iff.rfl
theorem Val_str {c : Cx} {l : List UInt8} {v : Value} : Val c (.str l) v ↔ v = .string ⟨l.toArray⟩ := Iff.rfl

theorem NN1 {k : IntKind} {n : Int} : NN k [n] ↔ (k.signed = false → 0 ≤ n) := by simp [NN]

theorem wrap_nn (k : IntKind) (n : Int) : NN k [k.wrap n] := by
  rw [NN1]
  intro hk
  unfold IntKind.wrap
  simp only [hk, Bool.false_and, Bool.false_eq_true, if_false]
  exact Int.emod_nonneg _ (by cases k <;> decide)

theorem iand_nn (k : IntKind) (x y : Int) : NN k [iand k x y] := wrap_nn _ _
theorem ior_nn (k : IntKind) (x y : Int) : NN k [ior k x y] := wrap_nn _ _
theorem ixor_nn (k : IntKind) (x y : Int) : NN k [ixor k x y] := wrap_nn _ _
theorem iandn_nn (k : IntKind) (x y : Int) : NN k [iandn k x y] := wrap_nn _ _
theorem inot_nn (k : IntKind) (x : Int) : NN k [inot k x] := wrap_nn _ _
theorem ishl_nn (k : IntKind) (x y : Int) : NN k [ishl k x y] := wrap_nn _ _
theorem ishr_nn {k : IntKind} {x : Int} (y : Int) (h : NN k [x]) : NN k [ishr k x y] := by
  rw [NN1] at *
  intro hk
  unfold ishr
  have h1 := h hk
  rw [Int.fdiv_eq_ediv_of_nonneg _ (by exact Int.le_of_lt (Int.pow_pos (by decide)))]
  exact Int.ediv_nonneg h1 (Int.le_of_lt (Int.pow_pos (by decide)))
theorem tmod_nn {k : IntKind} {x : Int} (y : Int) (h : NN k [x]) : NN k [x.tmod y] := by
  rw [NN1] at *
  intro hk
  exact Int.tmod_nonneg _ (h hk)

theorem run_eqGuard (P : Program) (op : BinOp) (t : TypeId) (x y : Operand) (a b : Value) (w : World) (h1 : a ≠ .nilIface ∨ b ≠ .nilIface) (h2 : (∀ c, a ≠ .agg c) ∨ ∀ c, b ≠ .agg c) :
    (eqGuard op t x y a b).run P w = .ok () w := by
  unfold eqGuard
  cases op <;> cases a <;> cases b <;> simp_all

theorem cond_none {R : Type} {b : Bool} {x : Option R} {r : R} (h : cond b x none = some r) : b = true ∧ x = some r := by
  cases b <;> simp_all
theorem cond_none' {R : Type} {b : Bool} {x : Option R} {r : R} (h : cond b none x = some r) : b = false ∧ x = some r := by
  cases b <;> simp_all

theorem run_binOp_int (P : Program) (w : World) (op : BinOp) (t : TypeId) (k : IntKind) (a b : Int) (hs : op ≠ .shl ∧ op ≠ .shr) :
    (binOp op t (.int k a) (.int k b)).run P w = (match op with
      | .add | .sub | .mul => Op.intArith op k a b
      | .quo | .rem => Op.intDiv op k a b
      | .and | .or | .xor | .andNot => Op.intBits op k a b
      | _ => Op.intCmp op a b).run P w := by
  cases op <;> simp_all [binOp]

theorem run_underlying' {P : Program} {t : TypeId} {d : TypeDesc} (h : P.underlying t = some d) (w : World) : (underlying t).run P w = .ok d w := by
  simp [underlying, h]

theorem run_equalIn_bool {P : Program} {t : TypeId} (hu : P.underlying t = some .bool) (d : Nat) (a b : Bool) (w : World) : (Op.equalIn (d + 1) t (.bool a) (.bool b)).run P w = .ok (a == b) w := by
  simp only [Op.equalIn, Sem.run_bind, run_underlying' hu, Result.andThen_ok, Sem.run_pure]

theorem run_equal_of {P : Program} {t : TypeId} {x y : Value} {r : Bool} {w w' : World} (h : (Op.equalIn (9999 + 1) t x y).run P w = .ok r w') : (Op.equal t x y).run P w = .ok r w' := h

theorem ba_loop (s : ByteArray) : ∀ (n i : Nat) (r : List UInt8), s.size - i = n → ByteArray.toList.loop s i r = r.reverse ++ s.data.toList.drop i := by
  intro n
  induction n with
  | zero =>
    intro i r h
    rw [ByteArray.toList.loop]
    have h1 : ¬ i < s.size := by omega
    have h2 : s.data.toList.length ≤ i := by have := Nat.le_of_not_lt h1; rw [Array.length_toList]; exact this
    simp only [h1, if_false, List.drop_eq_nil_of_le h2, List.append_nil]
  | succ n ih =>
    intro i r h
    rw [ByteArray.toList.loop]
    have h1 : i < s.size := by omega
    simp only [h1, if_true]
    rw [ih (i + 1) _ (by omega)]
    have h2 : i < s.data.toList.length := by rw [Array.length_toList]; exact h1
    rw [List.drop_eq_getElem_cons h2]
    have : s.get! i = s.data.toList[i] := by
      have h3 : i < s.data.size := h1
      show s.data[i]! = _
      rw [getElem!_pos s.data i h3]
      simp
    simp [this]
theorem ba_toList (l : List UInt8) : (ByteArray.mk l.toArray).toList = l := by
  have := ba_loop ⟨l.toArray⟩ _ 0 [] rfl
  simpa [ByteArray.toList] using this

/-- An operation on two values comes to a value, in every memory that reads as the abstract ones say. -/
def BinRun (P : Program) (op : BinOp) (ty : TypeId) (av bv v : AV) : Prop :=
  ∀ (c : Cx) (x y : Value) (xo yo : Operand), Val c av x → Val c bv y → ∃ cv, (eqGuard op ty xo yo x y).run P c.w = .ok () c.w ∧ (binOp op ty x y).run P c.w = .ok cv c.w ∧ Val c v cv

theorem BinRun.ints {P : Program} {op : BinOp} {ty : TypeId} {k k' : IntKind} {a b : Int} {v : AV}
    (h : ∀ (w : World), NN k [a] → NN k' [b] → ∃ cv, (binOp op ty (.int k a) (.int k' b)).run P w = .ok cv w ∧ ∀ c, Val c v cv) : BinRun P op ty (.int k a) (.int k' b) v := by
  rintro c x y xo yo ⟨rfl, n1⟩ ⟨rfl, n2⟩
  obtain ⟨cv, g1, g2⟩ := h c.w n1 n2
  exact ⟨cv, run_eqGuard _ _ _ _ _ _ _ _ (.inl (by simp)) (.inl (by simp)), g1, g2 c⟩

theorem shift_ok {k' : IntKind} {b : Int} (hb : (k'.signed && decide (b < 0)) = false) (n2 : NN k' [b]) : ¬ b < 0 := by
  intro hlt
  rw [NN1] at n2
  cases hs : k'.signed
  · have := n2 hs; omega
  · simp [hs, hlt] at hb

theorem binE_run {R : Type} {G : Gi} {κ : Kop R} {r : R} {op : BinOp} {ty : TypeId} {av bv : AV} (hne : ∀ k n l, av ≠ .ints k n l) (hni : ∀ k n l, av ≠ .isl k n l)
    (h : binE G κ op ty av bv = some r) : ∃ v, κ v [] = some r ∧ BinRun G.P op ty av bv v := by
  unfold binE at h
  split at h
  · rename_i k a k' b
    have arith : ∀ (op : BinOp) (v : AV), op ≠ .shl → op ≠ .shr → k = k' → (∀ (w : World), NN k [a] → NN k [b] → ∃ cv, (match op with
          | .add | .sub | .mul => Op.intArith op k a b
          | .quo | .rem => Op.intDiv op k a b
          | .and | .or | .xor | .andNot => Op.intBits op k a b
          | _ => Op.intCmp op a b).run G.P w = .ok cv w ∧ ∀ c, Val c v cv) → BinRun G.P op ty (.int k a) (.int k' b) v := fun op v n1 n2 hk hv => by
        subst hk
        exact .ints fun w q1 q2 => by rw [run_binOp_int G.P w op ty k a b ⟨n1, n2⟩]; exact hv w q1 q2
    cases op <;> simp only at h
    case shl =>
      obtain ⟨hb, h⟩ := cond_none' h
      exact ⟨_, h, .ints fun w n1 n2 => ⟨.int k (ishl k a b), by simp [binOp, Op.shift, shift_ok hb n2, ishl], fun c => ⟨rfl, ishl_nn _ _ _⟩⟩⟩
    case shr =>
      obtain ⟨hb, h⟩ := cond_none' h
      exact ⟨_, h, .ints fun w n1 n2 => ⟨.int k (ishr k a b), by simp [binOp, Op.shift, shift_ok hb n2, ishr], fun c => ⟨rfl, ishr_nn _ n1⟩⟩⟩
    all_goals
      obtain ⟨hk, h⟩ := cond_none h
      have hk : k = k' := by simpa using hk
    case add => exact ⟨_, h, arith _ _ (by simp) (by simp) hk fun w q1 q2 => ⟨.int k (k.wrap (a + b)), by simp [Op.intArith], fun c => ⟨rfl, wrap_nn _ _⟩⟩⟩
    case sub => exact ⟨_, h, arith _ _ (by simp) (by simp) hk fun w q1 q2 => ⟨.int k (k.wrap (a - b)), by simp [Op.intArith], fun c => ⟨rfl, wrap_nn _ _⟩⟩⟩
    case mul => exact ⟨_, h, arith _ _ (by simp) (by simp) hk fun w q1 q2 => ⟨.int k (k.wrap (a * b)), by simp [Op.intArith], fun c => ⟨rfl, wrap_nn _ _⟩⟩⟩
    case quo =>
      obtain ⟨hb, h⟩ := cond_none' h
      have hb : ¬ b = 0 := by simpa using hb
      exact ⟨_, h, arith _ _ (by simp) (by simp) hk fun w q1 q2 => ⟨.int k (k.wrap (a.tdiv b)), by simp [Op.intDiv, hb], fun c => ⟨rfl, wrap_nn _ _⟩⟩⟩
    case rem =>
      obtain ⟨hb, h⟩ := cond_none' h
      have hb : ¬ b = 0 := by simpa using hb
      exact ⟨_, h, arith _ _ (by simp) (by simp) hk fun w q1 q2 => ⟨.int k (a.tmod b), by simp [Op.intDiv, hb], fun c => ⟨rfl, tmod_nn _ q1⟩⟩⟩
    case and => exact ⟨_, h, arith _ _ (by simp) (by simp) hk fun w q1 q2 => ⟨.int k (iand k a b), by simp [Op.intBits, iand], fun c => ⟨rfl, iand_nn _ _ _⟩⟩⟩
    case or => exact ⟨_, h, arith _ _ (by simp) (by simp) hk fun w q1 q2 => ⟨.int k (ior k a b), by simp [Op.intBits, ior], fun c => ⟨rfl, ior_nn _ _ _⟩⟩⟩
    case xor => exact ⟨_, h, arith _ _ (by simp) (by simp) hk fun w q1 q2 => ⟨.int k (ixor k a b), by simp [Op.intBits, ixor], fun c => ⟨rfl, ixor_nn _ _ _⟩⟩⟩
    case andNot => exact ⟨_, h, arith _ _ (by simp) (by simp) hk fun w q1 q2 => ⟨.int k (iandn k a b), by simp [Op.intBits, iandn], fun c => ⟨rfl, iandn_nn _ _ _⟩⟩⟩
    case eql => exact ⟨_, h, arith _ _ (by simp) (by simp) hk fun w q1 q2 => ⟨.bool (a == b), by simp [Op.intCmp], fun c => rfl⟩⟩
    case neq => exact ⟨_, h, arith _ _ (by simp) (by simp) hk fun w q1 q2 => ⟨.bool (a != b), by simp [Op.intCmp], fun c => rfl⟩⟩
    case lss => exact ⟨_, h, arith _ _ (by simp) (by simp) hk fun w q1 q2 => ⟨.bool (decide (a < b)), by simp [Op.intCmp], fun c => rfl⟩⟩
    case leq => exact ⟨_, h, arith _ _ (by simp) (by simp) hk fun w q1 q2 => ⟨.bool (decide (a ≤ b)), by simp [Op.intCmp], fun c => rfl⟩⟩
    case gtr => exact ⟨_, h, arith _ _ (by simp) (by simp) hk fun w q1 q2 => ⟨.bool (decide (a > b)), by simp [Op.intCmp], fun c => rfl⟩⟩
    case geq => exact ⟨_, h, arith _ _ (by simp) (by simp) hk fun w q1 q2 => ⟨.bool (decide (a ≥ b)), by simp [Op.intCmp], fun c => rfl⟩⟩
  · rename_i a b
    split at h
    · rename_i hu
      refine ⟨_, h, ?_⟩
      rintro c x y xo yo rfl rfl
      refine ⟨.bool (a == b), run_eqGuard _ _ _ _ _ _ _ _ (.inl (by simp)) (.inl (by simp)), ?_, rfl⟩
      simp only [binOp, Sem.run_bind, run_equal_of (run_equalIn_bool hu 9999 a b c.w), Result.andThen_ok, Sem.run_pure]
    · rename_i hu
      refine ⟨_, h, ?_⟩
      rintro c x y xo yo rfl rfl
      refine ⟨.bool (!(a == b)), run_eqGuard _ _ _ _ _ _ _ _ (.inl (by simp)) (.inl (by simp)), ?_, rfl⟩
      simp only [binOp, Sem.run_bind, run_equal_of (run_equalIn_bool hu 9999 a b c.w), Result.andThen_ok, Sem.run_pure]
    · cases h
  · rename_i a b
    split at h
    · refine ⟨_, h, ?_⟩
      rintro c x y xo yo rfl rfl
      refine ⟨.bool (a == b), run_eqGuard _ _ _ _ _ _ _ _ (.inl (by simp)) (.inl (by simp)), ?_, rfl⟩
      simp [binOp, Op.stringOp, ba_toList]
    · refine ⟨_, h, ?_⟩
      rintro c x y xo yo rfl rfl
      refine ⟨.bool (!(a == b)), run_eqGuard _ _ _ _ _ _ _ _ (.inl (by simp)) (.inl (by simp)), ?_, rfl⟩
      simp [binOp, Op.stringOp, ba_toList]
    · obtain ⟨hb, h⟩ := cond_none h
      refine ⟨_, h, ?_⟩
      rintro c x y xo yo rfl rfl
      refine ⟨.string ⟨(a ++ b).toArray⟩, run_eqGuard _ _ _ _ _ _ _ _ (.inl (by simp)) (.inl (by simp)), ?_, rfl⟩
      simp only [decide_eq_true_eq] at hb
      have : ¬ (((ByteArray.mk a.toArray).size + (ByteArray.mk b.toArray).size : Nat) : Int) > IntKind.i64.max := by
        simp [ByteArray.size, IntKind.max, IntKind.bits, IntKind.signed] at hb ⊢; omega
      simp only [binOp, Op.stringOp, if_neg this, Sem.run_pure]
      congr 2
    · cases h
  · rename_i k n l k' n' l'
    exact absurd rfl (hne k n l)
  · rename_i k nl l
    exact absurd rfl (hni k (some nl) l)
  · cases h

end Go.Ev
