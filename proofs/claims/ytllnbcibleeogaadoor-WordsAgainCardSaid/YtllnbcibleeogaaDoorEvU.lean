/- The evaluator's soundness: one operation. -/
import Derived.Test.YtllnbcibleeogaaDoorEvT
namespace Go.Ev

theorem All2_map {α β γ : Type} {r : β → γ → Prop} (f : α → β) (g : α → γ) : ∀ (l : List α), (∀ x ∈ l, r (f x) (g x)) → All2 r (l.map f) (l.map g)
  | [], _ => trivial
  | a :: l, h => ⟨h a (by simp), All2_map f g l fun x hx => h x (by simp [hx])⟩

theorem coerce_ok {c : Cx} {P : Program} {t : TypeId} {x : AV} {y : Value} (h : Val c x y) : Val c (coerce P t x) y := by
  cases x with
  | nils =>
    have e : y = .slice none 0 0 := h
    have hi : ∀ k, Val c (.isl k (some true) []) y := fun k => ⟨by simp [NN], none, 0, e, Nat.le_refl _, fun b hb => by simp at hb; simp [hb], fun _ => ⟨rfl, rfl⟩, fun p hp => by cases hp⟩
    have hr : ∀ k, Val c (.rsl k []) y := fun k => ⟨none, 0, e, Nat.le_refl _, fun _ => ⟨rfl, rfl⟩, fun p hp => by cases hp⟩
    simp only [coerce]
    split
    · split
      · exact hi _
      · split
        · exact hr _
        · exact h
      · exact h
    · exact h
  | _ => exact h

theorem coerceL_ok {c : Cx} {P : Program} : ∀ {ts : List TypeId} {l : List AV} {m : List Value}, All2 (Val c) l m → All2 (Val c) (coerceL P ts l) m
  | [], l, m, h => by simpa [coerceL] using h
  | t :: ts, [], [], h => h
  | t :: ts, v :: l, y :: m, ⟨h1, h2⟩ => ⟨coerce_ok h1, coerceL_ok h2⟩
  | _ :: _, [], _ :: _, h => h.elim
  | _ :: _, _ :: _, [], h => h.elim

theorem callE_ok {G : Gi} {R : Type} {κ : Kop R} {r : R} {o : Oper} {c : Call} {f : Nat} {t : List AV} {look : Nat → Blk} {nid : Nat} (hG : GOk G) (ho : o.op = .call c) (hc : c.callee = .value (.func f))
    (h0 : callE G look nid κ f (c.args.toList.map (evO t)) = some r) : ∃ v us, κ v us = some r ∧ OpOk G o t look nid v us := by
  have hres : resv o = maxNew := by simp only [resv, ho, hc]
  unfold callE at h0
  split at h0
  · cases h0
  · rename_i C hC
    obtain ⟨hs, fn, hfn, hnm, hbd⟩ := hG.con f C hC
    simp only at h0
    obtain ⟨hnd, h0⟩ := cond_none h0
    have hnd := nodupN_iff.1 hnd
    split at h0
    · rename_i as bs has hbs
      obtain ⟨v, bs', h1, hcall⟩ := hs _ _ _ _ _ h0
      clear h0
      split at h1
      · rename_i v' us ns hv hus hns
        obtain ⟨hb, h1⟩ := cond_none h1
        simp only [Bool.and_eq_true] at hb
        have hb1 := Nat.le_of_ble_eq_true hb.1
        have hb2 := Nat.le_of_ble_eq_true hb.2
        -- what is snapped is none of what goes in
        have hsn : ∀ id ∈ snapIds look (ptrs (c.args.toList.map (evO t))) ((ptrs (c.args.toList.map (evO t)) ++ entRows look (ptrs (c.args.toList.map (evO t)))).map (·.1)) (c.args.toList.map (evO t)),
            id ∉ (ptrs (c.args.toList.map (evO t)) ++ entRows look (ptrs (c.args.toList.map (evO t)))).map (·.1) := by
          intro id hid hm
          have := (List.mem_filter.1 hid).2
          rw [memN_iff.2 hm] at this
          simp at this
        have fin : ∀ ks : List Nat, ((slf v = true ∧ bs'.all slfB = true) ∨ ks = snapIds look (ptrs (c.args.toList.map (evO t))) ((ptrs (c.args.toList.map (evO t)) ++ entRows look (ptrs (c.args.toList.map (evO t)))).map (·.1)) (c.args.toList.map (evO t))) →
            (∀ id ∈ ks, id ∈ snapIds look (ptrs (c.args.toList.map (evO t))) ((ptrs (c.args.toList.map (evO t)) ++ entRows look (ptrs (c.args.toList.map (evO t)))).map (·.1)) (c.args.toList.map (evO t))) →
            OpOk G o t look nid v' (kills ks ++ (us ++ (kills ((entRows look (ptrs (c.args.toList.map (evO t)))).map (·.1)) ++ ns))) := by
          intro ks hk1 hk2 X hXG
          subst hXG
          intro h L a w next Q I hops hlk hr hk
          have hargs : All2 (Val (cx X h L w)) (c.args.toList.map (evO t)) (c.args.toList.map a.eval) := by
            refine All2_map _ _ _ fun x hx => hops x ?_
            simp only [ho, Op.operands, Call.operands, hc]
            simp [hx]
          obtain ⟨Lc, hl1, hl2, hEnt, hvar, I1, hal⟩ := call_in hG I hlk hargs (fun e he => entRows_nil _ e he) hnd hsn rfl rfl hbs has
          have hargs' : All2 (Val (cx (calleeFx X h L w bs Lc (snapIds look (ptrs (c.args.toList.map (evO t))) ((ptrs (c.args.toList.map (evO t)) ++ entRows look (ptrs (c.args.toList.map (evO t)))).map (·.1)) (c.args.toList.map (evO t)))) bs Lc w))
              (coerceL X.G.P (match X.G.P.funcs[f]? with | some fn => fn.params.toList | none => []) as) (c.args.map a.eval).toList := by
            rw [Array.toList_map]; exact coerceL_ok hal
          have hcalls := hcall (calleeFx X h L w bs Lc _) Lc w (c.args.map a.eval) rfl rfl rfl (fun b o => Iff.rfl) I1 hargs'
          refine .inl ?_
          have hrun : (execOp a.eval o).run X.G.P w = .ok (.enter f (c.args.map a.eval)) w := by
            have he : a.eval (.func f) = .func (.func f) #[] #[] := rfl
            simp only [execOp, ho, resolve, hc, he, Deferred.ofValue, Sem.run_bind, Sem.run_pure, Result.andThen_ok, invoke, callFunc, run_program, hfn, hnm, hbd, Array.empty_append, Array.append_empty]
            simp
          unfold Oper.wp
          rw [hrun, Oper.upon_enter]
          refine hcalls.mono fun e w' he => ?_
          cases e with
          | panicked ch => exact he.elim
          | outgrown => exact he.elim
          | returned cv =>
            obtain ⟨L1, I2, hkeep, hval⟩ := he
            obtain ⟨L', I3, hle, hval'⟩ := call_out I hnd hsn hl2 hEnt hvar I2 hkeep hus hns hv hb1 hb2 (fun i hi => hr i (by rw [hres]; exact hi)) hk1 hk2
            exact hk cv L' w' I3 hle (hval' cv hval)
        cases hsl : (slf v && bs'.all slfB) with
        | true =>
          simp only [hsl, cond_true] at h1
          simp only [Bool.and_eq_true] at hsl
          exact ⟨v', _, h1, fin [] (.inl hsl) (by simp)⟩
        | false =>
          simp only [hsl, cond_false] at h1
          exact ⟨v', _, h1, fin _ (.inr rfl) (fun _ h => h)⟩
      · cases h1
    · cases h0

theorem run_asBool {P : Program} {w : World} (b : Bool) : (asBool (.bool b)).run P w = .ok b w := rfl

theorem arr2 {α : Type} {a : Array α} {d : α} (h : Nat.beq a.size 2 = true) : a[0]? = some (a.getD 0 d) ∧ a[1]? = some (a.getD 1 d) ∧ a = #[a.getD 0 d, a.getD 1 d] := by
  have h := Nat.eq_of_beq_eq_true h
  obtain ⟨l⟩ := a
  rcases l with _ | ⟨x, _ | ⟨y, _ | ⟨z, l⟩⟩⟩ <;> simp at h
  simp

theorem arr1 {α : Type} {a : Array α} {d : α} (h : Nat.beq a.size 1 = true) : a = #[a.getD 0 d] := by
  have h := Nat.eq_of_beq_eq_true h
  obtain ⟨l⟩ := a
  rcases l with _ | ⟨x, _ | ⟨y, l⟩⟩ <;> simp at h
  simp

theorem stepE_ok {G : Gi} {R : Type} {κ : Kop R} {r : R} {o : Oper} {t : List AV} {look : Nat → Blk} {nid : Nat} (hG : GOk G) (h0 : stepE G o t look nid κ = some r) :
    ∃ v us, κ v us = some r ∧ OpOk G o t look nid v us := by
  unfold stepE at h0
  split at h0
  · -- move
    rename_i x ho
    refine ⟨_, _, h0, .pure fun X hXG h L a w I hv hl => ⟨a.eval x, ?_, hv x (by simp [ho, Op.operands])⟩⟩
    simp only [execOp, ho, Sem.run_pure]
  · rename_i x ho
    refine ⟨_, _, h0, .pure fun X hXG h L a w I hv hl => ⟨a.eval x, ?_, hv x (by simp [ho, Op.operands])⟩⟩
    simp only [execOp, ho, Sem.run_pure]
  · -- pick
    rename_i c a b ho
    split at h0
    · rename_i x hx
      have main : ∀ v, (∀ (cc : Cx) va vb, Val cc (evO t a) va → Val cc (evO t b) vb → Val cc v (if x then va else vb)) → OpOk G o t look nid v [] := by
        intro v hvv
        refine .pure fun X hXG h L ac w I hv hl => ⟨if x then ac.eval a else ac.eval b, ?_, ?_⟩
        · have := hv c (by simp [ho, Op.operands])
          rw [hx] at this
          have hcv : ac.eval c = .bool x := this
          simp only [execOp, ho, hcv, Sem.run_bind, run_asBool, Result.andThen_ok, Sem.run_pure]
        · exact hvv _ _ _ (hv a (by simp [ho, Op.operands])) (hv b (by simp [ho, Op.operands]))
      split at h0
      · rename_i p q hp hq
        refine ⟨_, _, h0, main _ fun cc va vb h1 h2 => ?_⟩
        rw [hp] at h1; rw [hq] at h2
        obtain rfl : va = .bool p := h1
        obtain rfl : vb = .bool q := h2
        cases x <;> exact rfl
      · cases x with
        | true => exact ⟨_, _, h0, main _ fun cc va vb h1 h2 => by simpa using h1⟩
        | false => exact ⟨_, _, h0, main _ fun cc va vb h1 h2 => by simpa using h2⟩
    · cases h0
  · rename_i e ho; exact allocE_ok ho h0
  · rename_i e x ho; exact boxE_ok ho h0
  · rename_i ty parts ho; exact buildE_ok ho h0
  · rename_i ty n parts ho; exact buildSliceE_ok ho h0
  · -- load
    rename_i ty a ho
    obtain ⟨v, h1, h2⟩ := loadE_run h0
    refine ⟨v, [], h1, .pure fun X hXG => ?_⟩
    subst hXG
    refine fun h L ac w I hv hl => ?_
    obtain ⟨cv, q1, q2⟩ := h2 X h L w (ac.eval a) rfl I hl (hv a (by simp [ho, Op.operands]))
    exact ⟨cv, by simp only [execOp, ho, Sem.run_bind, q1, Result.andThen_ok, Sem.run_pure], q2⟩
  · rename_i ty a x ho; exact storeE_ok ho h0
  · -- nilCheck
    rename_i x ho
    obtain ⟨h1, h2⟩ := nilE_run h0
    refine ⟨_, _, h1, .pure fun X hXG h L ac w I hv hl => ⟨ac.eval x, ?_, hv x (by simp [ho, Op.operands])⟩⟩
    obtain ⟨p, hp⟩ := h2 _ _ (hv x (by simp [ho, Op.operands]))
    simp only [execOp, ho, hp, Sem.run_pure]
  · -- binOp
    rename_i op ty x y yt ho
    split at h0
    · rename_i n m hx hy
      obtain ⟨v, h1, h2⟩ := errE_run h0
      refine ⟨v, [], h1, .pure fun X hXG => ?_⟩
      subst hXG
      refine fun h L ac w I hv hl => ?_
      have hx' := hv x (by simp [ho, Op.operands])
      have hy' := hv y (by simp [ho, Op.operands])
      rw [hx] at hx'; rw [hy] at hy'
      obtain ⟨_, cv, q1, q2, q3⟩ := h2 (cx X h L w) (ac.eval x) (ac.eval y) I.eok hx' hy'
      have q1' : (eqGuard op ty x y (ac.eval x) (ac.eval y)).run X.G.P w = .ok () w := q1
      have q2' : (binOp op ty (ac.eval x) (ac.eval y)).run X.G.P w = .ok cv w := q2
      exact ⟨cv, by simp only [execOp, ho, Sem.run_bind, q1', q2', Result.andThen_ok, Sem.run_pure], q3⟩
    · obtain ⟨v, h1, h2⟩ := binE_run' h0
      refine ⟨v, [], h1, .pure fun X hXG => ?_⟩
      subst hXG
      refine fun h L ac w I hv hl => ?_
      obtain ⟨cv, q1, q2, q3⟩ := h2 (cx X h L w) (ac.eval x) (ac.eval y) x y (hv x (by simp [ho, Op.operands])) (hv y (by simp [ho, Op.operands]))
      have q1' : (eqGuard op ty x y (ac.eval x) (ac.eval y)).run X.G.P w = .ok () w := q1
      have q2' : (binOp op ty (ac.eval x) (ac.eval y)).run X.G.P w = .ok cv w := q2
      exact ⟨cv, by simp only [execOp, ho, Sem.run_bind, q1', q2', Result.andThen_ok, Sem.run_pure], q3⟩
  · -- unOp
    rename_i op ty x ho
    obtain ⟨v, h1, h2⟩ := unE_run (P := G.P) h0
    refine ⟨v, [], h1, .pure fun X hXG => ?_⟩
    subst hXG
    refine fun h L ac w I hv hl => ?_
    obtain ⟨cv, q1, q2⟩ := h2 (cx X h L w) (ac.eval x) (hv x (by simp [ho, Op.operands]))
    have q1' : (Op.unary op (ac.eval x)).run X.G.P w = .ok cv w := q1
    exact ⟨cv, by simp only [execOp, ho, Sem.run_bind, q1', Result.andThen_ok, Sem.run_pure], q2⟩
  · -- convert
    rename_i src dst x ho
    split at h0
    · exact bytesE_ok ho h0
    · obtain ⟨v, h1, h2⟩ := convE_run h0
      refine ⟨v, [], h1, .pure fun X hXG => ?_⟩
      subst hXG
      refine fun h L ac w I hv hl => ?_
      obtain ⟨cv, q1, q2⟩ := h2 X h L w (ac.eval x) rfl I hl (hv x (by simp [ho, Op.operands]))
      exact ⟨cv, by simp only [execOp, ho, Sem.run_bind, q1, Result.andThen_ok, Sem.run_pure], q2⟩
  · -- fieldAddr
    rename_i ty x f ho
    obtain ⟨v, h1, h2⟩ := fieldAddrE_run h0
    refine ⟨v, [], h1, .pure fun X hXG => ?_⟩
    subst hXG
    refine fun h L ac w I hv hl => ?_
    obtain ⟨cv, q1, q2⟩ := h2 X h L w (ac.eval x) rfl I hl (hv x (by simp [ho, Op.operands]))
    exact ⟨cv, by simp only [execOp, ho, Sem.run_bind, q1, Result.andThen_ok, Sem.run_pure], q2⟩
  · -- field
    rename_i ty x f ho
    obtain ⟨v, h1, h2⟩ := fieldE_run h0
    refine ⟨v, [], h1, .pure fun X hXG => ?_⟩
    subst hXG
    refine fun h L ac w I hv hl => ?_
    obtain ⟨cv, q1, q2⟩ := h2 (cx X h L w) (ac.eval x) (hv x (by simp [ho, Op.operands]))
    have q1' : (Instr.field ty (ac.eval x) f).run X.G.P w = .ok cv w := q1
    exact ⟨cv, by simp only [execOp, ho, Sem.run_bind, q1', Result.andThen_ok, Sem.run_pure], q2⟩
  · -- indexAddr
    rename_i ty x i ho
    obtain ⟨v, h1, h2⟩ := indexAddrE_run h0
    refine ⟨v, [], h1, .pure fun X hXG => ?_⟩
    subst hXG
    refine fun h L ac w I hv hl => ?_
    obtain ⟨cv, q1, q2⟩ := h2 X h L w (ac.eval x) (ac.eval i) rfl I hl (hv x (by simp [ho, Op.operands])) (hv i (by simp [ho, Op.operands]))
    exact ⟨cv, by simp only [execOp, ho, Sem.run_bind, q1, Result.andThen_ok, Sem.run_pure], q2⟩
  · -- index
    rename_i ty x i ho
    obtain ⟨v, h1, h2⟩ := indexE_run h0
    refine ⟨v, [], h1, .pure fun X hXG => ?_⟩
    subst hXG
    refine fun h L ac w I hv hl => ?_
    obtain ⟨cv, q1, q2⟩ := h2 (cx X h L w) (ac.eval x) (ac.eval i) (hv x (by simp [ho, Op.operands])) (hv i (by simp [ho, Op.operands]))
    have q1' : (Instr.index ty (ac.eval x) (ac.eval i)).run X.G.P w = .ok cv w := q1
    exact ⟨cv, by simp only [execOp, ho, Sem.run_bind, q1', Result.andThen_ok, Sem.run_pure], q2⟩
  · -- slice
    rename_i ty x lo hi ho
    obtain ⟨v, h1, h2⟩ := sliceE_run h0
    refine ⟨v, [], h1, .pure fun X hXG => ?_⟩
    subst hXG
    refine fun h L ac w I hv hl => ?_
    obtain ⟨cv, q1, q2⟩ := h2 X h L w (ac.eval x) (lo.map ac.eval) (hi.map ac.eval) rfl I hl (hv x (by simp [ho, Op.operands]))
      ⟨fun y hy => by
        cases lo with
        | none => simp at hy
        | some l => simp at hy; subst hy; exact ⟨_, rfl, hv l (by simp [ho, Op.operands])⟩, fun hn => by cases lo <;> simp_all⟩
      ⟨fun y hy => by
        cases hi with
        | none => simp at hy
        | some l => simp at hy; subst hy; exact ⟨_, rfl, hv l (by simp [ho, Op.operands])⟩, fun hn => by cases hi <;> simp_all⟩
    exact ⟨cv, by simp only [execOp, ho, Sem.run_bind, Option.map_none, q1, Result.andThen_ok, Sem.run_pure], q2⟩
  · rename_i ty l c ho; exact makeSliceE_ok ho h0
  · -- extract
    rename_i x i ho
    obtain ⟨v, h1, h2⟩ := extractE_run (P := G.P) h0
    refine ⟨v, [], h1, .pure fun X hXG => ?_⟩
    subst hXG
    refine fun h L ac w I hv hl => ?_
    obtain ⟨cv, q1, q2⟩ := h2 (cx X h L w) (ac.eval x) (hv x (by simp [ho, Op.operands]))
    have q1' : (Instr.extract (ac.eval x) i).run X.G.P w = .ok cv w := q1
    exact ⟨cv, by simp only [execOp, ho, Sem.run_bind, q1', Result.andThen_ok, Sem.run_pure], q2⟩
  · -- call
    rename_i c ho
    split at h0
    · rename_i f hc; exact callE_ok hG ho hc h0
    · rename_i hc
      split at h0
      · rename_i x ha
        obtain ⟨hsz, h0⟩ := cond_none h0
        obtain ⟨v, h1, h2⟩ := lenE_run h0
        have hca : c.args = #[x] := by
          have : c.args.toList = (#[x] : Array Operand).toList := ha
          exact Array.toList_inj.1 this
        refine ⟨v, [], h1, .pure fun X hXG => ?_⟩
        subst hXG
        refine fun h L ac w I hv hl => ?_
        obtain ⟨cv, q1, q2⟩ := h2 X h L w (ac.eval x) o.type rfl I hl (hv x (by simp [ho, Op.operands, Call.operands, hc, hca]))
        refine ⟨cv, ?_, q2⟩
        have hat : c.argTypes = #[argT c 0] := arr1 hsz
        simp only [execOp, ho, resolve, hc, hca, Sem.run_bind, Sem.run_pure, Result.andThen_ok, invoke, builtin]
        rw [hat]
        simp [q1]
      · cases h0
    · rename_i hc
      split at h0
      · rename_i d s ha
        obtain ⟨hsz, h0⟩ := cond_none h0
        exact appendE_ok ho hc ha (fun tx _ _ => arr2 hsz) h0
      · cases h0
    · rename_i hc
      split at h0
      · rename_i d s ha
        obtain ⟨hsz, h0⟩ := cond_none h0
        exact copyE_ok ho hc ha ⟨_, (arr2 hsz).2.2⟩ h0
      · cases h0
    · cases h0
  · cases h0

end Go.Ev
