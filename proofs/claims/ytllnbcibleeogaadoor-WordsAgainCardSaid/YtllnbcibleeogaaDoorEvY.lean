/- The evaluator's soundness: a loop's head. -/
import Derived.Test.YtllnbcibleeogaaDoorEvX
namespace Go.Ev

theorem srcs_get {t : List AV} {mv : List Mv} : ∀ (n c : Nat) {ss : List (Nat ⊕ IntKind)}, srcs t mv n c = some ss → ss.length = n ∧ ∀ i, i < n → ∃ s, ss[i]? = some s ∧ srcOf t mv (c + i) = some s
  | 0, c, ss, h => by simp only [srcs, Option.some.injEq] at h; subst h; exact ⟨rfl, fun i hi => by omega⟩
  | n + 1, c, ss, h => by
    simp only [srcs] at h
    cases h1 : srcOf t mv c with
    | none => simp [h1] at h
    | some s =>
      cases h2 : srcs t mv n (c + 1) with
      | none => simp [h1, h2] at h
      | some l =>
        simp only [h1, h2, Option.some.injEq] at h
        subst h
        obtain ⟨q1, q2⟩ := srcs_get n (c + 1) h2
        refine ⟨by simp [q1], fun i hi => ?_⟩
        cases i with
        | zero => exact ⟨s, rfl, h1⟩
        | succ i =>
          obtain ⟨s', r1, r2⟩ := q2 i (by omega)
          exact ⟨s', by simpa using r1, by rw [← r2]; congr 1; omega⟩

theorem srcIds_mem {ss : List (Nat ⊕ IntKind)} {c i : Nat} (h : ss[c]? = some (.inl i)) : i ∈ srcIds ss := by
  induction ss generalizing c with
  | nil => simp at h
  | cons s ss ih =>
    cases c with
    | zero => simp only [List.getElem?_cons_zero, Option.some.injEq] at h; subst h; simp [srcIds]
    | succ c =>
      simp only [List.getElem?_cons_succ] at h
      have := ih h
      cases s <;> simp [srcIds, this]

theorem srcIds_inj {ss : List (Nat ⊕ IntKind)} (hn : (srcIds ss).Nodup) {a b i : Nat} (ha : ss[a]? = some (.inl i)) (hb : ss[b]? = some (.inl i)) : a = b := by
  induction ss generalizing a b with
  | nil => simp at ha
  | cons s ss ih =>
    cases s with
    | inr k =>
      simp only [srcIds] at hn
      cases a with
      | zero => simp at ha
      | succ a =>
        cases b with
        | zero => simp at hb
        | succ b => simp only [List.getElem?_cons_succ] at ha hb; rw [ih hn ha hb]
    | inl j =>
      simp only [srcIds, List.nodup_cons] at hn
      cases a with
      | zero =>
        simp only [List.getElem?_cons_zero, Option.some.injEq, Sum.inl.injEq] at ha; subst ha
        cases b with
        | zero => rfl
        | succ b => simp only [List.getElem?_cons_succ] at hb; exact absurd (srcIds_mem hb) hn.1
      | succ a =>
        simp only [List.getElem?_cons_succ] at ha
        cases b with
        | zero => simp only [List.getElem?_cons_zero, Option.some.injEq, Sum.inl.injEq] at hb; subst hb; exact absurd (srcIds_mem ha) hn.1
        | succ b => simp only [List.getElem?_cons_succ] at hb; rw [ih hn.2 ha hb]

theorem findS_some {id : Nat} : ∀ {ss : List (Nat ⊕ IntKind)} {c0 c : Nat}, findS id ss c0 = some c → ∃ i, c = c0 + i ∧ ss[i]? = some (.inl id)
  | [], _, _, h => by simp [findS] at h
  | .inl i :: l, c0, c, h => by
    simp only [findS] at h
    cases hb : Nat.beq id i with
    | true =>
      simp only [hb, cond_true, Option.some.injEq] at h
      exact ⟨0, h.symm, by rw [Nat.eq_of_beq_eq_true hb]; rfl⟩
    | false =>
      simp only [hb, cond_false] at h
      obtain ⟨j, q1, q2⟩ := findS_some h
      exact ⟨j + 1, by omega, by simpa using q2⟩
  | .inr k :: l, c0, c, h => by
    simp only [findS] at h
    obtain ⟨j, q1, q2⟩ := findS_some h
    exact ⟨j + 1, by omega, by simpa using q2⟩

theorem srcBlks_get {h : List Blk} {ρ : Ren} : ∀ (ss : List (Nat ⊕ IntKind)), (srcBlks h ρ ss).length = ss.length ∧ ∀ (c : Nat) s, ss[c]? = some s → (srcBlks h ρ ss)[c]? = some (match s with
    | .inl i => match trB noLook false ρ (hAt h i) with | some b => b | none => .dead
    | .inr k => .row k true [])
  | [] => ⟨rfl, fun c s hs => by simp at hs⟩
  | x :: ss => by
    obtain ⟨q1, q2⟩ := srcBlks_get (h := h) (ρ := ρ) ss
    cases x with
    | inl i =>
      refine ⟨by simp [srcBlks, q1], fun c s hs => ?_⟩
      cases c with
      | zero => simp only [List.getElem?_cons_zero, Option.some.injEq] at hs; subst hs; rfl
      | succ c => simp only [List.getElem?_cons_succ] at hs; simpa [srcBlks] using q2 c s hs
    | inr k =>
      refine ⟨by simp [srcBlks, q1], fun c s hs => ?_⟩
      cases c with
      | zero => simp only [List.getElem?_cons_zero, Option.some.injEq] at hs; subst hs; rfl
      | succ c => simp only [List.getElem?_cons_succ] at hs; simpa [srcBlks] using q2 c s hs

theorem normT_get {live : List Nat} {mv : List Mv} {ρ : Ren} : ∀ (t : List AV) (i0 : Nat), (normT live mv ρ t i0).length = t.length ∧ ∀ (i : Nat) v, t[i]? = some v → (normT live mv ρ t i0)[i]? = some (cond (memN (i0 + i) live) (match findMvT (i0 + i) mv, v with
      | some m, .nils => .own m.c [] 0 none
      | _, v => match trA noLook false ρ v with | some v' => v' | none => .dead) .dead)
  | [], _ => ⟨rfl, fun i v h => by simp at h⟩
  | x :: t, i0 => by
    obtain ⟨q1, q2⟩ := normT_get (live := live) (mv := mv) (ρ := ρ) t (i0 + 1)
    refine ⟨by simp [normT, q1], fun i v h => ?_⟩
    cases i with
    | zero => simp only [List.getElem?_cons_zero, Option.some.injEq] at h; subst h; rfl
    | succ i =>
      simp only [List.getElem?_cons_succ] at h
      have := q2 i v h
      rw [show i0 + 1 + i = i0 + (i + 1) by omega] at this
      simpa [normT] using this

theorem findMvT_some {i : Nat} : ∀ {mv : List Mv} {m : Mv}, findMvT i mv = some m → m ∈ mv ∧ m.t = i
  | [], _, h => by simp [findMvT] at h
  | a :: l, m, h => by
    simp only [findMvT] at h
    cases hb : Nat.beq a.t i with
    | true => simp only [hb, cond_true, Option.some.injEq] at h; subst h; exact ⟨by simp, Nat.eq_of_beq_eq_true hb⟩
    | false => simp only [hb, cond_false] at h; obtain ⟨q1, q2⟩ := findMvT_some h; exact ⟨by simp [q1], q2⟩

theorem findMv_some {c : Nat} : ∀ {mv : List Mv} {m : Mv}, findMv c mv = some m → m ∈ mv ∧ m.c = c
  | [], _, h => by simp [findMv] at h
  | a :: l, m, h => by
    simp only [findMv] at h
    cases hb : Nat.beq a.c c with
    | true => simp only [hb, cond_true, Option.some.injEq] at h; subst h; exact ⟨by simp, Nat.eq_of_beq_eq_true hb⟩
    | false => simp only [hb, cond_false] at h; obtain ⟨q1, q2⟩ := findMv_some h; exact ⟨by simp [q1], q2⟩

theorem norm_ok {X : Fx} (hG : GOk X.G) {b0 : List Blk} {L0 : List Loc} {a : Ann} {st st' : St} (hn : norm b0.length a st = some st') {L : List Loc} {ac : Act} {w : World} (R : RelP X b0 L0 st L ac w) : ∃ L', RelP X b0 L0 st' L' ac w := by
  have I := R.rel.inv
  unfold norm at hn
  split at hn
  · cases hn
  · rename_i ss hss
    obtain ⟨hb, hn⟩ := cond_none hn
    simp only [Option.some.injEq] at hn
    simp only [Bool.and_eq_true] at hb
    obtain ⟨⟨hnd, hsz⟩, hmv⟩ := hb
    have hnd := nodupN_iff.1 hnd
    have hsz := Nat.le_of_ble_eq_true hsz
    have hmv := List.all_eq_true.1 hmv
    obtain ⟨hlen, hsg⟩ := srcs_get _ _ hss
    let ρ : Ren := fun id p => match findS id ss 0 with | some c => some (c, p) | none => none
    have hρ : ∀ id p j q, ρ id p = some (j, q) → q = p ∧ ss[j]? = some (.inl id) := by
      intro id p j q h
      simp only [ρ] at h
      cases hf : findS id ss 0 with
      | none => simp [hf] at h
      | some c =>
        simp only [hf, Option.some.injEq, Prod.mk.injEq] at h
        obtain ⟨i, q1, q2⟩ := findS_some hf
        obtain ⟨rfl, rfl⟩ := h
        rw [Nat.zero_add] at q1; subst q1
        exact ⟨rfl, q2⟩
    let h' := srcBlks st.h ρ ss
    obtain ⟨hbl, hbg⟩ := srcBlks_get (h := st.h) (ρ := ρ) ss
    let L' : List Loc := ss.map fun s => match s with | .inl i => L.getD i default | .inr _ => default
    have hst' : st' = ⟨normT a.live a.mv ρ st.t 0, h'⟩ := hn.symm
    subst hst'
    have hL'l : ∀ (c i : Nat), ss[c]? = some (.inl i) → L'[c]? = some (L.getD i default) := fun c i hc => by simp only [L', List.getElem?_map, hc, Option.map_some]
    -- a block that came from an elder one
    have hh' : ∀ (c i : Nat), ss[c]? = some (.inl i) → ∃ b', h'[c]? = some b' ∧ (trB noLook false ρ (hAt st.h i) = some b' ∨ b' = .dead) := by
      intro c i hc
      have := hbg c _ hc
      simp only at this
      cases ht : trB noLook false ρ (hAt st.h i) with
      | none => simp only [ht] at this; exact ⟨_, this, .inr rfl⟩
      | some b => simp only [ht] at this; exact ⟨_, this, .inl rfl⟩
    have hown : ∀ c b o, Own1 h' L' c b o → ∃ i, ss[c]? = some (.inl i) ∧ Own1 st.h L i b o := by
      rintro c b o ⟨s, p, g1, g2, g3⟩
      obtain ⟨bb, hb, rfl⟩ := shAt' g1
      have hlt := getElem?_lt hb
      rw [hbl] at hlt
      cases hc : ss[c]? with
      | none => rw [List.getElem?_eq_none_iff] at hc; omega
      | some s =>
        have hbc := hbg c s hc
        cases s with
        | inr k =>
          have : bb = .row k true [] := by
            have e : h'[c]? = some (.row k true []) := hbc
            rw [hb] at e; simpa using e
          subst this
          exact absurd g3.1 (by simp)
        | inl i =>
          refine ⟨i, rfl, ?_⟩
          obtain ⟨b', q1, q2⟩ := hh' c i hc
          rw [hb] at q1; simp only [Option.some.injEq] at q1; subst q1
          rcases q2 with q2 | q2
          · have hsh := trB_sh q2
            rw [hsh] at g3
            have hi : i < st.h.length := by
              rcases Nat.lt_or_ge i st.h.length with q | q
              · exact q
              · simp only [hAt, List.getD, List.getElem?_eq_none q, Option.getD_none] at g3; exact g3.elim
            have hA : st.h[i]? = some (hAt st.h i) := by simp [hAt, List.getD, hi]
            have hLi : L[i]? = some (L.getD i default) := by rw [List.getD, List.getElem?_eq_getElem (by rw [I.len]; exact hi)]; rfl
            rw [hL'l c i hc, Option.some.injEq] at g2
            exact ⟨_, p, shAt hA, by rw [hLi, g2], g3⟩
          · subst q2; exact g3.elim
    have hAsub : ∀ b o, (cx X h' L' w).A b o → (cx X st.h L w).A b o := by
      rintro b o (q | ⟨c, s, p, g1, g2, g3⟩)
      · exact .inl q
      · obtain ⟨i, _, g⟩ := hown c b o ⟨s, p, g1, g2, g3⟩
        exact .inr g.own
    have hro : RO (cx X st.h L w) (cx X h' L' w) := fun b o v hv hA => ⟨hv, fun q => hA (hAsub b o q)⟩
    have hshape : ∀ (i c : Nat) s, (cx X st.h L w).S[i]? = some s → ss[c]? = some (.inl i) → ((cx X h' L' w).S[c]? = some s ∧ (cx X h' L' w).L[c]? = (cx X st.h L w).L[i]?) ∨ (cx X h' L' w).S[c]? = some .dead := by
      intro i c s hs hc
      obtain ⟨b, hb, rfl⟩ := shAt' hs
      obtain ⟨b', q1, q2⟩ := hh' c i hc
      rw [hAt_some hb] at q2
      rcases q2 with q2 | q2
      · refine .inl ⟨?_, ?_⟩
        · show (h'.map Blk.sh)[c]? = _
          rw [shAt q1, trB_sh q2]
        · show L'[c]? = L[i]?
          rw [hL'l c i hc, List.getD, List.getElem?_eq_getElem (by rw [I.len]; exact getElem?_lt hb)]; rfl
      · subst q2; exact .inr (shAt q1)
    have T : TrOk (cx X st.h L w) (cx X h' L' w) noLook false ρ := by
      refine ⟨rfl, fun z z' u hz ht g => ?_⟩
      cases z <;> simp only [AV.isRef, Bool.false_eq_true] at hz
      · rename_i id p off len
        obtain ⟨j, q, hr, rfl⟩ : ∃ j q, ρ id p = some (j, q) ∧ z' = .own j q off len := by
          rcases tr_own ht with q | ⟨_, q, _⟩
          · exact q
          · cases q
        obtain ⟨rfl, hc⟩ := hρ _ _ _ _ hr
        have g0 := leaf_own g
        simp only [leaf] at g ⊢
        cases hs : (cx X st.h L w).S[id]? with
        | none => simp [hs] at g
        | some s =>
          rcases hshape id j s hs hc with ⟨e1, e2⟩ | e
          · rw [e1, e2]; rw [hs] at g; exact g
          · rw [e]; exact g0
      · rename_i id p
        obtain ⟨j, q, hr, rfl⟩ := tr_ptr ht
        obtain ⟨rfl, hc⟩ := hρ _ _ _ _ hr
        have g0 := leaf_ptr g
        simp only [leaf] at g ⊢
        cases hs : (cx X st.h L w).S[id]? with
        | none => simp [hs] at g
        | some s =>
          rcases hshape id j s hs hc with ⟨e1, e2⟩ | e
          · rw [e1, e2]; rw [hs] at g; exact g
          · rw [e]; exact g0
    have hL'len : L'.length = h'.length := by simp [L', h', hbl]
    have I' : Inv X h' L' w := by
      refine ⟨I.eok, hL'len, fun c b p hb hp => ?_, fun i j s t p q b o hij hs ht hp hq o1 o2 => ?_, fun b o ⟨c, s, p, g1, g2, g3⟩ => ?_, fun b o ⟨c, s, p, g1, g2, g3⟩ => ?_, I.obd, I.stp, fun g v hg => ?_⟩
      · have hlt := getElem?_lt hb
        rw [hbl] at hlt
        cases hc : ss[c]? with
        | none => rw [List.getElem?_eq_none_iff] at hc; omega
        | some s =>
          have hbc : h'[c]? = _ := hbg c s hc
          cases s with
          | inr k =>
            rw [hb, Option.some.injEq] at hbc
            subst hbc
            exact ⟨by simp [NN], fun _ => rfl, fun h => by cases h⟩
          | inl i =>
            obtain ⟨b', q1, q2⟩ := hh' c i hc
            rw [hb] at q1; simp only [Option.some.injEq] at q1; subst q1
            rcases q2 with q2 | q2
            · rcases Nat.lt_or_ge i st.h.length with hi | hi
              · have hA : st.h[i]? = some (hAt st.h i) := by simp [hAt, List.getD, hi]
                rw [hL'l c i hc, Option.some.injEq] at hp
                subst hp
                refine BlkOK.tr T rfl (.inr hro) q2 (I.blk i _ _ hA ?_)
                rw [List.getD, List.getElem?_eq_getElem (by rw [I.len]; exact hi)]; rfl
              · have : hAt st.h i = .rsv := by simp [hAt, List.getD, List.getElem?_eq_none hi]
                rw [this] at q2
                simp only [trB, Option.some.injEq] at q2
                subst q2; trivial
            · subst q2; trivial
      · obtain ⟨i1, c1, g1⟩ := hown i b o ⟨s, p, hs, hp, o1⟩
        obtain ⟨i2, c2, g2⟩ := hown j b o ⟨t, q, ht, hq, o2⟩
        have := Own1.unique I g1 g2
        subst this
        exact hij (srcIds_inj hnd c1 c2)
      · obtain ⟨i, _, g⟩ := hown c b o ⟨s, p, g1, g2, g3⟩; exact I.out b o g.own
      · obtain ⟨i, _, g⟩ := hown c b o ⟨s, p, g1, g2, g3⟩; exact I.new b o g.own
      · obtain ⟨cs, g1, g2⟩ := I.glb g v hg
        have T0 : TrOk (cx X st.h L w) (cx X h' L' w) noLook false (fun _ _ => none) := by
          refine ⟨rfl, fun x x' v hx ht g => ?_⟩
          cases x <;> simp only [AV.isRef, Bool.false_eq_true] at hx <;> simp [trA] at ht
        exact ⟨cs, tr_Cells T0 v v cs (.inr hro) (hG.gtr g v hg) g1, fun i hi => ⟨(g2 i hi).1, fun q => (g2 i hi).2 (hAsub _ _ q)⟩⟩
    refine ⟨L', ⟨I', ⟨?_, fun i v x hv hx => ?_⟩, R.rel.dfr⟩, fun i v hi => ?_⟩
    · rw [(normT_get st.t 0).1]; exact R.rel.tmp.1
    · have hlt : i < st.t.length := by have := getElem?_lt hv; rwa [(normT_get st.t 0).1] at this
      have h1 := List.getElem?_eq_getElem hlt
      have h2 := R.rel.tmp.2 i _ x h1 hx
      have h3 := (normT_get (live := a.live) (mv := a.mv) (ρ := ρ) st.t 0).2 i _ h1
      rw [hv, Option.some.injEq] at h3
      rw [Nat.zero_add] at h3
      have tr : Val (cx X h' L' w) (match trA noLook false ρ st.t[i] with | some v' => v' | none => .dead) x := by
        cases ht : trA noLook false ρ st.t[i] with
        | none => exact trivial
        | some v' => exact tr_Val T _ _ _ (.inr hro) ht h2
      cases hm : memN i a.live with
      | false => rw [hm] at h3; simp only [cond_false] at h3; subst h3; exact trivial
      | true =>
        rw [hm] at h3
        simp only [cond_true] at h3
        cases hf : findMvT i a.mv with
        | none => rw [hf] at h3; simp only at h3; rw [h3]; exact tr
        | some m =>
          rw [hf] at h3
          obtain ⟨hm1, hm2⟩ := findMvT_some hf
          by_cases hnil : st.t[i] = .nils
          · rw [hnil] at h3 h2
            simp only at h3
            subst h3
            have hx : x = .slice none 0 0 := h2
            have hb := hmv m hm1
            simp only [Bool.and_eq_true] at hb
            obtain ⟨⟨_, hb2⟩, hb3⟩ := hb
            have hb2 : m.c < a.size := by simpa [Nat.blt_eq] using hb2
            obtain ⟨s, e1, e2⟩ := hsg m.c hb2
            rw [Nat.zero_add] at e2
            unfold srcOf at e2
            cases hfm : findMv m.c a.mv with
            | none => rw [hfm] at hb3; cases hb3
            | some m' =>
              rw [hfm] at hb3 e2
              have ht : m'.t = i := by rw [Nat.eq_of_beq_eq_true hb3, hm2]
              have hg : st.t.getD m'.t und = .nils := by rw [ht, List.getD, h1]; exact hnil
              simp only [hg, Option.some.injEq] at e2
              subst e2
              have hbc : h'[m.c]? = some (.row m'.k true []) := hbg m.c _ e1
              rw [Val_leaf rfl (by simp) (by simp)]
              have hlt2 := getElem?_lt hbc
              have hLt : m.c < L'.length := by rw [hL'len]; exact hlt2
              have hLc : (cx X h' L' w).L[m.c]? = some (L'[m.c]'hLt) := List.getElem?_eq_getElem hLt
              simp only [leaf, cx_S hbc, Blk.sh, hLc]
              exact ⟨by trivial, by simp [olen], by simp [hx]⟩
          · have : v = (match trA noLook false ρ st.t[i] with | some v' => v' | none => .dead) := by
              rw [h3]
              cases hv2 : st.t[i] <;> first | rfl | exact absurd hv2 hnil
            rw [this]; exact tr
    · have hilt : i < b0.length := getElem?_lt hi
      obtain ⟨s, e1, e2⟩ := hsg i (by omega)
      rw [Nat.zero_add] at e2
      unfold srcOf at e2
      have hfn : findMv i a.mv = none := by
        cases hf : findMv i a.mv with
        | none => rfl
        | some m =>
          obtain ⟨q1, q2⟩ := findMv_some hf
          have hb := hmv m q1
          simp only [Bool.and_eq_true] at hb
          have := Nat.le_of_ble_eq_true hb.1.1
          omega
      rw [hfn] at e2
      simp only [Option.some.injEq] at e2
      subst e2
      obtain ⟨b', q1, q2⟩ := hh' i i e1
      rcases R.pin i v hi with ⟨v', r1, r2, r3⟩ | r1
      · rw [hAt_some r1] at q2
        rcases q2 with q2 | q2
        · have hs := trB_sh q2
          simp only [trB] at q2
          cases ht : trA noLook false ρ v' with
          | none => simp [ht] at q2
          | some v'' =>
            simp only [ht, Option.some.injEq] at q2
            subst q2
            refine .inl ⟨v'', q1, by rw [tr_sh _ _ ht, r2], ?_⟩
            rw [hL'l i i e1, ← r3, List.getD, List.getElem?_eq_getElem (by rw [I.len]; exact getElem?_lt r1)]; rfl
        · subst q2; exact .inr q1
      · rw [hAt_some r1] at q2
        rcases q2 with q2 | q2
        · simp only [trB, Option.some.injEq] at q2; subst q2; exact .inr q1
        · subst q2; exact .inr q1

end Go.Ev
