/- An evaluator over abstract values: rows of numbers that are laid. -/
import Derived.Test.YthajoenmfppenaaDoorEv4
import Derived.OpenShut
namespace Go.Ev
theorem laidVars_front {P : Program} {w : World} (x : String × DataW Unit) : ∀ {a b : List (String × DataW Unit)} {ps : List MemPlace}, DataW.LaidVars P w (a ++ x :: b) ps →
    ∃ qs, DataW.LaidVars P w (x :: (a ++ b)) qs ∧ qs.Perm ps
  | [], b, ps, h => ⟨ps, h, .refl _⟩
  | (n, d) :: a, b, ps, h => by
    obtain ⟨g, t, cs, fuel, p, q, h1, h2, h3, h4, h5, rfl⟩ := h
    obtain ⟨qs, k1, k2⟩ := laidVars_front x h5
    obtain ⟨xn, xd⟩ := x
    obtain ⟨g', t', cs', fuel', p', q', j1, j2, j3, j4, j5, rfl⟩ := k1
    refine ⟨MemPlace.row ⟨g', 0, none⟩ cs'.size ++ p' ++ (MemPlace.row ⟨g, 0, none⟩ cs.size ++ p ++ q'), ⟨g', t', cs', fuel', p', _, j1, j2, j3, j4, ⟨g, t, cs, fuel, p, q', h1, h2, h3, h4, j5, rfl⟩, rfl⟩, ?_⟩
    refine List.Perm.trans ?_ (List.Perm.append_left _ k2)
    generalize MemPlace.row ⟨g', 0, none⟩ cs'.size ++ p' = u
    generalize MemPlace.row ⟨g, 0, none⟩ cs.size ++ p = v
    rw [← List.append_assoc, ← List.append_assoc]
    exact List.Perm.append_right _ List.perm_append_comm
theorem laidMet_front {P : Program} {w : World} (x : String × DataW Unit) {a b : List (String × DataW Unit)} (h : laidMet P (a ++ x :: b) w) : laidMet P (x :: (a ++ b)) w := by
  obtain ⟨ps, h1, h2, h3⟩ := h
  obtain ⟨qs, k1, k2⟩ := laidVars_front x h1
  exact ⟨qs, k1, k2.nodup_iff.2 h2, fun b off hb => h3 b off (k2.subset hb)⟩
theorem laid_ints {P : Program} {w : World} {n : String} {k : IntKind} {l : List Int} {g t e : Nat} {r : List (String × DataW Unit)}
    (hg : P.globalNamed n = some g) (ht : (P.globals[g]?).map (·.type) = some t) (hu : P.underlying t = some (.array l.length e)) (he : P.underlying e = some (.int k)) (hc : P.cellsOf e = 1) (hct : P.cellsOf t = l.length)
    (h : laidMet P ((n, .agg (l.map fun x => .lit (.int k x))) :: r) w) : (∀ gt eps, glbAt P gt eps w g (.ints k l.length l)) ∧ laidMet P r w := by
  obtain ⟨ps, ⟨g', t', cs, fuel, p, q, h1, h2, h3, h4, h5, rfl⟩, hn, hok⟩ := h
  rw [hg, Option.some.injEq] at h1; subst h1
  rw [ht, Option.some.injEq] at h2; subst h2
  have hv : ∀ (i : Nat), w.cell? ⟨g, i, none⟩ = cs[i]? := by
    intro i
    simp only [World.var?, hg, Option.bind_some] at h3
    unfold World.cell?
    cases hh : w.heap[g]? with
    | none => simp [hh] at h3
    | some o =>
      cases o <;> simp [hh] at h3 ⊢
      subst h3; rfl
  obtain ⟨xs, m, -, hx, hl, hxl, hi⟩ := DataW.trod_array hu h4
  have hx1 : l.map (fun x => DataW.lit (.int k x)) = xs.map (·.1) := by
    have := congrArg Prod.fst hx
    simpa using this
  have key : ∀ i (hil : i < l.length), cs[i]? = some (.int k l[i]) ∧ (Lit.int k l[i]).wf = true := by
    intro i hil
    have h7 := hi i hil
    rw [hc, Nat.mul_one] at h7
    have hics : i < cs.toList.length := by rw [hl, hct]; exact hil
    rw [List.drop_eq_getElem_cons hics, List.take_succ_cons, List.take_zero, List.getElem?_eq_getElem (by omega)] at h7
    have h8 : xs[i].1 = .lit (.int k l[i]) := by
      have h9 : (xs.map (·.1))[i]'(by simpa using (by omega : i < xs.length)) = (l.map (fun x => DataW.lit (H := Unit) (.int k x)))[i]'(by simpa using hil) := by
        simp only [hx1]
      simpa using h9
    have h10 : cs.toList[i] = cs[i]'(by simpa using hics) := by simp
    rw [h10] at h7
    cases m with
    | zero => simp [DataW.trod] at h7
    | succ m =>
      unfold DataW.trod at h7
      rw [he] at h7
      cases hcv : cs[i]'(by simpa using hics) with
      | int k' z =>
        rw [hcv] at h7
        simp only at h7
        split at h7
        · rename_i hk
          simp only [Option.some.injEq] at h7
          have h11 : xs[i].1 = .lit (.int k z) := by rw [← h7]
          rw [h8] at h11
          simp only [DataW.lit.injEq, Lit.int.injEq, true_and] at h11
          rw [Array.getElem?_eq_getElem (by simpa using hics), hcv, hk.1, h11]
          exact ⟨rfl, hk.2⟩
        · cases h7
      | _ => rw [hcv] at h7; simp at h7
  refine ⟨fun gt eps => ⟨l.map (Value.int k), ⟨rfl, ?_, rfl⟩, ?_⟩, ⟨q, h5, (List.nodup_append.1 hn).2.1, fun b off hb => hok b off (List.mem_append_right _ hb)⟩⟩
  · intro hs x hx
    obtain ⟨i, hil, rfl⟩ := List.mem_iff_getElem.1 hx
    have h := (key i hil).2
    unfold Lit.wf at h
    simp only [IntKind.min, hs, Bool.false_eq_true, if_false, Bool.and_eq_true, decide_eq_true_eq] at h
    exact h.1
  · intro i hil
    simp only [List.length_map] at hil
    rw [hv i, (key i hil).1]
    simp
end Go.Ev
