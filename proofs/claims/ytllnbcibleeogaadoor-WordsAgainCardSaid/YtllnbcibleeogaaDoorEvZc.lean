/- From the evaluator's word on a law to its call. -/
import Derived.Test.YtllnbcibleeogaaDoorEvZb
import Derived.RowKit3
namespace Go.Ev

theorem Step.keptBut {A : Nat → Nat → Prop} {w w' : World} (h : Step A w w') (hA : ∀ b o, ¬ A b o) : w.keptBut w' (fun _ => False) := by
  refine ⟨h.os, h.output, fun i hi => ?_⟩
  rcases h.blk i hi with e | ⟨c, c', t, f, h1, h2, h3, h4⟩
  · rw [e]
    cases hw : w.heap[i]? with
    | none => rfl
    | some o =>
      cases o with
      | cells c t fr => exact ⟨rfl, rfl, rfl, fun _ _ => rfl⟩
      | map es clock => exact .inr ⟨rfl, rfl⟩
      | _ => rfl
  · rw [h1, h2]
    exact ⟨rfl, rfl, h3, fun j _ => h4 j (hA i j)⟩

/-- Where nothing is owned. -/
def bare (P : Program) (gt : Nat → Option AV) (eps : Nat → Value) (W : World) : Fx := { G := ⟨P, gt, fun _ => none⟩, eps := eps, O := fun _ _ => False, pin := fun _ _ => False, w0 := W }

theorem bare_none (b o : Nat) : ¬ own (([] : List Blk).map Blk.sh) [] b o := by
  rintro ⟨id, s, p, h, _⟩
  simp at h

theorem bare_A (P : Program) (gt : Nat → Option AV) (eps : Nat → Value) (W : World) (b o : Nat) : ¬ (cx (bare P gt eps W) [] [] W).A b o := by
  rintro (h | h)
  · exact h
  · exact bare_none b o h

theorem bare_inv {P : Program} {gt : Nat → Option AV} {eps : Nat → Value} {W : World} (he : eps 0 = .nilIface ∧ ∀ n, n ≠ 0 → ∃ T v, eps n = .iface T v)
    (hg : ∀ g v, gt g = some v → ∃ cs, Cells (cx (bare P gt eps W) [] [] W) v cs ∧ ∀ i (hi : i < cs.length), W.cell? ⟨g, i, none⟩ = some cs[i]) : Inv (bare P gt eps W) [] [] W := by
  refine ⟨he, rfl, fun id b p h => by simp at h, fun i j s t p q b o _ h => by simp at h, fun b o h => (bare_none b o h).elim, fun b o h => (bare_none b o h).elim, fun b o h => h.elim, Step.refl _ _, fun g v h => ?_⟩
  obtain ⟨cs, h1, h2⟩ := hg g v h
  exact ⟨cs, h1, fun i hi => ⟨h2 i hi, bare_A _ _ _ _ _ _⟩⟩

/-- What a law answers: true, or nothing is said. -/
def yes : AV → List Blk → Option Unit
  | .bool true, _ => some ()
  | _, _ => none

theorem yes_spec {v : AV} {bs : List Blk} (h : yes v bs = some ()) : v = .bool true := by
  unfold yes at h
  split at h
  · rfl
  · cases h

/-- A law of which the evaluator says that it answers true answers true, and leaves all as it was. -/
theorem law_calls {P : Program} {gt : Nat → Option AV} {f : Nat} {C : Con} (hs : SoundC P gt f C) {args : List AV} {cargs : Array Value} {W : World} {eps : Nat → Value}
    (he : eps 0 = .nilIface ∧ ∀ n, n ≠ 0 → ∃ T v, eps n = .iface T v)
    (hg : ∀ g v, gt g = some v → ∃ cs, Cells (cx (bare P gt eps W) [] [] W) v cs ∧ ∀ i (hi : i < cs.length), W.cell? ⟨g, i, none⟩ = some cs[i])
    (ha : All2 (Val (cx (bare P gt eps W) [] [] W)) args cargs.toList) (hC : C Unit args [] yes = some ()) :
    Calls P f cargs W fun e w' => e = .returned (.bool true) ∧ W.keptBut w' (fun _ => False) := by
  obtain ⟨v, bs', h1, h2⟩ := hs Unit args [] yes () hC
  have hv := yes_spec h1
  subst hv
  refine (h2 (bare P gt eps W) [] W cargs rfl rfl rfl (fun b o => ⟨fun h => h.elim, fun h => (bare_none b o h).elim⟩) (bare_inv he hg) ha).mono fun e w' hb => ?_
  cases e with
  | panicked ch => exact hb.elim
  | outgrown => exact hb.elim
  | returned cv =>
    obtain ⟨L', I, _, hval⟩ := hb
    have : cv = .bool true := hval
    subst this
    exact ⟨rfl, Step.keptBut I.stp fun _ _ h => h⟩

/-- No error is told from another. -/
def eps0 : Nat → Value := fun n => match n with
  | 0 => .nilIface
  | _ => .iface 0 (.bool false)

theorem eps0_ok : eps0 0 = .nilIface ∧ ∀ n, n ≠ 0 → ∃ T v, eps0 n = .iface T v := by
  refine ⟨rfl, fun n hn => ?_⟩
  cases n with
  | zero => exact absurd rfl hn
  | succ n => exact ⟨_, _, rfl⟩

theorem gtNone (g : Nat) (v : AV) (h : (fun _ : Nat => (none : Option AV)) g = some v) {p : Prop} : p := by cases h

theorem ovNone (P : Program) (gt : Nat → Option AV) : OvOk P gt (fun _ => none) := fun f C h => by cases h

end Go.Ev
