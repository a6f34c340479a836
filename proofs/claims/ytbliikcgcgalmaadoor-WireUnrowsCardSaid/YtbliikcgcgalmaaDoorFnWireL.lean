/- What the laws of rows of texts have in common, with the proof; printed by a program. -/
import Derived.Test.YtbliikcgcgalmaaDoorProg
import Derived.Test.YtbliikcgcgalmaaDoorEv4
import Derived.Test.YtbliikcgcgalmaaDoorFnWire
import Derived.Test.YtbliikcgcgalmaaDoorFnWireR
import Derived.Test.YtbliikcgcgalmaaDoorFnRows
import Derived.Test.YtbliikcgcgalmaaDoorFnNum
namespace Go.Proofs.YtbliikcgcgalmaaDoor.fn
open Go Go.Proofs Go.Ev

/-! ### Tryd.f10: alive16 -/
namespace alive16
def an : Anns := ⟨fun i => findA i [], fun i => findA i [], false, fun _ => none, []⟩
noncomputable def g (mwRow : wRow.Ty) : Gi := giL (giD Tryd.prog (gtL [(0, .err 3), (3, .err 1)]) (fun _ => an) 0 [] (ovL [(11, wRow.con mwRow)]) 1)
noncomputable def m (mwRow : wRow.Ty) {R : Type} (_N : Nat) (kr0 : Bool → Option R) : Option R :=
  mwRow R ([[97, 98], []])
   (fun _v_c3 v_1_c4 v_2_c5 => cond (v_2_c5.beq 0)
    (kr0 (toStr v_1_c4 == [2, 0, 0, 0, 2, 97, 98, 0, 0, 0, 0]))
    (kr0 false))
theorem tree (mwRow : wRow.Ty) {R : Type} (N : Nat) (κ : AV → List Blk → Option R) : evF (g mwRow) an N Tryd.f10 [] [] κ =
  mwRow R ([[97, 98], []])
   (fun _v_c3 v_1_c4 v_2_c5 => cond (v_2_c5.beq 0)
    (κ (AV.bool (toStr v_1_c4 == [2, 0, 0, 0, 2, 97, 98, 0, 0, 0, 0])) [])
    (κ (AV.bool false) [])) := by kernel_rfl
theorem eq (mwRow : wRow.Ty) {R : Type} (N : Nat) (κ : AV → List Blk → Option R) : evF (g mwRow) an N Tryd.f10 [] [] κ =
  m mwRow N (fun v => κ (AV.bool v) []) := by
  rw [tree]
  kernel_rfl
abbrev Ty : Type 1 := ∀ R : Type, (Bool → Option R) → Option R
def con (f : Ty) : Con := fun R args bs κ => match args, bs with
  | [], [] => f R (fun v => κ (AV.bool v) [])
  | _, _ => none
theorem con_eq (f : Ty) (R : Type) (κ : AV → List Blk → Option R) : con f R [] [] κ = f R (fun v => κ (AV.bool v) []) := rfl
noncomputable def M (N : Nat) : Ty := fun R kr0 => m (wRow.M N) (R := R) N kr0
def gts : List (Nat × AV) := [(0, .err 3), (3, .err 1)]
theorem gok (N : Nat) : GOk (g (wRow.M N)) := giL_ok (giD_ok hm (by intro p hp; cases hp) (gtL_ok (by decide)) (ovL_ok (by
    intro p hp
    simp only [List.mem_cons, List.not_mem_nil, or_false] at hp
    rcases hp with rfl
    · exact ⟨(wRow.ok N).gt (gtL_sub (by repeat (first | exact subG_nil _ | refine subG_cons (by kernel_rfl) ?_))) (gtL_ok (by decide)), _, Tryd.func11, by kernel_rfl, by kernel_rfl⟩
)) 1)
theorem ok (N : Nat) : SoundC Tryd.prog (gtL gts) 10 (con (M N)) := by
  refine SoundC.mono (evF_ok (gok N) hm an N Tryd.func10) fun R args bs κ r h => ?_
  unfold con at h
  split at h
  · exact (eq (wRow.M N) N κ).trans h
  · cases h
end alive16

end Go.Proofs.YtbliikcgcgalmaaDoor.fn
