/- What slices.Clone answers, with the proof. -/
import Derived.Test.YthajoenmfppenaaDoorProg
import Derived.Test.YthajoenmfppenaaDoorEv4
import Derived.Test.YthajoenmfppenaaDoorFnWords
namespace Go.Proofs.YthajoenmfppenaaDoor.fn
open Go Go.Proofs Go.Ev

namespace Clone
def an1 : Anns := ⟨fun _ => none, fun _ => none, false, fun _ => none, []⟩
def an2 : Anns := ⟨fun _ => none, fun _ => none, true, fun _ => none, []⟩
noncomputable def g : Gi := giE (giD Tryd.prog (gtL []) (fun _ => an1) 0 [] (ovL []) 1)
theorem gok : GOk g := giE_ok (giD_ok hm (by intro p hp; cases hp) (gtL_ok (by decide)) (ovL_ok (by intro p hp; cases hp)) 1)
abbrev Ty : Type 1 := ∀ R : Type, List Int → Option R → Option R
def con (f : Ty) : Con := fun R args bs κ => match args, bs with
  | [AV.isl .u8 _ l], [] => f R l (κ (AV.own 0 [] 0 none) [Blk.row .u8 l.isEmpty l])
  | _, _ => none
def gts : List (Nat × AV) := []
def big (l : List Int) : Bool := decide (l.length ≤ 1000000)
noncomputable def M (_N : Nat) : Ty := fun _R l k => cond (big l) k none
theorem e1 (N : Nat) (R : Type) (κ : AV → List Blk → Option R) : evF g an1 N Tryd.f104 [.isl .u8 (some true) []] [] κ = κ (.isl .u8 (some true) []) [] := by kernel_rfl
theorem tree (N : Nat) (R : Type) (κ : AV → List Blk → Option R) (l : List Int) : evF g an2 N Tryd.f104 [.isl .u8 (some false) l] [] κ =
    cond (decide ((([] : List Int).length + l.length) * 1 ≤ 140737488355328)) (cond (decide (([] : List Int).length + l.length ≤ 140737488355328)) (κ (.own 0 [] 0 none) [.row .u8 (l.isEmpty && true) l]) none) none := by kernel_rfl
theorem e2 (N : Nat) (R : Type) (κ : AV → List Blk → Option R) (l : List Int) (h : big l = true) : evF g an2 N Tryd.f104 [.isl .u8 (some false) l] [] κ = κ (.own 0 [] 0 none) [.row .u8 l.isEmpty l] := by
  have h := of_decide_eq_true h
  rw [tree, decide_eq_true (by simp; omega), decide_eq_true (by simp; omega), Bool.and_true]; rfl
theorem ok (N : Nat) : SoundC Tryd.prog (gtL gts) 104 (con (M N)) := by
  refine SoundC.mono (clone_sound (evF_ok gok hm an1 N Tryd.func104) (evF_ok gok hm an2 N Tryd.func104) (e1 N) (fun R κ l h => e2 N R κ l h)) fun R args bs κ r h => ?_
  unfold con at h
  split at h
  · rename_i nl l
    exact h
  · cases h
end Clone
end Go.Proofs.YthajoenmfppenaaDoor.fn
