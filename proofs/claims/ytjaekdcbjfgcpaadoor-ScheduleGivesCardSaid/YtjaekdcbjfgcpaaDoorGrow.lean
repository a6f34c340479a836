/- What slices.Grow answers on nil, with the proof. -/
import Derived.Test.YtjaekdcbjfgcpaaDoorFnGrow0
namespace Go.Proofs.YtjaekdcbjfgcpaaDoor.fn
open Go Go.Proofs Go.Ev

namespace Grow
abbrev Ty : Type 1 := ∀ R : Type, Int → Option R → Option R → Option R
def con (f : Ty) : Con := fun R args bs κ => match args, bs with
  | [AV.isl .u8 (some true) [], .int .i64 n], [] => f R n (κ (AV.own 0 [] 0 none) [Blk.row .u8 true []]) (κ (AV.own 0 [] 0 (some 0)) [Blk.row .u8 false (List.replicate n.toNat (0 : Int))])
  | _, _ => none
def gts : List (Nat × AV) := []
def big (n : Int) : Bool := decide (0 < n) && decide (n ≤ 1000000)
noncomputable def M (_N : Nat) : Ty := fun _R n k0 k1 => cond (decide (n = 0)) k0 (cond (big n) k1 none)
theorem e0 (N : Nat) (R : Type) (κ : AV → List Blk → Option R) : Grow0.con (Grow0.M N) R [.nils, .int .i64 0] [] κ = κ .nils [] := by
  rw [Grow0.con_eq]; kernel_rfl
theorem e1 (N : Nat) (R : Type) (κ : AV → List Blk → Option R) (n : Int) (h : big n = true) : Grow0.con (Grow0.M N) R [.nils, .int .i64 n] [] κ = κ (.own 0 [] 0 (some 0)) [.row .u8 false (List.replicate n.toNat (0 : Int))] := by
  unfold big at h
  rw [Bool.and_eq_true] at h
  obtain ⟨h1, h2⟩ := h
  have h1 := of_decide_eq_true h1
  have h2 := of_decide_eq_true h2
  obtain ⟨m, rfl⟩ : ∃ m : Nat, n = ((m + 1 : Nat) : Int) := ⟨n.toNat - 1, by omega⟩
  rw [Grow0.con_eq]
  show Grow0.m N _ _ _ = _
  unfold Grow0.m
  have w : ∀ z : Int, 0 ≤ z → z ≤ 1000000 → IntKind.i64.wrap z = z := fun z a b => by
    simp [IntKind.wrap, IntKind.signed, IntKind.bits]; omega
  rw [Int.sub_zero, w _ (by omega) (by omega), w _ (by omega) (by omega), decide_eq_false (by omega), cond_false, decide_eq_true (by omega), cond_true, decide_eq_true (by omega), cond_true]
  simp only [Int.toNat_natCast, List.length_replicate]
  rw [decide_eq_true (by omega), cond_true, decide_eq_true (by omega), cond_true]
  rfl
theorem ok (N : Nat) : SoundC Tryd.prog (gtL gts) 47 (con (M N)) := by
  refine SoundC.mono (grow_sound (k := .u8) (Grow0.ok N) (c := big) (fun R κ => e0 N R κ) (fun R κ n h => e1 N R κ n h)) fun R args bs κ r h => ?_
  unfold con at h
  split at h
  · exact h
  · cases h
end Grow
end Go.Proofs.YtjaekdcbjfgcpaaDoor.fn
