/- What the references of records are, with the proof; printed by a program. -/
import Derived.Test.YthajoenmfppenaaDoorProg
import Derived.Test.YthajoenmfppenaaDoorEv4
import Derived.Test.YthajoenmfppenaaDoorFnFormsR
namespace Go.Proofs.YthajoenmfppenaaDoor.fn
open Go Go.Proofs Go.Ev
/-! ### Tryd.f58: r23row -/
namespace r23row
def an : Anns := ⟨fun i => findA i [], fun i => findA i [], false, fun _ => none, []⟩
noncomputable def g (mrBytes : rBytes.Ty) : Gi := giD Tryd.prog (gtL []) (fun _ => an) 0 [] (ovL [(86, rBytes.con mrBytes)]) 1
noncomputable def m (mrBytes : rBytes.Ty) {R : Type} (_N : Nat) (l1 : List (List Int)) (kr0 : (Option Bool) → (List Int) → Option R) : Option R :=
  mrBytes R l1
   (fun v_c2 v_1_c3 => kr0 v_c2 v_1_c3)
theorem tree (mrBytes : rBytes.Ty) {R : Type} (N : Nat) (κ : AV → List Blk → Option R) (l1 : List (List Int)) : evF (g mrBytes) an N Tryd.f58 [AV.rsl IntKind.u8 l1] [] κ =
  mrBytes R l1
   (fun v_c2 v_1_c3 => κ (AV.isl IntKind.u8 v_c2 v_1_c3) []) := by kernel_rfl
theorem eq (mrBytes : rBytes.Ty) {R : Type} (N : Nat) (κ : AV → List Blk → Option R) (l1 : List (List Int)) : evF (g mrBytes) an N Tryd.f58 [AV.rsl IntKind.u8 l1] [] κ =
  m mrBytes N l1 (fun v v_1 => κ (AV.isl IntKind.u8 v v_1) []) := by
  rw [tree]
  kernel_rfl
abbrev Ty : Type 1 := ∀ R : Type, (List (List Int)) → ((Option Bool) → (List Int) → Option R) → Option R
def con (f : Ty) : Con := fun R args bs κ => match args, bs with
  | [AV.rsl IntKind.u8 l1], [] => f R l1 (fun v v_1 => κ (AV.isl IntKind.u8 v v_1) [])
  | _, _ => none
theorem con_eq (f : Ty) (R : Type) (κ : AV → List Blk → Option R) (l1 : List (List Int)) : con f R [AV.rsl IntKind.u8 l1] [] κ = f R l1 (fun v v_1 => κ (AV.isl IntKind.u8 v v_1) []) := rfl
noncomputable def M (N : Nat) : Ty := fun R l1 kr0 => m (rBytes.M N) (R := R) N l1 kr0
def gts : List (Nat × AV) := []
theorem gok (N : Nat) : GOk (g (rBytes.M N)) := giD_ok hm (by intro p hp; cases hp) (gtL_ok (by decide)) (ovL_ok (by
    intro p hp
    simp only [List.mem_cons, List.not_mem_nil, or_false] at hp
    rcases hp with rfl
    · exact ⟨(rBytes.ok N).gt (gtL_sub (by repeat (first | exact subG_nil _ | refine subG_cons (by kernel_rfl) ?_))) (gtL_ok (by decide)), _, Tryd.func86, by kernel_rfl, by kernel_rfl⟩
)) 1
theorem ok (N : Nat) : SoundC Tryd.prog (gtL gts) 58 (con (M N)) := by
  refine SoundC.mono (evF_ok (gok N) hm an N Tryd.func58) fun R args bs κ r h => ?_
  unfold con at h
  split at h
  · exact (eq (rBytes.M N) N κ _).trans h
  · cases h
end r23row

/-! ### Tryd.f59: r23num -/
namespace r23num
def an : Anns := ⟨fun i => findA i [], fun i => findA i [], false, fun _ => none, []⟩
noncomputable def g (mrNum : rNum.Ty) : Gi := giD Tryd.prog (gtL []) (fun _ => an) 0 [] (ovL [(87, rNum.con mrNum)]) 1
noncomputable def m (mrNum : rNum.Ty) {R : Type} (_N : Nat) (n1 : Int) (kr0 : (List Int) → Option R) : Option R :=
  mrNum R n1
   (fun v_c1 => kr0 v_c1)
theorem tree (mrNum : rNum.Ty) {R : Type} (N : Nat) (κ : AV → List Blk → Option R) (n1 : Int) : evF (g mrNum) an N Tryd.f59 [AV.int IntKind.i64 n1] [] κ =
  mrNum R n1
   (fun v_c1 => κ (AV.isl IntKind.u8 none v_c1) []) := by kernel_rfl
theorem eq (mrNum : rNum.Ty) {R : Type} (N : Nat) (κ : AV → List Blk → Option R) (n1 : Int) : evF (g mrNum) an N Tryd.f59 [AV.int IntKind.i64 n1] [] κ =
  m mrNum N n1 (fun v => κ (AV.isl IntKind.u8 none v) []) := by
  rw [tree]
  kernel_rfl
abbrev Ty : Type 1 := ∀ R : Type, Int → ((List Int) → Option R) → Option R
def con (f : Ty) : Con := fun R args bs κ => match args, bs with
  | [AV.int IntKind.i64 n1], [] => f R n1 (fun v => κ (AV.isl IntKind.u8 none v) [])
  | _, _ => none
theorem con_eq (f : Ty) (R : Type) (κ : AV → List Blk → Option R) (n1 : Int) : con f R [AV.int IntKind.i64 n1] [] κ = f R n1 (fun v => κ (AV.isl IntKind.u8 none v) []) := rfl
noncomputable def M (N : Nat) : Ty := fun R n1 kr0 => m (rNum.M N) (R := R) N n1 kr0
def gts : List (Nat × AV) := []
theorem gok (N : Nat) : GOk (g (rNum.M N)) := giD_ok hm (by intro p hp; cases hp) (gtL_ok (by decide)) (ovL_ok (by
    intro p hp
    simp only [List.mem_cons, List.not_mem_nil, or_false] at hp
    rcases hp with rfl
    · exact ⟨(rNum.ok N).gt (gtL_sub (by repeat (first | exact subG_nil _ | refine subG_cons (by kernel_rfl) ?_))) (gtL_ok (by decide)), _, Tryd.func87, by kernel_rfl, by kernel_rfl⟩
)) 1
theorem ok (N : Nat) : SoundC Tryd.prog (gtL gts) 59 (con (M N)) := by
  refine SoundC.mono (evF_ok (gok N) hm an N Tryd.func59) fun R args bs κ r h => ?_
  unfold con at h
  split at h
  · exact (eq (rNum.M N) N κ _).trans h
  · cases h
end r23num

end Go.Proofs.YthajoenmfppenaaDoor.fn
