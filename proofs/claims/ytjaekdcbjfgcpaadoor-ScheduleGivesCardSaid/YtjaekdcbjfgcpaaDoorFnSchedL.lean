/- What the laws of epochs have in common, with the proof; printed by a program. -/
import Derived.Test.YtjaekdcbjfgcpaaDoorProg
import Derived.Test.YtjaekdcbjfgcpaaDoorEv4
import Derived.Test.YtjaekdcbjfgcpaaDoorFnSched
namespace Go.Proofs.YtjaekdcbjfgcpaaDoor.fn
open Go Go.Proofs Go.Ev

/-! ### Tryd.f7: alive22 -/
namespace alive22
def an : Anns := ⟨fun i => findA i [], fun i => findA i [], false, fun _ => none, []⟩
noncomputable def g (msBegin : sBegin.Ty) (msExport : sExport.Ty) : Gi := giL (giD Tryd.prog (gtL [(0, .err 1), (1, .err 3), (19, .ints .u32 64 K256)]) (fun _ => an) 0 [] (ovL [(9, sBegin.con msBegin), (15, sExport.con msExport)]) 1)
noncomputable def m (msBegin : sBegin.Ty) (msExport : sExport.Ty) {R : Type} (_N : Nat) (kr0 : Bool → Option R) : Option R :=
  msBegin R ([1, 0, 0, 0, 0, 0, 0, 0, 0, 0, 0, 0, 0, 0, 0, 0, 0, 0, 0, 0, 0, 0, 0, 0, 0, 0, 0, 0, 0, 0, 0, 0]) none ([99])
   (fun v_c9 v_1_c10 v_2_c11 v_3_c12 v_4_c13 v_5_c14 v_6_c15 v_7_c16 => msExport R v_c9 v_1_c10 v_2_c11 v_3_c12 v_4_c13 v_5_c14 v_6_c15 v_7_c16 ([120]) (some true) [] 0
    (fun v_c17 => cond (v_c17.beq 0)
     (cond (!v_2_c11 == [0, 0, 0, 0, 0, 0, 0, 0, 0, 0, 0, 0, 0, 0, 0, 0, 0, 0, 0, 0, 0, 0, 0, 0, 0, 0, 0, 0, 0, 0, 0, 0])
      (kr0 (!v_2_c11 == v_7_c16))
      (kr0 false))
     (kr0 false))
    (fun _vg1_c18 v_1_c19 v_2_c20 => cond (v_2_c20.beq 0)
     (cond ((↑v_1_c19.length : Int) == 0)
      (cond (!v_2_c11 == [0, 0, 0, 0, 0, 0, 0, 0, 0, 0, 0, 0, 0, 0, 0, 0, 0, 0, 0, 0, 0, 0, 0, 0, 0, 0, 0, 0, 0, 0, 0, 0])
       (kr0 (!v_2_c11 == v_7_c16))
       (kr0 false))
      (kr0 false))
     (kr0 false)))
theorem tree (msBegin : sBegin.Ty) (msExport : sExport.Ty) {R : Type} (N : Nat) (κ : AV → List Blk → Option R) : evF (g msBegin msExport) an N Tryd.f7 [] [] κ =
  msBegin R ([1, 0, 0, 0, 0, 0, 0, 0, 0, 0, 0, 0, 0, 0, 0, 0, 0, 0, 0, 0, 0, 0, 0, 0, 0, 0, 0, 0, 0, 0, 0, 0]) none ([99])
   (fun v_c9 v_1_c10 v_2_c11 v_3_c12 v_4_c13 v_5_c14 v_6_c15 v_7_c16 => msExport R v_c9 v_1_c10 v_2_c11 v_3_c12 v_4_c13 v_5_c14 v_6_c15 v_7_c16 ([120]) (some true) [] 0
    (fun v_c17 => cond (v_c17.beq 0)
     (cond (!v_2_c11 == [0, 0, 0, 0, 0, 0, 0, 0, 0, 0, 0, 0, 0, 0, 0, 0, 0, 0, 0, 0, 0, 0, 0, 0, 0, 0, 0, 0, 0, 0, 0, 0])
      (κ (AV.bool !v_2_c11 == v_7_c16) [])
      (κ (AV.bool false) []))
     (κ (AV.bool false) []))
    (fun _vg1_c18 v_1_c19 v_2_c20 => cond (v_2_c20.beq 0)
     (cond ((↑v_1_c19.length : Int) == 0)
      (cond (!v_2_c11 == [0, 0, 0, 0, 0, 0, 0, 0, 0, 0, 0, 0, 0, 0, 0, 0, 0, 0, 0, 0, 0, 0, 0, 0, 0, 0, 0, 0, 0, 0, 0, 0])
       (κ (AV.bool !v_2_c11 == v_7_c16) [])
       (κ (AV.bool false) []))
      (κ (AV.bool false) []))
     (κ (AV.bool false) []))) := by kernel_rfl
theorem eq (msBegin : sBegin.Ty) (msExport : sExport.Ty) {R : Type} (N : Nat) (κ : AV → List Blk → Option R) : evF (g msBegin msExport) an N Tryd.f7 [] [] κ =
  m msBegin msExport N (fun v => κ (AV.bool v) []) := by
  rw [tree]
  kernel_rfl
abbrev Ty : Type 1 := ∀ R : Type, (Bool → Option R) → Option R
def con (f : Ty) : Con := fun R args bs κ => match args, bs with
  | [], [] => f R (fun v => κ (AV.bool v) [])
  | _, _ => none
theorem con_eq (f : Ty) (R : Type) (κ : AV → List Blk → Option R) : con f R [] [] κ = f R (fun v => κ (AV.bool v) []) := rfl
noncomputable def M (N : Nat) : Ty := fun R kr0 => m (sBegin.M N) (sExport.M N) (R := R) N kr0
def gts : List (Nat × AV) := [(0, .err 1), (1, .err 3), (19, .ints .u32 64 K256)]
theorem gok (N : Nat) : GOk (g (sBegin.M N) (sExport.M N)) := giL_ok (giD_ok hm (by intro p hp; cases hp) (gtL_ok (by decide)) (ovL_ok (by
    intro p hp
    simp only [List.mem_cons, List.not_mem_nil, or_false] at hp
    rcases hp with rfl | rfl
    · exact ⟨(sBegin.ok N).gt (gtL_sub (by repeat (first | exact subG_nil _ | refine subG_cons (by kernel_rfl) ?_))) (gtL_ok (by decide)), _, Tryd.func9, by kernel_rfl, by kernel_rfl⟩
    · exact ⟨(sExport.ok N).gt (gtL_sub (by repeat (first | exact subG_nil _ | refine subG_cons (by kernel_rfl) ?_))) (gtL_ok (by decide)), _, Tryd.func15, by kernel_rfl, by kernel_rfl⟩
)) 1)
theorem ok (N : Nat) : SoundC Tryd.prog (gtL gts) 7 (con (M N)) := by
  refine SoundC.mono (evF_ok (gok N) hm an N Tryd.func7) fun R args bs κ r h => ?_
  unfold con at h
  split at h
  · exact (eq (sBegin.M N) (sExport.M N) N κ).trans h
  · cases h
end alive22

end Go.Proofs.YtjaekdcbjfgcpaaDoor.fn
