/- What the laws of records have in common, with the proof; printed by a program. -/
import Derived.Test.YthajoenmfppenaaDoorProg
import Derived.Test.YthajoenmfppenaaDoorEv4
import Derived.Test.YthajoenmfppenaaDoorFnSha
import Derived.Test.YthajoenmfppenaaDoorFnNum
namespace Go.Proofs.YthajoenmfppenaaDoor.fn
open Go Go.Proofs Go.Ev
/-! ### Tryd.f32: Interim -/
namespace Interim
def an : Anns := ⟨fun i => findA i [], fun i => findA i [], false, fun _ => none, []⟩
noncomputable def g (msSum : sSum.Ty) : Gi := giD Tryd.prog (gtL [(0, .err 1), (19, .ints .u32 64 K256)]) (fun _ => an) 0 [] (ovL [(50, sSum.con msSum)]) 1
noncomputable def m (msSum : sSum.Ty) {R : Type} (_N : Nat) (confirmed1 : List Int) (tag2 : List Int) (kr0 : (List Int) → Option R) : Option R :=
  msSum R ([cut (some 32) 0 confirmed1, cut (some 32) 0 tag2])
   (fun v_c1 => kr0 v_c1)
theorem tree (msSum : sSum.Ty) {R : Type} (N : Nat) (κ : AV → List Blk → Option R) (confirmed1 : List Int) (tag2 : List Int) : evF (g msSum) an N Tryd.f32 [AV.ints IntKind.u8 32 confirmed1, AV.ints IntKind.u8 32 tag2] [] κ =
  msSum R ([cut (some 32) 0 confirmed1, cut (some 32) 0 tag2])
   (fun v_c1 => κ (AV.ints IntKind.u8 32 v_c1) []) := by kernel_rfl
theorem eq (msSum : sSum.Ty) {R : Type} (N : Nat) (κ : AV → List Blk → Option R) (confirmed1 : List Int) (tag2 : List Int) : evF (g msSum) an N Tryd.f32 [AV.ints IntKind.u8 32 confirmed1, AV.ints IntKind.u8 32 tag2] [] κ =
  m msSum N confirmed1 tag2 (fun v => κ (AV.ints IntKind.u8 32 v) []) := by
  rw [tree]
  kernel_rfl
abbrev Ty : Type 1 := ∀ R : Type, (List Int) → (List Int) → ((List Int) → Option R) → Option R
def con (f : Ty) : Con := fun R args bs κ => match args, bs with
  | [AV.ints IntKind.u8 32 confirmed1, AV.ints IntKind.u8 32 tag2], [] => f R confirmed1 tag2 (fun v => κ (AV.ints IntKind.u8 32 v) [])
  | _, _ => none
theorem con_eq (f : Ty) (R : Type) (κ : AV → List Blk → Option R) (confirmed1 : List Int) (tag2 : List Int) : con f R [AV.ints IntKind.u8 32 confirmed1, AV.ints IntKind.u8 32 tag2] [] κ = f R confirmed1 tag2 (fun v => κ (AV.ints IntKind.u8 32 v) []) := rfl
noncomputable def M (N : Nat) : Ty := fun R confirmed1 tag2 kr0 => m (sSum.M N) (R := R) N confirmed1 tag2 kr0
def gts : List (Nat × AV) := [(0, .err 1), (19, .ints .u32 64 K256)]
theorem gok (N : Nat) : GOk (g (sSum.M N)) := giD_ok hm (by intro p hp; cases hp) (gtL_ok (by decide)) (ovL_ok (by
    intro p hp
    simp only [List.mem_cons, List.not_mem_nil, or_false] at hp
    rcases hp with rfl
    · exact ⟨(sSum.ok N).gt (gtL_sub (by repeat (first | exact subG_nil _ | refine subG_cons (by kernel_rfl) ?_))) (gtL_ok (by decide)), _, Tryd.func50, by kernel_rfl, by kernel_rfl⟩
)) 1
theorem ok (N : Nat) : SoundC Tryd.prog (gtL gts) 32 (con (M N)) := by
  refine SoundC.mono (evF_ok (gok N) hm an N Tryd.func32) fun R args bs κ r h => ?_
  unfold con at h
  split at h
  · exact (eq (sSum.M N) N κ _ _).trans h
  · cases h
end Interim

/-! ### Tryd.f15: alive23 -/
namespace alive23
def an : Anns := ⟨fun i => findA i [], fun i => findA i [], false, fun _ => none, []⟩
noncomputable def g (mInterim : Interim.Ty) (msSum : sSum.Ty) : Gi := giL (giD Tryd.prog (gtL [(0, .err 1), (19, .ints .u32 64 K256)]) (fun _ => an) 0 [] (ovL [(32, Interim.con mInterim), (50, sSum.con msSum)]) 1)
noncomputable def m (mInterim : Interim.Ty) (msSum : sSum.Ty) {R : Type} (_N : Nat) (kr0 : Bool → Option R) : Option R :=
  mInterim R ([0, 0, 0, 0, 0, 0, 0, 0, 0, 0, 0, 0, 0, 0, 0, 0, 0, 0, 0, 0, 0, 0, 0, 0, 0, 0, 0, 0, 0, 0, 0, 0]) ([0, 0, 0, 0, 0, 0, 0, 0, 0, 0, 0, 0, 0, 0, 0, 0, 0, 0, 0, 0, 0, 0, 0, 0, 0, 0, 0, 0, 0, 0, 0, 0])
   (fun v_c2 => msSum R ([[0, 0, 0, 0, 0, 0, 0, 0, 0, 0, 0, 0, 0, 0, 0, 0, 0, 0, 0, 0, 0, 0, 0, 0, 0, 0, 0, 0, 0, 0, 0, 0, 0, 0, 0, 0, 0, 0, 0, 0, 0, 0, 0, 0, 0, 0, 0, 0, 0, 0, 0, 0, 0, 0, 0, 0, 0, 0, 0, 0, 0, 0, 0, 0]])
    (fun v_c3 => kr0 (v_c2 == v_c3)))
theorem tree (mInterim : Interim.Ty) (msSum : sSum.Ty) {R : Type} (N : Nat) (κ : AV → List Blk → Option R) : evF (g mInterim msSum) an N Tryd.f15 [] [] κ =
  mInterim R ([0, 0, 0, 0, 0, 0, 0, 0, 0, 0, 0, 0, 0, 0, 0, 0, 0, 0, 0, 0, 0, 0, 0, 0, 0, 0, 0, 0, 0, 0, 0, 0]) ([0, 0, 0, 0, 0, 0, 0, 0, 0, 0, 0, 0, 0, 0, 0, 0, 0, 0, 0, 0, 0, 0, 0, 0, 0, 0, 0, 0, 0, 0, 0, 0])
   (fun v_c2 => msSum R ([[0, 0, 0, 0, 0, 0, 0, 0, 0, 0, 0, 0, 0, 0, 0, 0, 0, 0, 0, 0, 0, 0, 0, 0, 0, 0, 0, 0, 0, 0, 0, 0, 0, 0, 0, 0, 0, 0, 0, 0, 0, 0, 0, 0, 0, 0, 0, 0, 0, 0, 0, 0, 0, 0, 0, 0, 0, 0, 0, 0, 0, 0, 0, 0]])
    (fun v_c3 => κ (AV.bool (v_c2 == v_c3)) [])) := by kernel_rfl
theorem eq (mInterim : Interim.Ty) (msSum : sSum.Ty) {R : Type} (N : Nat) (κ : AV → List Blk → Option R) : evF (g mInterim msSum) an N Tryd.f15 [] [] κ =
  m mInterim msSum N (fun v => κ (AV.bool v) []) := by
  rw [tree]
  kernel_rfl
abbrev Ty : Type 1 := ∀ R : Type, (Bool → Option R) → Option R
def con (f : Ty) : Con := fun R args bs κ => match args, bs with
  | [], [] => f R (fun v => κ (AV.bool v) [])
  | _, _ => none
theorem con_eq (f : Ty) (R : Type) (κ : AV → List Blk → Option R) : con f R [] [] κ = f R (fun v => κ (AV.bool v) []) := rfl
noncomputable def M (N : Nat) : Ty := fun R kr0 => m (Interim.M N) (sSum.M N) (R := R) N kr0
def gts : List (Nat × AV) := [(0, .err 1), (19, .ints .u32 64 K256)]
theorem gok (N : Nat) : GOk (g (Interim.M N) (sSum.M N)) := giL_ok (giD_ok hm (by intro p hp; cases hp) (gtL_ok (by decide)) (ovL_ok (by
    intro p hp
    simp only [List.mem_cons, List.not_mem_nil, or_false] at hp
    rcases hp with rfl | rfl
    · exact ⟨(Interim.ok N).gt (gtL_sub (by repeat (first | exact subG_nil _ | refine subG_cons (by kernel_rfl) ?_))) (gtL_ok (by decide)), _, Tryd.func32, by kernel_rfl, by kernel_rfl⟩
    · exact ⟨(sSum.ok N).gt (gtL_sub (by repeat (first | exact subG_nil _ | refine subG_cons (by kernel_rfl) ?_))) (gtL_ok (by decide)), _, Tryd.func50, by kernel_rfl, by kernel_rfl⟩
)) 1)
theorem ok (N : Nat) : SoundC Tryd.prog (gtL gts) 15 (con (M N)) := by
  refine SoundC.mono (evF_ok (gok N) hm an N Tryd.func15) fun R args bs κ r h => ?_
  unfold con at h
  split at h
  · exact (eq (Interim.M N) (sSum.M N) N κ).trans h
  · cases h
end alive23

/-! ### Tryd.f16: bigLeaf23 -/
namespace bigLeaf23
def an : Anns := ⟨fun i => findA i [], fun i => findA i [], false, fun _ => none, []⟩
noncomputable def g : Gi := giD Tryd.prog (gtL []) (fun _ => an) 0 [] (ovL []) 1
noncomputable def m {R : Type} (_N : Nat) (_l1 : List Int) (_l2 : List Int) (_lN3 : Option Bool) (l4 : List Int) (_l5 : List Int) (_l6 : List Int) (kr0 : Bool → Option R) : Option R :=
  kr0 (decide ((↑l4.length : Int) > 100))
theorem tree {R : Type} (N : Nat) (κ : AV → List Blk → Option R) (l1 : List Int) (l2 : List Int) (lN3 : Option Bool) (l4 : List Int) (l5 : List Int) (l6 : List Int) : evF g an N Tryd.f16 [AV.agg [AV.ints IntKind.u8 32 l1, AV.ints IntKind.u8 32 l2, AV.isl IntKind.u8 lN3 l4, AV.ints IntKind.u8 32 l5, AV.ints IntKind.u8 64 l6]] [] κ =
  κ (AV.bool (decide ((↑l4.length : Int) > 100))) [] := by kernel_rfl
theorem eq {R : Type} (N : Nat) (κ : AV → List Blk → Option R) (l1 : List Int) (l2 : List Int) (lN3 : Option Bool) (l4 : List Int) (l5 : List Int) (l6 : List Int) : evF g an N Tryd.f16 [AV.agg [AV.ints IntKind.u8 32 l1, AV.ints IntKind.u8 32 l2, AV.isl IntKind.u8 lN3 l4, AV.ints IntKind.u8 32 l5, AV.ints IntKind.u8 64 l6]] [] κ =
  m N l1 l2 lN3 l4 l5 l6 (fun v => κ (AV.bool v) []) := by
  rw [tree]
  kernel_rfl
abbrev Ty : Type 1 := ∀ R : Type, (List Int) → (List Int) → (Option Bool) → (List Int) → (List Int) → (List Int) → (Bool → Option R) → Option R
def con (f : Ty) : Con := fun R args bs κ => match args, bs with
  | [AV.agg [AV.ints IntKind.u8 32 l1, AV.ints IntKind.u8 32 l2, AV.isl IntKind.u8 lN3 l4, AV.ints IntKind.u8 32 l5, AV.ints IntKind.u8 64 l6]], [] => f R l1 l2 lN3 l4 l5 l6 (fun v => κ (AV.bool v) [])
  | _, _ => none
theorem con_eq (f : Ty) (R : Type) (κ : AV → List Blk → Option R) (l1 : List Int) (l2 : List Int) (lN3 : Option Bool) (l4 : List Int) (l5 : List Int) (l6 : List Int) : con f R [AV.agg [AV.ints IntKind.u8 32 l1, AV.ints IntKind.u8 32 l2, AV.isl IntKind.u8 lN3 l4, AV.ints IntKind.u8 32 l5, AV.ints IntKind.u8 64 l6]] [] κ = f R l1 l2 lN3 l4 l5 l6 (fun v => κ (AV.bool v) []) := rfl
noncomputable def M (N : Nat) : Ty := fun R l1 l2 lN3 l4 l5 l6 kr0 => m (R := R) N l1 l2 lN3 l4 l5 l6 kr0
def gts : List (Nat × AV) := []
theorem gok (_N : Nat) : GOk g := giD_ok hm (by intro p hp; cases hp) (gtL_ok (by decide)) (ovL_ok (by intro p hp; cases hp)) 1
theorem ok (N : Nat) : SoundC Tryd.prog (gtL gts) 16 (con (M N)) := by
  refine SoundC.mono (evF_ok (gok N) hm an N Tryd.func16) fun R args bs κ r h => ?_
  unfold con at h
  split at h
  · exact (eq N κ _ _ _ _ _ _).trans h
  · cases h
end bigLeaf23

/-! ### Tryd.f24: told23 -/
namespace told23
def an : Anns := ⟨fun i => findA i [], fun i => findA i [], false, fun _ => none, []⟩
noncomputable def g (mNum : Num.Ty) : Gi := giD Tryd.prog (gtL [(0, .err 1), (1, .err 2), (2, .err 3), (3, .err 4), (4, .err 5), (5, .err 6), (6, .err 7), (7, .err 8), (8, .err 9), (9, .err 10), (10, .err 11), (11, .err 12), (12, .err 13), (13, .err 14), (14, .err 15), (15, .err 16), (16, .err 17), (17, .err 18), (18, .err 19)]) (fun _ => an) 0 [] (ovL [(14, Num.con mNum)]) 1
noncomputable def m (mNum : Num.Ty) {R : Type} (_N : Nat) (_bN1 : Option Bool) (b2 : List Int) (err3 : Nat) (_wN4 : Option Bool) (w5 : List Int) (ok6 : Bool) (kr0 : Bool → Option R) : Option R :=
  cond (!ok6)
   (cond ((↑b2.length : Int) == 0)
    (mNum R err3
     (fun v_c1 => kr0 (v_c1 == 4)))
    (kr0 false))
   (cond (err3.beq 0)
    (kr0 (toStr b2 == toStr w5))
    (kr0 false))
theorem tree (mNum : Num.Ty) {R : Type} (N : Nat) (κ : AV → List Blk → Option R) (bN1 : Option Bool) (b2 : List Int) (err3 : Nat) (wN4 : Option Bool) (w5 : List Int) (ok6 : Bool) : evF (g mNum) an N Tryd.f24 [AV.isl IntKind.u8 bN1 b2, AV.err err3, AV.isl IntKind.u8 wN4 w5, AV.bool ok6] [] κ =
  cond (!ok6)
   (cond ((↑b2.length : Int) == 0)
    (mNum R err3
     (fun v_c1 => κ (AV.bool (v_c1 == 4)) []))
    (κ (AV.bool false) []))
   (cond (err3.beq 0)
    (κ (AV.bool (toStr b2 == toStr w5)) [])
    (κ (AV.bool false) [])) := by kernel_rfl
theorem eq (mNum : Num.Ty) {R : Type} (N : Nat) (κ : AV → List Blk → Option R) (bN1 : Option Bool) (b2 : List Int) (err3 : Nat) (wN4 : Option Bool) (w5 : List Int) (ok6 : Bool) : evF (g mNum) an N Tryd.f24 [AV.isl IntKind.u8 bN1 b2, AV.err err3, AV.isl IntKind.u8 wN4 w5, AV.bool ok6] [] κ =
  m mNum N bN1 b2 err3 wN4 w5 ok6 (fun v => κ (AV.bool v) []) := by
  rw [tree]
  kernel_rfl
abbrev Ty : Type 1 := ∀ R : Type, (Option Bool) → (List Int) → Nat → (Option Bool) → (List Int) → Bool → (Bool → Option R) → Option R
def con (f : Ty) : Con := fun R args bs κ => match args, bs with
  | [AV.isl IntKind.u8 bN1 b2, AV.err err3, AV.isl IntKind.u8 wN4 w5, AV.bool ok6], [] => f R bN1 b2 err3 wN4 w5 ok6 (fun v => κ (AV.bool v) [])
  | _, _ => none
theorem con_eq (f : Ty) (R : Type) (κ : AV → List Blk → Option R) (bN1 : Option Bool) (b2 : List Int) (err3 : Nat) (wN4 : Option Bool) (w5 : List Int) (ok6 : Bool) : con f R [AV.isl IntKind.u8 bN1 b2, AV.err err3, AV.isl IntKind.u8 wN4 w5, AV.bool ok6] [] κ = f R bN1 b2 err3 wN4 w5 ok6 (fun v => κ (AV.bool v) []) := rfl
noncomputable def M (N : Nat) : Ty := fun R bN1 b2 err3 wN4 w5 ok6 kr0 => m (Num.M N) (R := R) N bN1 b2 err3 wN4 w5 ok6 kr0
def gts : List (Nat × AV) := [(0, .err 1), (1, .err 2), (2, .err 3), (3, .err 4), (4, .err 5), (5, .err 6), (6, .err 7), (7, .err 8), (8, .err 9), (9, .err 10), (10, .err 11), (11, .err 12), (12, .err 13), (13, .err 14), (14, .err 15), (15, .err 16), (16, .err 17), (17, .err 18), (18, .err 19)]
theorem gok (N : Nat) : GOk (g (Num.M N)) := giD_ok hm (by intro p hp; cases hp) (gtL_ok (by decide)) (ovL_ok (by
    intro p hp
    simp only [List.mem_cons, List.not_mem_nil, or_false] at hp
    rcases hp with rfl
    · exact ⟨(Num.ok N).gt (gtL_sub (by repeat (first | exact subG_nil _ | refine subG_cons (by kernel_rfl) ?_))) (gtL_ok (by decide)), _, Tryd.func14, by kernel_rfl, by kernel_rfl⟩
)) 1
theorem ok (N : Nat) : SoundC Tryd.prog (gtL gts) 24 (con (M N)) := by
  refine SoundC.mono (evF_ok (gok N) hm an N Tryd.func24) fun R args bs κ r h => ?_
  unfold con at h
  split at h
  · exact (eq (Num.M N) N κ _ _ _ _ _ _).trans h
  · cases h
end told23

end Go.Proofs.YthajoenmfppenaaDoor.fn
