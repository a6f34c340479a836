/- What the forms' writers do, with the proof; printed by a program. -/
import Derived.Test.YthajoenmfppenaaDoorProg
import Derived.Test.YthajoenmfppenaaDoorEv4
import Derived.Test.YthajoenmfppenaaDoorFnWire
namespace Go.Proofs.YthajoenmfppenaaDoor.fn
open Go Go.Proofs Go.Ev
/-! ### Tryd.f70: wfail0 -/
namespace wfail0
def an : Anns := ⟨fun i => findA i [], fun i => findA i [], false, fun _ => none, []⟩
noncomputable def g : Gi := giD Tryd.prog (gtL []) (fun _ => an) 0 [] (ovL []) 1
noncomputable def m {R : Type} (_N : Nat) (e0 : Nat) (er : Nat) (kr0 : Nat → Option R) : Option R :=
  cond (e0.beq 0)
   (kr0 er)
   (kr0 e0)
theorem tree {R : Type} (N : Nat) (κ : AV → List Blk → Option R) (e0 : Nat) (er : Nat) : evF g an N Tryd.f70 [AV.ptr 0 [], AV.err er] [Blk.var (AV.agg [AV.nils, AV.err e0])] κ =
  cond (e0.beq 0)
   (κ (AV.tup []) ([Blk.var (AV.agg [AV.nils, AV.err er])]))
   (κ (AV.tup []) ([Blk.var (AV.agg [AV.nils, AV.err e0])])) := by kernel_rfl
theorem eq {R : Type} (N : Nat) (κ : AV → List Blk → Option R) (e0 : Nat) (er : Nat) : evF g an N Tryd.f70 [AV.ptr 0 [], AV.err er] [Blk.var (AV.agg [AV.nils, AV.err e0])] κ =
  m N e0 er (fun b => κ (AV.tup []) ([Blk.var (AV.agg [AV.nils, AV.err b])])) := by
  rw [tree]
  kernel_rfl
abbrev Ty : Type 1 := ∀ R : Type, Nat → Nat → (Nat → Option R) → Option R
def con (f : Ty) : Con := fun R args bs κ => match args, bs with
  | [AV.ptr 0 [], AV.err er], [Blk.var (AV.agg [AV.nils, AV.err e0])] => f R e0 er (fun b => κ (AV.tup []) ([Blk.var (AV.agg [AV.nils, AV.err b])]))
  | _, _ => none
theorem con_eq (f : Ty) (R : Type) (κ : AV → List Blk → Option R) (e0 : Nat) (er : Nat) : con f R [AV.ptr 0 [], AV.err er] [Blk.var (AV.agg [AV.nils, AV.err e0])] κ = f R e0 er (fun b => κ (AV.tup []) ([Blk.var (AV.agg [AV.nils, AV.err b])])) := rfl
noncomputable def M (N : Nat) : Ty := fun R e0 er kr0 => m (R := R) N e0 er kr0
def gts : List (Nat × AV) := []
theorem gok (_N : Nat) : GOk g := giD_ok hm (by intro p hp; cases hp) (gtL_ok (by decide)) (ovL_ok (by intro p hp; cases hp)) 1
theorem ok (N : Nat) : SoundC Tryd.prog (gtL gts) 70 (con (M N)) := by
  refine SoundC.mono (evF_ok (gok N) hm an N Tryd.func70) fun R args bs κ r h => ?_
  unfold con at h
  split at h
  · exact (eq N κ _ _).trans h
  · cases h
end wfail0

/-! ### Tryd.f70: wfail1 -/
namespace wfail1
def an : Anns := ⟨fun i => findA i [], fun i => findA i [], false, fun _ => none, []⟩
noncomputable def g : Gi := giD Tryd.prog (gtL []) (fun _ => an) 0 [] (ovL []) 1
noncomputable def m {R : Type} (_N : Nat) (e0 : Nat) (t0 : List (List Int)) (er : Nat) (kr0 : Nat → (List (List Int)) → Option R) : Option R :=
  cond (e0.beq 0)
   (kr0 er t0)
   (kr0 e0 t0)
theorem tree {R : Type} (N : Nat) (κ : AV → List Blk → Option R) (e0 : Nat) (t0 : List (List Int)) (er : Nat) : evF g an N Tryd.f70 [AV.ptr 0 [], AV.err er] [Blk.var (AV.agg [AV.own 1 [] 0 none, AV.err e0]), Blk.gro (T.sl IntKind.u8) false t0] κ =
  cond (e0.beq 0)
   (κ (AV.tup []) ([Blk.var (AV.agg [AV.own 1 [] 0 none, AV.err er]), Blk.gro (T.sl IntKind.u8) false t0]))
   (κ (AV.tup []) ([Blk.var (AV.agg [AV.own 1 [] 0 none, AV.err e0]), Blk.gro (T.sl IntKind.u8) false t0])) := by kernel_rfl
theorem eq {R : Type} (N : Nat) (κ : AV → List Blk → Option R) (e0 : Nat) (t0 : List (List Int)) (er : Nat) : evF g an N Tryd.f70 [AV.ptr 0 [], AV.err er] [Blk.var (AV.agg [AV.own 1 [] 0 none, AV.err e0]), Blk.gro (T.sl IntKind.u8) false t0] κ =
  m N e0 t0 er (fun b b_1 => κ (AV.tup []) ([Blk.var (AV.agg [AV.own 1 [] 0 none, AV.err b]), Blk.gro (T.sl IntKind.u8) false b_1])) := by
  rw [tree]
  kernel_rfl
abbrev Ty : Type 1 := ∀ R : Type, Nat → (List (List Int)) → Nat → (Nat → (List (List Int)) → Option R) → Option R
def con (f : Ty) : Con := fun R args bs κ => match args, bs with
  | [AV.ptr 0 [], AV.err er], [Blk.var (AV.agg [AV.own 1 [] 0 none, AV.err e0]), Blk.gro (T.sl IntKind.u8) false t0] => f R e0 t0 er (fun b b_1 => κ (AV.tup []) ([Blk.var (AV.agg [AV.own 1 [] 0 none, AV.err b]), Blk.gro (T.sl IntKind.u8) false b_1]))
  | _, _ => none
theorem con_eq (f : Ty) (R : Type) (κ : AV → List Blk → Option R) (e0 : Nat) (t0 : List (List Int)) (er : Nat) : con f R [AV.ptr 0 [], AV.err er] [Blk.var (AV.agg [AV.own 1 [] 0 none, AV.err e0]), Blk.gro (T.sl IntKind.u8) false t0] κ = f R e0 t0 er (fun b b_1 => κ (AV.tup []) ([Blk.var (AV.agg [AV.own 1 [] 0 none, AV.err b]), Blk.gro (T.sl IntKind.u8) false b_1])) := rfl
noncomputable def M (N : Nat) : Ty := fun R e0 t0 er kr0 => m (R := R) N e0 t0 er kr0
def gts : List (Nat × AV) := []
theorem gok (_N : Nat) : GOk g := giD_ok hm (by intro p hp; cases hp) (gtL_ok (by decide)) (ovL_ok (by intro p hp; cases hp)) 1
theorem ok (N : Nat) : SoundC Tryd.prog (gtL gts) 70 (con (M N)) := by
  refine SoundC.mono (evF_ok (gok N) hm an N Tryd.func70) fun R args bs κ r h => ?_
  unfold con at h
  split at h
  · exact (eq N κ _ _ _).trans h
  · cases h
end wfail1

/-! ### (*fellowship/forms.writer).fail: two contracts as one -/
namespace wfail
def con (a : wfail0.Ty) (b : wfail1.Ty) : Con := fun R args bs κ => cond (nilAt bs) (wfail0.con a R args bs κ) (wfail1.con b R args bs κ)
def gts : List (Nat × AV) := []
theorem ok (N : Nat) : SoundC Tryd.prog (gtL gts) 70 (con (wfail0.M N) (wfail1.M N)) :=
  SoundC.either nilAt ((wfail0.ok N).gt (gtL_sub (by repeat (first | exact subG_nil _ | refine subG_cons (by kernel_rfl) ?_))) (gtL_ok (by decide))) ((wfail1.ok N).gt (gtL_sub (by repeat (first | exact subG_nil _ | refine subG_cons (by kernel_rfl) ?_))) (gtL_ok (by decide)))
end wfail

/-! ### Tryd.f34: wneed0 -/
namespace wneed0
def an : Anns := ⟨fun i => findA i [], fun i => findA i [], false, fun _ => none, []⟩
noncomputable def g (mwfail0 : wfail0.Ty) (mwfail1 : wfail1.Ty) : Gi := giD Tryd.prog (gtL [(3, .err 4)]) (fun _ => an) 0 [] (ovL [(70, wfail.con mwfail0 mwfail1)]) 1
noncomputable def m (mwfail0 : wfail0.Ty) (_mwfail1 : wfail1.Ty) {R : Type} (_N : Nat) (e0 : Nat) (ok : Bool) (kr0 : Nat → Option R) : Option R :=
  cond (!ok)
   (mwfail0 R e0 4
    (fun b_c1 => kr0 b_c1))
   (kr0 e0)
theorem tree (mwfail0 : wfail0.Ty) (mwfail1 : wfail1.Ty) {R : Type} (N : Nat) (κ : AV → List Blk → Option R) (e0 : Nat) (ok : Bool) : evF (g mwfail0 mwfail1) an N Tryd.f34 [AV.ptr 0 [], AV.bool ok] [Blk.var (AV.agg [AV.nils, AV.err e0])] κ =
  cond (!ok)
   (mwfail0 R e0 4
    (fun b_c1 => κ (AV.tup []) ([Blk.var (AV.agg [AV.nils, AV.err b_c1])])))
   (κ (AV.tup []) ([Blk.var (AV.agg [AV.nils, AV.err e0])])) := by kernel_rfl
theorem eq (mwfail0 : wfail0.Ty) (mwfail1 : wfail1.Ty) {R : Type} (N : Nat) (κ : AV → List Blk → Option R) (e0 : Nat) (ok : Bool) : evF (g mwfail0 mwfail1) an N Tryd.f34 [AV.ptr 0 [], AV.bool ok] [Blk.var (AV.agg [AV.nils, AV.err e0])] κ =
  m mwfail0 mwfail1 N e0 ok (fun b => κ (AV.tup []) ([Blk.var (AV.agg [AV.nils, AV.err b])])) := by
  rw [tree]
  kernel_rfl
abbrev Ty : Type 1 := ∀ R : Type, Nat → Bool → (Nat → Option R) → Option R
def con (f : Ty) : Con := fun R args bs κ => match args, bs with
  | [AV.ptr 0 [], AV.bool ok], [Blk.var (AV.agg [AV.nils, AV.err e0])] => f R e0 ok (fun b => κ (AV.tup []) ([Blk.var (AV.agg [AV.nils, AV.err b])]))
  | _, _ => none
theorem con_eq (f : Ty) (R : Type) (κ : AV → List Blk → Option R) (e0 : Nat) (ok : Bool) : con f R [AV.ptr 0 [], AV.bool ok] [Blk.var (AV.agg [AV.nils, AV.err e0])] κ = f R e0 ok (fun b => κ (AV.tup []) ([Blk.var (AV.agg [AV.nils, AV.err b])])) := rfl
noncomputable def M (N : Nat) : Ty := fun R e0 ok kr0 => m (wfail0.M N) (wfail1.M N) (R := R) N e0 ok kr0
def gts : List (Nat × AV) := [(3, .err 4)]
theorem gok (N : Nat) : GOk (g (wfail0.M N) (wfail1.M N)) := giD_ok hm (by intro p hp; cases hp) (gtL_ok (by decide)) (ovL_ok (by
    intro p hp
    simp only [List.mem_cons, List.not_mem_nil, or_false] at hp
    rcases hp with rfl
    · exact ⟨(wfail.ok N).gt (gtL_sub (by repeat (first | exact subG_nil _ | refine subG_cons (by kernel_rfl) ?_))) (gtL_ok (by decide)), _, Tryd.func70, by kernel_rfl, by kernel_rfl⟩
)) 1
theorem ok (N : Nat) : SoundC Tryd.prog (gtL gts) 34 (con (M N)) := by
  refine SoundC.mono (evF_ok (gok N) hm an N Tryd.func34) fun R args bs κ r h => ?_
  unfold con at h
  split at h
  · exact (eq (wfail0.M N) (wfail1.M N) N κ _ _).trans h
  · cases h
end wneed0

/-! ### Tryd.f34: wneed1 -/
namespace wneed1
def an : Anns := ⟨fun i => findA i [], fun i => findA i [], false, fun _ => none, []⟩
noncomputable def g (mwfail0 : wfail0.Ty) (mwfail1 : wfail1.Ty) : Gi := giD Tryd.prog (gtL [(3, .err 4)]) (fun _ => an) 0 [] (ovL [(70, wfail.con mwfail0 mwfail1)]) 1
noncomputable def m (_mwfail0 : wfail0.Ty) (mwfail1 : wfail1.Ty) {R : Type} (_N : Nat) (e0 : Nat) (t0 : List (List Int)) (ok : Bool) (kr0 : Nat → (List (List Int)) → Option R) (kr1 : Nat → (List (List Int)) → Option R) : Option R :=
  cond (!ok)
   (mwfail1 R e0 t0 4
    (fun b_c4 b_1_c5 => kr0 b_c4 b_1_c5))
   (kr1 e0 t0)
theorem tree (mwfail0 : wfail0.Ty) (mwfail1 : wfail1.Ty) {R : Type} (N : Nat) (κ : AV → List Blk → Option R) (e0 : Nat) (t0 : List (List Int)) (ok : Bool) : evF (g mwfail0 mwfail1) an N Tryd.f34 [AV.ptr 0 [], AV.bool ok] [Blk.var (AV.agg [AV.own 1 [] 0 none, AV.err e0]), Blk.gro (T.sl IntKind.u8) false t0] κ =
  cond (!ok)
   (mwfail1 R e0 t0 4
    (fun b_c4 b_1_c5 => κ (AV.tup []) ([Blk.var (AV.agg [AV.own 2 [] 0 none, AV.err b_c4]), Blk.dead, Blk.gro (T.sl IntKind.u8) false b_1_c5])))
   (κ (AV.tup []) ([Blk.var (AV.agg [AV.own 1 [] 0 none, AV.err e0]), Blk.gro (T.sl IntKind.u8) false t0])) := by kernel_rfl
theorem eq (mwfail0 : wfail0.Ty) (mwfail1 : wfail1.Ty) {R : Type} (N : Nat) (κ : AV → List Blk → Option R) (e0 : Nat) (t0 : List (List Int)) (ok : Bool) : evF (g mwfail0 mwfail1) an N Tryd.f34 [AV.ptr 0 [], AV.bool ok] [Blk.var (AV.agg [AV.own 1 [] 0 none, AV.err e0]), Blk.gro (T.sl IntKind.u8) false t0] κ =
  m mwfail0 mwfail1 N e0 t0 ok (fun b b_1 => κ (AV.tup []) ([Blk.var (AV.agg [AV.own 2 [] 0 none, AV.err b]), Blk.dead, Blk.gro (T.sl IntKind.u8) false b_1])) (fun bg1 b_1g1 => κ (AV.tup []) ([Blk.var (AV.agg [AV.own 1 [] 0 none, AV.err bg1]), Blk.gro (T.sl IntKind.u8) false b_1g1])) := by
  rw [tree]
  kernel_rfl
abbrev Ty : Type 1 := ∀ R : Type, Nat → (List (List Int)) → Bool → (Nat → (List (List Int)) → Option R) → (Nat → (List (List Int)) → Option R) → Option R
def con (f : Ty) : Con := fun R args bs κ => match args, bs with
  | [AV.ptr 0 [], AV.bool ok], [Blk.var (AV.agg [AV.own 1 [] 0 none, AV.err e0]), Blk.gro (T.sl IntKind.u8) false t0] => f R e0 t0 ok (fun b b_1 => κ (AV.tup []) ([Blk.var (AV.agg [AV.own 2 [] 0 none, AV.err b]), Blk.dead, Blk.gro (T.sl IntKind.u8) false b_1])) (fun bg1 b_1g1 => κ (AV.tup []) ([Blk.var (AV.agg [AV.own 1 [] 0 none, AV.err bg1]), Blk.gro (T.sl IntKind.u8) false b_1g1]))
  | _, _ => none
theorem con_eq (f : Ty) (R : Type) (κ : AV → List Blk → Option R) (e0 : Nat) (t0 : List (List Int)) (ok : Bool) : con f R [AV.ptr 0 [], AV.bool ok] [Blk.var (AV.agg [AV.own 1 [] 0 none, AV.err e0]), Blk.gro (T.sl IntKind.u8) false t0] κ = f R e0 t0 ok (fun b b_1 => κ (AV.tup []) ([Blk.var (AV.agg [AV.own 2 [] 0 none, AV.err b]), Blk.dead, Blk.gro (T.sl IntKind.u8) false b_1])) (fun bg1 b_1g1 => κ (AV.tup []) ([Blk.var (AV.agg [AV.own 1 [] 0 none, AV.err bg1]), Blk.gro (T.sl IntKind.u8) false b_1g1])) := rfl
noncomputable def M (N : Nat) : Ty := fun R e0 t0 ok kr0 kr1 => m (wfail0.M N) (wfail1.M N) (R := R) N e0 t0 ok kr0 kr1
def gts : List (Nat × AV) := [(3, .err 4)]
theorem gok (N : Nat) : GOk (g (wfail0.M N) (wfail1.M N)) := giD_ok hm (by intro p hp; cases hp) (gtL_ok (by decide)) (ovL_ok (by
    intro p hp
    simp only [List.mem_cons, List.not_mem_nil, or_false] at hp
    rcases hp with rfl
    · exact ⟨(wfail.ok N).gt (gtL_sub (by repeat (first | exact subG_nil _ | refine subG_cons (by kernel_rfl) ?_))) (gtL_ok (by decide)), _, Tryd.func70, by kernel_rfl, by kernel_rfl⟩
)) 1
theorem ok (N : Nat) : SoundC Tryd.prog (gtL gts) 34 (con (M N)) := by
  refine SoundC.mono (evF_ok (gok N) hm an N Tryd.func34) fun R args bs κ r h => ?_
  unfold con at h
  split at h
  · exact (eq (wfail0.M N) (wfail1.M N) N κ _ _ _).trans h
  · cases h
end wneed1

/-! ### (*fellowship/forms.writer).need: two contracts as one -/
namespace wneed
def con (a : wneed0.Ty) (b : wneed1.Ty) : Con := fun R args bs κ => cond (nilAt bs) (wneed0.con a R args bs κ) (wneed1.con b R args bs κ)
def gts : List (Nat × AV) := [(3, .err 4)]
theorem ok (N : Nat) : SoundC Tryd.prog (gtL gts) 34 (con (wneed0.M N) (wneed1.M N)) :=
  SoundC.either nilAt ((wneed0.ok N).gt (gtL_sub (by repeat (first | exact subG_nil _ | refine subG_cons (by kernel_rfl) ?_))) (gtL_ok (by decide))) ((wneed1.ok N).gt (gtL_sub (by repeat (first | exact subG_nil _ | refine subG_cons (by kernel_rfl) ?_))) (gtL_ok (by decide)))
end wneed

/-! ### Tryd.f36: wput0 -/
namespace wput0
def an : Anns := ⟨fun i => findA i [], fun i => findA i [], false, fun _ => none, []⟩
noncomputable def g : Gi := giG (giD Tryd.prog (gtL []) (fun _ => an) 0 [] (ovL []) 1)
noncomputable def m {R : Type} (_N : Nat) (e0 : Nat) (_bz : Option Bool) (bl : List Int) (kr0 : Nat → (List (List Int)) → Option R) : Option R :=
  kr0 e0 ([bl])
theorem tree {R : Type} (N : Nat) (κ : AV → List Blk → Option R) (e0 : Nat) (bz : Option Bool) (bl : List Int) : evF g an N Tryd.f36 [AV.ptr 0 [], AV.isl IntKind.u8 bz bl] [Blk.var (AV.agg [AV.nils, AV.err e0])] κ =
  κ (AV.tup []) ([Blk.var (AV.agg [AV.own 1 [] 0 none, AV.err e0]), Blk.gro (T.sl IntKind.u8) false [bl]]) := by kernel_rfl
theorem eq {R : Type} (N : Nat) (κ : AV → List Blk → Option R) (e0 : Nat) (bz : Option Bool) (bl : List Int) : evF g an N Tryd.f36 [AV.ptr 0 [], AV.isl IntKind.u8 bz bl] [Blk.var (AV.agg [AV.nils, AV.err e0])] κ =
  m N e0 bz bl (fun b b_1 => κ (AV.tup []) ([Blk.var (AV.agg [AV.own 1 [] 0 none, AV.err b]), Blk.gro (T.sl IntKind.u8) false b_1])) := by
  rw [tree]
  kernel_rfl
abbrev Ty : Type 1 := ∀ R : Type, Nat → (Option Bool) → (List Int) → (Nat → (List (List Int)) → Option R) → Option R
def con (f : Ty) : Con := fun R args bs κ => match args, bs with
  | [AV.ptr 0 [], AV.isl IntKind.u8 bz bl], [Blk.var (AV.agg [AV.nils, AV.err e0])] => f R e0 bz bl (fun b b_1 => κ (AV.tup []) ([Blk.var (AV.agg [AV.own 1 [] 0 none, AV.err b]), Blk.gro (T.sl IntKind.u8) false b_1]))
  | _, _ => none
theorem con_eq (f : Ty) (R : Type) (κ : AV → List Blk → Option R) (e0 : Nat) (bz : Option Bool) (bl : List Int) : con f R [AV.ptr 0 [], AV.isl IntKind.u8 bz bl] [Blk.var (AV.agg [AV.nils, AV.err e0])] κ = f R e0 bz bl (fun b b_1 => κ (AV.tup []) ([Blk.var (AV.agg [AV.own 1 [] 0 none, AV.err b]), Blk.gro (T.sl IntKind.u8) false b_1])) := rfl
noncomputable def M (N : Nat) : Ty := fun R e0 bz bl kr0 => m (R := R) N e0 bz bl kr0
def gts : List (Nat × AV) := []
theorem gok (_N : Nat) : GOk g := giG_ok (giD_ok hm (by intro p hp; cases hp) (gtL_ok (by decide)) (ovL_ok (by intro p hp; cases hp)) 1)
theorem ok (N : Nat) : SoundC Tryd.prog (gtL gts) 36 (con (M N)) := by
  refine SoundC.mono (evF_ok (gok N) hm an N Tryd.func36) fun R args bs κ r h => ?_
  unfold con at h
  split at h
  · exact (eq N κ _ _ _).trans h
  · cases h
end wput0

/-! ### Tryd.f36: wput1 -/
namespace wput1
def an : Anns := ⟨fun i => findA i [], fun i => findA i [], false, fun _ => none, []⟩
noncomputable def g : Gi := giG (giD Tryd.prog (gtL []) (fun _ => an) 0 [] (ovL []) 1)
noncomputable def m {R : Type} (_N : Nat) (e0 : Nat) (t0 : List (List Int)) (_bz : Option Bool) (bl : List Int) (kr0 : Nat → (List (List Int)) → Option R) : Option R :=
  cond (decide ((t0.length + 1) * 24 ≤ 140737488355328))
   (cond (decide (t0.length + 1 ≤ 140737488355328))
    (kr0 e0 (t0 ++ [bl]))
    none)
   none
theorem tree {R : Type} (N : Nat) (κ : AV → List Blk → Option R) (e0 : Nat) (t0 : List (List Int)) (bz : Option Bool) (bl : List Int) : evF g an N Tryd.f36 [AV.ptr 0 [], AV.isl IntKind.u8 bz bl] [Blk.var (AV.agg [AV.own 1 [] 0 none, AV.err e0]), Blk.gro (T.sl IntKind.u8) false t0] κ =
  cond (decide ((t0.length + 1) * 24 ≤ 140737488355328))
   (cond (decide (t0.length + 1 ≤ 140737488355328))
    (κ (AV.tup []) ([Blk.var (AV.agg [AV.own 2 [] 0 none, AV.err e0]), Blk.dead, Blk.gro (T.sl IntKind.u8) false (t0 ++ [bl])]))
    none)
   none := by kernel_rfl
theorem eq {R : Type} (N : Nat) (κ : AV → List Blk → Option R) (e0 : Nat) (t0 : List (List Int)) (bz : Option Bool) (bl : List Int) : evF g an N Tryd.f36 [AV.ptr 0 [], AV.isl IntKind.u8 bz bl] [Blk.var (AV.agg [AV.own 1 [] 0 none, AV.err e0]), Blk.gro (T.sl IntKind.u8) false t0] κ =
  m N e0 t0 bz bl (fun b b_1 => κ (AV.tup []) ([Blk.var (AV.agg [AV.own 2 [] 0 none, AV.err b]), Blk.dead, Blk.gro (T.sl IntKind.u8) false b_1])) := by
  rw [tree]
  kernel_rfl
abbrev Ty : Type 1 := ∀ R : Type, Nat → (List (List Int)) → (Option Bool) → (List Int) → (Nat → (List (List Int)) → Option R) → Option R
def con (f : Ty) : Con := fun R args bs κ => match args, bs with
  | [AV.ptr 0 [], AV.isl IntKind.u8 bz bl], [Blk.var (AV.agg [AV.own 1 [] 0 none, AV.err e0]), Blk.gro (T.sl IntKind.u8) false t0] => f R e0 t0 bz bl (fun b b_1 => κ (AV.tup []) ([Blk.var (AV.agg [AV.own 2 [] 0 none, AV.err b]), Blk.dead, Blk.gro (T.sl IntKind.u8) false b_1]))
  | _, _ => none
theorem con_eq (f : Ty) (R : Type) (κ : AV → List Blk → Option R) (e0 : Nat) (t0 : List (List Int)) (bz : Option Bool) (bl : List Int) : con f R [AV.ptr 0 [], AV.isl IntKind.u8 bz bl] [Blk.var (AV.agg [AV.own 1 [] 0 none, AV.err e0]), Blk.gro (T.sl IntKind.u8) false t0] κ = f R e0 t0 bz bl (fun b b_1 => κ (AV.tup []) ([Blk.var (AV.agg [AV.own 2 [] 0 none, AV.err b]), Blk.dead, Blk.gro (T.sl IntKind.u8) false b_1])) := rfl
noncomputable def M (N : Nat) : Ty := fun R e0 t0 bz bl kr0 => m (R := R) N e0 t0 bz bl kr0
def gts : List (Nat × AV) := []
theorem gok (_N : Nat) : GOk g := giG_ok (giD_ok hm (by intro p hp; cases hp) (gtL_ok (by decide)) (ovL_ok (by intro p hp; cases hp)) 1)
theorem ok (N : Nat) : SoundC Tryd.prog (gtL gts) 36 (con (M N)) := by
  refine SoundC.mono (evF_ok (gok N) hm an N Tryd.func36) fun R args bs κ r h => ?_
  unfold con at h
  split at h
  · exact (eq N κ _ _ _ _).trans h
  · cases h
end wput1

/-! ### (*fellowship/forms.writer).put: two contracts as one -/
namespace wput
def con (a : wput0.Ty) (b : wput1.Ty) : Con := fun R args bs κ => cond (nilAt bs) (wput0.con a R args bs κ) (wput1.con b R args bs κ)
def gts : List (Nat × AV) := []
theorem ok (N : Nat) : SoundC Tryd.prog (gtL gts) 36 (con (wput0.M N) (wput1.M N)) :=
  SoundC.either nilAt ((wput0.ok N).gt (gtL_sub (by repeat (first | exact subG_nil _ | refine subG_cons (by kernel_rfl) ?_))) (gtL_ok (by decide))) ((wput1.ok N).gt (gtL_sub (by repeat (first | exact subG_nil _ | refine subG_cons (by kernel_rfl) ?_))) (gtL_ok (by decide)))
end wput

/-! ### Tryd.f39: wsub0 -/
namespace wsub0
def an : Anns := ⟨fun i => findA i [], fun i => findA i [], false, fun _ => none, []⟩
noncomputable def g (mwfail0 : wfail0.Ty) (mwfail1 : wfail1.Ty) (mwput0 : wput0.Ty) (mwput1 : wput1.Ty) : Gi := giG (giD Tryd.prog (gtL []) (fun _ => an) 0 [] (ovL [(70, wfail.con mwfail0 mwfail1), (36, wput.con mwput0 mwput1)]) 1)
noncomputable def m (mwfail0 : wfail0.Ty) (_mwfail1 : wfail1.Ty) (mwput0 : wput0.Ty) (_mwput1 : wput1.Ty) {R : Type} (_N : Nat) (e0 : Nat) (bz : Option Bool) (bl : List Int) (er : Nat) (kr0 : Nat → (List (List Int)) → Option R) : Option R :=
  cond (!er.beq 0)
   (mwfail0 R e0 er
    (fun b_c3 => mwput0 R b_c3 bz bl
     (fun b_c4 b_1_c5 => kr0 b_c4 b_1_c5)))
   (mwput0 R e0 bz bl
    (fun b_c6 b_1_c7 => kr0 b_c6 b_1_c7))
theorem tree (mwfail0 : wfail0.Ty) (mwfail1 : wfail1.Ty) (mwput0 : wput0.Ty) (mwput1 : wput1.Ty) {R : Type} (N : Nat) (κ : AV → List Blk → Option R) (e0 : Nat) (bz : Option Bool) (bl : List Int) (er : Nat) : evF (g mwfail0 mwfail1 mwput0 mwput1) an N Tryd.f39 [AV.ptr 0 [], AV.isl IntKind.u8 bz bl, AV.err er] [Blk.var (AV.agg [AV.nils, AV.err e0])] κ =
  cond (!er.beq 0)
   (mwfail0 R e0 er
    (fun b_c3 => mwput0 R b_c3 bz bl
     (fun b_c4 b_1_c5 => κ (AV.tup []) ([Blk.var (AV.agg [AV.own 1 [] 0 none, AV.err b_c4]), Blk.gro (T.sl IntKind.u8) false b_1_c5]))))
   (mwput0 R e0 bz bl
    (fun b_c6 b_1_c7 => κ (AV.tup []) ([Blk.var (AV.agg [AV.own 1 [] 0 none, AV.err b_c6]), Blk.gro (T.sl IntKind.u8) false b_1_c7]))) := by kernel_rfl
theorem eq (mwfail0 : wfail0.Ty) (mwfail1 : wfail1.Ty) (mwput0 : wput0.Ty) (mwput1 : wput1.Ty) {R : Type} (N : Nat) (κ : AV → List Blk → Option R) (e0 : Nat) (bz : Option Bool) (bl : List Int) (er : Nat) : evF (g mwfail0 mwfail1 mwput0 mwput1) an N Tryd.f39 [AV.ptr 0 [], AV.isl IntKind.u8 bz bl, AV.err er] [Blk.var (AV.agg [AV.nils, AV.err e0])] κ =
  m mwfail0 mwfail1 mwput0 mwput1 N e0 bz bl er (fun b b_1 => κ (AV.tup []) ([Blk.var (AV.agg [AV.own 1 [] 0 none, AV.err b]), Blk.gro (T.sl IntKind.u8) false b_1])) := by
  rw [tree]
  kernel_rfl
abbrev Ty : Type 1 := ∀ R : Type, Nat → (Option Bool) → (List Int) → Nat → (Nat → (List (List Int)) → Option R) → Option R
def con (f : Ty) : Con := fun R args bs κ => match args, bs with
  | [AV.ptr 0 [], AV.isl IntKind.u8 bz bl, AV.err er], [Blk.var (AV.agg [AV.nils, AV.err e0])] => f R e0 bz bl er (fun b b_1 => κ (AV.tup []) ([Blk.var (AV.agg [AV.own 1 [] 0 none, AV.err b]), Blk.gro (T.sl IntKind.u8) false b_1]))
  | _, _ => none
theorem con_eq (f : Ty) (R : Type) (κ : AV → List Blk → Option R) (e0 : Nat) (bz : Option Bool) (bl : List Int) (er : Nat) : con f R [AV.ptr 0 [], AV.isl IntKind.u8 bz bl, AV.err er] [Blk.var (AV.agg [AV.nils, AV.err e0])] κ = f R e0 bz bl er (fun b b_1 => κ (AV.tup []) ([Blk.var (AV.agg [AV.own 1 [] 0 none, AV.err b]), Blk.gro (T.sl IntKind.u8) false b_1])) := rfl
noncomputable def M (N : Nat) : Ty := fun R e0 bz bl er kr0 => m (wfail0.M N) (wfail1.M N) (wput0.M N) (wput1.M N) (R := R) N e0 bz bl er kr0
def gts : List (Nat × AV) := []
theorem gok (N : Nat) : GOk (g (wfail0.M N) (wfail1.M N) (wput0.M N) (wput1.M N)) := giG_ok (giD_ok hm (by intro p hp; cases hp) (gtL_ok (by decide)) (ovL_ok (by
    intro p hp
    simp only [List.mem_cons, List.not_mem_nil, or_false] at hp
    rcases hp with rfl | rfl
    · exact ⟨(wfail.ok N).gt (gtL_sub (by repeat (first | exact subG_nil _ | refine subG_cons (by kernel_rfl) ?_))) (gtL_ok (by decide)), _, Tryd.func70, by kernel_rfl, by kernel_rfl⟩
    · exact ⟨(wput.ok N).gt (gtL_sub (by repeat (first | exact subG_nil _ | refine subG_cons (by kernel_rfl) ?_))) (gtL_ok (by decide)), _, Tryd.func36, by kernel_rfl, by kernel_rfl⟩
)) 1)
theorem ok (N : Nat) : SoundC Tryd.prog (gtL gts) 39 (con (M N)) := by
  refine SoundC.mono (evF_ok (gok N) hm an N Tryd.func39) fun R args bs κ r h => ?_
  unfold con at h
  split at h
  · exact (eq (wfail0.M N) (wfail1.M N) (wput0.M N) (wput1.M N) N κ _ _ _ _).trans h
  · cases h
end wsub0

/-! ### Tryd.f39: wsub1 -/
namespace wsub1
def an : Anns := ⟨fun i => findA i [], fun i => findA i [], false, fun _ => none, []⟩
noncomputable def g (mwfail0 : wfail0.Ty) (mwfail1 : wfail1.Ty) (mwput0 : wput0.Ty) (mwput1 : wput1.Ty) : Gi := giG (giD Tryd.prog (gtL []) (fun _ => an) 0 [] (ovL [(70, wfail.con mwfail0 mwfail1), (36, wput.con mwput0 mwput1)]) 1)
noncomputable def m (_mwfail0 : wfail0.Ty) (mwfail1 : wfail1.Ty) (_mwput0 : wput0.Ty) (mwput1 : wput1.Ty) {R : Type} (_N : Nat) (e0 : Nat) (t0 : List (List Int)) (bz : Option Bool) (bl : List Int) (er : Nat) (kr0 : Nat → (List (List Int)) → Option R) : Option R :=
  cond (!er.beq 0)
   (mwfail1 R e0 t0 er
    (fun b_c4 b_1_c5 => mwput1 R b_c4 b_1_c5 bz bl
     (fun b_c6 b_1_c7 => kr0 b_c6 b_1_c7)))
   (mwput1 R e0 t0 bz bl
    (fun b_c8 b_1_c9 => kr0 b_c8 b_1_c9))
theorem tree (mwfail0 : wfail0.Ty) (mwfail1 : wfail1.Ty) (mwput0 : wput0.Ty) (mwput1 : wput1.Ty) {R : Type} (N : Nat) (κ : AV → List Blk → Option R) (e0 : Nat) (t0 : List (List Int)) (bz : Option Bool) (bl : List Int) (er : Nat) : evF (g mwfail0 mwfail1 mwput0 mwput1) an N Tryd.f39 [AV.ptr 0 [], AV.isl IntKind.u8 bz bl, AV.err er] [Blk.var (AV.agg [AV.own 1 [] 0 none, AV.err e0]), Blk.gro (T.sl IntKind.u8) false t0] κ =
  cond (!er.beq 0)
   (mwfail1 R e0 t0 er
    (fun b_c4 b_1_c5 => mwput1 R b_c4 b_1_c5 bz bl
     (fun b_c6 b_1_c7 => κ (AV.tup []) ([Blk.var (AV.agg [AV.own 2 [] 0 none, AV.err b_c6]), Blk.dead, Blk.gro (T.sl IntKind.u8) false b_1_c7]))))
   (mwput1 R e0 t0 bz bl
    (fun b_c8 b_1_c9 => κ (AV.tup []) ([Blk.var (AV.agg [AV.own 2 [] 0 none, AV.err b_c8]), Blk.dead, Blk.gro (T.sl IntKind.u8) false b_1_c9]))) := by kernel_rfl
theorem eq (mwfail0 : wfail0.Ty) (mwfail1 : wfail1.Ty) (mwput0 : wput0.Ty) (mwput1 : wput1.Ty) {R : Type} (N : Nat) (κ : AV → List Blk → Option R) (e0 : Nat) (t0 : List (List Int)) (bz : Option Bool) (bl : List Int) (er : Nat) : evF (g mwfail0 mwfail1 mwput0 mwput1) an N Tryd.f39 [AV.ptr 0 [], AV.isl IntKind.u8 bz bl, AV.err er] [Blk.var (AV.agg [AV.own 1 [] 0 none, AV.err e0]), Blk.gro (T.sl IntKind.u8) false t0] κ =
  m mwfail0 mwfail1 mwput0 mwput1 N e0 t0 bz bl er (fun b b_1 => κ (AV.tup []) ([Blk.var (AV.agg [AV.own 2 [] 0 none, AV.err b]), Blk.dead, Blk.gro (T.sl IntKind.u8) false b_1])) := by
  rw [tree]
  kernel_rfl
abbrev Ty : Type 1 := ∀ R : Type, Nat → (List (List Int)) → (Option Bool) → (List Int) → Nat → (Nat → (List (List Int)) → Option R) → Option R
def con (f : Ty) : Con := fun R args bs κ => match args, bs with
  | [AV.ptr 0 [], AV.isl IntKind.u8 bz bl, AV.err er], [Blk.var (AV.agg [AV.own 1 [] 0 none, AV.err e0]), Blk.gro (T.sl IntKind.u8) false t0] => f R e0 t0 bz bl er (fun b b_1 => κ (AV.tup []) ([Blk.var (AV.agg [AV.own 2 [] 0 none, AV.err b]), Blk.dead, Blk.gro (T.sl IntKind.u8) false b_1]))
  | _, _ => none
theorem con_eq (f : Ty) (R : Type) (κ : AV → List Blk → Option R) (e0 : Nat) (t0 : List (List Int)) (bz : Option Bool) (bl : List Int) (er : Nat) : con f R [AV.ptr 0 [], AV.isl IntKind.u8 bz bl, AV.err er] [Blk.var (AV.agg [AV.own 1 [] 0 none, AV.err e0]), Blk.gro (T.sl IntKind.u8) false t0] κ = f R e0 t0 bz bl er (fun b b_1 => κ (AV.tup []) ([Blk.var (AV.agg [AV.own 2 [] 0 none, AV.err b]), Blk.dead, Blk.gro (T.sl IntKind.u8) false b_1])) := rfl
noncomputable def M (N : Nat) : Ty := fun R e0 t0 bz bl er kr0 => m (wfail0.M N) (wfail1.M N) (wput0.M N) (wput1.M N) (R := R) N e0 t0 bz bl er kr0
def gts : List (Nat × AV) := []
theorem gok (N : Nat) : GOk (g (wfail0.M N) (wfail1.M N) (wput0.M N) (wput1.M N)) := giG_ok (giD_ok hm (by intro p hp; cases hp) (gtL_ok (by decide)) (ovL_ok (by
    intro p hp
    simp only [List.mem_cons, List.not_mem_nil, or_false] at hp
    rcases hp with rfl | rfl
    · exact ⟨(wfail.ok N).gt (gtL_sub (by repeat (first | exact subG_nil _ | refine subG_cons (by kernel_rfl) ?_))) (gtL_ok (by decide)), _, Tryd.func70, by kernel_rfl, by kernel_rfl⟩
    · exact ⟨(wput.ok N).gt (gtL_sub (by repeat (first | exact subG_nil _ | refine subG_cons (by kernel_rfl) ?_))) (gtL_ok (by decide)), _, Tryd.func36, by kernel_rfl, by kernel_rfl⟩
)) 1)
theorem ok (N : Nat) : SoundC Tryd.prog (gtL gts) 39 (con (M N)) := by
  refine SoundC.mono (evF_ok (gok N) hm an N Tryd.func39) fun R args bs κ r h => ?_
  unfold con at h
  split at h
  · exact (eq (wfail0.M N) (wfail1.M N) (wput0.M N) (wput1.M N) N κ _ _ _ _ _).trans h
  · cases h
end wsub1

/-! ### (*fellowship/forms.writer).sub: two contracts as one -/
namespace wsub
def con (a : wsub0.Ty) (b : wsub1.Ty) : Con := fun R args bs κ => cond (nilAt bs) (wsub0.con a R args bs κ) (wsub1.con b R args bs κ)
def gts : List (Nat × AV) := []
theorem ok (N : Nat) : SoundC Tryd.prog (gtL gts) 39 (con (wsub0.M N) (wsub1.M N)) :=
  SoundC.either nilAt ((wsub0.ok N).gt (gtL_sub (by repeat (first | exact subG_nil _ | refine subG_cons (by kernel_rfl) ?_))) (gtL_ok (by decide))) ((wsub1.ok N).gt (gtL_sub (by repeat (first | exact subG_nil _ | refine subG_cons (by kernel_rfl) ?_))) (gtL_ok (by decide)))
end wsub

/-! ### Tryd.f41: wnum0 -/
namespace wnum0
def an : Anns := ⟨fun i => findA i [], fun i => findA i [], false, fun _ => none, []⟩
noncomputable def g (mwneed0 : wneed0.Ty) (mwneed1 : wneed1.Ty) (mwNum : wNum.Ty) (mwput0 : wput0.Ty) (mwput1 : wput1.Ty) : Gi := giG (giD Tryd.prog (gtL [(0, .err 1), (3, .err 4)]) (fun _ => an) 0 [] (ovL [(34, wneed.con mwneed0 mwneed1), (38, wNum.con mwNum), (36, wput.con mwput0 mwput1)]) 1)
noncomputable def m (mwneed0 : wneed0.Ty) (_mwneed1 : wneed1.Ty) (mwNum : wNum.Ty) (mwput0 : wput0.Ty) (_mwput1 : wput1.Ty) {R : Type} (_N : Nat) (e0 : Nat) (nn : Int) (most : Int) (kr0 : Nat → (List (List Int)) → Option R) : Option R :=
  cond (decide (nn ≥ 0))
   (mwneed0 R e0 (decide (nn ≤ most))
    (fun b_c4 => mwNum R nn
     (fun v_c5 => mwput0 R b_c4 none v_c5
      (fun b_c6 b_1_c7 => kr0 b_c6 b_1_c7))))
   (mwneed0 R e0 false
    (fun b_c8 => mwNum R nn
     (fun v_c9 => mwput0 R b_c8 none v_c9
      (fun b_c10 b_1_c11 => kr0 b_c10 b_1_c11))))
theorem tree (mwneed0 : wneed0.Ty) (mwneed1 : wneed1.Ty) (mwNum : wNum.Ty) (mwput0 : wput0.Ty) (mwput1 : wput1.Ty) {R : Type} (N : Nat) (κ : AV → List Blk → Option R) (e0 : Nat) (nn : Int) (most : Int) : evF (g mwneed0 mwneed1 mwNum mwput0 mwput1) an N Tryd.f41 [AV.ptr 0 [], AV.int IntKind.i64 nn, AV.int IntKind.i64 most] [Blk.var (AV.agg [AV.nils, AV.err e0])] κ =
  cond (decide (nn ≥ 0))
   (mwneed0 R e0 (decide (nn ≤ most))
    (fun b_c4 => mwNum R nn
     (fun v_c5 => mwput0 R b_c4 none v_c5
      (fun b_c6 b_1_c7 => κ (AV.tup []) ([Blk.var (AV.agg [AV.own 1 [] 0 none, AV.err b_c6]), Blk.gro (T.sl IntKind.u8) false b_1_c7])))))
   (mwneed0 R e0 false
    (fun b_c8 => mwNum R nn
     (fun v_c9 => mwput0 R b_c8 none v_c9
      (fun b_c10 b_1_c11 => κ (AV.tup []) ([Blk.var (AV.agg [AV.own 1 [] 0 none, AV.err b_c10]), Blk.gro (T.sl IntKind.u8) false b_1_c11]))))) := by kernel_rfl
theorem eq (mwneed0 : wneed0.Ty) (mwneed1 : wneed1.Ty) (mwNum : wNum.Ty) (mwput0 : wput0.Ty) (mwput1 : wput1.Ty) {R : Type} (N : Nat) (κ : AV → List Blk → Option R) (e0 : Nat) (nn : Int) (most : Int) : evF (g mwneed0 mwneed1 mwNum mwput0 mwput1) an N Tryd.f41 [AV.ptr 0 [], AV.int IntKind.i64 nn, AV.int IntKind.i64 most] [Blk.var (AV.agg [AV.nils, AV.err e0])] κ =
  m mwneed0 mwneed1 mwNum mwput0 mwput1 N e0 nn most (fun b b_1 => κ (AV.tup []) ([Blk.var (AV.agg [AV.own 1 [] 0 none, AV.err b]), Blk.gro (T.sl IntKind.u8) false b_1])) := by
  rw [tree]
  kernel_rfl
abbrev Ty : Type 1 := ∀ R : Type, Nat → Int → Int → (Nat → (List (List Int)) → Option R) → Option R
def con (f : Ty) : Con := fun R args bs κ => match args, bs with
  | [AV.ptr 0 [], AV.int IntKind.i64 nn, AV.int IntKind.i64 most], [Blk.var (AV.agg [AV.nils, AV.err e0])] => f R e0 nn most (fun b b_1 => κ (AV.tup []) ([Blk.var (AV.agg [AV.own 1 [] 0 none, AV.err b]), Blk.gro (T.sl IntKind.u8) false b_1]))
  | _, _ => none
theorem con_eq (f : Ty) (R : Type) (κ : AV → List Blk → Option R) (e0 : Nat) (nn : Int) (most : Int) : con f R [AV.ptr 0 [], AV.int IntKind.i64 nn, AV.int IntKind.i64 most] [Blk.var (AV.agg [AV.nils, AV.err e0])] κ = f R e0 nn most (fun b b_1 => κ (AV.tup []) ([Blk.var (AV.agg [AV.own 1 [] 0 none, AV.err b]), Blk.gro (T.sl IntKind.u8) false b_1])) := rfl
noncomputable def M (N : Nat) : Ty := fun R e0 nn most kr0 => m (wneed0.M N) (wneed1.M N) (wNum.M N) (wput0.M N) (wput1.M N) (R := R) N e0 nn most kr0
def gts : List (Nat × AV) := [(0, .err 1), (3, .err 4)]
theorem gok (N : Nat) : GOk (g (wneed0.M N) (wneed1.M N) (wNum.M N) (wput0.M N) (wput1.M N)) := giG_ok (giD_ok hm (by intro p hp; cases hp) (gtL_ok (by decide)) (ovL_ok (by
    intro p hp
    simp only [List.mem_cons, List.not_mem_nil, or_false] at hp
    rcases hp with rfl | rfl | rfl
    · exact ⟨(wneed.ok N).gt (gtL_sub (by repeat (first | exact subG_nil _ | refine subG_cons (by kernel_rfl) ?_))) (gtL_ok (by decide)), _, Tryd.func34, by kernel_rfl, by kernel_rfl⟩
    · exact ⟨(wNum.ok N).gt (gtL_sub (by repeat (first | exact subG_nil _ | refine subG_cons (by kernel_rfl) ?_))) (gtL_ok (by decide)), _, Tryd.func38, by kernel_rfl, by kernel_rfl⟩
    · exact ⟨(wput.ok N).gt (gtL_sub (by repeat (first | exact subG_nil _ | refine subG_cons (by kernel_rfl) ?_))) (gtL_ok (by decide)), _, Tryd.func36, by kernel_rfl, by kernel_rfl⟩
)) 1)
theorem ok (N : Nat) : SoundC Tryd.prog (gtL gts) 41 (con (M N)) := by
  refine SoundC.mono (evF_ok (gok N) hm an N Tryd.func41) fun R args bs κ r h => ?_
  unfold con at h
  split at h
  · exact (eq (wneed0.M N) (wneed1.M N) (wNum.M N) (wput0.M N) (wput1.M N) N κ _ _ _).trans h
  · cases h
end wnum0

/-! ### Tryd.f41: wnum1 -/
namespace wnum1
def an : Anns := ⟨fun i => findA i [], fun i => findA i [], false, fun _ => none, []⟩
noncomputable def g (mwneed0 : wneed0.Ty) (mwneed1 : wneed1.Ty) (mwNum : wNum.Ty) (mwput0 : wput0.Ty) (mwput1 : wput1.Ty) : Gi := giG (giD Tryd.prog (gtL [(0, .err 1), (3, .err 4)]) (fun _ => an) 0 [] (ovL [(34, wneed.con mwneed0 mwneed1), (38, wNum.con mwNum), (36, wput.con mwput0 mwput1)]) 1)
noncomputable def m (_mwneed0 : wneed0.Ty) (mwneed1 : wneed1.Ty) (mwNum : wNum.Ty) (_mwput0 : wput0.Ty) (mwput1 : wput1.Ty) {R : Type} (_N : Nat) (e0 : Nat) (t0 : List (List Int)) (nn : Int) (most : Int) (kr0 : Nat → (List (List Int)) → Option R) : Option R :=
  cond (decide (nn ≥ 0))
   (mwneed1 R e0 t0 (decide (nn ≤ most))
    (fun b_c5 b_1_c6 => mwNum R nn
     (fun v_c7 => mwput1 R b_c5 b_1_c6 none v_c7
      (fun b_c8 b_1_c9 => kr0 b_c8 b_1_c9)))
    (fun bg1_c10 b_1g1_c11 => mwNum R nn
     (fun v_c12 => mwput1 R bg1_c10 b_1g1_c11 none v_c12
      (fun b_c13 b_1_c14 => kr0 b_c13 b_1_c14))))
   (mwneed1 R e0 t0 false
    (fun b_c15 b_1_c16 => mwNum R nn
     (fun v_c17 => mwput1 R b_c15 b_1_c16 none v_c17
      (fun b_c18 b_1_c19 => kr0 b_c18 b_1_c19)))
    (fun bg1_c20 b_1g1_c21 => mwNum R nn
     (fun v_c22 => mwput1 R bg1_c20 b_1g1_c21 none v_c22
      (fun b_c23 b_1_c24 => kr0 b_c23 b_1_c24))))
theorem tree (mwneed0 : wneed0.Ty) (mwneed1 : wneed1.Ty) (mwNum : wNum.Ty) (mwput0 : wput0.Ty) (mwput1 : wput1.Ty) {R : Type} (N : Nat) (κ : AV → List Blk → Option R) (e0 : Nat) (t0 : List (List Int)) (nn : Int) (most : Int) : evF (g mwneed0 mwneed1 mwNum mwput0 mwput1) an N Tryd.f41 [AV.ptr 0 [], AV.int IntKind.i64 nn, AV.int IntKind.i64 most] [Blk.var (AV.agg [AV.own 1 [] 0 none, AV.err e0]), Blk.gro (T.sl IntKind.u8) false t0] κ =
  cond (decide (nn ≥ 0))
   (mwneed1 R e0 t0 (decide (nn ≤ most))
    (fun b_c5 b_1_c6 => mwNum R nn
     (fun v_c7 => mwput1 R b_c5 b_1_c6 none v_c7
      (fun b_c8 b_1_c9 => κ (AV.tup []) ([Blk.var (AV.agg [AV.own 2 [] 0 none, AV.err b_c8]), Blk.dead, Blk.gro (T.sl IntKind.u8) false b_1_c9]))))
    (fun bg1_c10 b_1g1_c11 => mwNum R nn
     (fun v_c12 => mwput1 R bg1_c10 b_1g1_c11 none v_c12
      (fun b_c13 b_1_c14 => κ (AV.tup []) ([Blk.var (AV.agg [AV.own 2 [] 0 none, AV.err b_c13]), Blk.dead, Blk.gro (T.sl IntKind.u8) false b_1_c14])))))
   (mwneed1 R e0 t0 false
    (fun b_c15 b_1_c16 => mwNum R nn
     (fun v_c17 => mwput1 R b_c15 b_1_c16 none v_c17
      (fun b_c18 b_1_c19 => κ (AV.tup []) ([Blk.var (AV.agg [AV.own 2 [] 0 none, AV.err b_c18]), Blk.dead, Blk.gro (T.sl IntKind.u8) false b_1_c19]))))
    (fun bg1_c20 b_1g1_c21 => mwNum R nn
     (fun v_c22 => mwput1 R bg1_c20 b_1g1_c21 none v_c22
      (fun b_c23 b_1_c24 => κ (AV.tup []) ([Blk.var (AV.agg [AV.own 2 [] 0 none, AV.err b_c23]), Blk.dead, Blk.gro (T.sl IntKind.u8) false b_1_c24]))))) := by kernel_rfl
theorem eq (mwneed0 : wneed0.Ty) (mwneed1 : wneed1.Ty) (mwNum : wNum.Ty) (mwput0 : wput0.Ty) (mwput1 : wput1.Ty) {R : Type} (N : Nat) (κ : AV → List Blk → Option R) (e0 : Nat) (t0 : List (List Int)) (nn : Int) (most : Int) : evF (g mwneed0 mwneed1 mwNum mwput0 mwput1) an N Tryd.f41 [AV.ptr 0 [], AV.int IntKind.i64 nn, AV.int IntKind.i64 most] [Blk.var (AV.agg [AV.own 1 [] 0 none, AV.err e0]), Blk.gro (T.sl IntKind.u8) false t0] κ =
  m mwneed0 mwneed1 mwNum mwput0 mwput1 N e0 t0 nn most (fun b b_1 => κ (AV.tup []) ([Blk.var (AV.agg [AV.own 2 [] 0 none, AV.err b]), Blk.dead, Blk.gro (T.sl IntKind.u8) false b_1])) := by
  rw [tree]
  kernel_rfl
abbrev Ty : Type 1 := ∀ R : Type, Nat → (List (List Int)) → Int → Int → (Nat → (List (List Int)) → Option R) → Option R
def con (f : Ty) : Con := fun R args bs κ => match args, bs with
  | [AV.ptr 0 [], AV.int IntKind.i64 nn, AV.int IntKind.i64 most], [Blk.var (AV.agg [AV.own 1 [] 0 none, AV.err e0]), Blk.gro (T.sl IntKind.u8) false t0] => f R e0 t0 nn most (fun b b_1 => κ (AV.tup []) ([Blk.var (AV.agg [AV.own 2 [] 0 none, AV.err b]), Blk.dead, Blk.gro (T.sl IntKind.u8) false b_1]))
  | _, _ => none
theorem con_eq (f : Ty) (R : Type) (κ : AV → List Blk → Option R) (e0 : Nat) (t0 : List (List Int)) (nn : Int) (most : Int) : con f R [AV.ptr 0 [], AV.int IntKind.i64 nn, AV.int IntKind.i64 most] [Blk.var (AV.agg [AV.own 1 [] 0 none, AV.err e0]), Blk.gro (T.sl IntKind.u8) false t0] κ = f R e0 t0 nn most (fun b b_1 => κ (AV.tup []) ([Blk.var (AV.agg [AV.own 2 [] 0 none, AV.err b]), Blk.dead, Blk.gro (T.sl IntKind.u8) false b_1])) := rfl
noncomputable def M (N : Nat) : Ty := fun R e0 t0 nn most kr0 => m (wneed0.M N) (wneed1.M N) (wNum.M N) (wput0.M N) (wput1.M N) (R := R) N e0 t0 nn most kr0
def gts : List (Nat × AV) := [(0, .err 1), (3, .err 4)]
theorem gok (N : Nat) : GOk (g (wneed0.M N) (wneed1.M N) (wNum.M N) (wput0.M N) (wput1.M N)) := giG_ok (giD_ok hm (by intro p hp; cases hp) (gtL_ok (by decide)) (ovL_ok (by
    intro p hp
    simp only [List.mem_cons, List.not_mem_nil, or_false] at hp
    rcases hp with rfl | rfl | rfl
    · exact ⟨(wneed.ok N).gt (gtL_sub (by repeat (first | exact subG_nil _ | refine subG_cons (by kernel_rfl) ?_))) (gtL_ok (by decide)), _, Tryd.func34, by kernel_rfl, by kernel_rfl⟩
    · exact ⟨(wNum.ok N).gt (gtL_sub (by repeat (first | exact subG_nil _ | refine subG_cons (by kernel_rfl) ?_))) (gtL_ok (by decide)), _, Tryd.func38, by kernel_rfl, by kernel_rfl⟩
    · exact ⟨(wput.ok N).gt (gtL_sub (by repeat (first | exact subG_nil _ | refine subG_cons (by kernel_rfl) ?_))) (gtL_ok (by decide)), _, Tryd.func36, by kernel_rfl, by kernel_rfl⟩
)) 1)
theorem ok (N : Nat) : SoundC Tryd.prog (gtL gts) 41 (con (M N)) := by
  refine SoundC.mono (evF_ok (gok N) hm an N Tryd.func41) fun R args bs κ r h => ?_
  unfold con at h
  split at h
  · exact (eq (wneed0.M N) (wneed1.M N) (wNum.M N) (wput0.M N) (wput1.M N) N κ _ _ _ _).trans h
  · cases h
end wnum1

/-! ### (*fellowship/forms.writer).num: two contracts as one -/
namespace wnum
def con (a : wnum0.Ty) (b : wnum1.Ty) : Con := fun R args bs κ => cond (nilAt bs) (wnum0.con a R args bs κ) (wnum1.con b R args bs κ)
def gts : List (Nat × AV) := [(0, .err 1), (3, .err 4)]
theorem ok (N : Nat) : SoundC Tryd.prog (gtL gts) 41 (con (wnum0.M N) (wnum1.M N)) :=
  SoundC.either nilAt ((wnum0.ok N).gt (gtL_sub (by repeat (first | exact subG_nil _ | refine subG_cons (by kernel_rfl) ?_))) (gtL_ok (by decide))) ((wnum1.ok N).gt (gtL_sub (by repeat (first | exact subG_nil _ | refine subG_cons (by kernel_rfl) ?_))) (gtL_ok (by decide)))
end wnum

/-! ### Tryd.f37: wdone0 -/
namespace wdone0
def an : Anns := ⟨fun i => findA i [], fun i => findA i [], false, fun _ => none, []⟩
noncomputable def g (mwRow : wRow.Ty) : Gi := giD Tryd.prog (gtL [(0, .err 1), (2, .err 3)]) (fun _ => an) 0 [] (ovL [(71, wRow.con mwRow)]) 1
noncomputable def m (mwRow : wRow.Ty) {R : Type} (_N : Nat) (e0 : Nat) (kr0 : (Option Bool) → (List Int) → Nat → Nat → Option R) : Option R :=
  cond (!e0.beq 0)
   (kr0 (some true) [] e0 e0)
   (mwRow R []
    (fun v_c3 v_1_c4 v_2_c5 => kr0 v_c3 v_1_c4 v_2_c5 e0))
theorem tree (mwRow : wRow.Ty) {R : Type} (N : Nat) (κ : AV → List Blk → Option R) (e0 : Nat) : evF (g mwRow) an N Tryd.f37 [AV.ptr 0 []] [Blk.var (AV.agg [AV.nils, AV.err e0])] κ =
  cond (!e0.beq 0)
   (κ (AV.tup [AV.isl IntKind.u8 (some true) [], AV.err e0]) ([Blk.var (AV.agg [AV.nils, AV.err e0])]))
   (mwRow R []
    (fun v_c3 v_1_c4 v_2_c5 => κ (AV.tup [AV.isl IntKind.u8 v_c3 v_1_c4, AV.err v_2_c5]) ([Blk.var (AV.agg [AV.nils, AV.err e0])]))) := by kernel_rfl
theorem eq (mwRow : wRow.Ty) {R : Type} (N : Nat) (κ : AV → List Blk → Option R) (e0 : Nat) : evF (g mwRow) an N Tryd.f37 [AV.ptr 0 []] [Blk.var (AV.agg [AV.nils, AV.err e0])] κ =
  m mwRow N e0 (fun v v_1 v_2 b => κ (AV.tup [AV.isl IntKind.u8 v v_1, AV.err v_2]) ([Blk.var (AV.agg [AV.nils, AV.err b])])) := by
  rw [tree]
  kernel_rfl
abbrev Ty : Type 1 := ∀ R : Type, Nat → ((Option Bool) → (List Int) → Nat → Nat → Option R) → Option R
def con (f : Ty) : Con := fun R args bs κ => match args, bs with
  | [AV.ptr 0 []], [Blk.var (AV.agg [AV.nils, AV.err e0])] => f R e0 (fun v v_1 v_2 b => κ (AV.tup [AV.isl IntKind.u8 v v_1, AV.err v_2]) ([Blk.var (AV.agg [AV.nils, AV.err b])]))
  | _, _ => none
theorem con_eq (f : Ty) (R : Type) (κ : AV → List Blk → Option R) (e0 : Nat) : con f R [AV.ptr 0 []] [Blk.var (AV.agg [AV.nils, AV.err e0])] κ = f R e0 (fun v v_1 v_2 b => κ (AV.tup [AV.isl IntKind.u8 v v_1, AV.err v_2]) ([Blk.var (AV.agg [AV.nils, AV.err b])])) := rfl
noncomputable def M (N : Nat) : Ty := fun R e0 kr0 => m (wRow.M N) (R := R) N e0 kr0
def gts : List (Nat × AV) := [(0, .err 1), (2, .err 3)]
theorem gok (N : Nat) : GOk (g (wRow.M N)) := giD_ok hm (by intro p hp; cases hp) (gtL_ok (by decide)) (ovL_ok (by
    intro p hp
    simp only [List.mem_cons, List.not_mem_nil, or_false] at hp
    rcases hp with rfl
    · exact ⟨(wRow.ok N).gt (gtL_sub (by repeat (first | exact subG_nil _ | refine subG_cons (by kernel_rfl) ?_))) (gtL_ok (by decide)), _, Tryd.func71, by kernel_rfl, by kernel_rfl⟩
)) 1
theorem ok (N : Nat) : SoundC Tryd.prog (gtL gts) 37 (con (M N)) := by
  refine SoundC.mono (evF_ok (gok N) hm an N Tryd.func37) fun R args bs κ r h => ?_
  unfold con at h
  split at h
  · exact (eq (wRow.M N) N κ _).trans h
  · cases h
end wdone0

/-! ### Tryd.f37: wdone1 -/
namespace wdone1
def an : Anns := ⟨fun i => findA i [], fun i => findA i [], false, fun _ => none, []⟩
noncomputable def g (mwRow : wRow.Ty) : Gi := giD Tryd.prog (gtL [(0, .err 1), (2, .err 3)]) (fun _ => an) 0 [] (ovL [(71, wRow.con mwRow)]) 1
noncomputable def m (mwRow : wRow.Ty) {R : Type} (_N : Nat) (e0 : Nat) (t0 : List (List Int)) (kr0 : Nat → Nat → (List (List Int)) → Option R) (kr1 : (Option Bool) → (List Int) → Nat → Nat → Option R) : Option R :=
  cond (!e0.beq 0)
   (kr0 e0 e0 t0)
   (mwRow R t0
    (fun v_c3 v_1_c4 v_2_c5 => kr1 v_c3 v_1_c4 v_2_c5 e0))
theorem tree (mwRow : wRow.Ty) {R : Type} (N : Nat) (κ : AV → List Blk → Option R) (e0 : Nat) (t0 : List (List Int)) : evF (g mwRow) an N Tryd.f37 [AV.ptr 0 []] [Blk.var (AV.agg [AV.own 1 [] 0 none, AV.err e0]), Blk.gro (T.sl IntKind.u8) false t0] κ =
  cond (!e0.beq 0)
   (κ (AV.tup [AV.isl IntKind.u8 (some true) [], AV.err e0]) ([Blk.var (AV.agg [AV.own 1 [] 0 none, AV.err e0]), Blk.gro (T.sl IntKind.u8) false t0]))
   (mwRow R t0
    (fun v_c3 v_1_c4 v_2_c5 => κ (AV.tup [AV.isl IntKind.u8 v_c3 v_1_c4, AV.err v_2_c5]) ([Blk.var (AV.agg [AV.own 1 [] 0 none, AV.err e0]), Blk.dead]))) := by kernel_rfl
theorem eq (mwRow : wRow.Ty) {R : Type} (N : Nat) (κ : AV → List Blk → Option R) (e0 : Nat) (t0 : List (List Int)) : evF (g mwRow) an N Tryd.f37 [AV.ptr 0 []] [Blk.var (AV.agg [AV.own 1 [] 0 none, AV.err e0]), Blk.gro (T.sl IntKind.u8) false t0] κ =
  m mwRow N e0 t0 (fun v b b_2 => κ (AV.tup [AV.isl IntKind.u8 (some true) [], AV.err v]) ([Blk.var (AV.agg [AV.own 1 [] 0 none, AV.err b]), Blk.gro (T.sl IntKind.u8) false b_2])) (fun vg1 v_1 v_2 bg1 => κ (AV.tup [AV.isl IntKind.u8 vg1 v_1, AV.err v_2]) ([Blk.var (AV.agg [AV.own 1 [] 0 none, AV.err bg1]), Blk.dead])) := by
  rw [tree]
  kernel_rfl
abbrev Ty : Type 1 := ∀ R : Type, Nat → (List (List Int)) → (Nat → Nat → (List (List Int)) → Option R) → ((Option Bool) → (List Int) → Nat → Nat → Option R) → Option R
def con (f : Ty) : Con := fun R args bs κ => match args, bs with
  | [AV.ptr 0 []], [Blk.var (AV.agg [AV.own 1 [] 0 none, AV.err e0]), Blk.gro (T.sl IntKind.u8) false t0] => f R e0 t0 (fun v b b_2 => κ (AV.tup [AV.isl IntKind.u8 (some true) [], AV.err v]) ([Blk.var (AV.agg [AV.own 1 [] 0 none, AV.err b]), Blk.gro (T.sl IntKind.u8) false b_2])) (fun vg1 v_1 v_2 bg1 => κ (AV.tup [AV.isl IntKind.u8 vg1 v_1, AV.err v_2]) ([Blk.var (AV.agg [AV.own 1 [] 0 none, AV.err bg1]), Blk.dead]))
  | _, _ => none
theorem con_eq (f : Ty) (R : Type) (κ : AV → List Blk → Option R) (e0 : Nat) (t0 : List (List Int)) : con f R [AV.ptr 0 []] [Blk.var (AV.agg [AV.own 1 [] 0 none, AV.err e0]), Blk.gro (T.sl IntKind.u8) false t0] κ = f R e0 t0 (fun v b b_2 => κ (AV.tup [AV.isl IntKind.u8 (some true) [], AV.err v]) ([Blk.var (AV.agg [AV.own 1 [] 0 none, AV.err b]), Blk.gro (T.sl IntKind.u8) false b_2])) (fun vg1 v_1 v_2 bg1 => κ (AV.tup [AV.isl IntKind.u8 vg1 v_1, AV.err v_2]) ([Blk.var (AV.agg [AV.own 1 [] 0 none, AV.err bg1]), Blk.dead])) := rfl
noncomputable def M (N : Nat) : Ty := fun R e0 t0 kr0 kr1 => m (wRow.M N) (R := R) N e0 t0 kr0 kr1
def gts : List (Nat × AV) := [(0, .err 1), (2, .err 3)]
theorem gok (N : Nat) : GOk (g (wRow.M N)) := giD_ok hm (by intro p hp; cases hp) (gtL_ok (by decide)) (ovL_ok (by
    intro p hp
    simp only [List.mem_cons, List.not_mem_nil, or_false] at hp
    rcases hp with rfl
    · exact ⟨(wRow.ok N).gt (gtL_sub (by repeat (first | exact subG_nil _ | refine subG_cons (by kernel_rfl) ?_))) (gtL_ok (by decide)), _, Tryd.func71, by kernel_rfl, by kernel_rfl⟩
)) 1
theorem ok (N : Nat) : SoundC Tryd.prog (gtL gts) 37 (con (M N)) := by
  refine SoundC.mono (evF_ok (gok N) hm an N Tryd.func37) fun R args bs κ r h => ?_
  unfold con at h
  split at h
  · exact (eq (wRow.M N) N κ _ _).trans h
  · cases h
end wdone1

/-! ### (*fellowship/forms.writer).done: two contracts as one -/
namespace wdone
def con (a : wdone0.Ty) (b : wdone1.Ty) : Con := fun R args bs κ => cond (nilAt bs) (wdone0.con a R args bs κ) (wdone1.con b R args bs κ)
def gts : List (Nat × AV) := [(0, .err 1), (2, .err 3)]
theorem ok (N : Nat) : SoundC Tryd.prog (gtL gts) 37 (con (wdone0.M N) (wdone1.M N)) :=
  SoundC.either nilAt ((wdone0.ok N).gt (gtL_sub (by repeat (first | exact subG_nil _ | refine subG_cons (by kernel_rfl) ?_))) (gtL_ok (by decide))) ((wdone1.ok N).gt (gtL_sub (by repeat (first | exact subG_nil _ | refine subG_cons (by kernel_rfl) ?_))) (gtL_ok (by decide)))
end wdone

end Go.Proofs.YthajoenmfppenaaDoor.fn
