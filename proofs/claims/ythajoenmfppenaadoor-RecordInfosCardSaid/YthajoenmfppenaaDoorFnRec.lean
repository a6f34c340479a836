/- What the records' rows do, with the proof; printed by a program. -/
import Derived.Test.YthajoenmfppenaaDoorProg
import Derived.Test.YthajoenmfppenaaDoorEv4
import Derived.Test.YthajoenmfppenaaDoorFnFormsA
namespace Go.Proofs.YthajoenmfppenaaDoor.fn
open Go Go.Proofs Go.Ev
/-! ### Tryd.f51: rbegin -/
namespace rbegin
def an : Anns := ⟨fun i => findA i [], fun i => findA i [], true, fun _ => none, []⟩
noncomputable def g : Gi := giG (giD Tryd.prog (gtL []) (fun _ => an) 0 [] (ovL []) 1)
noncomputable def m {R : Type} (_N : Nat) (word1 : List UInt8) (kr0 : (List (List Int)) → Option R) : Option R :=
  kr0 ([cut none 0 (ofStr word1)])
theorem tree {R : Type} (N : Nat) (κ : AV → List Blk → Option R) (word1 : List UInt8) : evF g an N Tryd.f51 [AV.str word1] [] κ =
  κ (AV.ptr 0 []) ([Blk.var (AV.agg [AV.own 1 [] 0 none, AV.err 0]), Blk.gro (T.sl IntKind.u8) false [cut none 0 (ofStr word1)]]) := by kernel_rfl
theorem eq {R : Type} (N : Nat) (κ : AV → List Blk → Option R) (word1 : List UInt8) : evF g an N Tryd.f51 [AV.str word1] [] κ =
  m N word1 (fun b => κ (AV.ptr 0 []) ([Blk.var (AV.agg [AV.own 1 [] 0 none, AV.err 0]), Blk.gro (T.sl IntKind.u8) false b])) := by
  rw [tree]
  kernel_rfl
abbrev Ty : Type 1 := ∀ R : Type, (List UInt8) → ((List (List Int)) → Option R) → Option R
def con (f : Ty) : Con := fun R args bs κ => match args, bs with
  | [AV.str word1], [] => f R word1 (fun b => κ (AV.ptr 0 []) ([Blk.var (AV.agg [AV.own 1 [] 0 none, AV.err 0]), Blk.gro (T.sl IntKind.u8) false b]))
  | _, _ => none
theorem con_eq (f : Ty) (R : Type) (κ : AV → List Blk → Option R) (word1 : List UInt8) : con f R [AV.str word1] [] κ = f R word1 (fun b => κ (AV.ptr 0 []) ([Blk.var (AV.agg [AV.own 1 [] 0 none, AV.err 0]), Blk.gro (T.sl IntKind.u8) false b])) := rfl
noncomputable def M (N : Nat) : Ty := fun R word1 kr0 => m (R := R) N word1 kr0
def gts : List (Nat × AV) := []
theorem gok (_N : Nat) : GOk g := giG_ok (giD_ok hm (by intro p hp; cases hp) (gtL_ok (by decide)) (ovL_ok (by intro p hp; cases hp)) 1)
theorem ok (N : Nat) : SoundC Tryd.prog (gtL gts) 51 (con (M N)) := by
  refine SoundC.mono (evF_ok (gok N) hm an N Tryd.func51) fun R args bs κ r h => ?_
  unfold con at h
  split at h
  · exact (eq N κ _).trans h
  · cases h
end rbegin

/-! ### Tryd.f52: radd -/
namespace radd
def an : Anns := ⟨fun i => findA i [], fun i => findA i [], false, fun _ => none, []⟩
noncomputable def g : Gi := giG (giD Tryd.prog (gtL []) (fun _ => an) 0 [] (ovL []) 1)
noncomputable def m {R : Type} (_N : Nat) (e0 : Nat) (t0 : List (List Int)) (_bz : Option Bool) (bl : List Int) (er : Nat) (kr0 : Nat → (List (List Int)) → Option R) : Option R :=
  cond (e0.beq 0)
   (cond (decide ((t0.length + 1) * 24 ≤ 140737488355328))
    (cond (decide (t0.length + 1 ≤ 140737488355328))
     (kr0 er (t0 ++ [bl]))
     none)
    none)
   (cond (decide ((t0.length + 1) * 24 ≤ 140737488355328))
    (cond (decide (t0.length + 1 ≤ 140737488355328))
     (kr0 e0 (t0 ++ [bl]))
     none)
    none)
theorem tree {R : Type} (N : Nat) (κ : AV → List Blk → Option R) (e0 : Nat) (t0 : List (List Int)) (bz : Option Bool) (bl : List Int) (er : Nat) : evF g an N Tryd.f52 [AV.ptr 0 [], AV.isl IntKind.u8 bz bl, AV.err er] [Blk.var (AV.agg [AV.own 1 [] 0 none, AV.err e0]), Blk.gro (T.sl IntKind.u8) false t0] κ =
  cond (e0.beq 0)
   (cond (decide ((t0.length + 1) * 24 ≤ 140737488355328))
    (cond (decide (t0.length + 1 ≤ 140737488355328))
     (κ (AV.ptr 0 []) ([Blk.var (AV.agg [AV.own 2 [] 0 none, AV.err er]), Blk.dead, Blk.gro (T.sl IntKind.u8) false (t0 ++ [bl])]))
     none)
    none)
   (cond (decide ((t0.length + 1) * 24 ≤ 140737488355328))
    (cond (decide (t0.length + 1 ≤ 140737488355328))
     (κ (AV.ptr 0 []) ([Blk.var (AV.agg [AV.own 2 [] 0 none, AV.err e0]), Blk.dead, Blk.gro (T.sl IntKind.u8) false (t0 ++ [bl])]))
     none)
    none) := by kernel_rfl
theorem eq {R : Type} (N : Nat) (κ : AV → List Blk → Option R) (e0 : Nat) (t0 : List (List Int)) (bz : Option Bool) (bl : List Int) (er : Nat) : evF g an N Tryd.f52 [AV.ptr 0 [], AV.isl IntKind.u8 bz bl, AV.err er] [Blk.var (AV.agg [AV.own 1 [] 0 none, AV.err e0]), Blk.gro (T.sl IntKind.u8) false t0] κ =
  m N e0 t0 bz bl er (fun b b_1 => κ (AV.ptr 0 []) ([Blk.var (AV.agg [AV.own 2 [] 0 none, AV.err b]), Blk.dead, Blk.gro (T.sl IntKind.u8) false b_1])) := by
  rw [tree]
  kernel_rfl
abbrev Ty : Type 1 := ∀ R : Type, Nat → (List (List Int)) → (Option Bool) → (List Int) → Nat → (Nat → (List (List Int)) → Option R) → Option R
def con (f : Ty) : Con := fun R args bs κ => match args, bs with
  | [AV.ptr 0 [], AV.isl IntKind.u8 bz bl, AV.err er], [Blk.var (AV.agg [AV.own 1 [] 0 none, AV.err e0]), Blk.gro (T.sl IntKind.u8) false t0] => f R e0 t0 bz bl er (fun b b_1 => κ (AV.ptr 0 []) ([Blk.var (AV.agg [AV.own 2 [] 0 none, AV.err b]), Blk.dead, Blk.gro (T.sl IntKind.u8) false b_1]))
  | _, _ => none
theorem con_eq (f : Ty) (R : Type) (κ : AV → List Blk → Option R) (e0 : Nat) (t0 : List (List Int)) (bz : Option Bool) (bl : List Int) (er : Nat) : con f R [AV.ptr 0 [], AV.isl IntKind.u8 bz bl, AV.err er] [Blk.var (AV.agg [AV.own 1 [] 0 none, AV.err e0]), Blk.gro (T.sl IntKind.u8) false t0] κ = f R e0 t0 bz bl er (fun b b_1 => κ (AV.ptr 0 []) ([Blk.var (AV.agg [AV.own 2 [] 0 none, AV.err b]), Blk.dead, Blk.gro (T.sl IntKind.u8) false b_1])) := rfl
noncomputable def M (N : Nat) : Ty := fun R e0 t0 bz bl er kr0 => m (R := R) N e0 t0 bz bl er kr0
def gts : List (Nat × AV) := []
theorem gok (_N : Nat) : GOk g := giG_ok (giD_ok hm (by intro p hp; cases hp) (gtL_ok (by decide)) (ovL_ok (by intro p hp; cases hp)) 1)
theorem ok (N : Nat) : SoundC Tryd.prog (gtL gts) 52 (con (M N)) := by
  refine SoundC.mono (evF_ok (gok N) hm an N Tryd.func52) fun R args bs κ r h => ?_
  unfold con at h
  split at h
  · exact (eq N κ _ _ _ _ _).trans h
  · cases h
end radd

/-! ### Tryd.f54: rput0 -/
namespace rput0
def an : Anns := ⟨fun i => findA i [], fun i => findA i [], false, fun _ => none, []⟩
noncomputable def g : Gi := giG (giD Tryd.prog (gtL []) (fun _ => an) 0 [] (ovL []) 1)
noncomputable def m {R : Type} (_N : Nat) (e0 : Nat) (tx : List Int) (tl : List (List Int)) (kr0 : Nat → (List (List Int)) → Option R) : Option R :=
  cond (decide ((tx :: tl).length * 24 ≤ 140737488355328))
   (cond (decide ((tx :: tl).length ≤ 140737488355328))
    (kr0 e0 (tx :: tl))
    none)
   none
theorem tree {R : Type} (N : Nat) (κ : AV → List Blk → Option R) (e0 : Nat) (tx : List Int) (tl : List (List Int)) : evF g an N Tryd.f54 [AV.ptr 0 [], AV.rsl IntKind.u8 (tx :: tl)] [Blk.var (AV.agg [AV.nils, AV.err e0])] κ =
  cond (decide ((tx :: tl).length * 24 ≤ 140737488355328))
   (cond (decide ((tx :: tl).length ≤ 140737488355328))
    (κ (AV.ptr 0 []) ([Blk.var (AV.agg [AV.own 1 [] 0 none, AV.err e0]), Blk.gro (T.sl IntKind.u8) false (tx :: tl)]))
    none)
   none := by kernel_rfl
theorem eq {R : Type} (N : Nat) (κ : AV → List Blk → Option R) (e0 : Nat) (tx : List Int) (tl : List (List Int)) : evF g an N Tryd.f54 [AV.ptr 0 [], AV.rsl IntKind.u8 (tx :: tl)] [Blk.var (AV.agg [AV.nils, AV.err e0])] κ =
  m N e0 tx tl (fun b b_1 => κ (AV.ptr 0 []) ([Blk.var (AV.agg [AV.own 1 [] 0 none, AV.err b]), Blk.gro (T.sl IntKind.u8) false b_1])) := by
  rw [tree]
  kernel_rfl
abbrev Ty : Type 1 := ∀ R : Type, Nat → (List Int) → (List (List Int)) → (Nat → (List (List Int)) → Option R) → Option R
def con (f : Ty) : Con := fun R args bs κ => match args, bs with
  | [AV.ptr 0 [], AV.rsl IntKind.u8 (tx :: tl)], [Blk.var (AV.agg [AV.nils, AV.err e0])] => f R e0 tx tl (fun b b_1 => κ (AV.ptr 0 []) ([Blk.var (AV.agg [AV.own 1 [] 0 none, AV.err b]), Blk.gro (T.sl IntKind.u8) false b_1]))
  | _, _ => none
theorem con_eq (f : Ty) (R : Type) (κ : AV → List Blk → Option R) (e0 : Nat) (tx : List Int) (tl : List (List Int)) : con f R [AV.ptr 0 [], AV.rsl IntKind.u8 (tx :: tl)] [Blk.var (AV.agg [AV.nils, AV.err e0])] κ = f R e0 tx tl (fun b b_1 => κ (AV.ptr 0 []) ([Blk.var (AV.agg [AV.own 1 [] 0 none, AV.err b]), Blk.gro (T.sl IntKind.u8) false b_1])) := rfl
noncomputable def M (N : Nat) : Ty := fun R e0 tx tl kr0 => m (R := R) N e0 tx tl kr0
def gts : List (Nat × AV) := []
theorem gok (_N : Nat) : GOk g := giG_ok (giD_ok hm (by intro p hp; cases hp) (gtL_ok (by decide)) (ovL_ok (by intro p hp; cases hp)) 1)
theorem ok (N : Nat) : SoundC Tryd.prog (gtL gts) 54 (con (M N)) := by
  refine SoundC.mono (evF_ok (gok N) hm an N Tryd.func54) fun R args bs κ r h => ?_
  unfold con at h
  split at h
  · exact (eq N κ _ _ _).trans h
  · cases h
end rput0

/-! ### Tryd.f54: rput1 -/
namespace rput1
def an : Anns := ⟨fun i => findA i [], fun i => findA i [], false, fun _ => none, []⟩
noncomputable def g : Gi := giG (giD Tryd.prog (gtL []) (fun _ => an) 0 [] (ovL []) 1)
noncomputable def m {R : Type} (_N : Nat) (e0 : Nat) (t0 : List (List Int)) (tx : List Int) (tl : List (List Int)) (kr0 : Nat → (List (List Int)) → Option R) : Option R :=
  cond (decide ((t0.length + (tx :: tl).length) * 24 ≤ 140737488355328))
   (cond (decide (t0.length + (tx :: tl).length ≤ 140737488355328))
    (kr0 e0 (t0 ++ tx :: tl))
    none)
   none
theorem tree {R : Type} (N : Nat) (κ : AV → List Blk → Option R) (e0 : Nat) (t0 : List (List Int)) (tx : List Int) (tl : List (List Int)) : evF g an N Tryd.f54 [AV.ptr 0 [], AV.rsl IntKind.u8 (tx :: tl)] [Blk.var (AV.agg [AV.own 1 [] 0 none, AV.err e0]), Blk.gro (T.sl IntKind.u8) false t0] κ =
  cond (decide ((t0.length + (tx :: tl).length) * 24 ≤ 140737488355328))
   (cond (decide (t0.length + (tx :: tl).length ≤ 140737488355328))
    (κ (AV.ptr 0 []) ([Blk.var (AV.agg [AV.own 2 [] 0 none, AV.err e0]), Blk.dead, Blk.gro (T.sl IntKind.u8) false (t0 ++ tx :: tl)]))
    none)
   none := by kernel_rfl
theorem eq {R : Type} (N : Nat) (κ : AV → List Blk → Option R) (e0 : Nat) (t0 : List (List Int)) (tx : List Int) (tl : List (List Int)) : evF g an N Tryd.f54 [AV.ptr 0 [], AV.rsl IntKind.u8 (tx :: tl)] [Blk.var (AV.agg [AV.own 1 [] 0 none, AV.err e0]), Blk.gro (T.sl IntKind.u8) false t0] κ =
  m N e0 t0 tx tl (fun b b_1 => κ (AV.ptr 0 []) ([Blk.var (AV.agg [AV.own 2 [] 0 none, AV.err b]), Blk.dead, Blk.gro (T.sl IntKind.u8) false b_1])) := by
  rw [tree]
  kernel_rfl
abbrev Ty : Type 1 := ∀ R : Type, Nat → (List (List Int)) → (List Int) → (List (List Int)) → (Nat → (List (List Int)) → Option R) → Option R
def con (f : Ty) : Con := fun R args bs κ => match args, bs with
  | [AV.ptr 0 [], AV.rsl IntKind.u8 (tx :: tl)], [Blk.var (AV.agg [AV.own 1 [] 0 none, AV.err e0]), Blk.gro (T.sl IntKind.u8) false t0] => f R e0 t0 tx tl (fun b b_1 => κ (AV.ptr 0 []) ([Blk.var (AV.agg [AV.own 2 [] 0 none, AV.err b]), Blk.dead, Blk.gro (T.sl IntKind.u8) false b_1]))
  | _, _ => none
theorem con_eq (f : Ty) (R : Type) (κ : AV → List Blk → Option R) (e0 : Nat) (t0 : List (List Int)) (tx : List Int) (tl : List (List Int)) : con f R [AV.ptr 0 [], AV.rsl IntKind.u8 (tx :: tl)] [Blk.var (AV.agg [AV.own 1 [] 0 none, AV.err e0]), Blk.gro (T.sl IntKind.u8) false t0] κ = f R e0 t0 tx tl (fun b b_1 => κ (AV.ptr 0 []) ([Blk.var (AV.agg [AV.own 2 [] 0 none, AV.err b]), Blk.dead, Blk.gro (T.sl IntKind.u8) false b_1])) := rfl
noncomputable def M (N : Nat) : Ty := fun R e0 t0 tx tl kr0 => m (R := R) N e0 t0 tx tl kr0
def gts : List (Nat × AV) := []
theorem gok (_N : Nat) : GOk g := giG_ok (giD_ok hm (by intro p hp; cases hp) (gtL_ok (by decide)) (ovL_ok (by intro p hp; cases hp)) 1)
theorem ok (N : Nat) : SoundC Tryd.prog (gtL gts) 54 (con (M N)) := by
  refine SoundC.mono (evF_ok (gok N) hm an N Tryd.func54) fun R args bs κ r h => ?_
  unfold con at h
  split at h
  · exact (eq N κ _ _ _ _).trans h
  · cases h
end rput1

/-! ### (*fellowship/record.row).put: two contracts as one -/
namespace rput
def con (a : rput0.Ty) (b : rput1.Ty) : Con := fun R args bs κ => cond (nilAt bs) (rput0.con a R args bs κ) (rput1.con b R args bs κ)
def gts : List (Nat × AV) := []
theorem ok (N : Nat) : SoundC Tryd.prog (gtL gts) 54 (con (rput0.M N) (rput1.M N)) :=
  SoundC.either nilAt ((rput0.ok N).gt (gtL_sub (by repeat (first | exact subG_nil _ | refine subG_cons (by kernel_rfl) ?_))) (gtL_ok (by decide))) ((rput1.ok N).gt (gtL_sub (by repeat (first | exact subG_nil _ | refine subG_cons (by kernel_rfl) ?_))) (gtL_ok (by decide)))
end rput

/-! ### Tryd.f55: rdone -/
namespace rdone
def an : Anns := ⟨fun i => findA i [], fun i => findA i [], false, fun _ => none, []⟩
noncomputable def g (mwRow : wRow.Ty) : Gi := giD Tryd.prog (gtL [(0, .err 1), (2, .err 3)]) (fun _ => an) 0 [] (ovL [(71, wRow.con mwRow)]) 1
noncomputable def m (mwRow : wRow.Ty) {R : Type} (_N : Nat) (e0 : Nat) (t0 : List (List Int)) (kr0 : Nat → Nat → (List (List Int)) → Option R) (kr1 : (Option Bool) → (List Int) → Nat → Nat → Option R) : Option R :=
  cond (!e0.beq 0)
   (kr0 e0 e0 t0)
   (mwRow R t0
    (fun v_c3 v_1_c4 v_2_c5 => kr1 v_c3 v_1_c4 v_2_c5 e0))
theorem tree (mwRow : wRow.Ty) {R : Type} (N : Nat) (κ : AV → List Blk → Option R) (e0 : Nat) (t0 : List (List Int)) : evF (g mwRow) an N Tryd.f55 [AV.ptr 0 []] [Blk.var (AV.agg [AV.own 1 [] 0 none, AV.err e0]), Blk.gro (T.sl IntKind.u8) false t0] κ =
  cond (!e0.beq 0)
   (κ (AV.tup [AV.isl IntKind.u8 (some true) [], AV.err e0]) ([Blk.var (AV.agg [AV.own 1 [] 0 none, AV.err e0]), Blk.gro (T.sl IntKind.u8) false t0]))
   (mwRow R t0
    (fun v_c3 v_1_c4 v_2_c5 => κ (AV.tup [AV.isl IntKind.u8 v_c3 v_1_c4, AV.err v_2_c5]) ([Blk.var (AV.agg [AV.own 1 [] 0 none, AV.err e0]), Blk.dead]))) := by kernel_rfl
theorem eq (mwRow : wRow.Ty) {R : Type} (N : Nat) (κ : AV → List Blk → Option R) (e0 : Nat) (t0 : List (List Int)) : evF (g mwRow) an N Tryd.f55 [AV.ptr 0 []] [Blk.var (AV.agg [AV.own 1 [] 0 none, AV.err e0]), Blk.gro (T.sl IntKind.u8) false t0] κ =
  m mwRow N e0 t0 (fun v b b_2 => κ (AV.tup [AV.isl IntKind.u8 (some true) [], AV.err v]) ([Blk.var (AV.agg [AV.own 1 [] 0 none, AV.err b]), Blk.gro (T.sl IntKind.u8) false b_2])) (fun vg1 v_1 v_2 bg1 => κ (AV.tup [AV.isl IntKind.u8 vg1 v_1, AV.err v_2]) ([Blk.var (AV.agg [AV.own 1 [] 0 none, AV.err bg1]), Blk.dead])) := by
  rw [tree]
  kernel_rfl
abbrev Ty : Type 1 := ∀ R : Type, Nat → (List (List Int)) → (Nat → Nat → (List (List Int)) → Option R) → ((Option Bool) → (List Int) → Nat → Nat → Option R) → Option R
def con (f : Ty) : Con := fun R args bs κ => match args, bs with
  | [AV.ptr 0 []], [Blk.var (AV.agg [AV.own 1 [] 0 none, AV.err e0]), Blk.gro (T.sl IntKind.u8) false t0] => f R e0 t0 (fun v b b_2 => κ (AV.tup [AV.isl IntKind.u8 (some true) [], AV.err v]) ([Blk.var (AV.agg [AV.own 1 [] 0 none, AV.err b]), Blk.gro (T.sl IntKind.u8) false b_2])) (fun vg1 v_1 v_2 bg1 => κ (AV.tup [AV.isl IntKind.u8 vg1 v_1, AV.err v_2]) ([Blk.var (AV.agg [AV.own 1 [] 0 none, AV.err bg1]), Blk.dead]))
  | _, _ => none
theorem con_eq (f : Ty) (R : Type) (κ : AV → List Blk → Option R) (e0 : Nat) (t0 : List (List Int)) : con f R [AV.ptr 0 []] [Blk.var (AV.agg [AV.own 1 [] 0 none, AV.err e0]), Blk.gro (T.sl IntKind.u8) false t0] κ = f R e0 t0 (fun v b b_2 => κ (AV.tup [AV.isl IntKind.u8 (some true) [], AV.err v]) ([Blk.var (AV.agg [AV.own 1 [] 0 none, AV.err b]), Blk.gro (T.sl IntKind.u8) false b_2])) (fun vg1 v_1 v_2 bg1 => κ (AV.tup [AV.isl IntKind.u8 vg1 v_1, AV.err v_2]) ([Blk.var (AV.agg [AV.own 1 [] 0 none, AV.err bg1]), Blk.dead])) := rfl
noncomputable def M (N : Nat) : Ty := fun R e0 t0 kr0 kr1 => m (wRow.M N) (R := R) N e0 t0 kr0 kr1
def gts : List (Nat × AV) := [(0, .err 1), (2, .err 3)]
theorem gok (N : Nat) : GOk (g (wRow.M N)) := giD_ok hm (by intro p hp; cases hp) (gtL_ok (by decide)) (ovL_ok (by
    intro p hp
    simp only [List.mem_cons, List.not_mem_nil, or_false] at hp
    rcases hp with rfl
    · exact ⟨(wRow.ok N).gt (gtL_sub (by repeat (first | exact subG_nil _ | refine subG_cons (by kernel_rfl) ?_))) (gtL_ok (by decide)), _, Tryd.func71, by kernel_rfl, by kernel_rfl⟩
)) 1
theorem ok (N : Nat) : SoundC Tryd.prog (gtL gts) 55 (con (M N)) := by
  refine SoundC.mono (evF_ok (gok N) hm an N Tryd.func55) fun R args bs κ r h => ?_
  unfold con at h
  split at h
  · exact (eq (wRow.M N) N κ _ _).trans h
  · cases h
end rdone

end Go.Proofs.YthajoenmfppenaaDoor.fn
