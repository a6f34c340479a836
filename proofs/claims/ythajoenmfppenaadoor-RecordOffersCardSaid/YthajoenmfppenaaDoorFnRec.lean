/- What the records' rows do, with the proof; printed by a program. -/
import Derived.Test.YthajoenmfppenaaDoorProg
import Derived.Test.YthajoenmfppenaaDoorEv4
import Derived.Test.YthajoenmfppenaaDoorFnFormsA
namespace Go.Proofs.YthajoenmfppenaaDoor.fn
open Go Go.Proofs Go.Ev

/-! ### Tryd.f51: rbegin -/
namespace rbegin
def an : Anns := ⟨fun i => findA i [], fun i => findA i [], true, fun _ => none, []⟩
noncomputable def g : Gi := giG (giD Tryd.prog (gtL []) (fun _ => an) 0 [] (ovL []) 1)
noncomputable def m {R : Type} (_N : Nat) (word1 : List UInt8) (kr0 : (List (List Int)) → Option R) : Option R :=
  kr0 ([cut none 0 (ofStr word1)])
theorem tree {R : Type} (N : Nat) (κ : AV → List Blk → Option R) (word1 : List UInt8) : evF g an N Tryd.f51 [AV.str word1] [] κ =
  κ (AV.ptr 0 []) ([Blk.var (AV.agg [AV.own 1 [] 0 none, AV.err 0]), Blk.gro (T.sl IntKind.u8) false [cut none 0 (ofStr word1)]]) := by kernel_rfl
theorem eq {R : Type} (N : Nat) (κ : AV → List Blk → Option R) (word1 : List UInt8) : evF g an N Tryd.f51 [AV.str word1] [] κ =
  m N word1 (fun b => κ (AV.ptr 0 []) ([Blk.var (AV.agg [AV.own 1 [] 0 none, AV.err 0]), Blk.gro (T.sl IntKind.u8) false b])) := by
  rw [tree]
  kernel_rfl
abbrev Ty : Type 1 := ∀ R : Type, (List UInt8) → ((List (List Int)) → Option R) → Option R
def con (f : Ty) : Con := fun R args bs κ => match args, bs with
  | [AV.str word1], [] => f R word1 (fun b => κ (AV.ptr 0 []) ([Blk.var (AV.agg [AV.own 1 [] 0 none, AV.err 0]), Blk.gro (T.sl IntKind.u8) false b]))
  | _, _ => none
theorem con_eq (f : Ty) (R : Type) (κ : AV → List Blk → Option R) (word1 : List UInt8) : con f R [AV.str word1] [] κ = f R word1 (fun b => κ (AV.ptr 0 []) ([Blk.var (AV.agg [AV.own 1 [] 0 none, AV.err 0]), Blk.gro (T.sl IntKind.u8) false b])) := rfl
noncomputable def M (N : Nat) : Ty := fun R word1 kr0 => m (R := R) N word1 kr0
def gts : List (Nat × AV) := []
theorem gok (_N : Nat) : GOk g := giG_ok (giD_ok hm (by intro p hp; cases hp) (gtL_ok (by decide)) (ovL_ok (by intro p hp; cases hp)) 1)
theorem ok (N : Nat) : SoundC Tryd.prog (gtL gts) 51 (con (M N)) := by
  refine SoundC.mono (evF_ok (gok N) hm an N Tryd.func51) fun R args bs κ r h => ?_
  unfold con at h
  split at h
  · exact (eq N κ _).trans h
  · cases h
end rbegin


/-! ### Tryd.f52: radd -/
namespace radd
def an : Anns := ⟨fun i => findA i [], fun i => findA i [], false, fun _ => none, []⟩
noncomputable def g : Gi := giG (giD Tryd.prog (gtL []) (fun _ => an) 0 [] (ovL []) 1)
noncomputable def m {R : Type} (_N : Nat) (e0 : Nat) (t0 : List (List Int)) (_bz : Option Bool) (bl : List Int) (er : Nat) (kr0 : Nat → (List (List Int)) → Option R) : Option R :=
  cond (e0.beq 0)
   (cond (decide ((t0.length + 1) * 24 ≤ 140737488355328))
    (cond (decide (t0.length + 1 ≤ 140737488355328))
     (kr0 er (t0 ++ [bl]))
     none)
    none)
   (cond (decide ((t0.length + 1) * 24 ≤ 140737488355328))
    (cond (decide (t0.length + 1 ≤ 140737488355328))
     (kr0 e0 (t0 ++ [bl]))
     none)
    none)
theorem tree {R : Type} (N : Nat) (κ : AV → List Blk → Option R) (e0 : Nat) (t0 : List (List Int)) (bz : Option Bool) (bl : List Int) (er : Nat) : evF g an N Tryd.f52 [AV.ptr 0 [], AV.isl IntKind.u8 bz bl, AV.err er] [Blk.var (AV.agg [AV.own 1 [] 0 none, AV.err e0]), Blk.gro (T.sl IntKind.u8) false t0] κ =
  cond (e0.beq 0)
   (cond (decide ((t0.length + 1) * 24 ≤ 140737488355328))
    (cond (decide (t0.length + 1 ≤ 140737488355328))
     (κ (AV.ptr 0 []) ([Blk.var (AV.agg [AV.own 2 [] 0 none, AV.err er]), Blk.dead, Blk.gro (T.sl IntKind.u8) false (t0 ++ [bl])]))
     none)
    none)
   (cond (decide ((t0.length + 1) * 24 ≤ 140737488355328))
    (cond (decide (t0.length + 1 ≤ 140737488355328))
     (κ (AV.ptr 0 []) ([Blk.var (AV.agg [AV.own 2 [] 0 none, AV.err e0]), Blk.dead, Blk.gro (T.sl IntKind.u8) false (t0 ++ [bl])]))
     none)
    none) := by kernel_rfl
theorem eq {R : Type} (N : Nat) (κ : AV → List Blk → Option R) (e0 : Nat) (t0 : List (List Int)) (bz : Option Bool) (bl : List Int) (er : Nat) : evF g an N Tryd.f52 [AV.ptr 0 [], AV.isl IntKind.u8 bz bl, AV.err er] [Blk.var (AV.agg [AV.own 1 [] 0 none, AV.err e0]), Blk.gro (T.sl IntKind.u8) false t0] κ =
  m N e0 t0 bz bl er (fun b b_1 => κ (AV.ptr 0 []) ([Blk.var (AV.agg [AV.own 2 [] 0 none, AV.err b]), Blk.dead, Blk.gro (T.sl IntKind.u8) false b_1])) := by
  rw [tree]
  kernel_rfl
abbrev Ty : Type 1 := ∀ R : Type, Nat → (List (List Int)) → (Option Bool) → (List Int) → Nat → (Nat → (List (List Int)) → Option R) → Option R
def con (f : Ty) : Con := fun R args bs κ => match args, bs with
  | [AV.ptr 0 [], AV.isl IntKind.u8 bz bl, AV.err er], [Blk.var (AV.agg [AV.own 1 [] 0 none, AV.err e0]), Blk.gro (T.sl IntKind.u8) false t0] => f R e0 t0 bz bl er (fun b b_1 => κ (AV.ptr 0 []) ([Blk.var (AV.agg [AV.own 2 [] 0 none, AV.err b]), Blk.dead, Blk.gro (T.sl IntKind.u8) false b_1]))
  | _, _ => none
theorem con_eq (f : Ty) (R : Type) (κ : AV → List Blk → Option R) (e0 : Nat) (t0 : List (List Int)) (bz : Option Bool) (bl : List Int) (er : Nat) : con f R [AV.ptr 0 [], AV.isl IntKind.u8 bz bl, AV.err er] [Blk.var (AV.agg [AV.own 1 [] 0 none, AV.err e0]), Blk.gro (T.sl IntKind.u8) false t0] κ = f R e0 t0 bz bl er (fun b b_1 => κ (AV.ptr 0 []) ([Blk.var (AV.agg [AV.own 2 [] 0 none, AV.err b]), Blk.dead, Blk.gro (T.sl IntKind.u8) false b_1])) := rfl
noncomputable def M (N : Nat) : Ty := fun R e0 t0 bz bl er kr0 => m (R := R) N e0 t0 bz bl er kr0
def gts : List (Nat × AV) := []
theorem gok (_N : Nat) : GOk g := giG_ok (giD_ok hm (by intro p hp; cases hp) (gtL_ok (by decide)) (ovL_ok (by intro p hp; cases hp)) 1)
theorem ok (N : Nat) : SoundC Tryd.prog (gtL gts) 52 (con (M N)) := by
  refine SoundC.mono (evF_ok (gok N) hm an N Tryd.func52) fun R args bs κ r h => ?_
  unfold con at h
  split at h
  · exact (eq N κ _ _ _ _ _).trans h
  · cases h
end radd


/-! ### Tryd.f54: rput0 -/
namespace rput0
def an : Anns := ⟨fun i => findA i [], fun i => findA i [], false, fun _ => none, []⟩
noncomputable def g : Gi := giG (giD Tryd.prog (gtL []) (fun _ => an) 0 [] (ovL []) 1)
noncomputable def m {R : Type} (_N : Nat) (e0 : Nat) (tx : List Int) (tl : List (List Int)) (kr0 : Nat → (List (List Int)) → Option R) : Option R :=
  cond (decide ((tx :: tl).length * 24 ≤ 140737488355328))
   (cond (decide ((tx :: tl).length ≤ 140737488355328))
    (kr0 e0 (tx :: tl))
    none)
   none
theorem tree {R : Type} (N : Nat) (κ : AV → List Blk → Option R) (e0 : Nat) (tx : List Int) (tl : List (List Int)) : evF g an N Tryd.f54 [AV.ptr 0 [], AV.rsl IntKind.u8 (tx :: tl)] [Blk.var (AV.agg [AV.nils, AV.err e0])] κ =
  cond (decide ((tx :: tl).length * 24 ≤ 140737488355328))
   (cond (decide ((tx :: tl).length ≤ 140737488355328))
    (κ (AV.ptr 0 []) ([Blk.var (AV.agg [AV.own 1 [] 0 none, AV.err e0]), Blk.gro (T.sl IntKind.u8) false (tx :: tl)]))
    none)
   none := by kernel_rfl
theorem eq {R : Type} (N : Nat) (κ : AV → List Blk → Option R) (e0 : Nat) (tx : List Int) (tl : List (List Int)) : evF g an N Tryd.f54 [AV.ptr 0 [], AV.rsl IntKind.u8 (tx :: tl)] [Blk.var (AV.agg [AV.nils, AV.err e0])] κ =
  m N e0 tx tl (fun b b_1 => κ (AV.ptr 0 []) ([Blk.var (AV.agg [AV.own 1 [] 0 none, AV.err b]), Blk.gro (T.sl IntKind.u8) false b_1])) := by
  rw [tree]
  kernel_rfl
abbrev Ty : Type 1 := ∀ R : Type, Nat → (List Int) → (List (List Int)) → (Nat → (List (List Int)) → Option R) → Option R
def con (f : Ty) : Con := fun R args bs κ => match args, bs with
  | [AV.ptr 0 [], AV.rsl IntKind.u8 (tx :: tl)], [Blk.var (AV.agg [AV.nils, AV.err e0])] => f R e0 tx tl (fun b b_1 => κ (AV.ptr 0 []) ([Blk.var (AV.agg [AV.own 1 [] 0 none, AV.err b]), Blk.gro (T.sl IntKind.u8) false b_1]))
  | _, _ => none
theorem con_eq (f : Ty) (R : Type) (κ : AV → List Blk → Option R) (e0 : Nat) (tx : List Int) (tl : List (List Int)) : con f R [AV.ptr 0 [], AV.rsl IntKind.u8 (tx :: tl)] [Blk.var (AV.agg [AV.nils, AV.err e0])] κ = f R e0 tx tl (fun b b_1 => κ (AV.ptr 0 []) ([Blk.var (AV.agg [AV.own 1 [] 0 none, AV.err b]), Blk.gro (T.sl IntKind.u8) false b_1])) := rfl
noncomputable def M (N : Nat) : Ty := fun R e0 tx tl kr0 => m (R := R) N e0 tx tl kr0
def gts : List (Nat × AV) := []
theorem gok (_N : Nat) : GOk g := giG_ok (giD_ok hm (by intro p hp; cases hp) (gtL_ok (by decide)) (ovL_ok (by intro p hp; cases hp)) 1)
theorem ok (N : Nat) : SoundC Tryd.prog (gtL gts) 54 (con (M N)) := by
  refine SoundC.mono (evF_ok (gok N) hm an N Tryd.func54) fun R args bs κ r h => ?_
  unfold con at h
  split at h
  · exact (eq N κ _ _ _).trans h
  · cases h
end rput0


/-! ### Tryd.f54: rput1 -/
namespace rput1
def an : Anns := ⟨fun i => findA i [], fun i => findA i [], false, fun _ => none, []⟩
noncomputable def g : Gi := giG (giD Tryd.prog (gtL []) (fun _ => an) 0 [] (ovL []) 1)
noncomputable def m {R : Type} (_N : Nat) (e0 : Nat) (t0 : List (List Int)) (tx : List Int) (tl : List (List Int)) (kr0 : Nat → (List (List Int)) → Option R) : Option R :=
  cond (decide ((t0.length + (tx :: tl).length) * 24 ≤ 140737488355328))
   (cond (decide (t0.length + (tx :: tl).length ≤ 140737488355328))
    (kr0 e0 (t0 ++ tx :: tl))
    none)
   none
theorem tree {R : Type} (N : Nat) (κ : AV → List Blk → Option R) (e0 : Nat) (t0 : List (List Int)) (tx : List Int) (tl : List (List Int)) : evF g an N Tryd.f54 [AV.ptr 0 [], AV.rsl IntKind.u8 (tx :: tl)] [Blk.var (AV.agg [AV.own 1 [] 0 none, AV.err e0]), Blk.gro (T.sl IntKind.u8) false t0] κ =
  cond (decide ((t0.length + (tx :: tl).length) * 24 ≤ 140737488355328))
   (cond (decide (t0.length + (tx :: tl).length ≤ 140737488355328))
    (κ (AV.ptr 0 []) ([Blk.var (AV.agg [AV.own 2 [] 0 none, AV.err e0]), Blk.dead, Blk.gro (T.sl IntKind.u8) false (t0 ++ tx :: tl)]))
    none)
   none := by kernel_rfl
theorem eq {R : Type} (N : Nat) (κ : AV → List Blk → Option R) (e0 : Nat) (t0 : List (List Int)) (tx : List Int) (tl : List (List Int)) : evF g an N Tryd.f54 [AV.ptr 0 [], AV.rsl IntKind.u8 (tx :: tl)] [Blk.var (AV.agg [AV.own 1 [] 0 none, AV.err e0]), Blk.gro (T.sl IntKind.u8) false t0] κ =
  m N e0 t0 tx tl (fun b b_1 => κ (AV.ptr 0 []) ([Blk.var (AV.agg [AV.own 2 [] 0 none, AV.err b]), Blk.dead, Blk.gro (T.sl IntKind.u8) false b_1])) := by
  rw [tree]
  kernel_rfl
abbrev Ty : Type 1 := ∀ R : Type, Nat → (List (List Int)) → (List Int) → (List (List Int)) → (Nat → (List (List Int)) → Option R) → Option R
def con (f : Ty) : Con := fun R args bs κ => match args, bs with
  | [AV.ptr 0 [], AV.rsl IntKind.u8 (tx :: tl)], [Blk.var (AV.agg [AV.own 1 [] 0 none, AV.err e0]), Blk.gro (T.sl IntKind.u8) false t0] => f R e0 t0 tx tl (fun b b_1 => κ (AV.ptr 0 []) ([Blk.var (AV.agg [AV.own 2 [] 0 none, AV.err b]), Blk.dead, Blk.gro (T.sl IntKind.u8) false b_1]))
  | _, _ => none
theorem con_eq (f : Ty) (R : Type) (κ : AV → List Blk → Option R) (e0 : Nat) (t0 : List (List Int)) (tx : List Int) (tl : List (List Int)) : con f R [AV.ptr 0 [], AV.rsl IntKind.u8 (tx :: tl)] [Blk.var (AV.agg [AV.own 1 [] 0 none, AV.err e0]), Blk.gro (T.sl IntKind.u8) false t0] κ = f R e0 t0 tx tl (fun b b_1 => κ (AV.ptr 0 []) ([Blk.var (AV.agg [AV.own 2 [] 0 none, AV.err b]), Blk.dead, Blk.gro (T.sl IntKind.u8) false b_1])) := rfl
noncomputable def M (N : Nat) : Ty := fun R e0 t0 tx tl kr0 => m (R := R) N e0 t0 tx tl kr0
def gts : List (Nat × AV) := []
theorem gok (_N : Nat) : GOk g := giG_ok (giD_ok hm (by intro p hp; cases hp) (gtL_ok (by decide)) (ovL_ok (by intro p hp; cases hp)) 1)
theorem ok (N : Nat) : SoundC Tryd.prog (gtL gts) 54 (con (M N)) := by
  refine SoundC.mono (evF_ok (gok N) hm an N Tryd.func54) fun R args bs κ r h => ?_
  unfold con at h
  split at h
  · exact (eq N κ _ _ _ _).trans h
  · cases h
end rput1


/-! ### (*fellowship/record.row).put: two contracts as one -/
namespace rput
def con (a : rput0.Ty) (b : rput1.Ty) : Con := fun R args bs κ => cond (nilAt bs) (rput0.con a R args bs κ) (rput1.con b R args bs κ)
def gts : List (Nat × AV) := []
theorem ok (N : Nat) : SoundC Tryd.prog (gtL gts) 54 (con (rput0.M N) (rput1.M N)) :=
  SoundC.either nilAt ((rput0.ok N).gt (gtL_sub (by repeat (first | exact subG_nil _ | refine subG_cons (by kernel_rfl) ?_))) (gtL_ok (by decide))) ((rput1.ok N).gt (gtL_sub (by repeat (first | exact subG_nil _ | refine subG_cons (by kernel_rfl) ?_))) (gtL_ok (by decide)))
end rput


/-! ### Tryd.f55: rdone -/
namespace rdone
def an : Anns := ⟨fun i => findA i [], fun i => findA i [], false, fun _ => none, []⟩
noncomputable def g (mwRow : wRow.Ty) : Gi := giD Tryd.prog (gtL [(0, .err 1), (2, .err 3)]) (fun _ => an) 0 [] (ovL [(71, wRow.con mwRow)]) 1
noncomputable def m (mwRow : wRow.Ty) {R : Type} (_N : Nat) (e0 : Nat) (t0 : List (List Int)) (kr0 : Nat → Nat → (List (List Int)) → Option R) (kr1 : (Option Bool) → (List Int) → Nat → Nat → Option R) : Option R :=
  cond (!e0.beq 0)
   (kr0 e0 e0 t0)
   (mwRow R t0
    (fun v_c3 v_1_c4 v_2_c5 => kr1 v_c3 v_1_c4 v_2_c5 e0))
theorem tree (mwRow : wRow.Ty) {R : Type} (N : Nat) (κ : AV → List Blk → Option R) (e0 : Nat) (t0 : List (List Int)) : evF (g mwRow) an N Tryd.f55 [AV.ptr 0 []] [Blk.var (AV.agg [AV.own 1 [] 0 none, AV.err e0]), Blk.gro (T.sl IntKind.u8) false t0] κ =
  cond (!e0.beq 0)
   (κ (AV.tup [AV.isl IntKind.u8 (some true) [], AV.err e0]) ([Blk.var (AV.agg [AV.own 1 [] 0 none, AV.err e0]), Blk.gro (T.sl IntKind.u8) false t0]))
   (mwRow R t0
    (fun v_c3 v_1_c4 v_2_c5 => κ (AV.tup [AV.isl IntKind.u8 v_c3 v_1_c4, AV.err v_2_c5]) ([Blk.var (AV.agg [AV.own 1 [] 0 none, AV.err e0]), Blk.dead]))) := by kernel_rfl
theorem eq (mwRow : wRow.Ty) {R : Type} (N : Nat) (κ : AV → List Blk → Option R) (e0 : Nat) (t0 : List (List Int)) : evF (g mwRow) an N Tryd.f55 [AV.ptr 0 []] [Blk.var (AV.agg [AV.own 1 [] 0 none, AV.err e0]), Blk.gro (T.sl IntKind.u8) false t0] κ =
  m mwRow N e0 t0 (fun v b b_2 => κ (AV.tup [AV.isl IntKind.u8 (some true) [], AV.err v]) ([Blk.var (AV.agg [AV.own 1 [] 0 none, AV.err b]), Blk.gro (T.sl IntKind.u8) false b_2])) (fun vg1 v_1 v_2 bg1 => κ (AV.tup [AV.isl IntKind.u8 vg1 v_1, AV.err v_2]) ([Blk.var (AV.agg [AV.own 1 [] 0 none, AV.err bg1]), Blk.dead])) := by
  rw [tree]
  kernel_rfl
abbrev Ty : Type 1 := ∀ R : Type, Nat → (List (List Int)) → (Nat → Nat → (List (List Int)) → Option R) → ((Option Bool) → (List Int) → Nat → Nat → Option R) → Option R
def con (f : Ty) : Con := fun R args bs κ => match args, bs with
  | [AV.ptr 0 []], [Blk.var (AV.agg [AV.own 1 [] 0 none, AV.err e0]), Blk.gro (T.sl IntKind.u8) false t0] => f R e0 t0 (fun v b b_2 => κ (AV.tup [AV.isl IntKind.u8 (some true) [], AV.err v]) ([Blk.var (AV.agg [AV.own 1 [] 0 none, AV.err b]), Blk.gro (T.sl IntKind.u8) false b_2])) (fun vg1 v_1 v_2 bg1 => κ (AV.tup [AV.isl IntKind.u8 vg1 v_1, AV.err v_2]) ([Blk.var (AV.agg [AV.own 1 [] 0 none, AV.err bg1]), Blk.dead]))
  | _, _ => none
theorem con_eq (f : Ty) (R : Type) (κ : AV → List Blk → Option R) (e0 : Nat) (t0 : List (List Int)) : con f R [AV.ptr 0 []] [Blk.var (AV.agg [AV.own 1 [] 0 none, AV.err e0]), Blk.gro (T.sl IntKind.u8) false t0] κ = f R e0 t0 (fun v b b_2 => κ (AV.tup [AV.isl IntKind.u8 (some true) [], AV.err v]) ([Blk.var (AV.agg [AV.own 1 [] 0 none, AV.err b]), Blk.gro (T.sl IntKind.u8) false b_2])) (fun vg1 v_1 v_2 bg1 => κ (AV.tup [AV.isl IntKind.u8 vg1 v_1, AV.err v_2]) ([Blk.var (AV.agg [AV.own 1 [] 0 none, AV.err bg1]), Blk.dead])) := rfl
noncomputable def M (N : Nat) : Ty := fun R e0 t0 kr0 kr1 => m (wRow.M N) (R := R) N e0 t0 kr0 kr1
def gts : List (Nat × AV) := [(0, .err 1), (2, .err 3)]
theorem gok (N : Nat) : GOk (g (wRow.M N)) := giD_ok hm (by intro p hp; cases hp) (gtL_ok (by decide)) (ovL_ok (by
    intro p hp
    simp only [List.mem_cons, List.not_mem_nil, or_false] at hp
    rcases hp with rfl
    · exact ⟨(wRow.ok N).gt (gtL_sub (by repeat (first | exact subG_nil _ | refine subG_cons (by kernel_rfl) ?_))) (gtL_ok (by decide)), _, Tryd.func71, by kernel_rfl, by kernel_rfl⟩
)) 1
theorem ok (N : Nat) : SoundC Tryd.prog (gtL gts) 55 (con (M N)) := by
  refine SoundC.mono (evF_ok (gok N) hm an N Tryd.func55) fun R args bs κ r h => ?_
  unfold con at h
  split at h
  · exact (eq (wRow.M N) N κ _ _).trans h
  · cases h
end rdone


/-! ### Tryd.f17: recOffer -/
namespace recOffer
def an : Anns := ⟨fun i => findA i [], fun i => findA i [], false, fun _ => none, []⟩
noncomputable def g (mrbegin : rbegin.Ty) (mfContext : fContext.Ty) (mradd : radd.Ty) (mwNum : wNum.Ty) (mrput0 : rput0.Ty) (mrput1 : rput1.Ty) (mfProposal : fProposal.Ty) (mrdone : rdone.Ty) : Gi := giF (giD Tryd.prog (gtL [(0, .err 1), (2, .err 3), (3, .err 4)]) (fun _ => an) 0 [] (ovL [(51, rbegin.con mrbegin), (53, fContext.con mfContext), (52, radd.con mradd), (38, wNum.con mwNum), (54, rput.con mrput0 mrput1), (11, fProposal.con mfProposal), (55, rdone.con mrdone)]) 1)
noncomputable def m (mrbegin : rbegin.Ty) (mfContext : fContext.Ty) (mradd : radd.Ty) (mwNum : wNum.Ty) (_mrput0 : rput0.Ty) (mrput1 : rput1.Ty) (mfProposal : fProposal.Ty) (mrdone : rdone.Ty) {R : Type} (_N : Nat) (x1 : List Int) (x2 : Int) (x3 : Int) (x4 : Int) (x5 : Int) (x6 : List Int) (x7 : List Int) (x8 : List Int) (_xN9 : Option Bool) (x10 : List Int) (x11 : List Int) (x12 : List Int) (x13 : List Int) (x14 : List Int) (x15 : List Int) (_xN16 : Option Bool) (x17 : List Int) (x18 : List Int) (x19 : List Int) (x20 : List Int) (c21 : List Int) (c22 : Int) (c23 : List Int) (c24 : List Int) (kr0 : (Option Bool) → (List Int) → Nat → Option R) : Option R :=
  mrbegin R ([111, 102, 102, 101, 114])
   (fun b_c38 => mfContext R c21 c22 c23 c24
    (fun v_c39 v_1_c40 v_2_c41 => mradd R 0 b_c38 v_c39 v_1_c40 v_2_c41
     (fun b_c42 b_1_c43 => mwNum R x3
      (fun v_c44 => mrput1 R b_c42 b_1_c43 v_c44 []
       (fun b_c45 b_1_c46 => mfProposal R x4 x5 x6 x7 x8 none x10 x11 x12 x13 x14 x15 none x17 x18 x19
        (fun v_c47 v_1_c48 v_2_c49 => mradd R b_c45 b_1_c46 v_c47 v_1_c48 v_2_c49
         (fun b_c50 b_1_c51 => mrdone R b_c50 b_1_c51
          (fun v_c52 _b_c53 _b_2_c54 => kr0 (some true) [] v_c52)
          (fun vg1_c55 v_1_c56 v_2_c57 _bg1_c58 => kr0 vg1_c55 v_1_c56 v_2_c57))))))))
theorem tree (mrbegin : rbegin.Ty) (mfContext : fContext.Ty) (mradd : radd.Ty) (mwNum : wNum.Ty) (mrput0 : rput0.Ty) (mrput1 : rput1.Ty) (mfProposal : fProposal.Ty) (mrdone : rdone.Ty) {R : Type} (N : Nat) (κ : AV → List Blk → Option R) (x1 : List Int) (x2 : Int) (x3 : Int) (x4 : Int) (x5 : Int) (x6 : List Int) (x7 : List Int) (x8 : List Int) (xN9 : Option Bool) (x10 : List Int) (x11 : List Int) (x12 : List Int) (x13 : List Int) (x14 : List Int) (x15 : List Int) (xN16 : Option Bool) (x17 : List Int) (x18 : List Int) (x19 : List Int) (x20 : List Int) (c21 : List Int) (c22 : Int) (c23 : List Int) (c24 : List Int) : evF (g mrbegin mfContext mradd mwNum mrput0 mrput1 mfProposal mrdone) an N Tryd.f17 [AV.agg [AV.ints IntKind.u8 32 x1, AV.int IntKind.i64 x2, AV.int IntKind.i64 x3, AV.agg [AV.int IntKind.i64 x4, AV.int IntKind.i64 x5, AV.agg [AV.ints IntKind.u8 32 x6, AV.agg [AV.ints IntKind.u8 32 x7, AV.ints IntKind.u8 32 x8, AV.isl IntKind.u8 xN9 x10, AV.ints IntKind.u8 32 x11, AV.ints IntKind.u8 64 x12], AV.ints IntKind.u8 64 x13], AV.agg [AV.ints IntKind.u8 32 x14, AV.ints IntKind.u8 32 x15, AV.isl IntKind.u8 xN16 x17, AV.ints IntKind.u8 32 x18, AV.ints IntKind.u8 64 x19]], AV.ints IntKind.u8 64 x20], AV.agg [AV.ints IntKind.u8 32 c21, AV.int IntKind.i64 c22, AV.ints IntKind.u8 32 c23, AV.ints IntKind.u8 32 c24]] [] κ =
  mrbegin R ([111, 102, 102, 101, 114])
   (fun b_c38 => mfContext R c21 c22 c23 c24
    (fun v_c39 v_1_c40 v_2_c41 => mradd R 0 b_c38 v_c39 v_1_c40 v_2_c41
     (fun b_c42 b_1_c43 => mwNum R x3
      (fun v_c44 => mrput1 R b_c42 b_1_c43 v_c44 []
       (fun b_c45 b_1_c46 => mfProposal R x4 x5 x6 x7 x8 none x10 x11 x12 x13 x14 x15 none x17 x18 x19
        (fun v_c47 v_1_c48 v_2_c49 => mradd R b_c45 b_1_c46 v_c47 v_1_c48 v_2_c49
         (fun b_c50 b_1_c51 => mrdone R b_c50 b_1_c51
          (fun v_c52 _b_c53 _b_2_c54 => κ (AV.tup [AV.isl IntKind.u8 (some true) [], AV.err v_c52]) [])
          (fun vg1_c55 v_1_c56 v_2_c57 _bg1_c58 => κ (AV.tup [AV.isl IntKind.u8 vg1_c55 v_1_c56, AV.err v_2_c57]) [])))))))) := by kernel_rfl
theorem eq (mrbegin : rbegin.Ty) (mfContext : fContext.Ty) (mradd : radd.Ty) (mwNum : wNum.Ty) (mrput0 : rput0.Ty) (mrput1 : rput1.Ty) (mfProposal : fProposal.Ty) (mrdone : rdone.Ty) {R : Type} (N : Nat) (κ : AV → List Blk → Option R) (x1 : List Int) (x2 : Int) (x3 : Int) (x4 : Int) (x5 : Int) (x6 : List Int) (x7 : List Int) (x8 : List Int) (xN9 : Option Bool) (x10 : List Int) (x11 : List Int) (x12 : List Int) (x13 : List Int) (x14 : List Int) (x15 : List Int) (xN16 : Option Bool) (x17 : List Int) (x18 : List Int) (x19 : List Int) (x20 : List Int) (c21 : List Int) (c22 : Int) (c23 : List Int) (c24 : List Int) : evF (g mrbegin mfContext mradd mwNum mrput0 mrput1 mfProposal mrdone) an N Tryd.f17 [AV.agg [AV.ints IntKind.u8 32 x1, AV.int IntKind.i64 x2, AV.int IntKind.i64 x3, AV.agg [AV.int IntKind.i64 x4, AV.int IntKind.i64 x5, AV.agg [AV.ints IntKind.u8 32 x6, AV.agg [AV.ints IntKind.u8 32 x7, AV.ints IntKind.u8 32 x8, AV.isl IntKind.u8 xN9 x10, AV.ints IntKind.u8 32 x11, AV.ints IntKind.u8 64 x12], AV.ints IntKind.u8 64 x13], AV.agg [AV.ints IntKind.u8 32 x14, AV.ints IntKind.u8 32 x15, AV.isl IntKind.u8 xN16 x17, AV.ints IntKind.u8 32 x18, AV.ints IntKind.u8 64 x19]], AV.ints IntKind.u8 64 x20], AV.agg [AV.ints IntKind.u8 32 c21, AV.int IntKind.i64 c22, AV.ints IntKind.u8 32 c23, AV.ints IntKind.u8 32 c24]] [] κ =
  m mrbegin mfContext mradd mwNum mrput0 mrput1 mfProposal mrdone N x1 x2 x3 x4 x5 x6 x7 x8 xN9 x10 x11 x12 x13 x14 x15 xN16 x17 x18 x19 x20 c21 c22 c23 c24 (fun v v_1 v_2 => κ (AV.tup [AV.isl IntKind.u8 v v_1, AV.err v_2]) []) := by
  rw [tree]
  kernel_rfl
abbrev Ty : Type 1 := ∀ R : Type, (List Int) → Int → Int → Int → Int → (List Int) → (List Int) → (List Int) → (Option Bool) → (List Int) → (List Int) → (List Int) → (List Int) → (List Int) → (List Int) → (Option Bool) → (List Int) → (List Int) → (List Int) → (List Int) → (List Int) → Int → (List Int) → (List Int) → ((Option Bool) → (List Int) → Nat → Option R) → Option R
def con (f : Ty) : Con := fun R args bs κ => match args, bs with
  | [AV.agg [AV.ints IntKind.u8 32 x1, AV.int IntKind.i64 x2, AV.int IntKind.i64 x3, AV.agg [AV.int IntKind.i64 x4, AV.int IntKind.i64 x5, AV.agg [AV.ints IntKind.u8 32 x6, AV.agg [AV.ints IntKind.u8 32 x7, AV.ints IntKind.u8 32 x8, AV.isl IntKind.u8 xN9 x10, AV.ints IntKind.u8 32 x11, AV.ints IntKind.u8 64 x12], AV.ints IntKind.u8 64 x13], AV.agg [AV.ints IntKind.u8 32 x14, AV.ints IntKind.u8 32 x15, AV.isl IntKind.u8 xN16 x17, AV.ints IntKind.u8 32 x18, AV.ints IntKind.u8 64 x19]], AV.ints IntKind.u8 64 x20], AV.agg [AV.ints IntKind.u8 32 c21, AV.int IntKind.i64 c22, AV.ints IntKind.u8 32 c23, AV.ints IntKind.u8 32 c24]], [] => f R x1 x2 x3 x4 x5 x6 x7 x8 xN9 x10 x11 x12 x13 x14 x15 xN16 x17 x18 x19 x20 c21 c22 c23 c24 (fun v v_1 v_2 => κ (AV.tup [AV.isl IntKind.u8 v v_1, AV.err v_2]) [])
  | _, _ => none
theorem con_eq (f : Ty) (R : Type) (κ : AV → List Blk → Option R) (x1 : List Int) (x2 : Int) (x3 : Int) (x4 : Int) (x5 : Int) (x6 : List Int) (x7 : List Int) (x8 : List Int) (xN9 : Option Bool) (x10 : List Int) (x11 : List Int) (x12 : List Int) (x13 : List Int) (x14 : List Int) (x15 : List Int) (xN16 : Option Bool) (x17 : List Int) (x18 : List Int) (x19 : List Int) (x20 : List Int) (c21 : List Int) (c22 : Int) (c23 : List Int) (c24 : List Int) : con f R [AV.agg [AV.ints IntKind.u8 32 x1, AV.int IntKind.i64 x2, AV.int IntKind.i64 x3, AV.agg [AV.int IntKind.i64 x4, AV.int IntKind.i64 x5, AV.agg [AV.ints IntKind.u8 32 x6, AV.agg [AV.ints IntKind.u8 32 x7, AV.ints IntKind.u8 32 x8, AV.isl IntKind.u8 xN9 x10, AV.ints IntKind.u8 32 x11, AV.ints IntKind.u8 64 x12], AV.ints IntKind.u8 64 x13], AV.agg [AV.ints IntKind.u8 32 x14, AV.ints IntKind.u8 32 x15, AV.isl IntKind.u8 xN16 x17, AV.ints IntKind.u8 32 x18, AV.ints IntKind.u8 64 x19]], AV.ints IntKind.u8 64 x20], AV.agg [AV.ints IntKind.u8 32 c21, AV.int IntKind.i64 c22, AV.ints IntKind.u8 32 c23, AV.ints IntKind.u8 32 c24]] [] κ = f R x1 x2 x3 x4 x5 x6 x7 x8 xN9 x10 x11 x12 x13 x14 x15 xN16 x17 x18 x19 x20 c21 c22 c23 c24 (fun v v_1 v_2 => κ (AV.tup [AV.isl IntKind.u8 v v_1, AV.err v_2]) []) := rfl
noncomputable def M (N : Nat) : Ty := fun R x1 x2 x3 x4 x5 x6 x7 x8 xN9 x10 x11 x12 x13 x14 x15 xN16 x17 x18 x19 x20 c21 c22 c23 c24 kr0 => m (rbegin.M N) (fContext.M N) (radd.M N) (wNum.M N) (rput0.M N) (rput1.M N) (fProposal.M N) (rdone.M N) (R := R) N x1 x2 x3 x4 x5 x6 x7 x8 xN9 x10 x11 x12 x13 x14 x15 xN16 x17 x18 x19 x20 c21 c22 c23 c24 kr0
def gts : List (Nat × AV) := [(0, .err 1), (2, .err 3), (3, .err 4)]
theorem gok (N : Nat) : GOk (g (rbegin.M N) (fContext.M N) (radd.M N) (wNum.M N) (rput0.M N) (rput1.M N) (fProposal.M N) (rdone.M N)) := giF_ok (giD_ok hm (by intro p hp; cases hp) (gtL_ok (by decide)) (ovL_ok (by
    intro p hp
    simp only [List.mem_cons, List.not_mem_nil, or_false] at hp
    rcases hp with rfl | rfl | rfl | rfl | rfl | rfl | rfl
    · exact ⟨(rbegin.ok N).gt (gtL_sub (by repeat (first | exact subG_nil _ | refine subG_cons (by kernel_rfl) ?_))) (gtL_ok (by decide)), _, Tryd.func51, by kernel_rfl, by kernel_rfl⟩
    · exact ⟨(fContext.ok N).gt (gtL_sub (by repeat (first | exact subG_nil _ | refine subG_cons (by kernel_rfl) ?_))) (gtL_ok (by decide)), _, Tryd.func53, by kernel_rfl, by kernel_rfl⟩
    · exact ⟨(radd.ok N).gt (gtL_sub (by repeat (first | exact subG_nil _ | refine subG_cons (by kernel_rfl) ?_))) (gtL_ok (by decide)), _, Tryd.func52, by kernel_rfl, by kernel_rfl⟩
    · exact ⟨(wNum.ok N).gt (gtL_sub (by repeat (first | exact subG_nil _ | refine subG_cons (by kernel_rfl) ?_))) (gtL_ok (by decide)), _, Tryd.func38, by kernel_rfl, by kernel_rfl⟩
    · exact ⟨(rput.ok N).gt (gtL_sub (by repeat (first | exact subG_nil _ | refine subG_cons (by kernel_rfl) ?_))) (gtL_ok (by decide)), _, Tryd.func54, by kernel_rfl, by kernel_rfl⟩
    · exact ⟨(fProposal.ok N).gt (gtL_sub (by repeat (first | exact subG_nil _ | refine subG_cons (by kernel_rfl) ?_))) (gtL_ok (by decide)), _, Tryd.func11, by kernel_rfl, by kernel_rfl⟩
    · exact ⟨(rdone.ok N).gt (gtL_sub (by repeat (first | exact subG_nil _ | refine subG_cons (by kernel_rfl) ?_))) (gtL_ok (by decide)), _, Tryd.func55, by kernel_rfl, by kernel_rfl⟩
)) 1)
theorem ok (N : Nat) : SoundC Tryd.prog (gtL gts) 17 (con (M N)) := by
  refine SoundC.mono (evF_ok (gok N) hm an N Tryd.func17) fun R args bs κ r h => ?_
  unfold con at h
  split at h
  · exact (eq (rbegin.M N) (fContext.M N) (radd.M N) (wNum.M N) (rput0.M N) (rput1.M N) (fProposal.M N) (rdone.M N) N κ _ _ _ _ _ _ _ _ _ _ _ _ _ _ _ _ _ _ _ _ _ _ _ _).trans h
  · cases h
end recOffer


/-! ### Tryd.f20: recPackage -/
namespace recPackage
def an : Anns := ⟨fun i => findA i [], fun i => findA i [], false, fun _ => none, []⟩
noncomputable def g (mrbegin : rbegin.Ty) (mrput0 : rput0.Ty) (mrput1 : rput1.Ty) (mfLeaf : fLeaf.Ty) (mradd : radd.Ty) (mrdone : rdone.Ty) : Gi := giF (giD Tryd.prog (gtL [(0, .err 1), (2, .err 3), (3, .err 4)]) (fun _ => an) 0 [] (ovL [(51, rbegin.con mrbegin), (54, rput.con mrput0 mrput1), (10, fLeaf.con mfLeaf), (52, radd.con mradd), (55, rdone.con mrdone)]) 1)
noncomputable def m (mrbegin : rbegin.Ty) (_mrput0 : rput0.Ty) (mrput1 : rput1.Ty) (mfLeaf : fLeaf.Ty) (mradd : radd.Ty) (mrdone : rdone.Ty) {R : Type} (_N : Nat) (x1 : List Int) (x2 : List Int) (x3 : List Int) (_xN4 : Option Bool) (x5 : List Int) (x6 : List Int) (x7 : List Int) (x8 : List Int) (kr0 : (Option Bool) → (List Int) → Nat → Option R) : Option R :=
  mrbegin R ([112, 97, 99, 107, 97, 103, 101])
   (fun b_c26 => mrput1 R 0 b_c26 (List.drop 0 (List.take 32 x1)) []
    (fun b_c27 b_1_c28 => mfLeaf R x2 x3 none x5 x6 x7
     (fun v_c29 v_1_c30 v_2_c31 => mradd R b_c27 b_1_c28 v_c29 v_1_c30 v_2_c31
      (fun b_c32 b_1_c33 => mrdone R b_c32 b_1_c33
       (fun v_c34 _b_c35 _b_2_c36 => kr0 (some true) [] v_c34)
       (fun vg1_c37 v_1_c38 v_2_c39 _bg1_c40 => kr0 vg1_c37 v_1_c38 v_2_c39)))))
theorem tree (mrbegin : rbegin.Ty) (mrput0 : rput0.Ty) (mrput1 : rput1.Ty) (mfLeaf : fLeaf.Ty) (mradd : radd.Ty) (mrdone : rdone.Ty) {R : Type} (N : Nat) (κ : AV → List Blk → Option R) (x1 : List Int) (x2 : List Int) (x3 : List Int) (xN4 : Option Bool) (x5 : List Int) (x6 : List Int) (x7 : List Int) (x8 : List Int) : evF (g mrbegin mrput0 mrput1 mfLeaf mradd mrdone) an N Tryd.f20 [AV.agg [AV.ints IntKind.u8 32 x1, AV.agg [AV.ints IntKind.u8 32 x2, AV.ints IntKind.u8 32 x3, AV.isl IntKind.u8 xN4 x5, AV.ints IntKind.u8 32 x6, AV.ints IntKind.u8 64 x7], AV.ints IntKind.u8 64 x8]] [] κ =
  mrbegin R ([112, 97, 99, 107, 97, 103, 101])
   (fun b_c26 => mrput1 R 0 b_c26 (List.drop 0 (List.take 32 x1)) []
    (fun b_c27 b_1_c28 => mfLeaf R x2 x3 none x5 x6 x7
     (fun v_c29 v_1_c30 v_2_c31 => mradd R b_c27 b_1_c28 v_c29 v_1_c30 v_2_c31
      (fun b_c32 b_1_c33 => mrdone R b_c32 b_1_c33
       (fun v_c34 _b_c35 _b_2_c36 => κ (AV.tup [AV.isl IntKind.u8 (some true) [], AV.err v_c34]) [])
       (fun vg1_c37 v_1_c38 v_2_c39 _bg1_c40 => κ (AV.tup [AV.isl IntKind.u8 vg1_c37 v_1_c38, AV.err v_2_c39]) []))))) := by kernel_rfl
theorem eq (mrbegin : rbegin.Ty) (mrput0 : rput0.Ty) (mrput1 : rput1.Ty) (mfLeaf : fLeaf.Ty) (mradd : radd.Ty) (mrdone : rdone.Ty) {R : Type} (N : Nat) (κ : AV → List Blk → Option R) (x1 : List Int) (x2 : List Int) (x3 : List Int) (xN4 : Option Bool) (x5 : List Int) (x6 : List Int) (x7 : List Int) (x8 : List Int) : evF (g mrbegin mrput0 mrput1 mfLeaf mradd mrdone) an N Tryd.f20 [AV.agg [AV.ints IntKind.u8 32 x1, AV.agg [AV.ints IntKind.u8 32 x2, AV.ints IntKind.u8 32 x3, AV.isl IntKind.u8 xN4 x5, AV.ints IntKind.u8 32 x6, AV.ints IntKind.u8 64 x7], AV.ints IntKind.u8 64 x8]] [] κ =
  m mrbegin mrput0 mrput1 mfLeaf mradd mrdone N x1 x2 x3 xN4 x5 x6 x7 x8 (fun v v_1 v_2 => κ (AV.tup [AV.isl IntKind.u8 v v_1, AV.err v_2]) []) := by
  rw [tree]
  kernel_rfl
abbrev Ty : Type 1 := ∀ R : Type, (List Int) → (List Int) → (List Int) → (Option Bool) → (List Int) → (List Int) → (List Int) → (List Int) → ((Option Bool) → (List Int) → Nat → Option R) → Option R
def con (f : Ty) : Con := fun R args bs κ => match args, bs with
  | [AV.agg [AV.ints IntKind.u8 32 x1, AV.agg [AV.ints IntKind.u8 32 x2, AV.ints IntKind.u8 32 x3, AV.isl IntKind.u8 xN4 x5, AV.ints IntKind.u8 32 x6, AV.ints IntKind.u8 64 x7], AV.ints IntKind.u8 64 x8]], [] => f R x1 x2 x3 xN4 x5 x6 x7 x8 (fun v v_1 v_2 => κ (AV.tup [AV.isl IntKind.u8 v v_1, AV.err v_2]) [])
  | _, _ => none
theorem con_eq (f : Ty) (R : Type) (κ : AV → List Blk → Option R) (x1 : List Int) (x2 : List Int) (x3 : List Int) (xN4 : Option Bool) (x5 : List Int) (x6 : List Int) (x7 : List Int) (x8 : List Int) : con f R [AV.agg [AV.ints IntKind.u8 32 x1, AV.agg [AV.ints IntKind.u8 32 x2, AV.ints IntKind.u8 32 x3, AV.isl IntKind.u8 xN4 x5, AV.ints IntKind.u8 32 x6, AV.ints IntKind.u8 64 x7], AV.ints IntKind.u8 64 x8]] [] κ = f R x1 x2 x3 xN4 x5 x6 x7 x8 (fun v v_1 v_2 => κ (AV.tup [AV.isl IntKind.u8 v v_1, AV.err v_2]) []) := rfl
noncomputable def M (N : Nat) : Ty := fun R x1 x2 x3 xN4 x5 x6 x7 x8 kr0 => m (rbegin.M N) (rput0.M N) (rput1.M N) (fLeaf.M N) (radd.M N) (rdone.M N) (R := R) N x1 x2 x3 xN4 x5 x6 x7 x8 kr0
def gts : List (Nat × AV) := [(0, .err 1), (2, .err 3), (3, .err 4)]
theorem gok (N : Nat) : GOk (g (rbegin.M N) (rput0.M N) (rput1.M N) (fLeaf.M N) (radd.M N) (rdone.M N)) := giF_ok (giD_ok hm (by intro p hp; cases hp) (gtL_ok (by decide)) (ovL_ok (by
    intro p hp
    simp only [List.mem_cons, List.not_mem_nil, or_false] at hp
    rcases hp with rfl | rfl | rfl | rfl | rfl
    · exact ⟨(rbegin.ok N).gt (gtL_sub (by repeat (first | exact subG_nil _ | refine subG_cons (by kernel_rfl) ?_))) (gtL_ok (by decide)), _, Tryd.func51, by kernel_rfl, by kernel_rfl⟩
    · exact ⟨(rput.ok N).gt (gtL_sub (by repeat (first | exact subG_nil _ | refine subG_cons (by kernel_rfl) ?_))) (gtL_ok (by decide)), _, Tryd.func54, by kernel_rfl, by kernel_rfl⟩
    · exact ⟨(fLeaf.ok N).gt (gtL_sub (by repeat (first | exact subG_nil _ | refine subG_cons (by kernel_rfl) ?_))) (gtL_ok (by decide)), _, Tryd.func10, by kernel_rfl, by kernel_rfl⟩
    · exact ⟨(radd.ok N).gt (gtL_sub (by repeat (first | exact subG_nil _ | refine subG_cons (by kernel_rfl) ?_))) (gtL_ok (by decide)), _, Tryd.func52, by kernel_rfl, by kernel_rfl⟩
    · exact ⟨(rdone.ok N).gt (gtL_sub (by repeat (first | exact subG_nil _ | refine subG_cons (by kernel_rfl) ?_))) (gtL_ok (by decide)), _, Tryd.func55, by kernel_rfl, by kernel_rfl⟩
)) 1)
theorem ok (N : Nat) : SoundC Tryd.prog (gtL gts) 20 (con (M N)) := by
  refine SoundC.mono (evF_ok (gok N) hm an N Tryd.func20) fun R args bs κ r h => ?_
  unfold con at h
  split at h
  · exact (eq (rbegin.M N) (rput0.M N) (rput1.M N) (fLeaf.M N) (radd.M N) (rdone.M N) N κ _ _ _ _ _ _ _ _).trans h
  · cases h
end recPackage

end Go.Proofs.YthajoenmfppenaaDoor.fn
