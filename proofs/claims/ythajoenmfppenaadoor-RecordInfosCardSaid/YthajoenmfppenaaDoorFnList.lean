/- What writers do in loops, with the proof; printed by a program. -/
import Derived.Test.YthajoenmfppenaaDoorProg
import Derived.Test.YthajoenmfppenaaDoorEv4
import Derived.Test.YthajoenmfppenaaDoorFnForms
namespace Go.Proofs.YthajoenmfppenaaDoor.fn
open Go Go.Proofs Go.Ev
/-! ### Tryd.f70: wfail2 -/
namespace wfail2
def an : Anns := ⟨fun i => findA i [], fun i => findA i [], false, fun _ => none, []⟩
noncomputable def g : Gi := giD Tryd.prog (gtL []) (fun _ => an) 0 [] (ovL []) 1
noncomputable def m {R : Type} (_N : Nat) (e0 : Nat) (nl0 : Bool) (t0 : List (List Int)) (er : Nat) (kr0 : Nat → Bool → (List (List Int)) → Option R) : Option R :=
  cond (e0.beq 0)
   (kr0 er nl0 t0)
   (kr0 e0 nl0 t0)
theorem tree {R : Type} (N : Nat) (κ : AV → List Blk → Option R) (e0 : Nat) (nl0 : Bool) (t0 : List (List Int)) (er : Nat) : evF g an N Tryd.f70 [AV.ptr 0 [], AV.err er] [Blk.var (AV.agg [AV.own 1 [] 0 none, AV.err e0]), Blk.gro (T.sl IntKind.u8) nl0 t0] κ =
  cond (e0.beq 0)
   (κ (AV.tup []) ([Blk.var (AV.agg [AV.own 1 [] 0 none, AV.err er]), Blk.gro (T.sl IntKind.u8) nl0 t0]))
   (κ (AV.tup []) ([Blk.var (AV.agg [AV.own 1 [] 0 none, AV.err e0]), Blk.gro (T.sl IntKind.u8) nl0 t0])) := by kernel_rfl
theorem eq {R : Type} (N : Nat) (κ : AV → List Blk → Option R) (e0 : Nat) (nl0 : Bool) (t0 : List (List Int)) (er : Nat) : evF g an N Tryd.f70 [AV.ptr 0 [], AV.err er] [Blk.var (AV.agg [AV.own 1 [] 0 none, AV.err e0]), Blk.gro (T.sl IntKind.u8) nl0 t0] κ =
  m N e0 nl0 t0 er (fun b b_1 b_2 => κ (AV.tup []) ([Blk.var (AV.agg [AV.own 1 [] 0 none, AV.err b]), Blk.gro (T.sl IntKind.u8) b_1 b_2])) := by
  rw [tree]
  kernel_rfl
abbrev Ty : Type 1 := ∀ R : Type, Nat → Bool → (List (List Int)) → Nat → (Nat → Bool → (List (List Int)) → Option R) → Option R
def con (f : Ty) : Con := fun R args bs κ => match args, bs with
  | [AV.ptr 0 [], AV.err er], [Blk.var (AV.agg [AV.own 1 [] 0 none, AV.err e0]), Blk.gro (T.sl IntKind.u8) nl0 t0] => f R e0 nl0 t0 er (fun b b_1 b_2 => κ (AV.tup []) ([Blk.var (AV.agg [AV.own 1 [] 0 none, AV.err b]), Blk.gro (T.sl IntKind.u8) b_1 b_2]))
  | _, _ => none
theorem con_eq (f : Ty) (R : Type) (κ : AV → List Blk → Option R) (e0 : Nat) (nl0 : Bool) (t0 : List (List Int)) (er : Nat) : con f R [AV.ptr 0 [], AV.err er] [Blk.var (AV.agg [AV.own 1 [] 0 none, AV.err e0]), Blk.gro (T.sl IntKind.u8) nl0 t0] κ = f R e0 nl0 t0 er (fun b b_1 b_2 => κ (AV.tup []) ([Blk.var (AV.agg [AV.own 1 [] 0 none, AV.err b]), Blk.gro (T.sl IntKind.u8) b_1 b_2])) := rfl
noncomputable def M (N : Nat) : Ty := fun R e0 nl0 t0 er kr0 => m (R := R) N e0 nl0 t0 er kr0
def gts : List (Nat × AV) := []
theorem gok (_N : Nat) : GOk g := giD_ok hm (by intro p hp; cases hp) (gtL_ok (by decide)) (ovL_ok (by intro p hp; cases hp)) 1
theorem ok (N : Nat) : SoundC Tryd.prog (gtL gts) 70 (con (M N)) := by
  refine SoundC.mono (evF_ok (gok N) hm an N Tryd.func70) fun R args bs κ r h => ?_
  unfold con at h
  split at h
  · exact (eq N κ _ _ _ _).trans h
  · cases h
end wfail2

/-! ### Tryd.f36: wput2 -/
namespace wput2
def an : Anns := ⟨fun i => findA i [], fun i => findA i [], false, fun _ => none, []⟩
noncomputable def g : Gi := giG (giD Tryd.prog (gtL []) (fun _ => an) 0 [] (ovL []) 1)
noncomputable def m {R : Type} (_N : Nat) (e0 : Nat) (_nl0 : Bool) (t0 : List (List Int)) (_bz : Option Bool) (bl : List Int) (kr0 : Nat → (List (List Int)) → Option R) : Option R :=
  cond (decide ((t0.length + 1) * 24 ≤ 140737488355328))
   (cond (decide (t0.length + 1 ≤ 140737488355328))
    (kr0 e0 (t0 ++ [bl]))
    none)
   none
theorem tree {R : Type} (N : Nat) (κ : AV → List Blk → Option R) (e0 : Nat) (nl0 : Bool) (t0 : List (List Int)) (bz : Option Bool) (bl : List Int) : evF g an N Tryd.f36 [AV.ptr 0 [], AV.isl IntKind.u8 bz bl] [Blk.var (AV.agg [AV.own 1 [] 0 none, AV.err e0]), Blk.gro (T.sl IntKind.u8) nl0 t0] κ =
  cond (decide ((t0.length + 1) * 24 ≤ 140737488355328))
   (cond (decide (t0.length + 1 ≤ 140737488355328))
    (κ (AV.tup []) ([Blk.var (AV.agg [AV.own 2 [] 0 none, AV.err e0]), Blk.dead, Blk.gro (T.sl IntKind.u8) false (t0 ++ [bl])]))
    none)
   none := by kernel_rfl
theorem eq {R : Type} (N : Nat) (κ : AV → List Blk → Option R) (e0 : Nat) (nl0 : Bool) (t0 : List (List Int)) (bz : Option Bool) (bl : List Int) : evF g an N Tryd.f36 [AV.ptr 0 [], AV.isl IntKind.u8 bz bl] [Blk.var (AV.agg [AV.own 1 [] 0 none, AV.err e0]), Blk.gro (T.sl IntKind.u8) nl0 t0] κ =
  m N e0 nl0 t0 bz bl (fun b b_1 => κ (AV.tup []) ([Blk.var (AV.agg [AV.own 2 [] 0 none, AV.err b]), Blk.dead, Blk.gro (T.sl IntKind.u8) false b_1])) := by
  rw [tree]
  kernel_rfl
abbrev Ty : Type 1 := ∀ R : Type, Nat → Bool → (List (List Int)) → (Option Bool) → (List Int) → (Nat → (List (List Int)) → Option R) → Option R
def con (f : Ty) : Con := fun R args bs κ => match args, bs with
  | [AV.ptr 0 [], AV.isl IntKind.u8 bz bl], [Blk.var (AV.agg [AV.own 1 [] 0 none, AV.err e0]), Blk.gro (T.sl IntKind.u8) nl0 t0] => f R e0 nl0 t0 bz bl (fun b b_1 => κ (AV.tup []) ([Blk.var (AV.agg [AV.own 2 [] 0 none, AV.err b]), Blk.dead, Blk.gro (T.sl IntKind.u8) false b_1]))
  | _, _ => none
theorem con_eq (f : Ty) (R : Type) (κ : AV → List Blk → Option R) (e0 : Nat) (nl0 : Bool) (t0 : List (List Int)) (bz : Option Bool) (bl : List Int) : con f R [AV.ptr 0 [], AV.isl IntKind.u8 bz bl] [Blk.var (AV.agg [AV.own 1 [] 0 none, AV.err e0]), Blk.gro (T.sl IntKind.u8) nl0 t0] κ = f R e0 nl0 t0 bz bl (fun b b_1 => κ (AV.tup []) ([Blk.var (AV.agg [AV.own 2 [] 0 none, AV.err b]), Blk.dead, Blk.gro (T.sl IntKind.u8) false b_1])) := rfl
noncomputable def M (N : Nat) : Ty := fun R e0 nl0 t0 bz bl kr0 => m (R := R) N e0 nl0 t0 bz bl kr0
def gts : List (Nat × AV) := []
theorem gok (_N : Nat) : GOk g := giG_ok (giD_ok hm (by intro p hp; cases hp) (gtL_ok (by decide)) (ovL_ok (by intro p hp; cases hp)) 1)
theorem ok (N : Nat) : SoundC Tryd.prog (gtL gts) 36 (con (M N)) := by
  refine SoundC.mono (evF_ok (gok N) hm an N Tryd.func36) fun R args bs κ r h => ?_
  unfold con at h
  split at h
  · exact (eq N κ _ _ _ _ _).trans h
  · cases h
end wput2

/-! ### Tryd.f39: wsub2 -/
namespace wsub2
def an : Anns := ⟨fun i => findA i [], fun i => findA i [], false, fun _ => none, []⟩
noncomputable def g (mwfail2 : wfail2.Ty) (mwput2 : wput2.Ty) : Gi := giG (giD Tryd.prog (gtL []) (fun _ => an) 0 [] (ovL [(70, wfail2.con mwfail2), (36, wput2.con mwput2)]) 1)
noncomputable def m (mwfail2 : wfail2.Ty) (mwput2 : wput2.Ty) {R : Type} (_N : Nat) (e0 : Nat) (nl0 : Bool) (t0 : List (List Int)) (bz : Option Bool) (bl : List Int) (er : Nat) (kr0 : Nat → (List (List Int)) → Option R) : Option R :=
  cond (!er.beq 0)
   (mwfail2 R e0 nl0 t0 er
    (fun b_c5 b_1_c6 b_2_c7 => mwput2 R b_c5 b_1_c6 b_2_c7 bz bl
     (fun b_c8 b_1_c9 => kr0 b_c8 b_1_c9)))
   (mwput2 R e0 nl0 t0 bz bl
    (fun b_c10 b_1_c11 => kr0 b_c10 b_1_c11))
theorem tree (mwfail2 : wfail2.Ty) (mwput2 : wput2.Ty) {R : Type} (N : Nat) (κ : AV → List Blk → Option R) (e0 : Nat) (nl0 : Bool) (t0 : List (List Int)) (bz : Option Bool) (bl : List Int) (er : Nat) : evF (g mwfail2 mwput2) an N Tryd.f39 [AV.ptr 0 [], AV.isl IntKind.u8 bz bl, AV.err er] [Blk.var (AV.agg [AV.own 1 [] 0 none, AV.err e0]), Blk.gro (T.sl IntKind.u8) nl0 t0] κ =
  cond (!er.beq 0)
   (mwfail2 R e0 nl0 t0 er
    (fun b_c5 b_1_c6 b_2_c7 => mwput2 R b_c5 b_1_c6 b_2_c7 bz bl
     (fun b_c8 b_1_c9 => κ (AV.tup []) ([Blk.var (AV.agg [AV.own 2 [] 0 none, AV.err b_c8]), Blk.dead, Blk.gro (T.sl IntKind.u8) false b_1_c9]))))
   (mwput2 R e0 nl0 t0 bz bl
    (fun b_c10 b_1_c11 => κ (AV.tup []) ([Blk.var (AV.agg [AV.own 2 [] 0 none, AV.err b_c10]), Blk.dead, Blk.gro (T.sl IntKind.u8) false b_1_c11]))) := by kernel_rfl
theorem eq (mwfail2 : wfail2.Ty) (mwput2 : wput2.Ty) {R : Type} (N : Nat) (κ : AV → List Blk → Option R) (e0 : Nat) (nl0 : Bool) (t0 : List (List Int)) (bz : Option Bool) (bl : List Int) (er : Nat) : evF (g mwfail2 mwput2) an N Tryd.f39 [AV.ptr 0 [], AV.isl IntKind.u8 bz bl, AV.err er] [Blk.var (AV.agg [AV.own 1 [] 0 none, AV.err e0]), Blk.gro (T.sl IntKind.u8) nl0 t0] κ =
  m mwfail2 mwput2 N e0 nl0 t0 bz bl er (fun b b_1 => κ (AV.tup []) ([Blk.var (AV.agg [AV.own 2 [] 0 none, AV.err b]), Blk.dead, Blk.gro (T.sl IntKind.u8) false b_1])) := by
  rw [tree]
  kernel_rfl
abbrev Ty : Type 1 := ∀ R : Type, Nat → Bool → (List (List Int)) → (Option Bool) → (List Int) → Nat → (Nat → (List (List Int)) → Option R) → Option R
def con (f : Ty) : Con := fun R args bs κ => match args, bs with
  | [AV.ptr 0 [], AV.isl IntKind.u8 bz bl, AV.err er], [Blk.var (AV.agg [AV.own 1 [] 0 none, AV.err e0]), Blk.gro (T.sl IntKind.u8) nl0 t0] => f R e0 nl0 t0 bz bl er (fun b b_1 => κ (AV.tup []) ([Blk.var (AV.agg [AV.own 2 [] 0 none, AV.err b]), Blk.dead, Blk.gro (T.sl IntKind.u8) false b_1]))
  | _, _ => none
theorem con_eq (f : Ty) (R : Type) (κ : AV → List Blk → Option R) (e0 : Nat) (nl0 : Bool) (t0 : List (List Int)) (bz : Option Bool) (bl : List Int) (er : Nat) : con f R [AV.ptr 0 [], AV.isl IntKind.u8 bz bl, AV.err er] [Blk.var (AV.agg [AV.own 1 [] 0 none, AV.err e0]), Blk.gro (T.sl IntKind.u8) nl0 t0] κ = f R e0 nl0 t0 bz bl er (fun b b_1 => κ (AV.tup []) ([Blk.var (AV.agg [AV.own 2 [] 0 none, AV.err b]), Blk.dead, Blk.gro (T.sl IntKind.u8) false b_1])) := rfl
noncomputable def M (N : Nat) : Ty := fun R e0 nl0 t0 bz bl er kr0 => m (wfail2.M N) (wput2.M N) (R := R) N e0 nl0 t0 bz bl er kr0
def gts : List (Nat × AV) := []
theorem gok (N : Nat) : GOk (g (wfail2.M N) (wput2.M N)) := giG_ok (giD_ok hm (by intro p hp; cases hp) (gtL_ok (by decide)) (ovL_ok (by
    intro p hp
    simp only [List.mem_cons, List.not_mem_nil, or_false] at hp
    rcases hp with rfl | rfl
    · exact ⟨(wfail2.ok N).gt (gtL_sub (by repeat (first | exact subG_nil _ | refine subG_cons (by kernel_rfl) ?_))) (gtL_ok (by decide)), _, Tryd.func70, by kernel_rfl, by kernel_rfl⟩
    · exact ⟨(wput2.ok N).gt (gtL_sub (by repeat (first | exact subG_nil _ | refine subG_cons (by kernel_rfl) ?_))) (gtL_ok (by decide)), _, Tryd.func36, by kernel_rfl, by kernel_rfl⟩
)) 1)
theorem ok (N : Nat) : SoundC Tryd.prog (gtL gts) 39 (con (M N)) := by
  refine SoundC.mono (evF_ok (gok N) hm an N Tryd.func39) fun R args bs κ r h => ?_
  unfold con at h
  split at h
  · exact (eq (wfail2.M N) (wput2.M N) N κ _ _ _ _ _ _).trans h
  · cases h
end wsub2

/-! ### Tryd.f37: wdone2 -/
namespace wdone2
def an : Anns := ⟨fun i => findA i [], fun i => findA i [], false, fun _ => none, []⟩
noncomputable def g (mwRow : wRow.Ty) : Gi := giD Tryd.prog (gtL [(0, .err 1), (2, .err 3)]) (fun _ => an) 0 [] (ovL [(71, wRow.con mwRow)]) 1
noncomputable def m (mwRow : wRow.Ty) {R : Type} (_N : Nat) (e0 : Nat) (nl0 : Bool) (t0 : List (List Int)) (kr0 : Nat → Nat → Bool → (List (List Int)) → Option R) (kr1 : (Option Bool) → (List Int) → Nat → Nat → Option R) : Option R :=
  cond (!e0.beq 0)
   (kr0 e0 e0 nl0 t0)
   (mwRow R t0
    (fun v_c3 v_1_c4 v_2_c5 => kr1 v_c3 v_1_c4 v_2_c5 e0))
theorem tree (mwRow : wRow.Ty) {R : Type} (N : Nat) (κ : AV → List Blk → Option R) (e0 : Nat) (nl0 : Bool) (t0 : List (List Int)) : evF (g mwRow) an N Tryd.f37 [AV.ptr 0 []] [Blk.var (AV.agg [AV.own 1 [] 0 none, AV.err e0]), Blk.gro (T.sl IntKind.u8) nl0 t0] κ =
  cond (!e0.beq 0)
   (κ (AV.tup [AV.isl IntKind.u8 (some true) [], AV.err e0]) ([Blk.var (AV.agg [AV.own 1 [] 0 none, AV.err e0]), Blk.gro (T.sl IntKind.u8) nl0 t0]))
   (mwRow R t0
    (fun v_c3 v_1_c4 v_2_c5 => κ (AV.tup [AV.isl IntKind.u8 v_c3 v_1_c4, AV.err v_2_c5]) ([Blk.var (AV.agg [AV.own 1 [] 0 none, AV.err e0]), Blk.dead]))) := by kernel_rfl
theorem eq (mwRow : wRow.Ty) {R : Type} (N : Nat) (κ : AV → List Blk → Option R) (e0 : Nat) (nl0 : Bool) (t0 : List (List Int)) : evF (g mwRow) an N Tryd.f37 [AV.ptr 0 []] [Blk.var (AV.agg [AV.own 1 [] 0 none, AV.err e0]), Blk.gro (T.sl IntKind.u8) nl0 t0] κ =
  m mwRow N e0 nl0 t0 (fun v b b_2 b_3 => κ (AV.tup [AV.isl IntKind.u8 (some true) [], AV.err v]) ([Blk.var (AV.agg [AV.own 1 [] 0 none, AV.err b]), Blk.gro (T.sl IntKind.u8) b_2 b_3])) (fun vg1 v_1 v_2 bg1 => κ (AV.tup [AV.isl IntKind.u8 vg1 v_1, AV.err v_2]) ([Blk.var (AV.agg [AV.own 1 [] 0 none, AV.err bg1]), Blk.dead])) := by
  rw [tree]
  kernel_rfl
abbrev Ty : Type 1 := ∀ R : Type, Nat → Bool → (List (List Int)) → (Nat → Nat → Bool → (List (List Int)) → Option R) → ((Option Bool) → (List Int) → Nat → Nat → Option R) → Option R
def con (f : Ty) : Con := fun R args bs κ => match args, bs with
  | [AV.ptr 0 []], [Blk.var (AV.agg [AV.own 1 [] 0 none, AV.err e0]), Blk.gro (T.sl IntKind.u8) nl0 t0] => f R e0 nl0 t0 (fun v b b_2 b_3 => κ (AV.tup [AV.isl IntKind.u8 (some true) [], AV.err v]) ([Blk.var (AV.agg [AV.own 1 [] 0 none, AV.err b]), Blk.gro (T.sl IntKind.u8) b_2 b_3])) (fun vg1 v_1 v_2 bg1 => κ (AV.tup [AV.isl IntKind.u8 vg1 v_1, AV.err v_2]) ([Blk.var (AV.agg [AV.own 1 [] 0 none, AV.err bg1]), Blk.dead]))
  | _, _ => none
theorem con_eq (f : Ty) (R : Type) (κ : AV → List Blk → Option R) (e0 : Nat) (nl0 : Bool) (t0 : List (List Int)) : con f R [AV.ptr 0 []] [Blk.var (AV.agg [AV.own 1 [] 0 none, AV.err e0]), Blk.gro (T.sl IntKind.u8) nl0 t0] κ = f R e0 nl0 t0 (fun v b b_2 b_3 => κ (AV.tup [AV.isl IntKind.u8 (some true) [], AV.err v]) ([Blk.var (AV.agg [AV.own 1 [] 0 none, AV.err b]), Blk.gro (T.sl IntKind.u8) b_2 b_3])) (fun vg1 v_1 v_2 bg1 => κ (AV.tup [AV.isl IntKind.u8 vg1 v_1, AV.err v_2]) ([Blk.var (AV.agg [AV.own 1 [] 0 none, AV.err bg1]), Blk.dead])) := rfl
noncomputable def M (N : Nat) : Ty := fun R e0 nl0 t0 kr0 kr1 => m (wRow.M N) (R := R) N e0 nl0 t0 kr0 kr1
def gts : List (Nat × AV) := [(0, .err 1), (2, .err 3)]
theorem gok (N : Nat) : GOk (g (wRow.M N)) := giD_ok hm (by intro p hp; cases hp) (gtL_ok (by decide)) (ovL_ok (by
    intro p hp
    simp only [List.mem_cons, List.not_mem_nil, or_false] at hp
    rcases hp with rfl
    · exact ⟨(wRow.ok N).gt (gtL_sub (by repeat (first | exact subG_nil _ | refine subG_cons (by kernel_rfl) ?_))) (gtL_ok (by decide)), _, Tryd.func71, by kernel_rfl, by kernel_rfl⟩
)) 1
theorem ok (N : Nat) : SoundC Tryd.prog (gtL gts) 37 (con (M N)) := by
  refine SoundC.mono (evF_ok (gok N) hm an N Tryd.func37) fun R args bs κ r h => ?_
  unfold con at h
  split at h
  · exact (eq (wRow.M N) N κ _ _ _).trans h
  · cases h
end wdone2

/-! ### Tryd.f120: fnumber -/
namespace fnumber
def an : Anns := ⟨fun i => findA i [], fun i => findA i [], false, fun _ => none, []⟩
noncomputable def g (mwNum : wNum.Ty) : Gi := giD Tryd.prog (gtL [(0, .err 1)]) (fun _ => an) 0 [] (ovL [(38, wNum.con mwNum)]) 1
noncomputable def m (mwNum : wNum.Ty) {R : Type} (_N : Nat) (n1 : Int) (kr0 : (List Int) → Option R) : Option R :=
  mwNum R n1
   (fun v_c1 => kr0 v_c1)
theorem tree (mwNum : wNum.Ty) {R : Type} (N : Nat) (κ : AV → List Blk → Option R) (n1 : Int) : evF (g mwNum) an N Tryd.f120 [AV.int IntKind.i64 n1] [] κ =
  mwNum R n1
   (fun v_c1 => κ (AV.tup [AV.isl IntKind.u8 none v_c1, AV.err 0]) []) := by kernel_rfl
theorem eq (mwNum : wNum.Ty) {R : Type} (N : Nat) (κ : AV → List Blk → Option R) (n1 : Int) : evF (g mwNum) an N Tryd.f120 [AV.int IntKind.i64 n1] [] κ =
  m mwNum N n1 (fun v => κ (AV.tup [AV.isl IntKind.u8 none v, AV.err 0]) []) := by
  rw [tree]
  kernel_rfl
abbrev Ty : Type 1 := ∀ R : Type, Int → ((List Int) → Option R) → Option R
def con (f : Ty) : Con := fun R args bs κ => match args, bs with
  | [AV.int IntKind.i64 n1], [] => f R n1 (fun v => κ (AV.tup [AV.isl IntKind.u8 none v, AV.err 0]) [])
  | _, _ => none
theorem con_eq (f : Ty) (R : Type) (κ : AV → List Blk → Option R) (n1 : Int) : con f R [AV.int IntKind.i64 n1] [] κ = f R n1 (fun v => κ (AV.tup [AV.isl IntKind.u8 none v, AV.err 0]) []) := rfl
noncomputable def M (N : Nat) : Ty := fun R n1 kr0 => m (wNum.M N) (R := R) N n1 kr0
def gts : List (Nat × AV) := [(0, .err 1)]
theorem gok (N : Nat) : GOk (g (wNum.M N)) := giD_ok hm (by intro p hp; cases hp) (gtL_ok (by decide)) (ovL_ok (by
    intro p hp
    simp only [List.mem_cons, List.not_mem_nil, or_false] at hp
    rcases hp with rfl
    · exact ⟨(wNum.ok N).gt (gtL_sub (by repeat (first | exact subG_nil _ | refine subG_cons (by kernel_rfl) ?_))) (gtL_ok (by decide)), _, Tryd.func38, by kernel_rfl, by kernel_rfl⟩
)) 1
theorem ok (N : Nat) : SoundC Tryd.prog (gtL gts) 120 (con (M N)) := by
  refine SoundC.mono (evF_ok (gok N) hm an N Tryd.func120) fun R args bs κ r h => ?_
  unfold con at h
  split at h
  · exact (eq (wNum.M N) N κ _).trans h
  · cases h
end fnumber

/-! ### Tryd.f119: listInt -/
namespace listInt
def an : Anns := ⟨fun i => findA i [(4, ⟨[2, 8, 21, 22, 23], [⟨8, 0, T.int IntKind.u8, none⟩, ⟨8, 1, T.sl IntKind.u8, some [0]⟩], 2, [.lift 8 [0] (.sl .u8)]⟩)], fun i => findA i [], false, fun _ => none, [.lift 8 [0] (.sl .u8)]⟩
noncomputable def g (mwneed0 : wneed0.Ty) (mwneed1 : wneed1.Ty) (mwsub2 : wsub2.Ty) (mwdone2 : wdone2.Ty) (mfnumber : fnumber.Ty) : Gi := giD Tryd.prog (gtL [(0, .err 1), (2, .err 3), (3, .err 4)]) (fun _ => an) 0 [] (ovL [(34, wneed.con mwneed0 mwneed1), (39, wsub2.con mwsub2), (37, wdone2.con mwdone2), (120, fnumber.con mfnumber)]) 1
noncomputable def c_L4 : Code := loopOf Tryd.f119 0
def s_L4 (t21 : Option Bool) (t21_1 : List Int) (t22 : Int) (t23 : Int) (h0 : Nat) (h1 : Bool) (h1_6 : List (List Int)) : St := ⟨[AV.dead, AV.dead, AV.fn 120] ++ List.replicate 5 .dead ++ [AV.ptr 0 []] ++ List.replicate 12 .dead ++ [AV.isl IntKind.i64 t21 t21_1, AV.int IntKind.i64 t22, AV.int IntKind.i64 t23] ++ List.replicate 13 .dead, [Blk.var (AV.agg [AV.own 1 [] 0 none, AV.err h0]), Blk.gro (T.sl IntKind.u8) h1 h1_6]⟩
def x_L4_0 (t21 : Option Bool) (t21_1 : List Int) (t22 : Int) (t23 : Int) (h0 : Nat) (h1 : Bool) (h1_6 : List (List Int)) : St := ⟨[AV.dead, AV.dead, AV.fn 120] ++ List.replicate 5 .dead ++ [AV.ptr 0 []] ++ List.replicate 12 .dead ++ [AV.isl IntKind.i64 t21 t21_1, AV.int IntKind.i64 t22, AV.int IntKind.i64 t23, AV.bool (decide (t23 < t22))] ++ List.replicate 12 .dead, [Blk.var (AV.agg [AV.own 1 [] 0 none, AV.err h0]), Blk.gro (T.sl IntKind.u8) h1 h1_6]⟩
noncomputable def L4 (mwneed0 : wneed0.Ty) (mwneed1 : wneed1.Ty) (mwsub2 : wsub2.Ty) (mwdone2 : wdone2.Ty) (mfnumber : fnumber.Ty) {R : Type} (N : Nat) (ke0 : (Option Bool) → (List Int) → Int → Int → Nat → Bool → (List (List Int)) → Option R) : Nat → (Option Bool) → (List Int) → Int → Int → Nat → Bool → (List (List Int)) → Option R
  | 0, _, _, _, _, _, _, _ => none
  | m + 1, t21, t21_1, t22, t23, h0, h1, h1_6 =>
    cond (decide (t23 < t22))
     (cond (decide (0 ≤ t23))
      (cond (decide (t23 < (↑t21_1.length : Int)))
       (mfnumber R (t21_1.getD t23.toNat 0)
        (fun v_c39 => mwsub2 R h0 h1 h1_6 none v_c39 0
         (fun b_c40 b_1_c41 => L4 mwneed0 mwneed1 mwsub2 mwdone2 mfnumber N ke0 m t21 t21_1 t22 (IntKind.i64.wrap (t23 + 1)) b_c40 false b_1_c41)))
       none)
      none)
     (ke0 t21 t21_1 t22 t23 h0 h1 h1_6)
theorem round_L4 (mwneed0 : wneed0.Ty) (mwneed1 : wneed1.Ty) (mwsub2 : wsub2.Ty) (mwdone2 : wdone2.Ty) (mfnumber : fnumber.Ty) {R : Type} (N : Nat) (Rn : St → Option R) (k : K R) (t21 : Option Bool) (t21_1 : List Int) (t22 : Int) (t23 : Int) (h0 : Nat) (h1 : Bool) (h1_6 : List (List Int)) : evC (g mwneed0 mwneed1 mwsub2 mwdone2 mfnumber) an 0 N c_L4 none (roundK (nmOf 0 (an.loop 4)) Rn k) (s_L4 t21 t21_1 t22 t23 h0 h1 h1_6) =
  cond (decide (t23 < t22))
   (cond (decide (0 ≤ t23))
    (cond (decide (t23 < (↑t21_1.length : Int)))
     (mfnumber R (t21_1.getD t23.toNat 0)
      (fun v_c39 => mwsub2 R h0 h1 h1_6 none v_c39 0
       (fun b_c40 b_1_c41 => Rn (s_L4 t21 t21_1 t22 (IntKind.i64.wrap (t23 + 1)) b_c40 false b_1_c41))))
     none)
    none)
   (k.ext 0 (x_L4_0 t21 t21_1 t22 t23 h0 h1 h1_6)) := by kernel_rfl
theorem run_L4 (mwneed0 : wneed0.Ty) (mwneed1 : wneed1.Ty) (mwsub2 : wsub2.Ty) (mwdone2 : wdone2.Ty) (mfnumber : fnumber.Ty) {R : Type} (N : Nat) (k : K R) : ∀ (m : Nat) (t21 : Option Bool) (t21_1 : List Int) (t22 : Int) (t23 : Int) (h0 : Nat) (h1 : Bool) (h1_6 : List (List Int)), loopN (evC (g mwneed0 mwneed1 mwsub2 mwdone2 mfnumber) an 0 N c_L4 none) k (nmOf 0 (an.loop 4)) m (s_L4 t21 t21_1 t22 t23 h0 h1 h1_6) =
    L4 mwneed0 mwneed1 mwsub2 mwdone2 mfnumber N (fun t21 t21_1 t22 t23 h0 h1 h1_6 => (k).ext 0 (x_L4_0 t21 t21_1 t22 t23 h0 h1 h1_6)) m t21 t21_1 t22 t23 h0 h1 h1_6 := by
  intro m
  induction m with
  | zero => intros; rfl
  | succ m ih =>
    intros
    rw [loopN_succ, round_L4]
    simp only [ih]
    kernel_rfl
noncomputable def m (mwneed0 : wneed0.Ty) (mwneed1 : wneed1.Ty) (mwsub2 : wsub2.Ty) (mwdone2 : wdone2.Ty) (mfnumber : fnumber.Ty) {R : Type} (N : Nat) (lz : Option Bool) (ll : List Int) (most : Int) (kr0 : (Option Bool) → (List Int) → Nat → Option R) : Option R :=
  mwneed0 R 0 (decide ((↑ll.length : Int) ≤ most))
   (fun b_c38 => cond (decide (0 ≤ min (↑ll.length : Int) most))
    (cond (decide (min (↑ll.length : Int) most ≤ (↑ll.length : Int)))
     (L4 mwneed0 mwneed1 mwsub2 mwdone2 mfnumber N
      (fun _t21_c42 _t21_1_c43 _t22_c44 _t23_c45 h0_c46 h1_c47 h1_6_c48 => mwdone2 R h0_c46 h1_c47 h1_6_c48
       (fun v_c49 _b_c50 _b_2_c51 _b_3_c52 => kr0 (some true) [] v_c49)
       (fun vg1_c53 v_1_c54 v_2_c55 _bg1_c56 => kr0 vg1_c53 v_1_c54 v_2_c55)) N lz (List.drop 0 (List.take (min (↑ll.length : Int) most).toNat ll)) ((↑(List.drop 0 (List.take (min (↑ll.length : Int) most).toNat ll)).length : Int)) 0 b_c38 true [])
     none)
    none)
theorem tree (mwneed0 : wneed0.Ty) (mwneed1 : wneed1.Ty) (mwsub2 : wsub2.Ty) (mwdone2 : wdone2.Ty) (mfnumber : fnumber.Ty) {R : Type} (N : Nat) (κ : AV → List Blk → Option R) (lz : Option Bool) (ll : List Int) (most : Int) : evF (g mwneed0 mwneed1 mwsub2 mwdone2 mfnumber) an N Tryd.f119 [AV.isl IntKind.i64 lz ll, AV.int IntKind.i64 most, AV.fn 120] [] κ =
  mwneed0 R 0 (decide ((↑ll.length : Int) ≤ most))
   (fun b_c38 => cond (decide (0 ≤ min (↑ll.length : Int) most))
    (cond (decide (min (↑ll.length : Int) most ≤ (↑ll.length : Int)))
     (loopN (evC (g mwneed0 mwneed1 mwsub2 mwdone2 mfnumber) an 0 N c_L4 none) (ctx (g mwneed0 mwneed1 mwsub2 mwdone2 mfnumber) an 0 N (bodyOf Tryd.f119) [1, 1, 1, 0, 1, 0] (endK (g mwneed0 mwneed1 mwsub2 mwdone2 mfnumber) an Tryd.f119 [] κ)) (nmOf 0 (an.loop 4)) N (s_L4 lz (List.drop 0 (List.take (min (↑ll.length : Int) most).toNat ll)) ((↑(List.drop 0 (List.take (min (↑ll.length : Int) most).toNat ll)).length : Int)) 0 b_c38 true []))
     none)
    none) := by kernel_rfl
theorem eq (mwneed0 : wneed0.Ty) (mwneed1 : wneed1.Ty) (mwsub2 : wsub2.Ty) (mwdone2 : wdone2.Ty) (mfnumber : fnumber.Ty) {R : Type} (N : Nat) (κ : AV → List Blk → Option R) (lz : Option Bool) (ll : List Int) (most : Int) : evF (g mwneed0 mwneed1 mwsub2 mwdone2 mfnumber) an N Tryd.f119 [AV.isl IntKind.i64 lz ll, AV.int IntKind.i64 most, AV.fn 120] [] κ =
  m mwneed0 mwneed1 mwsub2 mwdone2 mfnumber N lz ll most (fun v v_1 v_2 => κ (AV.tup [AV.isl IntKind.u8 v v_1, AV.err v_2]) []) := by
  rw [tree]
  simp only [run_L4]
  kernel_rfl
abbrev Ty : Type 1 := ∀ R : Type, (Option Bool) → (List Int) → Int → ((Option Bool) → (List Int) → Nat → Option R) → Option R
def con (f : Ty) : Con := fun R args bs κ => match args, bs with
  | [AV.isl IntKind.i64 lz ll, AV.int IntKind.i64 most, AV.fn 120], [] => f R lz ll most (fun v v_1 v_2 => κ (AV.tup [AV.isl IntKind.u8 v v_1, AV.err v_2]) [])
  | _, _ => none
theorem con_eq (f : Ty) (R : Type) (κ : AV → List Blk → Option R) (lz : Option Bool) (ll : List Int) (most : Int) : con f R [AV.isl IntKind.i64 lz ll, AV.int IntKind.i64 most, AV.fn 120] [] κ = f R lz ll most (fun v v_1 v_2 => κ (AV.tup [AV.isl IntKind.u8 v v_1, AV.err v_2]) []) := rfl
noncomputable def M (N : Nat) : Ty := fun R lz ll most kr0 => m (wneed0.M N) (wneed1.M N) (wsub2.M N) (wdone2.M N) (fnumber.M N) (R := R) N lz ll most kr0
def gts : List (Nat × AV) := [(0, .err 1), (2, .err 3), (3, .err 4)]
theorem gok (N : Nat) : GOk (g (wneed0.M N) (wneed1.M N) (wsub2.M N) (wdone2.M N) (fnumber.M N)) := giD_ok hm (by intro p hp; cases hp) (gtL_ok (by decide)) (ovL_ok (by
    intro p hp
    simp only [List.mem_cons, List.not_mem_nil, or_false] at hp
    rcases hp with rfl | rfl | rfl | rfl
    · exact ⟨(wneed.ok N).gt (gtL_sub (by repeat (first | exact subG_nil _ | refine subG_cons (by kernel_rfl) ?_))) (gtL_ok (by decide)), _, Tryd.func34, by kernel_rfl, by kernel_rfl⟩
    · exact ⟨(wsub2.ok N).gt (gtL_sub (by repeat (first | exact subG_nil _ | refine subG_cons (by kernel_rfl) ?_))) (gtL_ok (by decide)), _, Tryd.func39, by kernel_rfl, by kernel_rfl⟩
    · exact ⟨(wdone2.ok N).gt (gtL_sub (by repeat (first | exact subG_nil _ | refine subG_cons (by kernel_rfl) ?_))) (gtL_ok (by decide)), _, Tryd.func37, by kernel_rfl, by kernel_rfl⟩
    · exact ⟨(fnumber.ok N).gt (gtL_sub (by repeat (first | exact subG_nil _ | refine subG_cons (by kernel_rfl) ?_))) (gtL_ok (by decide)), _, Tryd.func120, by kernel_rfl, by kernel_rfl⟩
)) 1
theorem ok (N : Nat) : SoundC Tryd.prog (gtL gts) 119 (con (M N)) := by
  refine SoundC.mono (evF_ok (gok N) hm an N Tryd.func119) fun R args bs κ r h => ?_
  unfold con at h
  split at h
  · exact (eq (wneed0.M N) (wneed1.M N) (wsub2.M N) (wdone2.M N) (fnumber.M N) N κ _ _ _).trans h
  · cases h
end listInt

end Go.Proofs.YthajoenmfppenaaDoor.fn
