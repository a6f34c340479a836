/- What the words' functions compute, with the proof; printed by a program. -/
import Derived.Test.YtllnbcibleeogaaDoorProg
import Derived.Test.YtllnbcibleeogaaDoorEv4
namespace Go.Proofs.YtllnbcibleeogaaDoor.fn
open Go Go.Proofs Go.Ev

theorem hm : Tryd.prog.follows .mixedOrders = true := by kernel_rfl

/-! ### Tryd.f16: Left -/
namespace Left
def an : Anns := ⟨fun i => findA i [], fun i => findA i [], false, fun _ => none⟩
noncomputable def g : Gi := giD Tryd.prog (gtL []) (fun _ => an) 0 [] (ovL []) 1
noncomputable def m {R : Type} (_N : Nat) (x1 : Int) (n2 : Int) (kr0 : Int → Option R) : Option R :=
  kr0 (ior IntKind.u32 (ishl IntKind.u32 x1 ((IntKind.u64.wrap n2).tmod 32)) (ishr IntKind.u32 x1 (IntKind.u64.wrap (32 - (IntKind.u64.wrap n2).tmod 32))))
theorem tree {R : Type} (N : Nat) (κ : AV → List Blk → Option R) (x1 : Int) (n2 : Int) : evF (g) an N Tryd.f16 [AV.int IntKind.u32 x1, AV.int IntKind.i64 n2] [] κ =
  κ (AV.int IntKind.u32 (ior IntKind.u32 (ishl IntKind.u32 x1 ((IntKind.u64.wrap n2).tmod 32)) (ishr IntKind.u32 x1 (IntKind.u64.wrap (32 - (IntKind.u64.wrap n2).tmod 32))))) [] := by kernel_rfl
theorem eq {R : Type} (N : Nat) (κ : AV → List Blk → Option R) (x1 : Int) (n2 : Int) : evF (g) an N Tryd.f16 [AV.int IntKind.u32 x1, AV.int IntKind.i64 n2] [] κ =
  m N x1 n2 (fun v => κ (AV.int IntKind.u32 v) []) := by
  rw [tree]
  kernel_rfl
abbrev Ty : Type 1 := ∀ R : Type, Int → Int → (Int → Option R) → Option R
def con (f : Ty) : Con := fun R args bs κ => match args, bs with
  | [AV.int IntKind.u32 x1, AV.int IntKind.i64 n2], [] => f R x1 n2 (fun v => κ (AV.int IntKind.u32 v) [])
  | _, _ => none
theorem con_eq (f : Ty) (R : Type) (κ : AV → List Blk → Option R) (x1 : Int) (n2 : Int) : con f R [AV.int IntKind.u32 x1, AV.int IntKind.i64 n2] [] κ = f R x1 n2 (fun v => κ (AV.int IntKind.u32 v) []) := rfl
noncomputable def M (N : Nat) : Ty := fun R x1 n2 kr0 => m (R := R) N x1 n2 kr0
def gts : List (Nat × AV) := []
theorem gok (_N : Nat) : GOk (g) := giD_ok hm (by intro p hp; cases hp) (gtL_ok (by decide)) (ovL_ok (by intro p hp; cases hp)) 1
theorem ok (N : Nat) : SoundC Tryd.prog (gtL gts) 16 (con (M N)) := by
  refine SoundC.mono (evF_ok (gok N) hm an N Tryd.func16) fun R args bs κ r h => ?_
  unfold con at h
  split at h
  · exact (eq N κ _ _).trans h
  · cases h
end Left


/-! ### Tryd.f17: Right -/
namespace Right
def an : Anns := ⟨fun i => findA i [], fun i => findA i [], false, fun _ => none⟩
noncomputable def g : Gi := giD Tryd.prog (gtL []) (fun _ => an) 0 [] (ovL []) 1
noncomputable def m {R : Type} (_N : Nat) (x1 : Int) (n2 : Int) (kr0 : Int → Option R) : Option R :=
  kr0 (ior IntKind.u32 (ishr IntKind.u32 x1 ((IntKind.u64.wrap n2).tmod 32)) (ishl IntKind.u32 x1 (IntKind.u64.wrap (32 - (IntKind.u64.wrap n2).tmod 32))))
theorem tree {R : Type} (N : Nat) (κ : AV → List Blk → Option R) (x1 : Int) (n2 : Int) : evF (g) an N Tryd.f17 [AV.int IntKind.u32 x1, AV.int IntKind.i64 n2] [] κ =
  κ (AV.int IntKind.u32 (ior IntKind.u32 (ishr IntKind.u32 x1 ((IntKind.u64.wrap n2).tmod 32)) (ishl IntKind.u32 x1 (IntKind.u64.wrap (32 - (IntKind.u64.wrap n2).tmod 32))))) [] := by kernel_rfl
theorem eq {R : Type} (N : Nat) (κ : AV → List Blk → Option R) (x1 : Int) (n2 : Int) : evF (g) an N Tryd.f17 [AV.int IntKind.u32 x1, AV.int IntKind.i64 n2] [] κ =
  m N x1 n2 (fun v => κ (AV.int IntKind.u32 v) []) := by
  rw [tree]
  kernel_rfl
abbrev Ty : Type 1 := ∀ R : Type, Int → Int → (Int → Option R) → Option R
def con (f : Ty) : Con := fun R args bs κ => match args, bs with
  | [AV.int IntKind.u32 x1, AV.int IntKind.i64 n2], [] => f R x1 n2 (fun v => κ (AV.int IntKind.u32 v) [])
  | _, _ => none
theorem con_eq (f : Ty) (R : Type) (κ : AV → List Blk → Option R) (x1 : Int) (n2 : Int) : con f R [AV.int IntKind.u32 x1, AV.int IntKind.i64 n2] [] κ = f R x1 n2 (fun v => κ (AV.int IntKind.u32 v) []) := rfl
noncomputable def M (N : Nat) : Ty := fun R x1 n2 kr0 => m (R := R) N x1 n2 kr0
def gts : List (Nat × AV) := []
theorem gok (_N : Nat) : GOk (g) := giD_ok hm (by intro p hp; cases hp) (gtL_ok (by decide)) (ovL_ok (by intro p hp; cases hp)) 1
theorem ok (N : Nat) : SoundC Tryd.prog (gtL gts) 17 (con (M N)) := by
  refine SoundC.mono (evF_ok (gok N) hm an N Tryd.func17) fun R args bs κ r h => ?_
  unfold con at h
  split at h
  · exact (eq N κ _ _).trans h
  · cases h
end Right


/-! ### Tryd.f19: Right64 -/
namespace Right64
def an : Anns := ⟨fun i => findA i [], fun i => findA i [], false, fun _ => none⟩
noncomputable def g : Gi := giD Tryd.prog (gtL []) (fun _ => an) 0 [] (ovL []) 1
noncomputable def m {R : Type} (_N : Nat) (x1 : Int) (n2 : Int) (kr0 : Int → Option R) : Option R :=
  kr0 (ior IntKind.u64 (ishr IntKind.u64 x1 ((IntKind.u64.wrap n2).tmod 64)) (ishl IntKind.u64 x1 (IntKind.u64.wrap (64 - (IntKind.u64.wrap n2).tmod 64))))
theorem tree {R : Type} (N : Nat) (κ : AV → List Blk → Option R) (x1 : Int) (n2 : Int) : evF (g) an N Tryd.f19 [AV.int IntKind.u64 x1, AV.int IntKind.i64 n2] [] κ =
  κ (AV.int IntKind.u64 (ior IntKind.u64 (ishr IntKind.u64 x1 ((IntKind.u64.wrap n2).tmod 64)) (ishl IntKind.u64 x1 (IntKind.u64.wrap (64 - (IntKind.u64.wrap n2).tmod 64))))) [] := by kernel_rfl
theorem eq {R : Type} (N : Nat) (κ : AV → List Blk → Option R) (x1 : Int) (n2 : Int) : evF (g) an N Tryd.f19 [AV.int IntKind.u64 x1, AV.int IntKind.i64 n2] [] κ =
  m N x1 n2 (fun v => κ (AV.int IntKind.u64 v) []) := by
  rw [tree]
  kernel_rfl
abbrev Ty : Type 1 := ∀ R : Type, Int → Int → (Int → Option R) → Option R
def con (f : Ty) : Con := fun R args bs κ => match args, bs with
  | [AV.int IntKind.u64 x1, AV.int IntKind.i64 n2], [] => f R x1 n2 (fun v => κ (AV.int IntKind.u64 v) [])
  | _, _ => none
theorem con_eq (f : Ty) (R : Type) (κ : AV → List Blk → Option R) (x1 : Int) (n2 : Int) : con f R [AV.int IntKind.u64 x1, AV.int IntKind.i64 n2] [] κ = f R x1 n2 (fun v => κ (AV.int IntKind.u64 v) []) := rfl
noncomputable def M (N : Nat) : Ty := fun R x1 n2 kr0 => m (R := R) N x1 n2 kr0
def gts : List (Nat × AV) := []
theorem gok (_N : Nat) : GOk (g) := giD_ok hm (by intro p hp; cases hp) (gtL_ok (by decide)) (ovL_ok (by intro p hp; cases hp)) 1
theorem ok (N : Nat) : SoundC Tryd.prog (gtL gts) 19 (con (M N)) := by
  refine SoundC.mono (evF_ok (gok N) hm an N Tryd.func19) fun R args bs κ r h => ?_
  unfold con at h
  split at h
  · exact (eq N κ _ _).trans h
  · cases h
end Right64


/-! ### Tryd.f15: Mod -/
namespace Mod
def an : Anns := ⟨fun i => findA i [], fun i => findA i [], false, fun _ => none⟩
noncomputable def g : Gi := giD Tryd.prog (gtL []) (fun _ => an) 0 [] (ovL []) 1
noncomputable def m {R : Type} (_N : Nat) (n1 : Int) (m2 : Int) (kr0 : Int → Option R) : Option R :=
  cond (decide (m2 = 0))
   (none)
   (cond (decide (n1.tmod m2 < 0))
    (kr0 (IntKind.i64.wrap (n1.tmod m2 + m2)))
    (kr0 (n1.tmod m2)))
theorem tree {R : Type} (N : Nat) (κ : AV → List Blk → Option R) (n1 : Int) (m2 : Int) : evF (g) an N Tryd.f15 [AV.int IntKind.i64 n1, AV.int IntKind.i64 m2] [] κ =
  cond (decide (m2 = 0))
   (none)
   (cond (decide (n1.tmod m2 < 0))
    (κ (AV.int IntKind.i64 (IntKind.i64.wrap (n1.tmod m2 + m2))) [])
    (κ (AV.int IntKind.i64 (n1.tmod m2)) [])) := by kernel_rfl
theorem eq {R : Type} (N : Nat) (κ : AV → List Blk → Option R) (n1 : Int) (m2 : Int) : evF (g) an N Tryd.f15 [AV.int IntKind.i64 n1, AV.int IntKind.i64 m2] [] κ =
  m N n1 m2 (fun v => κ (AV.int IntKind.i64 v) []) := by
  rw [tree]
  kernel_rfl
abbrev Ty : Type 1 := ∀ R : Type, Int → Int → (Int → Option R) → Option R
def con (f : Ty) : Con := fun R args bs κ => match args, bs with
  | [AV.int IntKind.i64 n1, AV.int IntKind.i64 m2], [] => f R n1 m2 (fun v => κ (AV.int IntKind.i64 v) [])
  | _, _ => none
theorem con_eq (f : Ty) (R : Type) (κ : AV → List Blk → Option R) (n1 : Int) (m2 : Int) : con f R [AV.int IntKind.i64 n1, AV.int IntKind.i64 m2] [] κ = f R n1 m2 (fun v => κ (AV.int IntKind.i64 v) []) := rfl
noncomputable def M (N : Nat) : Ty := fun R n1 m2 kr0 => m (R := R) N n1 m2 kr0
def gts : List (Nat × AV) := []
theorem gok (_N : Nat) : GOk (g) := giD_ok hm (by intro p hp; cases hp) (gtL_ok (by decide)) (ovL_ok (by intro p hp; cases hp)) 1
theorem ok (N : Nat) : SoundC Tryd.prog (gtL gts) 15 (con (M N)) := by
  refine SoundC.mono (evF_ok (gok N) hm an N Tryd.func15) fun R args bs κ r h => ?_
  unfold con at h
  split at h
  · exact (eq N κ _ _).trans h
  · cases h
end Mod


/-! ### Tryd.f18: Turned -/
namespace Turned
def an : Anns := ⟨fun i => findA i [(3, ⟨[0, 1, 2, 7, 8], [], 0⟩)], fun i => findA i [], false, fun _ => none⟩
noncomputable def g : Gi := giD Tryd.prog (gtL []) (fun _ => an) 0 [] (ovL []) 1
noncomputable def c_L3 : Code := loopOf Tryd.f18 0
def s_L3 (x0 : Int) (width1 : Int) (n2 : Int) (out7 : Int) (i8 : Int) : St := ⟨[AV.int IntKind.u64 x0, AV.int IntKind.i64 width1, AV.int IntKind.i64 n2] ++ List.replicate 4 .dead ++ [AV.int IntKind.u64 out7, AV.int IntKind.i64 i8] ++ List.replicate 21 .dead, []⟩
def x_L3_0 (x0 : Int) (width1 : Int) (n2 : Int) (out7 : Int) (i8 : Int) : St := ⟨[AV.int IntKind.u64 x0, AV.int IntKind.i64 width1, AV.int IntKind.i64 n2] ++ List.replicate 4 .dead ++ [AV.int IntKind.u64 out7, AV.int IntKind.i64 i8, AV.int IntKind.i64 i8, AV.int IntKind.i64 width1, AV.bool (decide (i8 < width1))] ++ List.replicate 18 .dead, []⟩
noncomputable def L3 {R : Type} (N : Nat) (ke0 : Int → Int → Int → Int → Int → Option R) : Nat → Int → Int → Int → Int → Int → Option R
  | 0, _, _, _, _, _ => none
  | m + 1, x0, width1, n2, out7, i8 =>
    cond (decide (i8 < width1))
     (cond (iand IntKind.u64 (ishr IntKind.u64 x0 (IntKind.u64.wrap i8)) 1 == 1)
      (cond (decide (width1 = 0))
       (none)
       (L3 N ke0 m x0 width1 n2 (IntKind.u64.wrap (out7 + ishl IntKind.u64 1 (IntKind.u64.wrap ((IntKind.i64.wrap (i8 + n2)).tmod width1)))) (IntKind.i64.wrap (i8 + 1))))
      (L3 N ke0 m x0 width1 n2 out7 (IntKind.i64.wrap (i8 + 1))))
     (ke0 x0 width1 n2 out7 i8)
theorem round_L3 {R : Type} (N : Nat) (Rn : St → Option R) (k : K R) (x0 : Int) (width1 : Int) (n2 : Int) (out7 : Int) (i8 : Int) : evC (g) an 0 N c_L3 none (roundK (nmOf 0 (an.loop 3)) Rn k) (s_L3 x0 width1 n2 out7 i8) =
  cond (decide (i8 < width1))
   (cond (iand IntKind.u64 (ishr IntKind.u64 x0 (IntKind.u64.wrap i8)) 1 == 1)
    (cond (decide (width1 = 0))
     (none)
     (Rn (s_L3 x0 width1 n2 (IntKind.u64.wrap (out7 + ishl IntKind.u64 1 (IntKind.u64.wrap ((IntKind.i64.wrap (i8 + n2)).tmod width1)))) (IntKind.i64.wrap (i8 + 1)))))
    (Rn (s_L3 x0 width1 n2 out7 (IntKind.i64.wrap (i8 + 1)))))
   (k.ext 0 (x_L3_0 x0 width1 n2 out7 i8)) := by kernel_rfl
theorem run_L3 {R : Type} (N : Nat) (k : K R) : ∀ (m : Nat) (x0 : Int) (width1 : Int) (n2 : Int) (out7 : Int) (i8 : Int), loopN (evC (g) an 0 N c_L3 none) k (nmOf 0 (an.loop 3)) m (s_L3 x0 width1 n2 out7 i8) =
    L3 N (fun x0 width1 n2 out7 i8 => (k).ext 0 (x_L3_0 x0 width1 n2 out7 i8)) m x0 width1 n2 out7 i8 := by
  intro m
  induction m with
  | zero => intros; rfl
  | succ m ih =>
    intros
    rw [loopN_succ, round_L3]
    simp only [ih]
    kernel_rfl
noncomputable def m {R : Type} (N : Nat) (x1 : Int) (width2 : Int) (n3 : Int) (kr0 : Int → Option R) : Option R :=
  L3 N
   (fun _x0_c5 _width1_c6 _n2_c7 out7_c8 _i8_c9 => kr0 out7_c8) N x1 width2 n3 0 0
theorem tree {R : Type} (N : Nat) (κ : AV → List Blk → Option R) (x1 : Int) (width2 : Int) (n3 : Int) : evF (g) an N Tryd.f18 [AV.int IntKind.u64 x1, AV.int IntKind.i64 width2, AV.int IntKind.i64 n3] [] κ =
  loopN (evC (g) an 0 N c_L3 none) (ctx (g) an 0 N (bodyOf Tryd.f18) [1, 1, 0, 1, 0] (endK (g) an Tryd.f18 [] κ)) (nmOf 0 (an.loop 3)) N (s_L3 x1 width2 n3 0 0) := by kernel_rfl
theorem eq {R : Type} (N : Nat) (κ : AV → List Blk → Option R) (x1 : Int) (width2 : Int) (n3 : Int) : evF (g) an N Tryd.f18 [AV.int IntKind.u64 x1, AV.int IntKind.i64 width2, AV.int IntKind.i64 n3] [] κ =
  m N x1 width2 n3 (fun v => κ (AV.int IntKind.u64 v) []) := by
  rw [tree]
  simp only [run_L3]
  kernel_rfl
abbrev Ty : Type 1 := ∀ R : Type, Int → Int → Int → (Int → Option R) → Option R
def con (f : Ty) : Con := fun R args bs κ => match args, bs with
  | [AV.int IntKind.u64 x1, AV.int IntKind.i64 width2, AV.int IntKind.i64 n3], [] => f R x1 width2 n3 (fun v => κ (AV.int IntKind.u64 v) [])
  | _, _ => none
theorem con_eq (f : Ty) (R : Type) (κ : AV → List Blk → Option R) (x1 : Int) (width2 : Int) (n3 : Int) : con f R [AV.int IntKind.u64 x1, AV.int IntKind.i64 width2, AV.int IntKind.i64 n3] [] κ = f R x1 width2 n3 (fun v => κ (AV.int IntKind.u64 v) []) := rfl
noncomputable def M (N : Nat) : Ty := fun R x1 width2 n3 kr0 => m (R := R) N x1 width2 n3 kr0
def gts : List (Nat × AV) := []
theorem gok (_N : Nat) : GOk (g) := giD_ok hm (by intro p hp; cases hp) (gtL_ok (by decide)) (ovL_ok (by intro p hp; cases hp)) 1
theorem ok (N : Nat) : SoundC Tryd.prog (gtL gts) 18 (con (M N)) := by
  refine SoundC.mono (evF_ok (gok N) hm an N Tryd.func18) fun R args bs κ r h => ?_
  unfold con at h
  split at h
  · exact (eq N κ _ _ _).trans h
  · cases h
end Turned


/-! ### Tryd.f31: Big -/
namespace Big
def an : Anns := ⟨fun i => findA i [(5, ⟨[4, 11, 12, 13], [], 0⟩)], fun i => findA i [], false, fun _ => none⟩
noncomputable def g : Gi := giD Tryd.prog (gtL [(3, .err 3)]) (fun _ => an) 0 [] (ovL []) 1
noncomputable def c_L5 : Code := loopOf Tryd.f31 0
def s_L5 (x4 : Int) (t11 : Option Bool) (t11_2 : List Int) (t12 : Int) (t13 : Int) : St := ⟨List.replicate 4 .dead ++ [AV.int IntKind.u64 x4] ++ List.replicate 6 .dead ++ [AV.isl IntKind.u8 t11 t11_2, AV.int IntKind.i64 t12, AV.int IntKind.i64 t13] ++ List.replicate 10 .dead, []⟩
def x_L5_0 (x4 : Int) (t11 : Option Bool) (t11_2 : List Int) (t12 : Int) (t13 : Int) : St := ⟨List.replicate 4 .dead ++ [AV.int IntKind.u64 x4] ++ List.replicate 6 .dead ++ [AV.isl IntKind.u8 t11 t11_2, AV.int IntKind.i64 t12, AV.int IntKind.i64 t13, AV.bool (decide (t13 < t12))] ++ List.replicate 9 .dead, []⟩
noncomputable def L5 {R : Type} (N : Nat) (ke0 : Int → (Option Bool) → (List Int) → Int → Int → Option R) : Nat → Int → (Option Bool) → (List Int) → Int → Int → Option R
  | 0, _, _, _, _, _ => none
  | m + 1, x4, t11, t11_2, t12, t13 =>
    cond (decide (t13 < t12))
     (cond (decide (0 ≤ t13))
      (cond (decide (t13 < (↑t11_2.length : Int)))
       (L5 N ke0 m (ior IntKind.u64 (ishl IntKind.u64 x4 8) (IntKind.u64.wrap (t11_2.getD t13.toNat 0))) t11 t11_2 t12 (IntKind.i64.wrap (t13 + 1)))
       (none))
      (none))
     (ke0 x4 t11 t11_2 t12 t13)
theorem round_L5 {R : Type} (N : Nat) (Rn : St → Option R) (k : K R) (x4 : Int) (t11 : Option Bool) (t11_2 : List Int) (t12 : Int) (t13 : Int) : evC (g) an 0 N c_L5 none (roundK (nmOf 0 (an.loop 5)) Rn k) (s_L5 x4 t11 t11_2 t12 t13) =
  cond (decide (t13 < t12))
   (cond (decide (0 ≤ t13))
    (cond (decide (t13 < (↑t11_2.length : Int)))
     (Rn (s_L5 (ior IntKind.u64 (ishl IntKind.u64 x4 8) (IntKind.u64.wrap (t11_2.getD t13.toNat 0))) t11 t11_2 t12 (IntKind.i64.wrap (t13 + 1))))
     (none))
    (none))
   (k.ext 0 (x_L5_0 x4 t11 t11_2 t12 t13)) := by kernel_rfl
theorem run_L5 {R : Type} (N : Nat) (k : K R) : ∀ (m : Nat) (x4 : Int) (t11 : Option Bool) (t11_2 : List Int) (t12 : Int) (t13 : Int), loopN (evC (g) an 0 N c_L5 none) k (nmOf 0 (an.loop 5)) m (s_L5 x4 t11 t11_2 t12 t13) =
    L5 N (fun x4 t11 t11_2 t12 t13 => (k).ext 0 (x_L5_0 x4 t11 t11_2 t12 t13)) m x4 t11 t11_2 t12 t13 := by
  intro m
  induction m with
  | zero => intros; rfl
  | succ m ih =>
    intros
    rw [loopN_succ, round_L5]
    simp only [ih]
    kernel_rfl
noncomputable def m {R : Type} (N : Nat) (bN1 : Option Bool) (b2 : List Int) (kr0 : Int → Nat → Option R) : Option R :=
  cond (decide ((↑b2.length : Int) > 8))
   (kr0 0 3)
   (L5 N
    (fun x4_c5 _t11_c6 _t11_2_c7 _t12_c8 _t13_c9 => kr0 x4_c5 0) N 0 bN1 b2 ((↑b2.length : Int)) 0)
theorem tree {R : Type} (N : Nat) (κ : AV → List Blk → Option R) (bN1 : Option Bool) (b2 : List Int) : evF (g) an N Tryd.f31 [AV.isl IntKind.u8 bN1 b2] [] κ =
  cond (decide ((↑b2.length : Int) > 8))
   (κ (AV.tup [AV.int IntKind.u64 0, AV.err 3]) [])
   (loopN (evC (g) an 0 N c_L5 none) (ctx (g) an 0 N (bodyOf Tryd.f31) [1, 1, 1, 0, 1, 0] (endK (g) an Tryd.f31 [] κ)) (nmOf 0 (an.loop 5)) N (s_L5 0 bN1 b2 ((↑b2.length : Int)) 0)) := by kernel_rfl
theorem eq {R : Type} (N : Nat) (κ : AV → List Blk → Option R) (bN1 : Option Bool) (b2 : List Int) : evF (g) an N Tryd.f31 [AV.isl IntKind.u8 bN1 b2] [] κ =
  m N bN1 b2 (fun v v_1 => κ (AV.tup [AV.int IntKind.u64 v, AV.err v_1]) []) := by
  rw [tree]
  simp only [run_L5]
  kernel_rfl
abbrev Ty : Type 1 := ∀ R : Type, (Option Bool) → (List Int) → (Int → Nat → Option R) → Option R
def con (f : Ty) : Con := fun R args bs κ => match args, bs with
  | [AV.isl IntKind.u8 bN1 b2], [] => f R bN1 b2 (fun v v_1 => κ (AV.tup [AV.int IntKind.u64 v, AV.err v_1]) [])
  | _, _ => none
theorem con_eq (f : Ty) (R : Type) (κ : AV → List Blk → Option R) (bN1 : Option Bool) (b2 : List Int) : con f R [AV.isl IntKind.u8 bN1 b2] [] κ = f R bN1 b2 (fun v v_1 => κ (AV.tup [AV.int IntKind.u64 v, AV.err v_1]) []) := rfl
noncomputable def M (N : Nat) : Ty := fun R bN1 b2 kr0 => m (R := R) N bN1 b2 kr0
def gts : List (Nat × AV) := [(3, .err 3)]
theorem gok (_N : Nat) : GOk (g) := giD_ok hm (by intro p hp; cases hp) (gtL_ok (by decide)) (ovL_ok (by intro p hp; cases hp)) 1
theorem ok (N : Nat) : SoundC Tryd.prog (gtL gts) 31 (con (M N)) := by
  refine SoundC.mono (evF_ok (gok N) hm an N Tryd.func31) fun R args bs κ r h => ?_
  unfold con at h
  split at h
  · exact (eq N κ _ _).trans h
  · cases h
end Big


/-! ### Tryd.f13: alive01 -/
namespace alive01
def an : Anns := ⟨fun i => findA i [], fun i => findA i [], false, fun _ => none⟩
noncomputable def g (mBig : Big.Ty) (mLeft : Left.Ty) : Gi := giD Tryd.prog (gtL [(3, .err 3)]) (fun _ => an) 0 [] (ovL [(31, Big.con mBig), (16, Left.con mLeft)]) 1
noncomputable def m (mBig : Big.Ty) (mLeft : Left.Ty) {R : Type} (_N : Nat) (kr0 : Bool → Option R) : Option R :=
  mBig R none ([1, 2])
   (fun v_c3 v_1_c4 => mLeft R 2147483648 1
    (fun v_c5 => cond (v_c5 == 1)
     (cond (v_1_c4.beq 0)
      (kr0 (v_c3 == 258))
      (kr0 false))
     (kr0 false)))
theorem tree (mBig : Big.Ty) (mLeft : Left.Ty) {R : Type} (N : Nat) (κ : AV → List Blk → Option R) : evF (g mBig mLeft) an N Tryd.f13 [] [] κ =
  mBig R none ([1, 2])
   (fun v_c3 v_1_c4 => mLeft R 2147483648 1
    (fun v_c5 => cond (v_c5 == 1)
     (cond (v_1_c4.beq 0)
      (κ (AV.bool (v_c3 == 258)) [])
      (κ (AV.bool false) []))
     (κ (AV.bool false) []))) := by kernel_rfl
theorem eq (mBig : Big.Ty) (mLeft : Left.Ty) {R : Type} (N : Nat) (κ : AV → List Blk → Option R) : evF (g mBig mLeft) an N Tryd.f13 [] [] κ =
  m mBig mLeft N (fun v => κ (AV.bool v) []) := by
  rw [tree]
  kernel_rfl
abbrev Ty : Type 1 := ∀ R : Type, (Bool → Option R) → Option R
def con (f : Ty) : Con := fun R args bs κ => match args, bs with
  | [], [] => f R (fun v => κ (AV.bool v) [])
  | _, _ => none
theorem con_eq (f : Ty) (R : Type) (κ : AV → List Blk → Option R) : con f R [] [] κ = f R (fun v => κ (AV.bool v) []) := rfl
noncomputable def M (N : Nat) : Ty := fun R kr0 => m (Big.M N) (Left.M N) (R := R) N kr0
def gts : List (Nat × AV) := [(3, .err 3)]
theorem gok (N : Nat) : GOk (g (Big.M N) (Left.M N)) := giD_ok hm (by intro p hp; cases hp) (gtL_ok (by decide)) (ovL_ok (by
    intro p hp
    simp only [List.mem_cons, List.not_mem_nil, or_false] at hp
    rcases hp with rfl | rfl
    · exact ⟨(Big.ok N).gt (gtL_sub (by repeat (first | exact subG_nil _ | refine subG_cons (by kernel_rfl) ?_))) (gtL_ok (by decide)), _, Tryd.func31, by kernel_rfl, by kernel_rfl⟩
    · exact ⟨(Left.ok N).gt (gtL_sub (by repeat (first | exact subG_nil _ | refine subG_cons (by kernel_rfl) ?_))) (gtL_ok (by decide)), _, Tryd.func16, by kernel_rfl, by kernel_rfl⟩
)) 1
theorem ok (N : Nat) : SoundC Tryd.prog (gtL gts) 13 (con (M N)) := by
  refine SoundC.mono (evF_ok (gok N) hm an N Tryd.func13) fun R args bs κ r h => ?_
  unfold con at h
  split at h
  · exact (eq (Big.M N) (Left.M N) N κ).trans h
  · cases h
end alive01


/-! ### Tryd.f4: WordsTurns -/
namespace WordsTurns
def an : Anns := ⟨fun i => findA i [], fun i => findA i [], false, fun _ => none⟩
noncomputable def g (malive01 : alive01.Ty) (mMod : Mod.Ty) (mLeft : Left.Ty) (mRight : Right.Ty) (mTurned : Turned.Ty) (mRight64 : Right64.Ty) : Gi := giD Tryd.prog (gtL [(3, .err 3)]) (fun _ => an) 0 [] (ovL [(13, alive01.con malive01), (15, Mod.con mMod), (16, Left.con mLeft), (17, Right.con mRight), (18, Turned.con mTurned), (19, Right64.con mRight64)]) 1
noncomputable def m (malive01 : alive01.Ty) (mMod : Mod.Ty) (mLeft : Left.Ty) (mRight : Right.Ty) (mTurned : Turned.Ty) (mRight64 : Right64.Ty) {R : Type} (_N : Nat) (x1 : Int) (y2 : Int) (n3 : Int) (kr0 : Bool → Option R) : Option R :=
  malive01 R
   (fun v_c12 => cond (!v_c12)
    (kr0 false)
    (mMod R n3 32
     (fun v_c13 => mMod R n3 64
      (fun v_c14 => mLeft R x1 n3
       (fun v_c15 => mRight R x1 n3
        (fun v_c16 => mTurned R (IntKind.u64.wrap x1) 32 v_c13
         (fun v_c17 => cond (IntKind.u64.wrap v_c15 != v_c17)
          (kr0 false)
          (mTurned R (IntKind.u64.wrap x1) 32 (IntKind.i64.wrap (32 - v_c13))
           (fun v_c18 => cond (IntKind.u64.wrap v_c16 != v_c18)
            (kr0 false)
            (mRight64 R y2 n3
             (fun v_c19 => mTurned R y2 64 (IntKind.i64.wrap (64 - v_c14))
              (fun v_c20 => cond (v_c19 != v_c20)
               (kr0 false)
               (mRight R v_c15 n3
                (fun v_c21 => cond (v_c21 == x1)
                 (mLeft R v_c16 n3
                  (fun v_c22 => kr0 (v_c22 == x1)))
                 (kr0 false)))))))))))))))
theorem tree (malive01 : alive01.Ty) (mMod : Mod.Ty) (mLeft : Left.Ty) (mRight : Right.Ty) (mTurned : Turned.Ty) (mRight64 : Right64.Ty) {R : Type} (N : Nat) (κ : AV → List Blk → Option R) (x1 : Int) (y2 : Int) (n3 : Int) : evF (g malive01 mMod mLeft mRight mTurned mRight64) an N Tryd.f4 [AV.int IntKind.u32 x1, AV.int IntKind.u64 y2, AV.int IntKind.i64 n3] [] κ =
  malive01 R
   (fun v_c12 => cond (!v_c12)
    (κ (AV.bool false) [])
    (mMod R n3 32
     (fun v_c13 => mMod R n3 64
      (fun v_c14 => mLeft R x1 n3
       (fun v_c15 => mRight R x1 n3
        (fun v_c16 => mTurned R (IntKind.u64.wrap x1) 32 v_c13
         (fun v_c17 => cond (IntKind.u64.wrap v_c15 != v_c17)
          (κ (AV.bool false) [])
          (mTurned R (IntKind.u64.wrap x1) 32 (IntKind.i64.wrap (32 - v_c13))
           (fun v_c18 => cond (IntKind.u64.wrap v_c16 != v_c18)
            (κ (AV.bool false) [])
            (mRight64 R y2 n3
             (fun v_c19 => mTurned R y2 64 (IntKind.i64.wrap (64 - v_c14))
              (fun v_c20 => cond (v_c19 != v_c20)
               (κ (AV.bool false) [])
               (mRight R v_c15 n3
                (fun v_c21 => cond (v_c21 == x1)
                 (mLeft R v_c16 n3
                  (fun v_c22 => κ (AV.bool (v_c22 == x1)) []))
                 (κ (AV.bool false) []))))))))))))))) := by kernel_rfl
theorem eq (malive01 : alive01.Ty) (mMod : Mod.Ty) (mLeft : Left.Ty) (mRight : Right.Ty) (mTurned : Turned.Ty) (mRight64 : Right64.Ty) {R : Type} (N : Nat) (κ : AV → List Blk → Option R) (x1 : Int) (y2 : Int) (n3 : Int) : evF (g malive01 mMod mLeft mRight mTurned mRight64) an N Tryd.f4 [AV.int IntKind.u32 x1, AV.int IntKind.u64 y2, AV.int IntKind.i64 n3] [] κ =
  m malive01 mMod mLeft mRight mTurned mRight64 N x1 y2 n3 (fun v => κ (AV.bool v) []) := by
  rw [tree]
  kernel_rfl
abbrev Ty : Type 1 := ∀ R : Type, Int → Int → Int → (Bool → Option R) → Option R
def con (f : Ty) : Con := fun R args bs κ => match args, bs with
  | [AV.int IntKind.u32 x1, AV.int IntKind.u64 y2, AV.int IntKind.i64 n3], [] => f R x1 y2 n3 (fun v => κ (AV.bool v) [])
  | _, _ => none
theorem con_eq (f : Ty) (R : Type) (κ : AV → List Blk → Option R) (x1 : Int) (y2 : Int) (n3 : Int) : con f R [AV.int IntKind.u32 x1, AV.int IntKind.u64 y2, AV.int IntKind.i64 n3] [] κ = f R x1 y2 n3 (fun v => κ (AV.bool v) []) := rfl
noncomputable def M (N : Nat) : Ty := fun R x1 y2 n3 kr0 => m (alive01.M N) (Mod.M N) (Left.M N) (Right.M N) (Turned.M N) (Right64.M N) (R := R) N x1 y2 n3 kr0
def gts : List (Nat × AV) := [(3, .err 3)]
theorem gok (N : Nat) : GOk (g (alive01.M N) (Mod.M N) (Left.M N) (Right.M N) (Turned.M N) (Right64.M N)) := giD_ok hm (by intro p hp; cases hp) (gtL_ok (by decide)) (ovL_ok (by
    intro p hp
    simp only [List.mem_cons, List.not_mem_nil, or_false] at hp
    rcases hp with rfl | rfl | rfl | rfl | rfl | rfl
    · exact ⟨(alive01.ok N).gt (gtL_sub (by repeat (first | exact subG_nil _ | refine subG_cons (by kernel_rfl) ?_))) (gtL_ok (by decide)), _, Tryd.func13, by kernel_rfl, by kernel_rfl⟩
    · exact ⟨(Mod.ok N).gt (gtL_sub (by repeat (first | exact subG_nil _ | refine subG_cons (by kernel_rfl) ?_))) (gtL_ok (by decide)), _, Tryd.func15, by kernel_rfl, by kernel_rfl⟩
    · exact ⟨(Left.ok N).gt (gtL_sub (by repeat (first | exact subG_nil _ | refine subG_cons (by kernel_rfl) ?_))) (gtL_ok (by decide)), _, Tryd.func16, by kernel_rfl, by kernel_rfl⟩
    · exact ⟨(Right.ok N).gt (gtL_sub (by repeat (first | exact subG_nil _ | refine subG_cons (by kernel_rfl) ?_))) (gtL_ok (by decide)), _, Tryd.func17, by kernel_rfl, by kernel_rfl⟩
    · exact ⟨(Turned.ok N).gt (gtL_sub (by repeat (first | exact subG_nil _ | refine subG_cons (by kernel_rfl) ?_))) (gtL_ok (by decide)), _, Tryd.func18, by kernel_rfl, by kernel_rfl⟩
    · exact ⟨(Right64.ok N).gt (gtL_sub (by repeat (first | exact subG_nil _ | refine subG_cons (by kernel_rfl) ?_))) (gtL_ok (by decide)), _, Tryd.func19, by kernel_rfl, by kernel_rfl⟩
)) 1
theorem ok (N : Nat) : SoundC Tryd.prog (gtL gts) 4 (con (M N)) := by
  refine SoundC.mono (evF_ok (gok N) hm an N Tryd.func4) fun R args bs κ r h => ?_
  unfold con at h
  split at h
  · exact (eq (alive01.M N) (Mod.M N) (Left.M N) (Right.M N) (Turned.M N) (Right64.M N) N κ _ _ _).trans h
  · cases h
end WordsTurns

end Go.Proofs.YtllnbcibleeogaaDoor.fn
