/- What the digests' references compute, with the proof; printed by a program. -/
import Derived.Test.YthajoenmfppenaaDoorProg
import Derived.Test.YthajoenmfppenaaDoorEv4
import Derived.Test.YthajoenmfppenaaDoorFnWords
namespace Go.Proofs.YthajoenmfppenaaDoor.fn
open Go Go.Proofs Go.Ev

/-! ### Tryd.f89: rconstants -/
namespace rconstants
def an : Anns := ⟨fun i => findA i [], fun i => findA i [], false, fun _ => none, []⟩
noncomputable def g : Gi := giD Tryd.prog (gtL []) (fun _ => an) 0 [] (ovL []) 1
noncomputable def m {R : Type} (_N : Nat) (kr0 : Option R) : Option R :=
  kr0
theorem tree {R : Type} (N : Nat) (κ : AV → List Blk → Option R) : evF g an N Tryd.f89 [] [] κ =
  κ (AV.isl IntKind.u32 none K256) [] := by kernel_rfl
theorem eq {R : Type} (N : Nat) (κ : AV → List Blk → Option R) : evF g an N Tryd.f89 [] [] κ =
  m N (κ (AV.isl IntKind.u32 none K256) []) := by
  rw [tree]
  kernel_rfl
abbrev Ty : Type 1 := ∀ R : Type, Option R → Option R
def con (f : Ty) : Con := fun R args bs κ => match args, bs with
  | [], [] => f R (κ (AV.isl IntKind.u32 none K256) [])
  | _, _ => none
theorem con_eq (f : Ty) (R : Type) (κ : AV → List Blk → Option R) : con f R [] [] κ = f R (κ (AV.isl IntKind.u32 none K256) []) := rfl
noncomputable def M (N : Nat) : Ty := fun R kr0 => m (R := R) N kr0
def gts : List (Nat × AV) := []
theorem gok (_N : Nat) : GOk g := giD_ok hm (by intro p hp; cases hp) (gtL_ok (by decide)) (ovL_ok (by intro p hp; cases hp)) 1
theorem ok (N : Nat) : SoundC Tryd.prog (gtL gts) 89 (con (M N)) := by
  refine SoundC.mono (evF_ok (gok N) hm an N Tryd.func89) fun R args bs κ r h => ?_
  unfold con at h
  split at h
  · exact (eq N κ).trans h
  · cases h
end rconstants


/-! ### Tryd.f91: rturn -/
namespace rturn
def an : Anns := ⟨fun i => findA i [], fun i => findA i [], false, fun _ => none, []⟩
noncomputable def g : Gi := giD Tryd.prog (gtL []) (fun _ => an) 0 [] (ovL []) 1
noncomputable def m {R : Type} (_N : Nat) (x1 : Int) (n2 : Int) (kr0 : Int → Option R) : Option R :=
  kr0 (ior IntKind.u32 (ishr IntKind.u32 x1 n2) (ishl IntKind.u32 x1 (IntKind.u64.wrap (32 - n2))))
theorem tree {R : Type} (N : Nat) (κ : AV → List Blk → Option R) (x1 : Int) (n2 : Int) : evF g an N Tryd.f91 [AV.int IntKind.u32 x1, AV.int IntKind.u64 n2] [] κ =
  κ (AV.int IntKind.u32 (ior IntKind.u32 (ishr IntKind.u32 x1 n2) (ishl IntKind.u32 x1 (IntKind.u64.wrap (32 - n2))))) [] := by kernel_rfl
theorem eq {R : Type} (N : Nat) (κ : AV → List Blk → Option R) (x1 : Int) (n2 : Int) : evF g an N Tryd.f91 [AV.int IntKind.u32 x1, AV.int IntKind.u64 n2] [] κ =
  m N x1 n2 (fun v => κ (AV.int IntKind.u32 v) []) := by
  rw [tree]
  kernel_rfl
abbrev Ty : Type 1 := ∀ R : Type, Int → Int → (Int → Option R) → Option R
def con (f : Ty) : Con := fun R args bs κ => match args, bs with
  | [AV.int IntKind.u32 x1, AV.int IntKind.u64 n2], [] => f R x1 n2 (fun v => κ (AV.int IntKind.u32 v) [])
  | _, _ => none
theorem con_eq (f : Ty) (R : Type) (κ : AV → List Blk → Option R) (x1 : Int) (n2 : Int) : con f R [AV.int IntKind.u32 x1, AV.int IntKind.u64 n2] [] κ = f R x1 n2 (fun v => κ (AV.int IntKind.u32 v) []) := rfl
noncomputable def M (N : Nat) : Ty := fun R x1 n2 kr0 => m (R := R) N x1 n2 kr0
def gts : List (Nat × AV) := []
theorem gok (_N : Nat) : GOk g := giD_ok hm (by intro p hp; cases hp) (gtL_ok (by decide)) (ovL_ok (by intro p hp; cases hp)) 1
theorem ok (N : Nat) : SoundC Tryd.prog (gtL gts) 91 (con (M N)) := by
  refine SoundC.mono (evF_ok (gok N) hm an N Tryd.func91) fun R args bs κ r h => ?_
  unfold con at h
  split at h
  · exact (eq N κ _ _).trans h
  · cases h
end rturn


/-! ### Tryd.f90: Padded -/
namespace Padded
def an : Anns := ⟨fun i => findA i [(2, ⟨[0, 3], [⟨3, 0, T.int IntKind.u8, none⟩], 1, []⟩), (6, ⟨[3, 4, 5], [⟨3, 0, T.int IntKind.u8, none⟩], 1, []⟩)], fun i => findA i [], true, fun _ => none, []⟩
noncomputable def g : Gi := giD Tryd.prog (gtL []) (fun _ => an) 0 [] (ovL []) 1
noncomputable def c_L2 : Code := loopOf Tryd.f90 0
noncomputable def c_L6 : Code := loopOf Tryd.f90 1
def s_L2 (b0 : Option Bool) (b0_1 : List Int) (h0 : List Int) : St := ⟨[AV.isl IntKind.u8 b0 b0_1, AV.dead, AV.dead, AV.own 0 [] 0 none] ++ List.replicate 32 .dead, [Blk.row IntKind.u8 false h0]⟩
def s_L6 (n4 : Int) (i5 : Int) (h0v1 : List Int) : St := ⟨[AV.dead, AV.dead, AV.dead, AV.own 0 [] 0 none, AV.int IntKind.u64 n4, AV.int IntKind.i64 i5] ++ List.replicate 30 .dead, [Blk.row IntKind.u8 false h0v1]⟩
def x_L2_0 (b0 : Option Bool) (b0_1 : List Int) (h0 : List Int) : St := ⟨[AV.isl IntKind.u8 b0 b0_1, AV.dead, AV.dead, AV.own 0 [] 0 none] ++ List.replicate 7 .dead ++ [AV.own 0 [] 0 none, AV.int IntKind.i64 (↑(olen none h0.length 0) : Int), AV.int IntKind.i64 ((↑(olen none h0.length 0) : Int).tmod 64), AV.bool ((↑(olen none h0.length 0) : Int).tmod 64 != 56)] ++ List.replicate 21 .dead, [Blk.row IntKind.u8 false h0]⟩
def x_L6_0 (n4 : Int) (i5 : Int) (h0v1 : List Int) : St := ⟨[AV.dead, AV.dead, AV.dead, AV.own 0 [] 0 none, AV.int IntKind.u64 n4, AV.int IntKind.i64 i5] ++ List.replicate 16 .dead ++ [AV.int IntKind.i64 i5, AV.bool (decide (i5 ≥ 0))] ++ List.replicate 12 .dead, [Blk.row IntKind.u8 false h0v1]⟩
noncomputable def L2 {R : Type} (N : Nat) (ke0 : (Option Bool) → (List Int) → (List Int) → Option R) : Nat → (Option Bool) → (List Int) → (List Int) → Option R
  | 0, _, _, _ => none
  | m + 1, b0, b0_1, h0 =>
    cond ((↑(olen none h0.length 0) : Int).tmod 64 != 56)
     (cond (decide ((h0.length + 1) * 1 ≤ 140737488355328))
      (cond (decide (h0.length + 1 ≤ 140737488355328))
       (L2 N ke0 m b0 b0_1 (h0 ++ [0]))
       none)
      none)
     (ke0 b0 b0_1 h0)
theorem round_L2 {R : Type} (N : Nat) (Rn : St → Option R) (k : K R) (b0 : Option Bool) (b0_1 : List Int) (h0 : List Int) : evC g an 0 N c_L2 none (roundK (nmOf 0 (an.loop 2)) Rn k) (s_L2 b0 b0_1 h0) =
  cond ((↑(olen none h0.length 0) : Int).tmod 64 != 56)
   (cond (decide ((h0.length + 1) * 1 ≤ 140737488355328))
    (cond (decide (h0.length + 1 ≤ 140737488355328))
     (Rn (s_L2 b0 b0_1 (h0 ++ [0])))
     none)
    none)
   (k.ext 0 (x_L2_0 b0 b0_1 h0)) := by kernel_rfl
theorem run_L2 {R : Type} (N : Nat) (k : K R) : ∀ (m : Nat) (b0 : Option Bool) (b0_1 : List Int) (h0 : List Int), loopN (evC g an 0 N c_L2 none) k (nmOf 0 (an.loop 2)) m (s_L2 b0 b0_1 h0) =
    L2 N (fun b0 b0_1 h0 => (k).ext 0 (x_L2_0 b0 b0_1 h0)) m b0 b0_1 h0 := by
  intro m
  induction m with
  | zero => intros; rfl
  | succ m ih =>
    intros
    rw [loopN_succ, round_L2]
    simp only [ih]
    kernel_rfl
noncomputable def L6 {R : Type} (N : Nat) (ke0 : Int → Int → (List Int) → Option R) : Nat → Int → Int → (List Int) → Option R
  | 0, _, _, _ => none
  | m + 1, n4, i5, h0v1 =>
    cond (decide (i5 ≥ 0))
     (cond (decide ((h0v1.length + 1) * 1 ≤ 140737488355328))
      (cond (decide (h0v1.length + 1 ≤ 140737488355328))
       (L6 N ke0 m n4 (IntKind.i64.wrap (i5 - 1)) (h0v1 ++ [IntKind.u8.wrap (ishr IntKind.u64 n4 (IntKind.u64.wrap (IntKind.i64.wrap (8 * i5))))]))
       none)
      none)
     (ke0 n4 i5 h0v1)
theorem round_L6 {R : Type} (N : Nat) (Rn : St → Option R) (k : K R) (n4 : Int) (i5 : Int) (h0v1 : List Int) : evC g an 0 N c_L6 none (roundK (nmOf 0 (an.loop 6)) Rn k) (s_L6 n4 i5 h0v1) =
  cond (decide (i5 ≥ 0))
   (cond (decide ((h0v1.length + 1) * 1 ≤ 140737488355328))
    (cond (decide (h0v1.length + 1 ≤ 140737488355328))
     (Rn (s_L6 n4 (IntKind.i64.wrap (i5 - 1)) (h0v1 ++ [IntKind.u8.wrap (ishr IntKind.u64 n4 (IntKind.u64.wrap (IntKind.i64.wrap (8 * i5))))])))
     none)
    none)
   (k.ext 2 (x_L6_0 n4 i5 h0v1)) := by kernel_rfl
theorem run_L6 {R : Type} (N : Nat) (k : K R) : ∀ (m : Nat) (n4 : Int) (i5 : Int) (h0v1 : List Int), loopN (evC g an 0 N c_L6 none) k (nmOf 0 (an.loop 6)) m (s_L6 n4 i5 h0v1) =
    L6 N (fun n4 i5 h0v1 => (k).ext 2 (x_L6_0 n4 i5 h0v1)) m n4 i5 h0v1 := by
  intro m
  induction m with
  | zero => intros; rfl
  | succ m ih =>
    intros
    rw [loopN_succ, round_L6]
    simp only [ih]
    kernel_rfl
noncomputable def m {R : Type} (N : Nat) (bN1 : Option Bool) (b2 : List Int) (kr0 : (List Int) → Option R) : Option R :=
  cond (decide ((0 + b2.length) * 1 ≤ 140737488355328))
   (cond (decide (0 + b2.length ≤ 140737488355328))
    (cond (decide ((b2.length + 1) * 1 ≤ 140737488355328))
     (cond (decide (b2.length + 1 ≤ 140737488355328))
      (L2 N
       (fun _b0_c9 b0_1_c10 h0_c11 => L6 N
        (fun _n4_c12 _i5_c13 h0_c14 => kr0 h0_c14) N (IntKind.u64.wrap (IntKind.u64.wrap (↑b0_1_c10.length : Int) * 8)) 7 h0_c11) N bN1 b2 (b2 ++ [128]))
      none)
     none)
    none)
   none
theorem tree {R : Type} (N : Nat) (κ : AV → List Blk → Option R) (bN1 : Option Bool) (b2 : List Int) : evF g an N Tryd.f90 [AV.isl IntKind.u8 bN1 b2] [] κ =
  cond (decide ((0 + b2.length) * 1 ≤ 140737488355328))
   (cond (decide (0 + b2.length ≤ 140737488355328))
    (cond (decide ((b2.length + 1) * 1 ≤ 140737488355328))
     (cond (decide (b2.length + 1 ≤ 140737488355328))
      (loopN (evC g an 0 N c_L2 none) (ctx g an 0 N (bodyOf Tryd.f90) [1, 1, 0, 0] (endK g an Tryd.f90 [] κ)) (nmOf 0 (an.loop 2)) N (s_L2 bN1 b2 (b2 ++ [128])))
      none)
     none)
    none)
   none := by kernel_rfl
theorem tree_e0 {R : Type} (N : Nat) (κ : AV → List Blk → Option R) (b0_c9 : Option Bool) (b0_1_c10 : List Int) (h0_c11 : List Int) : (ctx g an 0 N (bodyOf Tryd.f90) [1, 1, 0, 0] (endK g an Tryd.f90 [] κ)).ext 0 (x_L2_0 b0_c9 b0_1_c10 h0_c11) =
  loopN (evC g an 0 N c_L6 none) (ctx g an 0 N (bodyOf Tryd.f90) [1, 1, 1, 1, 0, 1, 0] (endK g an Tryd.f90 [] κ)) (nmOf 0 (an.loop 6)) N (s_L6 (IntKind.u64.wrap (IntKind.u64.wrap (↑b0_1_c10.length : Int) * 8)) 7 h0_c11) := by kernel_rfl
theorem eq {R : Type} (N : Nat) (κ : AV → List Blk → Option R) (bN1 : Option Bool) (b2 : List Int) : evF g an N Tryd.f90 [AV.isl IntKind.u8 bN1 b2] [] κ =
  m N bN1 b2 (fun b => κ (AV.own 0 [] 0 none) ([Blk.row IntKind.u8 false b])) := by
  rw [tree]
  simp only [run_L2, run_L6, tree_e0]
  kernel_rfl
abbrev Ty : Type 1 := ∀ R : Type, (Option Bool) → (List Int) → ((List Int) → Option R) → Option R
def con (f : Ty) : Con := fun R args bs κ => match args, bs with
  | [AV.isl IntKind.u8 bN1 b2], [] => f R bN1 b2 (fun b => κ (AV.own 0 [] 0 none) ([Blk.row IntKind.u8 false b]))
  | _, _ => none
theorem con_eq (f : Ty) (R : Type) (κ : AV → List Blk → Option R) (bN1 : Option Bool) (b2 : List Int) : con f R [AV.isl IntKind.u8 bN1 b2] [] κ = f R bN1 b2 (fun b => κ (AV.own 0 [] 0 none) ([Blk.row IntKind.u8 false b])) := rfl
noncomputable def M (N : Nat) : Ty := fun R bN1 b2 kr0 => m (R := R) N bN1 b2 kr0
def gts : List (Nat × AV) := []
theorem gok (_N : Nat) : GOk g := giD_ok hm (by intro p hp; cases hp) (gtL_ok (by decide)) (ovL_ok (by intro p hp; cases hp)) 1
theorem ok (N : Nat) : SoundC Tryd.prog (gtL gts) 90 (con (M N)) := by
  refine SoundC.mono (evF_ok (gok N) hm an N Tryd.func90) fun R args bs κ r h => ?_
  unfold con at h
  split at h
  · exact (eq N κ _ _).trans h
  · cases h
end Padded


/-! ### Tryd.f63: rSum -/
namespace rSum
def an : Anns := ⟨fun i => findA i [(9, ⟨[2, 3, 4, 5, 6, 7, 8], [⟨2, 0, T.int IntKind.u8, none⟩, ⟨4, 1, T.int IntKind.u32, none⟩, ⟨5, 2, T.int IntKind.u8, none⟩, ⟨7, 3, T.int IntKind.u32, none⟩], 4, []⟩), (18, ⟨[2, 3, 4, 5, 6, 7, 12, 13, 14, 15, 16, 17, 18, 19, 20], [⟨2, 0, T.int IntKind.u8, none⟩, ⟨4, 1, T.int IntKind.u32, none⟩, ⟨5, 2, T.int IntKind.u8, none⟩, ⟨7, 3, T.int IntKind.u32, none⟩], 4, []⟩), (24, ⟨[2, 3, 4, 5, 6, 220, 221, 222], [⟨2, 0, T.int IntKind.u8, none⟩, ⟨4, 1, T.int IntKind.u32, none⟩, ⟨5, 2, T.int IntKind.u8, none⟩, ⟨220, 3, T.int IntKind.u32, none⟩], 4, []⟩), (5, ⟨[2, 3, 4, 5, 6], [⟨2, 0, T.int IntKind.u8, none⟩, ⟨4, 1, T.int IntKind.u32, none⟩, ⟨5, 2, T.int IntKind.u8, none⟩], 3, []⟩), (30, ⟨[2, 25, 236, 237, 238], [⟨2, 0, T.int IntKind.u8, none⟩, ⟨25, 1, T.int IntKind.u8, none⟩, ⟨236, 2, T.int IntKind.u32, none⟩], 3, []⟩)], fun i => findA i [], false, fun _ => none, []⟩
noncomputable def g (mrconstants : rconstants.Ty) (mPadded : Padded.Ty) (mrturn : rturn.Ty) : Gi := giD Tryd.prog (gtL []) (fun _ => an) 0 [] (ovL [(89, rconstants.con mrconstants), (90, Padded.con mPadded), (91, rturn.con mrturn)]) 1
noncomputable def c_L9 : Code := loopOf Tryd.f63 1
noncomputable def c_L18 : Code := loopOf Tryd.f63 2
noncomputable def c_L24 : Code := loopOf Tryd.f63 3
noncomputable def c_L5 : Code := loopOf Tryd.f63 0
noncomputable def c_L30 : Code := loopOf Tryd.f63 4
def s_L9 (at6 : Int) (t8 : Int) (h1 : List Int) (h2 : List Int) (h3 : List Int) : St := ⟨[AV.dead, AV.dead, AV.ptr 0 [], AV.isl IntKind.u32 none K256, AV.own 1 [] 0 none, AV.own 2 [] 0 none, AV.int IntKind.i64 at6, AV.own 3 [] 0 none, AV.int IntKind.i64 t8] ++ List.replicate 262 .dead, [Blk.var (AV.ints IntKind.u8 32 [0, 0, 0, 0, 0, 0, 0, 0, 0, 0, 0, 0, 0, 0, 0, 0, 0, 0, 0, 0, 0, 0, 0, 0, 0, 0, 0, 0, 0, 0, 0, 0]), Blk.row IntKind.u32 false h1, Blk.row IntKind.u8 false h2, Blk.row IntKind.u32 false h3]⟩
def s_L18 (at6v1 : Int) (a12 : Int) (bb13 : Int) (c14 : Int) (d15 : Int) (e16 : Int) (f17 : Int) (g18 : Int) (hh19 : Int) (t20 : Int) (h1v1 : List Int) (h2v1 : List Int) (h3v1 : List Int) : St := ⟨[AV.dead, AV.dead, AV.ptr 0 [], AV.isl IntKind.u32 none K256, AV.own 1 [] 0 none, AV.own 2 [] 0 none, AV.int IntKind.i64 at6v1, AV.own 3 [] 0 none] ++ List.replicate 4 .dead ++ [AV.int IntKind.u32 a12, AV.int IntKind.u32 bb13, AV.int IntKind.u32 c14, AV.int IntKind.u32 d15, AV.int IntKind.u32 e16, AV.int IntKind.u32 f17, AV.int IntKind.u32 g18, AV.int IntKind.u32 hh19, AV.int IntKind.i64 t20] ++ List.replicate 250 .dead, [Blk.var (AV.ints IntKind.u8 32 [0, 0, 0, 0, 0, 0, 0, 0, 0, 0, 0, 0, 0, 0, 0, 0, 0, 0, 0, 0, 0, 0, 0, 0, 0, 0, 0, 0, 0, 0, 0, 0]), Blk.row IntKind.u32 false h1v1, Blk.row IntKind.u8 false h2v1, Blk.row IntKind.u32 false h3v1]⟩
def s_L24 (at6v2 : Int) (t222 : Int) (h1v2 : List Int) (h2v2 : List Int) (h3v2 : List Int) : St := ⟨[AV.dead, AV.dead, AV.ptr 0 [], AV.isl IntKind.u32 none K256, AV.own 1 [] 0 none, AV.own 2 [] 0 none, AV.int IntKind.i64 at6v2] ++ List.replicate 213 .dead ++ [AV.own 3 [] 0 none, AV.int IntKind.i64 8, AV.int IntKind.i64 t222] ++ List.replicate 48 .dead, [Blk.var (AV.ints IntKind.u8 32 [0, 0, 0, 0, 0, 0, 0, 0, 0, 0, 0, 0, 0, 0, 0, 0, 0, 0, 0, 0, 0, 0, 0, 0, 0, 0, 0, 0, 0, 0, 0, 0]), Blk.row IntKind.u32 false h1v2, Blk.row IntKind.u8 false h2v2, Blk.row IntKind.u32 false h3v2]⟩
def s_L5 (at6v3 : Int) (h1v3 : List Int) (h2v3 : List Int) : St := ⟨[AV.dead, AV.dead, AV.ptr 0 [], AV.isl IntKind.u32 none K256, AV.own 1 [] 0 none, AV.own 2 [] 0 none, AV.int IntKind.i64 at6v3] ++ List.replicate 264 .dead, [Blk.var (AV.ints IntKind.u8 32 [0, 0, 0, 0, 0, 0, 0, 0, 0, 0, 0, 0, 0, 0, 0, 0, 0, 0, 0, 0, 0, 0, 0, 0, 0, 0, 0, 0, 0, 0, 0, 0]), Blk.row IntKind.u32 false h1v3, Blk.row IntKind.u8 false h2v3]⟩
def s_L30 (t237 : Int) (t238 : Int) (h1v4 : List Int) (h2v4 : List Int) : St := ⟨[AV.dead, AV.dead, AV.ptr 0 []] ++ List.replicate 22 .dead ++ [AV.ptr 1 []] ++ List.replicate 210 .dead ++ [AV.own 2 [] 0 none, AV.int IntKind.i64 t237, AV.int IntKind.i64 t238] ++ List.replicate 32 .dead, [Blk.var (AV.ints IntKind.u8 32 [0, 0, 0, 0, 0, 0, 0, 0, 0, 0, 0, 0, 0, 0, 0, 0, 0, 0, 0, 0, 0, 0, 0, 0, 0, 0, 0, 0, 0, 0, 0, 0]), Blk.var (AV.ints IntKind.u8 32 h1v4), Blk.row IntKind.u32 false h2v4]⟩
def x_L9_0 (at6 : Int) (t8 : Int) (h1 : List Int) (h2 : List Int) (h3 : List Int) : St := ⟨[AV.dead, AV.dead, AV.ptr 0 [], AV.isl IntKind.u32 none K256, AV.own 1 [] 0 none, AV.own 2 [] 0 none, AV.int IntKind.i64 at6, AV.own 3 [] 0 none, AV.int IntKind.i64 t8] ++ List.replicate 30 .dead ++ [AV.int IntKind.i64 t8, AV.bool (decide (t8 < 64))] ++ List.replicate 230 .dead, [Blk.var (AV.ints IntKind.u8 32 [0, 0, 0, 0, 0, 0, 0, 0, 0, 0, 0, 0, 0, 0, 0, 0, 0, 0, 0, 0, 0, 0, 0, 0, 0, 0, 0, 0, 0, 0, 0, 0]), Blk.row IntKind.u32 false h1, Blk.row IntKind.u8 false h2, Blk.row IntKind.u32 false h3]⟩
def x_L18_0 (at6v1 : Int) (a12 : Int) (bb13 : Int) (c14 : Int) (d15 : Int) (e16 : Int) (f17 : Int) (g18 : Int) (hh19 : Int) (t20 : Int) (h1v1 : List Int) (h2v1 : List Int) (h3v1 : List Int) : St := ⟨[AV.dead, AV.dead, AV.ptr 0 [], AV.isl IntKind.u32 none K256, AV.own 1 [] 0 none, AV.own 2 [] 0 none, AV.int IntKind.i64 at6v1, AV.own 3 [] 0 none] ++ List.replicate 4 .dead ++ [AV.int IntKind.u32 a12, AV.int IntKind.u32 bb13, AV.int IntKind.u32 c14, AV.int IntKind.u32 d15, AV.int IntKind.u32 e16, AV.int IntKind.u32 f17, AV.int IntKind.u32 g18, AV.int IntKind.u32 hh19, AV.int IntKind.i64 t20] ++ List.replicate 126 .dead ++ [AV.int IntKind.i64 t20, AV.bool (decide (t20 < 64))] ++ List.replicate 122 .dead, [Blk.var (AV.ints IntKind.u8 32 [0, 0, 0, 0, 0, 0, 0, 0, 0, 0, 0, 0, 0, 0, 0, 0, 0, 0, 0, 0, 0, 0, 0, 0, 0, 0, 0, 0, 0, 0, 0, 0]), Blk.row IntKind.u32 false h1v1, Blk.row IntKind.u8 false h2v1, Blk.row IntKind.u32 false h3v1]⟩
def x_L24_0 (at6v2 : Int) (t222 : Int) (h1v2 : List Int) (h2v2 : List Int) (h3v2 : List Int) : St := ⟨[AV.dead, AV.dead, AV.ptr 0 [], AV.isl IntKind.u32 none K256, AV.own 1 [] 0 none, AV.own 2 [] 0 none, AV.int IntKind.i64 at6v2] ++ List.replicate 213 .dead ++ [AV.own 3 [] 0 none, AV.int IntKind.i64 8, AV.int IntKind.i64 t222, AV.bool (decide (t222 < 8))] ++ List.replicate 47 .dead, [Blk.var (AV.ints IntKind.u8 32 [0, 0, 0, 0, 0, 0, 0, 0, 0, 0, 0, 0, 0, 0, 0, 0, 0, 0, 0, 0, 0, 0, 0, 0, 0, 0, 0, 0, 0, 0, 0, 0]), Blk.row IntKind.u32 false h1v2, Blk.row IntKind.u8 false h2v2, Blk.row IntKind.u32 false h3v2]⟩
def x_L5_0 (at6v3 : Int) (h1v3 : List Int) (h2v3 : List Int) : St := ⟨[AV.dead, AV.dead, AV.ptr 0 [], AV.isl IntKind.u32 none K256, AV.own 1 [] 0 none, AV.own 2 [] 0 none, AV.int IntKind.i64 at6v3] ++ List.replicate 25 .dead ++ [AV.int IntKind.i64 at6v3, AV.own 2 [] 0 none, AV.int IntKind.i64 (↑(olen none h2v3.length 0) : Int), AV.bool (decide (at6v3 < (↑(olen none h2v3.length 0) : Int)))] ++ List.replicate 235 .dead, [Blk.var (AV.ints IntKind.u8 32 [0, 0, 0, 0, 0, 0, 0, 0, 0, 0, 0, 0, 0, 0, 0, 0, 0, 0, 0, 0, 0, 0, 0, 0, 0, 0, 0, 0, 0, 0, 0, 0]), Blk.row IntKind.u32 false h1v3, Blk.row IntKind.u8 false h2v3]⟩
def x_L30_0 (t237 : Int) (t238 : Int) (h1v4 : List Int) (h2v4 : List Int) : St := ⟨[AV.dead, AV.dead, AV.ptr 0 []] ++ List.replicate 22 .dead ++ [AV.ptr 1 []] ++ List.replicate 210 .dead ++ [AV.own 2 [] 0 none, AV.int IntKind.i64 t237, AV.int IntKind.i64 t238, AV.bool (decide (t238 < t237))] ++ List.replicate 31 .dead, [Blk.var (AV.ints IntKind.u8 32 [0, 0, 0, 0, 0, 0, 0, 0, 0, 0, 0, 0, 0, 0, 0, 0, 0, 0, 0, 0, 0, 0, 0, 0, 0, 0, 0, 0, 0, 0, 0, 0]), Blk.var (AV.ints IntKind.u8 32 h1v4), Blk.row IntKind.u32 false h2v4]⟩
noncomputable def L9 (mrconstants : rconstants.Ty) (mPadded : Padded.Ty) (mrturn : rturn.Ty) {R : Type} (N : Nat) (ke0 : Int → Int → (List Int) → (List Int) → (List Int) → Option R) : Nat → Int → Int → (List Int) → (List Int) → (List Int) → Option R
  | 0, _, _, _, _, _ => none
  | m + 1, at6, t8, h1, h2, h3 =>
    cond (decide (t8 < 64))
     (cond (decide (t8 < 16))
      (cond (decide (0 ≤ IntKind.i64.wrap (at6 + IntKind.i64.wrap (4 * t8))))
       (cond (decide (IntKind.i64.wrap (at6 + IntKind.i64.wrap (4 * t8)) < (↑(olen none h2.length 0) : Int)))
        (cond (decide (0 ≤ IntKind.i64.wrap (IntKind.i64.wrap (at6 + IntKind.i64.wrap (4 * t8)) + 1)))
         (cond (decide (IntKind.i64.wrap (IntKind.i64.wrap (at6 + IntKind.i64.wrap (4 * t8)) + 1) < (↑(olen none h2.length 0) : Int)))
          (cond (decide (0 ≤ IntKind.i64.wrap (IntKind.i64.wrap (at6 + IntKind.i64.wrap (4 * t8)) + 2)))
           (cond (decide (IntKind.i64.wrap (IntKind.i64.wrap (at6 + IntKind.i64.wrap (4 * t8)) + 2) < (↑(olen none h2.length 0) : Int)))
            (cond (decide (0 ≤ IntKind.i64.wrap (IntKind.i64.wrap (at6 + IntKind.i64.wrap (4 * t8)) + 3)))
             (cond (decide (IntKind.i64.wrap (IntKind.i64.wrap (at6 + IntKind.i64.wrap (4 * t8)) + 3) < (↑(olen none h2.length 0) : Int)))
              (cond (decide (0 ≤ t8))
               (cond (decide (t8 < (↑(olen none h3.length 0) : Int)))
                (L9 mrconstants mPadded mrturn N ke0 m at6 (IntKind.i64.wrap (t8 + 1)) h1 h2 (h3.set (0 + t8.toNat) (IntKind.u32.wrap (IntKind.u32.wrap (IntKind.u32.wrap (IntKind.u32.wrap (IntKind.u32.wrap (h2.getD (0 + (IntKind.i64.wrap (at6 + IntKind.i64.wrap (4 * t8))).toNat) 0) * 16777216) + IntKind.u32.wrap (IntKind.u32.wrap (h2.getD (0 + (IntKind.i64.wrap (IntKind.i64.wrap (at6 + IntKind.i64.wrap (4 * t8)) + 1)).toNat) 0) * 65536)) + IntKind.u32.wrap (IntKind.u32.wrap (h2.getD (0 + (IntKind.i64.wrap (IntKind.i64.wrap (at6 + IntKind.i64.wrap (4 * t8)) + 2)).toNat) 0) * 256)) + IntKind.u32.wrap (h2.getD (0 + (IntKind.i64.wrap (IntKind.i64.wrap (at6 + IntKind.i64.wrap (4 * t8)) + 3)).toNat) 0)))))
                none)
               none)
              none)
             none)
            none)
           none)
          none)
         none)
        none)
       none)
      (cond (decide (0 ≤ IntKind.i64.wrap (t8 - 15)))
       (cond (decide (IntKind.i64.wrap (t8 - 15) < (↑(olen none h3.length 0) : Int)))
        (cond (decide (0 ≤ IntKind.i64.wrap (t8 - 2)))
         (cond (decide (IntKind.i64.wrap (t8 - 2) < (↑(olen none h3.length 0) : Int)))
          (mrturn R (h3.getD (0 + (IntKind.i64.wrap (t8 - 2)).toNat) 0) 17
           (fun v_c188 => mrturn R (h3.getD (0 + (IntKind.i64.wrap (t8 - 2)).toNat) 0) 19
            (fun v_c189 => cond (decide (0 ≤ IntKind.i64.wrap (t8 - 7)))
             (cond (decide (IntKind.i64.wrap (t8 - 7) < (↑(olen none h3.length 0) : Int)))
              (mrturn R (h3.getD (0 + (IntKind.i64.wrap (t8 - 15)).toNat) 0) 7
               (fun v_c190 => mrturn R (h3.getD (0 + (IntKind.i64.wrap (t8 - 15)).toNat) 0) 18
                (fun v_c191 => cond (decide (0 ≤ IntKind.i64.wrap (t8 - 16)))
                 (cond (decide (IntKind.i64.wrap (t8 - 16) < (↑(olen none h3.length 0) : Int)))
                  (cond (decide (0 ≤ t8))
                   (cond (decide (t8 < (↑(olen none h3.length 0) : Int)))
                    (L9 mrconstants mPadded mrturn N ke0 m at6 (IntKind.i64.wrap (t8 + 1)) h1 h2 (h3.set (0 + t8.toNat) (IntKind.u32.wrap (IntKind.u32.wrap (IntKind.u32.wrap (ixor IntKind.u32 (ixor IntKind.u32 v_c188 v_c189) (ishr IntKind.u32 (h3.getD (0 + (IntKind.i64.wrap (t8 - 2)).toNat) 0) 10) + h3.getD (0 + (IntKind.i64.wrap (t8 - 7)).toNat) 0) + ixor IntKind.u32 (ixor IntKind.u32 v_c190 v_c191) (ishr IntKind.u32 (h3.getD (0 + (IntKind.i64.wrap (t8 - 15)).toNat) 0) 3)) + h3.getD (0 + (IntKind.i64.wrap (t8 - 16)).toNat) 0))))
                    none)
                   none)
                  none)
                 none)))
              none)
             none)))
          none)
         none)
        none)
       none))
     (ke0 at6 t8 h1 h2 h3)
theorem round_L9 (mrconstants : rconstants.Ty) (mPadded : Padded.Ty) (mrturn : rturn.Ty) {R : Type} (N : Nat) (Rn : St → Option R) (k : K R) (at6 : Int) (t8 : Int) (h1 : List Int) (h2 : List Int) (h3 : List Int) : evC (g mrconstants mPadded mrturn) an 0 N c_L9 none (roundK (nmOf 0 (an.loop 9)) Rn k) (s_L9 at6 t8 h1 h2 h3) =
  cond (decide (t8 < 64))
   (cond (decide (t8 < 16))
    (cond (decide (0 ≤ IntKind.i64.wrap (at6 + IntKind.i64.wrap (4 * t8))))
     (cond (decide (IntKind.i64.wrap (at6 + IntKind.i64.wrap (4 * t8)) < (↑(olen none h2.length 0) : Int)))
      (cond (decide (0 ≤ IntKind.i64.wrap (IntKind.i64.wrap (at6 + IntKind.i64.wrap (4 * t8)) + 1)))
       (cond (decide (IntKind.i64.wrap (IntKind.i64.wrap (at6 + IntKind.i64.wrap (4 * t8)) + 1) < (↑(olen none h2.length 0) : Int)))
        (cond (decide (0 ≤ IntKind.i64.wrap (IntKind.i64.wrap (at6 + IntKind.i64.wrap (4 * t8)) + 2)))
         (cond (decide (IntKind.i64.wrap (IntKind.i64.wrap (at6 + IntKind.i64.wrap (4 * t8)) + 2) < (↑(olen none h2.length 0) : Int)))
          (cond (decide (0 ≤ IntKind.i64.wrap (IntKind.i64.wrap (at6 + IntKind.i64.wrap (4 * t8)) + 3)))
           (cond (decide (IntKind.i64.wrap (IntKind.i64.wrap (at6 + IntKind.i64.wrap (4 * t8)) + 3) < (↑(olen none h2.length 0) : Int)))
            (cond (decide (0 ≤ t8))
             (cond (decide (t8 < (↑(olen none h3.length 0) : Int)))
              (Rn (s_L9 at6 (IntKind.i64.wrap (t8 + 1)) h1 h2 (h3.set (0 + t8.toNat) (IntKind.u32.wrap (IntKind.u32.wrap (IntKind.u32.wrap (IntKind.u32.wrap (IntKind.u32.wrap (h2.getD (0 + (IntKind.i64.wrap (at6 + IntKind.i64.wrap (4 * t8))).toNat) 0) * 16777216) + IntKind.u32.wrap (IntKind.u32.wrap (h2.getD (0 + (IntKind.i64.wrap (IntKind.i64.wrap (at6 + IntKind.i64.wrap (4 * t8)) + 1)).toNat) 0) * 65536)) + IntKind.u32.wrap (IntKind.u32.wrap (h2.getD (0 + (IntKind.i64.wrap (IntKind.i64.wrap (at6 + IntKind.i64.wrap (4 * t8)) + 2)).toNat) 0) * 256)) + IntKind.u32.wrap (h2.getD (0 + (IntKind.i64.wrap (IntKind.i64.wrap (at6 + IntKind.i64.wrap (4 * t8)) + 3)).toNat) 0))))))
              none)
             none)
            none)
           none)
          none)
         none)
        none)
       none)
      none)
     none)
    (cond (decide (0 ≤ IntKind.i64.wrap (t8 - 15)))
     (cond (decide (IntKind.i64.wrap (t8 - 15) < (↑(olen none h3.length 0) : Int)))
      (cond (decide (0 ≤ IntKind.i64.wrap (t8 - 2)))
       (cond (decide (IntKind.i64.wrap (t8 - 2) < (↑(olen none h3.length 0) : Int)))
        (mrturn R (h3.getD (0 + (IntKind.i64.wrap (t8 - 2)).toNat) 0) 17
         (fun v_c188 => mrturn R (h3.getD (0 + (IntKind.i64.wrap (t8 - 2)).toNat) 0) 19
          (fun v_c189 => cond (decide (0 ≤ IntKind.i64.wrap (t8 - 7)))
           (cond (decide (IntKind.i64.wrap (t8 - 7) < (↑(olen none h3.length 0) : Int)))
            (mrturn R (h3.getD (0 + (IntKind.i64.wrap (t8 - 15)).toNat) 0) 7
             (fun v_c190 => mrturn R (h3.getD (0 + (IntKind.i64.wrap (t8 - 15)).toNat) 0) 18
              (fun v_c191 => cond (decide (0 ≤ IntKind.i64.wrap (t8 - 16)))
               (cond (decide (IntKind.i64.wrap (t8 - 16) < (↑(olen none h3.length 0) : Int)))
                (cond (decide (0 ≤ t8))
                 (cond (decide (t8 < (↑(olen none h3.length 0) : Int)))
                  (Rn (s_L9 at6 (IntKind.i64.wrap (t8 + 1)) h1 h2 (h3.set (0 + t8.toNat) (IntKind.u32.wrap (IntKind.u32.wrap (IntKind.u32.wrap (ixor IntKind.u32 (ixor IntKind.u32 v_c188 v_c189) (ishr IntKind.u32 (h3.getD (0 + (IntKind.i64.wrap (t8 - 2)).toNat) 0) 10) + h3.getD (0 + (IntKind.i64.wrap (t8 - 7)).toNat) 0) + ixor IntKind.u32 (ixor IntKind.u32 v_c190 v_c191) (ishr IntKind.u32 (h3.getD (0 + (IntKind.i64.wrap (t8 - 15)).toNat) 0) 3)) + h3.getD (0 + (IntKind.i64.wrap (t8 - 16)).toNat) 0)))))
                  none)
                 none)
                none)
               none)))
            none)
           none)))
        none)
       none)
      none)
     none))
   (k.ext 2 (x_L9_0 at6 t8 h1 h2 h3)) := by kernel_rfl
theorem run_L9 (mrconstants : rconstants.Ty) (mPadded : Padded.Ty) (mrturn : rturn.Ty) {R : Type} (N : Nat) (k : K R) : ∀ (m : Nat) (at6 : Int) (t8 : Int) (h1 : List Int) (h2 : List Int) (h3 : List Int), loopN (evC (g mrconstants mPadded mrturn) an 0 N c_L9 none) k (nmOf 0 (an.loop 9)) m (s_L9 at6 t8 h1 h2 h3) =
    L9 mrconstants mPadded mrturn N (fun at6 t8 h1 h2 h3 => (k).ext 2 (x_L9_0 at6 t8 h1 h2 h3)) m at6 t8 h1 h2 h3 := by
  intro m
  induction m with
  | zero => intros; rfl
  | succ m ih =>
    intros
    rw [loopN_succ, round_L9]
    simp only [ih]
    kernel_rfl
noncomputable def L18 (mrconstants : rconstants.Ty) (mPadded : Padded.Ty) (mrturn : rturn.Ty) {R : Type} (N : Nat) (ke0 : Int → Int → Int → Int → Int → Int → Int → Int → Int → Int → (List Int) → (List Int) → (List Int) → Option R) : Nat → Int → Int → Int → Int → Int → Int → Int → Int → Int → Int → (List Int) → (List Int) → (List Int) → Option R
  | 0, _, _, _, _, _, _, _, _, _, _, _, _, _ => none
  | m + 1, at6v1, a12, bb13, c14, d15, e16, f17, g18, hh19, t20, h1v1, h2v1, h3v1 =>
    cond (decide (t20 < 64))
     (mrturn R e16 6
      (fun v_c197 => mrturn R e16 11
       (fun v_c198 => mrturn R e16 25
        (fun v_c199 => cond (decide (0 ≤ t20))
         (cond (decide (t20 < 64))
          (cond (decide (0 ≤ t20))
           (cond (decide (t20 < (↑(olen none h3v1.length 0) : Int)))
            (mrturn R a12 2
             (fun v_c200 => mrturn R a12 13
              (fun v_c201 => mrturn R a12 22
               (fun v_c202 => L18 mrconstants mPadded mrturn N ke0 m at6v1 (IntKind.u32.wrap (IntKind.u32.wrap (IntKind.u32.wrap (IntKind.u32.wrap (IntKind.u32.wrap (hh19 + ixor IntKind.u32 (ixor IntKind.u32 v_c197 v_c198) v_c199) + ixor IntKind.u32 (iand IntKind.u32 e16 f17) (iand IntKind.u32 (inot IntKind.u32 e16) g18)) + K256.getD t20.toNat 0) + h3v1.getD (0 + t20.toNat) 0) + IntKind.u32.wrap (ixor IntKind.u32 (ixor IntKind.u32 v_c200 v_c201) v_c202 + ixor IntKind.u32 (ixor IntKind.u32 (iand IntKind.u32 a12 bb13) (iand IntKind.u32 a12 c14)) (iand IntKind.u32 bb13 c14)))) a12 bb13 c14 (IntKind.u32.wrap (d15 + IntKind.u32.wrap (IntKind.u32.wrap (IntKind.u32.wrap (IntKind.u32.wrap (hh19 + ixor IntKind.u32 (ixor IntKind.u32 v_c197 v_c198) v_c199) + ixor IntKind.u32 (iand IntKind.u32 e16 f17) (iand IntKind.u32 (inot IntKind.u32 e16) g18)) + K256.getD t20.toNat 0) + h3v1.getD (0 + t20.toNat) 0))) e16 f17 g18 (IntKind.i64.wrap (t20 + 1)) h1v1 h2v1 h3v1))))
            none)
           none)
          none)
         none))))
     (ke0 at6v1 a12 bb13 c14 d15 e16 f17 g18 hh19 t20 h1v1 h2v1 h3v1)
theorem round_L18 (mrconstants : rconstants.Ty) (mPadded : Padded.Ty) (mrturn : rturn.Ty) {R : Type} (N : Nat) (Rn : St → Option R) (k : K R) (at6v1 : Int) (a12 : Int) (bb13 : Int) (c14 : Int) (d15 : Int) (e16 : Int) (f17 : Int) (g18 : Int) (hh19 : Int) (t20 : Int) (h1v1 : List Int) (h2v1 : List Int) (h3v1 : List Int) : evC (g mrconstants mPadded mrturn) an 0 N c_L18 none (roundK (nmOf 0 (an.loop 18)) Rn k) (s_L18 at6v1 a12 bb13 c14 d15 e16 f17 g18 hh19 t20 h1v1 h2v1 h3v1) =
  cond (decide (t20 < 64))
   (mrturn R e16 6
    (fun v_c197 => mrturn R e16 11
     (fun v_c198 => mrturn R e16 25
      (fun v_c199 => cond (decide (0 ≤ t20))
       (cond (decide (t20 < 64))
        (cond (decide (0 ≤ t20))
         (cond (decide (t20 < (↑(olen none h3v1.length 0) : Int)))
          (mrturn R a12 2
           (fun v_c200 => mrturn R a12 13
            (fun v_c201 => mrturn R a12 22
             (fun v_c202 => Rn (s_L18 at6v1 (IntKind.u32.wrap (IntKind.u32.wrap (IntKind.u32.wrap (IntKind.u32.wrap (IntKind.u32.wrap (hh19 + ixor IntKind.u32 (ixor IntKind.u32 v_c197 v_c198) v_c199) + ixor IntKind.u32 (iand IntKind.u32 e16 f17) (iand IntKind.u32 (inot IntKind.u32 e16) g18)) + K256.getD t20.toNat 0) + h3v1.getD (0 + t20.toNat) 0) + IntKind.u32.wrap (ixor IntKind.u32 (ixor IntKind.u32 v_c200 v_c201) v_c202 + ixor IntKind.u32 (ixor IntKind.u32 (iand IntKind.u32 a12 bb13) (iand IntKind.u32 a12 c14)) (iand IntKind.u32 bb13 c14)))) a12 bb13 c14 (IntKind.u32.wrap (d15 + IntKind.u32.wrap (IntKind.u32.wrap (IntKind.u32.wrap (IntKind.u32.wrap (hh19 + ixor IntKind.u32 (ixor IntKind.u32 v_c197 v_c198) v_c199) + ixor IntKind.u32 (iand IntKind.u32 e16 f17) (iand IntKind.u32 (inot IntKind.u32 e16) g18)) + K256.getD t20.toNat 0) + h3v1.getD (0 + t20.toNat) 0))) e16 f17 g18 (IntKind.i64.wrap (t20 + 1)) h1v1 h2v1 h3v1)))))
          none)
         none)
        none)
       none))))
   (k.ext 4 (x_L18_0 at6v1 a12 bb13 c14 d15 e16 f17 g18 hh19 t20 h1v1 h2v1 h3v1)) := by kernel_rfl
theorem run_L18 (mrconstants : rconstants.Ty) (mPadded : Padded.Ty) (mrturn : rturn.Ty) {R : Type} (N : Nat) (k : K R) : ∀ (m : Nat) (at6v1 : Int) (a12 : Int) (bb13 : Int) (c14 : Int) (d15 : Int) (e16 : Int) (f17 : Int) (g18 : Int) (hh19 : Int) (t20 : Int) (h1v1 : List Int) (h2v1 : List Int) (h3v1 : List Int), loopN (evC (g mrconstants mPadded mrturn) an 0 N c_L18 none) k (nmOf 0 (an.loop 18)) m (s_L18 at6v1 a12 bb13 c14 d15 e16 f17 g18 hh19 t20 h1v1 h2v1 h3v1) =
    L18 mrconstants mPadded mrturn N (fun at6v1 a12 bb13 c14 d15 e16 f17 g18 hh19 t20 h1v1 h2v1 h3v1 => (k).ext 4 (x_L18_0 at6v1 a12 bb13 c14 d15 e16 f17 g18 hh19 t20 h1v1 h2v1 h3v1)) m at6v1 a12 bb13 c14 d15 e16 f17 g18 hh19 t20 h1v1 h2v1 h3v1 := by
  intro m
  induction m with
  | zero => intros; rfl
  | succ m ih =>
    intros
    rw [loopN_succ, round_L18]
    simp only [ih]
    kernel_rfl
noncomputable def L24 (mrconstants : rconstants.Ty) (mPadded : Padded.Ty) (mrturn : rturn.Ty) {R : Type} (N : Nat) (ke0 : Int → Int → (List Int) → (List Int) → (List Int) → Option R) : Nat → Int → Int → (List Int) → (List Int) → (List Int) → Option R
  | 0, _, _, _, _, _ => none
  | m + 1, at6v2, t222, h1v2, h2v2, h3v2 =>
    cond (decide (t222 < 8))
     (cond (decide (0 ≤ t222))
      (cond (decide (t222 < (↑(olen none h3v2.length 0) : Int)))
       (cond (decide (0 ≤ t222))
        (cond (decide (t222 < (↑(olen none h1v2.length 0) : Int)))
         (cond (decide (0 ≤ t222))
          (cond (decide (t222 < (↑(olen none h1v2.length 0) : Int)))
           (L24 mrconstants mPadded mrturn N ke0 m at6v2 (IntKind.i64.wrap (t222 + 1)) (h1v2.set (0 + t222.toNat) (IntKind.u32.wrap (h1v2.getD (0 + t222.toNat) 0 + h3v2.getD (0 + t222.toNat) 0))) h2v2 h3v2)
           none)
          none)
         none)
        none)
       none)
      none)
     (ke0 at6v2 t222 h1v2 h2v2 h3v2)
theorem round_L24 (mrconstants : rconstants.Ty) (mPadded : Padded.Ty) (mrturn : rturn.Ty) {R : Type} (N : Nat) (Rn : St → Option R) (k : K R) (at6v2 : Int) (t222 : Int) (h1v2 : List Int) (h2v2 : List Int) (h3v2 : List Int) : evC (g mrconstants mPadded mrturn) an 0 N c_L24 none (roundK (nmOf 0 (an.loop 24)) Rn k) (s_L24 at6v2 t222 h1v2 h2v2 h3v2) =
  cond (decide (t222 < 8))
   (cond (decide (0 ≤ t222))
    (cond (decide (t222 < (↑(olen none h3v2.length 0) : Int)))
     (cond (decide (0 ≤ t222))
      (cond (decide (t222 < (↑(olen none h1v2.length 0) : Int)))
       (cond (decide (0 ≤ t222))
        (cond (decide (t222 < (↑(olen none h1v2.length 0) : Int)))
         (Rn (s_L24 at6v2 (IntKind.i64.wrap (t222 + 1)) (h1v2.set (0 + t222.toNat) (IntKind.u32.wrap (h1v2.getD (0 + t222.toNat) 0 + h3v2.getD (0 + t222.toNat) 0))) h2v2 h3v2))
         none)
        none)
       none)
      none)
     none)
    none)
   (k.ext 6 (x_L24_0 at6v2 t222 h1v2 h2v2 h3v2)) := by kernel_rfl
theorem run_L24 (mrconstants : rconstants.Ty) (mPadded : Padded.Ty) (mrturn : rturn.Ty) {R : Type} (N : Nat) (k : K R) : ∀ (m : Nat) (at6v2 : Int) (t222 : Int) (h1v2 : List Int) (h2v2 : List Int) (h3v2 : List Int), loopN (evC (g mrconstants mPadded mrturn) an 0 N c_L24 none) k (nmOf 0 (an.loop 24)) m (s_L24 at6v2 t222 h1v2 h2v2 h3v2) =
    L24 mrconstants mPadded mrturn N (fun at6v2 t222 h1v2 h2v2 h3v2 => (k).ext 6 (x_L24_0 at6v2 t222 h1v2 h2v2 h3v2)) m at6v2 t222 h1v2 h2v2 h3v2 := by
  intro m
  induction m with
  | zero => intros; rfl
  | succ m ih =>
    intros
    rw [loopN_succ, round_L24]
    simp only [ih]
    kernel_rfl
noncomputable def L5 (mrconstants : rconstants.Ty) (mPadded : Padded.Ty) (mrturn : rturn.Ty) {R : Type} (N : Nat) (ke0 : Int → (List Int) → (List Int) → Option R) : Nat → Int → (List Int) → (List Int) → Option R
  | 0, _, _, _ => none
  | m + 1, at6v3, h1v3, h2v3 =>
    cond (decide (at6v3 < (↑(olen none h2v3.length 0) : Int)))
     (L9 mrconstants mPadded mrturn N
      (fun at6_c192 _t8_c193 h1_c194 h2_c195 h3_c196 => cond (decide (0 < (↑(olen none h1_c194.length 0) : Int)))
       (cond (decide (1 < (↑(olen none h1_c194.length 0) : Int)))
        (cond (decide (2 < (↑(olen none h1_c194.length 0) : Int)))
         (cond (decide (3 < (↑(olen none h1_c194.length 0) : Int)))
          (cond (decide (4 < (↑(olen none h1_c194.length 0) : Int)))
           (cond (decide (5 < (↑(olen none h1_c194.length 0) : Int)))
            (cond (decide (6 < (↑(olen none h1_c194.length 0) : Int)))
             (cond (decide (7 < (↑(olen none h1_c194.length 0) : Int)))
              (L18 mrconstants mPadded mrturn N
               (fun at6_c203 a12_c204 bb13_c205 c14_c206 d15_c207 e16_c208 f17_c209 g18_c210 hh19_c211 _t20_c212 h1_c213 h2_c214 _h3_c215 => L24 mrconstants mPadded mrturn N
                (fun at6_c216 _t222_c217 h1_c218 h2_c219 _h3_c220 => L5 mrconstants mPadded mrturn N ke0 m (IntKind.i64.wrap (at6_c216 + 64)) h1_c218 h2_c219) N at6_c203 0 h1_c213 h2_c214 ([a12_c204, bb13_c205, c14_c206, d15_c207, e16_c208, f17_c209, g18_c210, hh19_c211])) N at6_c192 (h1_c194.getD 0 0) (h1_c194.getD 1 0) (h1_c194.getD 2 0) (h1_c194.getD 3 0) (h1_c194.getD 4 0) (h1_c194.getD 5 0) (h1_c194.getD 6 0) (h1_c194.getD 7 0) 0 h1_c194 h2_c195 h3_c196)
              none)
             none)
            none)
           none)
          none)
         none)
        none)
       none) N at6v3 0 h1v3 h2v3 ([0, 0, 0, 0, 0, 0, 0, 0, 0, 0, 0, 0, 0, 0, 0, 0, 0, 0, 0, 0, 0, 0, 0, 0, 0, 0, 0, 0, 0, 0, 0, 0, 0, 0, 0, 0, 0, 0, 0, 0, 0, 0, 0, 0, 0, 0, 0, 0, 0, 0, 0, 0, 0, 0, 0, 0, 0, 0, 0, 0, 0, 0, 0, 0]))
     (ke0 at6v3 h1v3 h2v3)
theorem round_L5 (mrconstants : rconstants.Ty) (mPadded : Padded.Ty) (mrturn : rturn.Ty) {R : Type} (N : Nat) (Rn : St → Option R) (k : K R) (at6v3 : Int) (h1v3 : List Int) (h2v3 : List Int) : evC (g mrconstants mPadded mrturn) an 0 N c_L5 none (roundK (nmOf 0 (an.loop 5)) Rn k) (s_L5 at6v3 h1v3 h2v3) =
  cond (decide (at6v3 < (↑(olen none h2v3.length 0) : Int)))
   (loopN (evC (g mrconstants mPadded mrturn) an 0 N c_L9 none) (ctx (g mrconstants mPadded mrturn) an 0 N c_L5 [1, 0, 0, 1, 0, 1, 0] (roundK (nmOf 0 (an.loop 5)) Rn k)) (nmOf 0 (an.loop 9)) N (s_L9 at6v3 0 h1v3 h2v3 ([0, 0, 0, 0, 0, 0, 0, 0, 0, 0, 0, 0, 0, 0, 0, 0, 0, 0, 0, 0, 0, 0, 0, 0, 0, 0, 0, 0, 0, 0, 0, 0, 0, 0, 0, 0, 0, 0, 0, 0, 0, 0, 0, 0, 0, 0, 0, 0, 0, 0, 0, 0, 0, 0, 0, 0, 0, 0, 0, 0, 0, 0, 0, 0])))
   (k.ext 0 (x_L5_0 at6v3 h1v3 h2v3)) := by kernel_rfl
theorem round_L5_e0 (mrconstants : rconstants.Ty) (mPadded : Padded.Ty) (mrturn : rturn.Ty) {R : Type} (N : Nat) (Rn : St → Option R) (k : K R) (at6_c192 : Int) (t8_c193 : Int) (h1_c194 : List Int) (h2_c195 : List Int) (h3_c196 : List Int) : (ctx (g mrconstants mPadded mrturn) an 0 N c_L5 [1, 0, 0, 1, 0, 1, 0] (roundK (nmOf 0 (an.loop 5)) Rn k)).ext 2 (x_L9_0 at6_c192 t8_c193 h1_c194 h2_c195 h3_c196) =
  cond (decide (0 < (↑(olen none h1_c194.length 0) : Int)))
   (cond (decide (1 < (↑(olen none h1_c194.length 0) : Int)))
    (cond (decide (2 < (↑(olen none h1_c194.length 0) : Int)))
     (cond (decide (3 < (↑(olen none h1_c194.length 0) : Int)))
      (cond (decide (4 < (↑(olen none h1_c194.length 0) : Int)))
       (cond (decide (5 < (↑(olen none h1_c194.length 0) : Int)))
        (cond (decide (6 < (↑(olen none h1_c194.length 0) : Int)))
         (cond (decide (7 < (↑(olen none h1_c194.length 0) : Int)))
          (loopN (evC (g mrconstants mPadded mrturn) an 0 N c_L18 none) (ctx (g mrconstants mPadded mrturn) an 0 N c_L5 [1, 0, 0, 1, 1, 1, 0, 1, 0] (roundK (nmOf 0 (an.loop 5)) Rn k)) (nmOf 0 (an.loop 18)) N (s_L18 at6_c192 (h1_c194.getD 0 0) (h1_c194.getD 1 0) (h1_c194.getD 2 0) (h1_c194.getD 3 0) (h1_c194.getD 4 0) (h1_c194.getD 5 0) (h1_c194.getD 6 0) (h1_c194.getD 7 0) 0 h1_c194 h2_c195 h3_c196))
          none)
         none)
        none)
       none)
      none)
     none)
    none)
   none := by kernel_rfl
theorem round_L5_e1 (mrconstants : rconstants.Ty) (mPadded : Padded.Ty) (mrturn : rturn.Ty) {R : Type} (N : Nat) (Rn : St → Option R) (k : K R) (at6_c203 : Int) (a12_c204 : Int) (bb13_c205 : Int) (c14_c206 : Int) (d15_c207 : Int) (e16_c208 : Int) (f17_c209 : Int) (g18_c210 : Int) (hh19_c211 : Int) (t20_c212 : Int) (h1_c213 : List Int) (h2_c214 : List Int) (h3_c215 : List Int) : (ctx (g mrconstants mPadded mrturn) an 0 N c_L5 [1, 0, 0, 1, 1, 1, 0, 1, 0] (roundK (nmOf 0 (an.loop 5)) Rn k)).ext 4 (x_L18_0 at6_c203 a12_c204 bb13_c205 c14_c206 d15_c207 e16_c208 f17_c209 g18_c210 hh19_c211 t20_c212 h1_c213 h2_c214 h3_c215) =
  loopN (evC (g mrconstants mPadded mrturn) an 0 N c_L24 none) (ctx (g mrconstants mPadded mrturn) an 0 N c_L5 [1, 0, 0, 1, 1, 1, 1, 1, 0] (roundK (nmOf 0 (an.loop 5)) Rn k)) (nmOf 0 (an.loop 24)) N (s_L24 at6_c203 0 h1_c213 h2_c214 ([a12_c204, bb13_c205, c14_c206, d15_c207, e16_c208, f17_c209, g18_c210, hh19_c211])) := by kernel_rfl
theorem round_L5_e2 (mrconstants : rconstants.Ty) (mPadded : Padded.Ty) (mrturn : rturn.Ty) {R : Type} (N : Nat) (Rn : St → Option R) (k : K R) (at6_c216 : Int) (t222_c217 : Int) (h1_c218 : List Int) (h2_c219 : List Int) (h3_c220 : List Int) : (ctx (g mrconstants mPadded mrturn) an 0 N c_L5 [1, 0, 0, 1, 1, 1, 1, 1, 0] (roundK (nmOf 0 (an.loop 5)) Rn k)).ext 6 (x_L24_0 at6_c216 t222_c217 h1_c218 h2_c219 h3_c220) =
  Rn (s_L5 (IntKind.i64.wrap (at6_c216 + 64)) h1_c218 h2_c219) := by kernel_rfl
theorem run_L5 (mrconstants : rconstants.Ty) (mPadded : Padded.Ty) (mrturn : rturn.Ty) {R : Type} (N : Nat) (k : K R) : ∀ (m : Nat) (at6v3 : Int) (h1v3 : List Int) (h2v3 : List Int), loopN (evC (g mrconstants mPadded mrturn) an 0 N c_L5 none) k (nmOf 0 (an.loop 5)) m (s_L5 at6v3 h1v3 h2v3) =
    L5 mrconstants mPadded mrturn N (fun at6v3 h1v3 h2v3 => (k).ext 0 (x_L5_0 at6v3 h1v3 h2v3)) m at6v3 h1v3 h2v3 := by
  intro m
  induction m with
  | zero => intros; rfl
  | succ m ih =>
    intros
    rw [loopN_succ, round_L5]
    simp only [run_L9, run_L18, run_L24, round_L5_e0, round_L5_e1, round_L5_e2, ih]
    kernel_rfl
noncomputable def L30 (mrconstants : rconstants.Ty) (mPadded : Padded.Ty) (mrturn : rturn.Ty) {R : Type} (N : Nat) (ke0 : Int → Int → (List Int) → (List Int) → Option R) : Nat → Int → Int → (List Int) → (List Int) → Option R
  | 0, _, _, _, _ => none
  | m + 1, t237, t238, h1v4, h2v4 =>
    cond (decide (t238 < t237))
     (cond (decide (0 ≤ t238))
      (cond (decide (t238 < (↑(olen none h2v4.length 0) : Int)))
       (cond (decide (0 ≤ IntKind.i64.wrap (4 * t238)))
        (cond (decide (IntKind.i64.wrap (4 * t238) < 32))
         (cond (decide (0 ≤ IntKind.i64.wrap (IntKind.i64.wrap (4 * t238) + 1)))
          (cond (decide (IntKind.i64.wrap (IntKind.i64.wrap (4 * t238) + 1) < 32))
           (cond (decide (0 ≤ IntKind.i64.wrap (IntKind.i64.wrap (4 * t238) + 2)))
            (cond (decide (IntKind.i64.wrap (IntKind.i64.wrap (4 * t238) + 2) < 32))
             (cond (decide (0 ≤ IntKind.i64.wrap (IntKind.i64.wrap (4 * t238) + 3)))
              (cond (decide (IntKind.i64.wrap (IntKind.i64.wrap (4 * t238) + 3) < 32))
               (L30 mrconstants mPadded mrturn N ke0 m t237 (IntKind.i64.wrap (t238 + 1)) ((((h1v4.set (IntKind.i64.wrap (4 * t238)).toNat (IntKind.u8.wrap (ishr IntKind.u32 (h2v4.getD (0 + t238.toNat) 0) 24))).set (IntKind.i64.wrap (IntKind.i64.wrap (4 * t238) + 1)).toNat (IntKind.u8.wrap (ishr IntKind.u32 (h2v4.getD (0 + t238.toNat) 0) 16))).set (IntKind.i64.wrap (IntKind.i64.wrap (4 * t238) + 2)).toNat (IntKind.u8.wrap (ishr IntKind.u32 (h2v4.getD (0 + t238.toNat) 0) 8))).set (IntKind.i64.wrap (IntKind.i64.wrap (4 * t238) + 3)).toNat (IntKind.u8.wrap (h2v4.getD (0 + t238.toNat) 0))) h2v4)
               none)
              none)
             none)
            none)
           none)
          none)
         none)
        none)
       none)
      none)
     (ke0 t237 t238 h1v4 h2v4)
theorem round_L30 (mrconstants : rconstants.Ty) (mPadded : Padded.Ty) (mrturn : rturn.Ty) {R : Type} (N : Nat) (Rn : St → Option R) (k : K R) (t237 : Int) (t238 : Int) (h1v4 : List Int) (h2v4 : List Int) : evC (g mrconstants mPadded mrturn) an 0 N c_L30 none (roundK (nmOf 0 (an.loop 30)) Rn k) (s_L30 t237 t238 h1v4 h2v4) =
  cond (decide (t238 < t237))
   (cond (decide (0 ≤ t238))
    (cond (decide (t238 < (↑(olen none h2v4.length 0) : Int)))
     (cond (decide (0 ≤ IntKind.i64.wrap (4 * t238)))
      (cond (decide (IntKind.i64.wrap (4 * t238) < 32))
       (cond (decide (0 ≤ IntKind.i64.wrap (IntKind.i64.wrap (4 * t238) + 1)))
        (cond (decide (IntKind.i64.wrap (IntKind.i64.wrap (4 * t238) + 1) < 32))
         (cond (decide (0 ≤ IntKind.i64.wrap (IntKind.i64.wrap (4 * t238) + 2)))
          (cond (decide (IntKind.i64.wrap (IntKind.i64.wrap (4 * t238) + 2) < 32))
           (cond (decide (0 ≤ IntKind.i64.wrap (IntKind.i64.wrap (4 * t238) + 3)))
            (cond (decide (IntKind.i64.wrap (IntKind.i64.wrap (4 * t238) + 3) < 32))
             (Rn (s_L30 t237 (IntKind.i64.wrap (t238 + 1)) ((((h1v4.set (IntKind.i64.wrap (4 * t238)).toNat (IntKind.u8.wrap (ishr IntKind.u32 (h2v4.getD (0 + t238.toNat) 0) 24))).set (IntKind.i64.wrap (IntKind.i64.wrap (4 * t238) + 1)).toNat (IntKind.u8.wrap (ishr IntKind.u32 (h2v4.getD (0 + t238.toNat) 0) 16))).set (IntKind.i64.wrap (IntKind.i64.wrap (4 * t238) + 2)).toNat (IntKind.u8.wrap (ishr IntKind.u32 (h2v4.getD (0 + t238.toNat) 0) 8))).set (IntKind.i64.wrap (IntKind.i64.wrap (4 * t238) + 3)).toNat (IntKind.u8.wrap (h2v4.getD (0 + t238.toNat) 0))) h2v4))
             none)
            none)
           none)
          none)
         none)
        none)
       none)
      none)
     none)
    none)
   (k.ext 8 (x_L30_0 t237 t238 h1v4 h2v4)) := by kernel_rfl
theorem run_L30 (mrconstants : rconstants.Ty) (mPadded : Padded.Ty) (mrturn : rturn.Ty) {R : Type} (N : Nat) (k : K R) : ∀ (m : Nat) (t237 : Int) (t238 : Int) (h1v4 : List Int) (h2v4 : List Int), loopN (evC (g mrconstants mPadded mrturn) an 0 N c_L30 none) k (nmOf 0 (an.loop 30)) m (s_L30 t237 t238 h1v4 h2v4) =
    L30 mrconstants mPadded mrturn N (fun t237 t238 h1v4 h2v4 => (k).ext 8 (x_L30_0 t237 t238 h1v4 h2v4)) m t237 t238 h1v4 h2v4 := by
  intro m
  induction m with
  | zero => intros; rfl
  | succ m ih =>
    intros
    rw [loopN_succ, round_L30]
    simp only [ih]
    kernel_rfl
noncomputable def m (mrconstants : rconstants.Ty) (mPadded : Padded.Ty) (mrturn : rturn.Ty) {R : Type} (N : Nat) (bN1 : Option Bool) (b2 : List Int) (kr0 : (List Int) → Option R) : Option R :=
  mrconstants R
   (mPadded R bN1 b2
    (fun b_c187 => L5 mrconstants mPadded mrturn N
     (fun _at6_c221 h1_c222 _h2_c223 => L30 mrconstants mPadded mrturn N
      (fun _t237_c224 _t238_c225 h1_c226 _h2_c227 => kr0 h1_c226) N ((↑(olen none h1_c222.length 0) : Int)) 0 ([0, 0, 0, 0, 0, 0, 0, 0, 0, 0, 0, 0, 0, 0, 0, 0, 0, 0, 0, 0, 0, 0, 0, 0, 0, 0, 0, 0, 0, 0, 0, 0]) h1_c222) N 0 ([1779033703, 3144134277, 1013904242, 2773480762, 1359893119, 2600822924, 528734635, 1541459225]) b_c187))
theorem tree (mrconstants : rconstants.Ty) (mPadded : Padded.Ty) (mrturn : rturn.Ty) {R : Type} (N : Nat) (κ : AV → List Blk → Option R) (bN1 : Option Bool) (b2 : List Int) : evF (g mrconstants mPadded mrturn) an N Tryd.f63 [AV.isl IntKind.u8 bN1 b2] [] κ =
  mrconstants R
   (mPadded R bN1 b2
    (fun b_c187 => loopN (evC (g mrconstants mPadded mrturn) an 0 N c_L5 none) (ctx (g mrconstants mPadded mrturn) an 0 N (bodyOf Tryd.f63) [1, 1, 1, 1, 0, 1, 0] (endK (g mrconstants mPadded mrturn) an Tryd.f63 [] κ)) (nmOf 0 (an.loop 5)) N (s_L5 0 ([1779033703, 3144134277, 1013904242, 2773480762, 1359893119, 2600822924, 528734635, 1541459225]) b_c187))) := by kernel_rfl
theorem tree_e0 (mrconstants : rconstants.Ty) (mPadded : Padded.Ty) (mrturn : rturn.Ty) {R : Type} (N : Nat) (κ : AV → List Blk → Option R) (at6_c221 : Int) (h1_c222 : List Int) (h2_c223 : List Int) : (ctx (g mrconstants mPadded mrturn) an 0 N (bodyOf Tryd.f63) [1, 1, 1, 1, 0, 1, 0] (endK (g mrconstants mPadded mrturn) an Tryd.f63 [] κ)).ext 0 (x_L5_0 at6_c221 h1_c222 h2_c223) =
  loopN (evC (g mrconstants mPadded mrturn) an 0 N c_L30 none) (ctx (g mrconstants mPadded mrturn) an 0 N (bodyOf Tryd.f63) [1, 1, 1, 1, 1, 1, 0, 1, 0] (endK (g mrconstants mPadded mrturn) an Tryd.f63 [] κ)) (nmOf 0 (an.loop 30)) N (s_L30 ((↑(olen none h1_c222.length 0) : Int)) 0 ([0, 0, 0, 0, 0, 0, 0, 0, 0, 0, 0, 0, 0, 0, 0, 0, 0, 0, 0, 0, 0, 0, 0, 0, 0, 0, 0, 0, 0, 0, 0, 0]) h1_c222) := by kernel_rfl
theorem eq (mrconstants : rconstants.Ty) (mPadded : Padded.Ty) (mrturn : rturn.Ty) {R : Type} (N : Nat) (κ : AV → List Blk → Option R) (bN1 : Option Bool) (b2 : List Int) : evF (g mrconstants mPadded mrturn) an N Tryd.f63 [AV.isl IntKind.u8 bN1 b2] [] κ =
  m mrconstants mPadded mrturn N bN1 b2 (fun v => κ (AV.ints IntKind.u8 32 v) []) := by
  rw [tree]
  simp only [run_L5, run_L30, tree_e0]
  kernel_rfl
abbrev Ty : Type 1 := ∀ R : Type, (Option Bool) → (List Int) → ((List Int) → Option R) → Option R
def con (f : Ty) : Con := fun R args bs κ => match args, bs with
  | [AV.isl IntKind.u8 bN1 b2], [] => f R bN1 b2 (fun v => κ (AV.ints IntKind.u8 32 v) [])
  | _, _ => none
theorem con_eq (f : Ty) (R : Type) (κ : AV → List Blk → Option R) (bN1 : Option Bool) (b2 : List Int) : con f R [AV.isl IntKind.u8 bN1 b2] [] κ = f R bN1 b2 (fun v => κ (AV.ints IntKind.u8 32 v) []) := rfl
noncomputable def M (N : Nat) : Ty := fun R bN1 b2 kr0 => m (rconstants.M N) (Padded.M N) (rturn.M N) (R := R) N bN1 b2 kr0
def gts : List (Nat × AV) := []
theorem gok (N : Nat) : GOk (g (rconstants.M N) (Padded.M N) (rturn.M N)) := giD_ok hm (by intro p hp; cases hp) (gtL_ok (by decide)) (ovL_ok (by
    intro p hp
    simp only [List.mem_cons, List.not_mem_nil, or_false] at hp
    rcases hp with rfl | rfl | rfl
    · exact ⟨(rconstants.ok N).gt (gtL_sub (by repeat (first | exact subG_nil _ | refine subG_cons (by kernel_rfl) ?_))) (gtL_ok (by decide)), _, Tryd.func89, by kernel_rfl, by kernel_rfl⟩
    · exact ⟨(Padded.ok N).gt (gtL_sub (by repeat (first | exact subG_nil _ | refine subG_cons (by kernel_rfl) ?_))) (gtL_ok (by decide)), _, Tryd.func90, by kernel_rfl, by kernel_rfl⟩
    · exact ⟨(rturn.ok N).gt (gtL_sub (by repeat (first | exact subG_nil _ | refine subG_cons (by kernel_rfl) ?_))) (gtL_ok (by decide)), _, Tryd.func91, by kernel_rfl, by kernel_rfl⟩
)) 1
theorem ok (N : Nat) : SoundC Tryd.prog (gtL gts) 63 (con (M N)) := by
  refine SoundC.mono (evF_ok (gok N) hm an N Tryd.func63) fun R args bs κ r h => ?_
  unfold con at h
  split at h
  · exact (eq (rconstants.M N) (Padded.M N) (rturn.M N) N κ _ _).trans h
  · cases h
end rSum

end Go.Proofs.YthajoenmfppenaaDoor.fn
