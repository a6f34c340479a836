/- What the numbers' references compute, with the proof; printed by a program. -/
import Derived.Test.YtjaappocnonkbaaDoorProg
import Derived.Test.YtjaappocnonkbaaDoorEv4
import Derived.Test.YtjaappocnonkbaaDoorFnField
namespace Go.Proofs.YtjaappocnonkbaaDoor.fn
open Go Go.Proofs Go.Ev

/-! ### Tryd.f68: rP -/
namespace rP
def an : Anns := ⟨fun i => findA i [], fun i => findA i [], false, fun _ => none⟩
noncomputable def g : Gi := giD Tryd.prog (gtL []) (fun _ => an) 0 [] (ovL []) 1
noncomputable def m {R : Type} (_N : Nat) (kr0 : Option R) : Option R :=
  kr0
theorem tree {R : Type} (N : Nat) (κ : AV → List Blk → Option R) : evF (g) an N Tryd.f68 [] [] κ =
  κ (AV.ints IntKind.u32 8 [4294967277, 4294967295, 4294967295, 4294967295, 4294967295, 4294967295, 4294967295, 2147483647]) [] := by kernel_rfl
theorem eq {R : Type} (N : Nat) (κ : AV → List Blk → Option R) : evF (g) an N Tryd.f68 [] [] κ =
  m N (κ (AV.ints IntKind.u32 8 [4294967277, 4294967295, 4294967295, 4294967295, 4294967295, 4294967295, 4294967295, 2147483647]) []) := by
  rw [tree]
  kernel_rfl
abbrev Ty : Type 1 := ∀ R : Type, Option R → Option R
def con (f : Ty) : Con := fun R args bs κ => match args, bs with
  | [], [] => f R (κ (AV.ints IntKind.u32 8 [4294967277, 4294967295, 4294967295, 4294967295, 4294967295, 4294967295, 4294967295, 2147483647]) [])
  | _, _ => none
theorem con_eq (f : Ty) (R : Type) (κ : AV → List Blk → Option R) : con f R [] [] κ = f R (κ (AV.ints IntKind.u32 8 [4294967277, 4294967295, 4294967295, 4294967295, 4294967295, 4294967295, 4294967295, 2147483647]) []) := rfl
noncomputable def M (N : Nat) : Ty := fun R kr0 => m (R := R) N kr0
def gts : List (Nat × AV) := []
theorem gok (_N : Nat) : GOk (g) := giD_ok hm (by intro p hp; cases hp) (gtL_ok (by decide)) (ovL_ok (by intro p hp; cases hp)) 1
theorem ok (N : Nat) : SoundC Tryd.prog (gtL gts) 68 (con (M N)) := by
  refine SoundC.mono (evF_ok (gok N) hm an N Tryd.func68) fun R args bs κ r h => ?_
  unfold con at h
  split at h
  · exact (eq N κ).trans h
  · cases h
end rP


/-! ### Tryd.f67: rless -/
namespace rless
def an : Anns := ⟨fun i => findA i [(2, ⟨[2, 3, 5], [⟨2, 0, .u8⟩, ⟨3, 1, .u8⟩], 2⟩)], fun i => findA i [], false, fun _ => none⟩
noncomputable def g : Gi := giD Tryd.prog (gtL []) (fun _ => an) 0 [] (ovL []) 1
noncomputable def c_L2 : Code := loopOf Tryd.f67 0
def s_L2 (i5 : Int) (h0 : List Int) (h1 : List Int) : St := ⟨[AV.dead, AV.dead, AV.ptr 0 [], AV.ptr 1 [], AV.dead, AV.int IntKind.i64 i5] ++ List.replicate 18 .dead, [Blk.var (AV.ints IntKind.u32 8 h0), Blk.var (AV.ints IntKind.u32 8 h1)]⟩
def x_L2_0 (i5 : Int) (h0 : List Int) (h1 : List Int) : St := ⟨[AV.dead, AV.dead, AV.ptr 0 [], AV.ptr 1 [], AV.bool (decide (h0.getD i5.toNat 0 < h1.getD i5.toNat 0)), AV.int IntKind.i64 i5, AV.int IntKind.i64 i5, AV.bool (decide (i5 ≥ 0)), AV.dead, AV.dead, AV.int IntKind.i64 i5, AV.ptr 0 [i5.toNat], AV.int IntKind.u32 (h0.getD i5.toNat 0), AV.int IntKind.i64 i5, AV.ptr 1 [i5.toNat], AV.int IntKind.u32 (h1.getD i5.toNat 0), AV.bool (h0.getD i5.toNat 0 != h1.getD i5.toNat 0), AV.int IntKind.i64 i5, AV.ptr 0 [i5.toNat], AV.int IntKind.u32 (h0.getD i5.toNat 0), AV.int IntKind.i64 i5, AV.ptr 1 [i5.toNat], AV.int IntKind.u32 (h1.getD i5.toNat 0), AV.bool (decide (h0.getD i5.toNat 0 < h1.getD i5.toNat 0))], [Blk.var (AV.ints IntKind.u32 8 h0), Blk.var (AV.ints IntKind.u32 8 h1)]⟩
def x_L2_1 (i5 : Int) (h0 : List Int) (h1 : List Int) : St := ⟨[AV.dead, AV.dead, AV.ptr 0 [], AV.ptr 1 [], AV.dead, AV.int IntKind.i64 i5, AV.int IntKind.i64 i5, AV.bool (decide (i5 ≥ 0))] ++ List.replicate 16 .dead, [Blk.var (AV.ints IntKind.u32 8 h0), Blk.var (AV.ints IntKind.u32 8 h1)]⟩
noncomputable def L2 {R : Type} (N : Nat) (ke0 : Int → (List Int) → (List Int) → Option R) (ke1 : Int → (List Int) → (List Int) → Option R) : Nat → Int → (List Int) → (List Int) → Option R
  | 0, _, _, _ => none
  | m + 1, i5, h0, h1 =>
    cond (decide (i5 ≥ 0))
     (cond (decide (0 ≤ i5))
      (cond (decide (i5 < 8))
       (cond (decide (0 ≤ i5))
        (cond (decide (i5 < 8))
         (cond (h0.getD i5.toNat 0 != h1.getD i5.toNat 0)
          (cond (decide (0 ≤ i5))
           (cond (decide (i5 < 8))
            (cond (decide (0 ≤ i5))
             (cond (decide (i5 < 8))
              (ke0 i5 h0 h1)
              (none))
             (none))
            (none))
           (none))
          (L2 N ke0 ke1 m (IntKind.i64.wrap (i5 - 1)) h0 h1))
         (none))
        (none))
       (none))
      (none))
     (ke1 i5 h0 h1)
theorem round_L2 {R : Type} (N : Nat) (Rn : St → Option R) (k : K R) (i5 : Int) (h0 : List Int) (h1 : List Int) : evC (g) an 0 N c_L2 none (roundK (nmOf 0 (an.loop 2)) Rn k) (s_L2 i5 h0 h1) =
  cond (decide (i5 ≥ 0))
   (cond (decide (0 ≤ i5))
    (cond (decide (i5 < 8))
     (cond (decide (0 ≤ i5))
      (cond (decide (i5 < 8))
       (cond (h0.getD i5.toNat 0 != h1.getD i5.toNat 0)
        (cond (decide (0 ≤ i5))
         (cond (decide (i5 < 8))
          (cond (decide (0 ≤ i5))
           (cond (decide (i5 < 8))
            (k.ret (x_L2_0 i5 h0 h1))
            (none))
           (none))
          (none))
         (none))
        (Rn (s_L2 (IntKind.i64.wrap (i5 - 1)) h0 h1)))
       (none))
      (none))
     (none))
    (none))
   (k.ext 0 (x_L2_1 i5 h0 h1)) := by kernel_rfl
theorem run_L2 {R : Type} (N : Nat) (k : K R) : ∀ (m : Nat) (i5 : Int) (h0 : List Int) (h1 : List Int), loopN (evC (g) an 0 N c_L2 none) k (nmOf 0 (an.loop 2)) m (s_L2 i5 h0 h1) =
    L2 N (fun i5 h0 h1 => (k).ret (x_L2_0 i5 h0 h1)) (fun i5 h0 h1 => (k).ext 0 (x_L2_1 i5 h0 h1)) m i5 h0 h1 := by
  intro m
  induction m with
  | zero => intros; rfl
  | succ m ih =>
    intros
    rw [loopN_succ, round_L2]
    simp only [ih]
    kernel_rfl
noncomputable def m {R : Type} (N : Nat) (a1 : List Int) (b2 : List Int) (kr0 : Bool → Option R) : Option R :=
  L2 N
   (fun i5_c3 h0_c4 h1_c5 => kr0 (decide (h0_c4.getD i5_c3.toNat 0 < h1_c5.getD i5_c3.toNat 0)))
   (fun _i5_c6 _h0_c7 _h1_c8 => kr0 false) N 7 a1 b2
theorem tree {R : Type} (N : Nat) (κ : AV → List Blk → Option R) (a1 : List Int) (b2 : List Int) : evF (g) an N Tryd.f67 [AV.ints IntKind.u32 8 a1, AV.ints IntKind.u32 8 b2] [] κ =
  loopN (evC (g) an 0 N c_L2 none) (ctx (g) an 0 N (bodyOf Tryd.f67) [1, 0, 1, 0] (endK (g) an Tryd.f67 [] κ)) (nmOf 0 (an.loop 2)) N (s_L2 7 a1 b2) := by kernel_rfl
theorem eq {R : Type} (N : Nat) (κ : AV → List Blk → Option R) (a1 : List Int) (b2 : List Int) : evF (g) an N Tryd.f67 [AV.ints IntKind.u32 8 a1, AV.ints IntKind.u32 8 b2] [] κ =
  m N a1 b2 (fun v => κ (AV.bool v) []) := by
  rw [tree]
  simp only [run_L2]
  kernel_rfl
abbrev Ty : Type 1 := ∀ R : Type, (List Int) → (List Int) → (Bool → Option R) → Option R
def con (f : Ty) : Con := fun R args bs κ => match args, bs with
  | [AV.ints IntKind.u32 8 a1, AV.ints IntKind.u32 8 b2], [] => f R a1 b2 (fun v => κ (AV.bool v) [])
  | _, _ => none
theorem con_eq (f : Ty) (R : Type) (κ : AV → List Blk → Option R) (a1 : List Int) (b2 : List Int) : con f R [AV.ints IntKind.u32 8 a1, AV.ints IntKind.u32 8 b2] [] κ = f R a1 b2 (fun v => κ (AV.bool v) []) := rfl
noncomputable def M (N : Nat) : Ty := fun R a1 b2 kr0 => m (R := R) N a1 b2 kr0
def gts : List (Nat × AV) := []
theorem gok (_N : Nat) : GOk (g) := giD_ok hm (by intro p hp; cases hp) (gtL_ok (by decide)) (ovL_ok (by intro p hp; cases hp)) 1
theorem ok (N : Nat) : SoundC Tryd.prog (gtL gts) 67 (con (M N)) := by
  refine SoundC.mono (evF_ok (gok N) hm an N Tryd.func67) fun R args bs κ r h => ?_
  unfold con at h
  split at h
  · exact (eq N κ _ _).trans h
  · cases h
end rless


/-! ### Tryd.f69: rminus -/
namespace rminus
def an : Anns := ⟨fun i => findA i [(4, ⟨[2, 3, 4, 5, 6, 7], [⟨2, 0, .u8⟩, ⟨3, 1, .u8⟩, ⟨4, 2, .u8⟩, ⟨5, 3, .u8⟩], 4⟩)], fun i => findA i [], false, fun _ => none⟩
noncomputable def g : Gi := giD Tryd.prog (gtL []) (fun _ => an) 0 [] (ovL []) 1
noncomputable def c_L4 : Code := loopOf Tryd.f69 0
def s_L4 (owe6 : Int) (i7 : Int) (h0 : List Int) (h1 : List Int) (h3 : List Int) : St := ⟨[AV.dead, AV.dead, AV.ptr 0 [], AV.ptr 1 [], AV.ptr 2 [], AV.ptr 3 [], AV.int IntKind.u64 owe6, AV.int IntKind.i64 i7] ++ List.replicate 26 .dead, [Blk.var (AV.ints IntKind.u32 8 h0), Blk.var (AV.ints IntKind.u32 8 h1), Blk.var (AV.ints IntKind.u32 8 [0, 0, 0, 0, 0, 0, 0, 0]), Blk.var (AV.ints IntKind.u32 8 h3)]⟩
def x_L4_0 (owe6 : Int) (i7 : Int) (h0 : List Int) (h1 : List Int) (h3 : List Int) : St := ⟨[AV.dead, AV.dead, AV.ptr 0 [], AV.ptr 1 [], AV.ptr 2 [], AV.ptr 3 [], AV.int IntKind.u64 owe6, AV.int IntKind.i64 i7, AV.dead, AV.dead, AV.int IntKind.i64 i7, AV.bool (decide (i7 < 8))] ++ List.replicate 22 .dead, [Blk.var (AV.ints IntKind.u32 8 h0), Blk.var (AV.ints IntKind.u32 8 h1), Blk.var (AV.ints IntKind.u32 8 [0, 0, 0, 0, 0, 0, 0, 0]), Blk.var (AV.ints IntKind.u32 8 h3)]⟩
noncomputable def L4 {R : Type} (N : Nat) (ke0 : Int → Int → (List Int) → (List Int) → (List Int) → Option R) : Nat → Int → Int → (List Int) → (List Int) → (List Int) → Option R
  | 0, _, _, _, _, _ => none
  | m + 1, owe6, i7, h0, h1, h3 =>
    cond (decide (i7 < 8))
     (cond (decide (0 ≤ i7))
      (cond (decide (i7 < 8))
       (cond (decide (0 ≤ i7))
        (cond (decide (i7 < 8))
         (cond (decide (0 ≤ i7))
          (cond (decide (i7 < 8))
           (L4 N ke0 m (IntKind.u64.wrap (1 - ishr IntKind.u64 (IntKind.u64.wrap (IntKind.u64.wrap (IntKind.u64.wrap (IntKind.u64.wrap (h0.getD i7.toNat 0) + 4294967296) - IntKind.u64.wrap (h1.getD i7.toNat 0)) - owe6)) 32)) (IntKind.i64.wrap (i7 + 1)) h0 h1 (h3.set i7.toNat (IntKind.u32.wrap (IntKind.u64.wrap (IntKind.u64.wrap (IntKind.u64.wrap (IntKind.u64.wrap (h0.getD i7.toNat 0) + 4294967296) - IntKind.u64.wrap (h1.getD i7.toNat 0)) - owe6)))))
           (none))
          (none))
         (none))
        (none))
       (none))
      (none))
     (ke0 owe6 i7 h0 h1 h3)
theorem round_L4 {R : Type} (N : Nat) (Rn : St → Option R) (k : K R) (owe6 : Int) (i7 : Int) (h0 : List Int) (h1 : List Int) (h3 : List Int) : evC (g) an 0 N c_L4 none (roundK (nmOf 0 (an.loop 4)) Rn k) (s_L4 owe6 i7 h0 h1 h3) =
  cond (decide (i7 < 8))
   (cond (decide (0 ≤ i7))
    (cond (decide (i7 < 8))
     (cond (decide (0 ≤ i7))
      (cond (decide (i7 < 8))
       (cond (decide (0 ≤ i7))
        (cond (decide (i7 < 8))
         (Rn (s_L4 (IntKind.u64.wrap (1 - ishr IntKind.u64 (IntKind.u64.wrap (IntKind.u64.wrap (IntKind.u64.wrap (IntKind.u64.wrap (h0.getD i7.toNat 0) + 4294967296) - IntKind.u64.wrap (h1.getD i7.toNat 0)) - owe6)) 32)) (IntKind.i64.wrap (i7 + 1)) h0 h1 (h3.set i7.toNat (IntKind.u32.wrap (IntKind.u64.wrap (IntKind.u64.wrap (IntKind.u64.wrap (IntKind.u64.wrap (h0.getD i7.toNat 0) + 4294967296) - IntKind.u64.wrap (h1.getD i7.toNat 0)) - owe6))))))
         (none))
        (none))
       (none))
      (none))
     (none))
    (none))
   (k.ext 0 (x_L4_0 owe6 i7 h0 h1 h3)) := by kernel_rfl
theorem run_L4 {R : Type} (N : Nat) (k : K R) : ∀ (m : Nat) (owe6 : Int) (i7 : Int) (h0 : List Int) (h1 : List Int) (h3 : List Int), loopN (evC (g) an 0 N c_L4 none) k (nmOf 0 (an.loop 4)) m (s_L4 owe6 i7 h0 h1 h3) =
    L4 N (fun owe6 i7 h0 h1 h3 => (k).ext 0 (x_L4_0 owe6 i7 h0 h1 h3)) m owe6 i7 h0 h1 h3 := by
  intro m
  induction m with
  | zero => intros; rfl
  | succ m ih =>
    intros
    rw [loopN_succ, round_L4]
    simp only [ih]
    kernel_rfl
noncomputable def m {R : Type} (N : Nat) (a1 : List Int) (b2 : List Int) (kr0 : (List Int) → Option R) : Option R :=
  L4 N
   (fun _owe6_c5 _i7_c6 _h0_c7 _h1_c8 h3_c9 => kr0 h3_c9) N 0 0 a1 b2 ([0, 0, 0, 0, 0, 0, 0, 0])
theorem tree {R : Type} (N : Nat) (κ : AV → List Blk → Option R) (a1 : List Int) (b2 : List Int) : evF (g) an N Tryd.f69 [AV.ints IntKind.u32 8 a1, AV.ints IntKind.u32 8 b2] [] κ =
  loopN (evC (g) an 0 N c_L4 none) (ctx (g) an 0 N (bodyOf Tryd.f69) [1, 1, 1, 0, 1, 0] (endK (g) an Tryd.f69 [] κ)) (nmOf 0 (an.loop 4)) N (s_L4 0 0 a1 b2 ([0, 0, 0, 0, 0, 0, 0, 0])) := by kernel_rfl
theorem eq {R : Type} (N : Nat) (κ : AV → List Blk → Option R) (a1 : List Int) (b2 : List Int) : evF (g) an N Tryd.f69 [AV.ints IntKind.u32 8 a1, AV.ints IntKind.u32 8 b2] [] κ =
  m N a1 b2 (fun v => κ (AV.ints IntKind.u32 8 v) []) := by
  rw [tree]
  simp only [run_L4]
  kernel_rfl
abbrev Ty : Type 1 := ∀ R : Type, (List Int) → (List Int) → ((List Int) → Option R) → Option R
def con (f : Ty) : Con := fun R args bs κ => match args, bs with
  | [AV.ints IntKind.u32 8 a1, AV.ints IntKind.u32 8 b2], [] => f R a1 b2 (fun v => κ (AV.ints IntKind.u32 8 v) [])
  | _, _ => none
theorem con_eq (f : Ty) (R : Type) (κ : AV → List Blk → Option R) (a1 : List Int) (b2 : List Int) : con f R [AV.ints IntKind.u32 8 a1, AV.ints IntKind.u32 8 b2] [] κ = f R a1 b2 (fun v => κ (AV.ints IntKind.u32 8 v) []) := rfl
noncomputable def M (N : Nat) : Ty := fun R a1 b2 kr0 => m (R := R) N a1 b2 kr0
def gts : List (Nat × AV) := []
theorem gok (_N : Nat) : GOk (g) := giD_ok hm (by intro p hp; cases hp) (gtL_ok (by decide)) (ovL_ok (by intro p hp; cases hp)) 1
theorem ok (N : Nat) : SoundC Tryd.prog (gtL gts) 69 (con (M N)) := by
  refine SoundC.mono (evF_ok (gok N) hm an N Tryd.func69) fun R args bs κ r h => ?_
  unfold con at h
  split at h
  · exact (eq N κ _ _).trans h
  · cases h
end rminus


/-! ### Tryd.f40: rLeast -/
namespace rLeast
def an : Anns := ⟨fun i => findA i [(1, ⟨[1, 2], [⟨1, 0, .u8⟩, ⟨2, 1, .u8⟩], 2⟩)], fun i => findA i [], false, fun _ => none⟩
noncomputable def g (mrP : rP.Ty) (mrless : rless.Ty) (mrminus : rminus.Ty) : Gi := giD Tryd.prog (gtL []) (fun _ => an) 0 [] (ovL [(68, rP.con mrP), (67, rless.con mrless), (69, rminus.con mrminus)]) 1
noncomputable def c_L1 : Code := loopOf Tryd.f40 0
def s_L1 (h0 : List Int) : St := ⟨[AV.dead, AV.ptr 0 [], AV.ptr 1 []] ++ List.replicate 8 .dead, [Blk.var (AV.ints IntKind.u32 8 h0), Blk.var (AV.ints IntKind.u32 8 [0, 0, 0, 0, 0, 0, 0, 0])]⟩
def x_L1_0 (h0 : List Int) (v_c4 : Bool) : St := ⟨[AV.dead, AV.ptr 0 [], AV.ptr 1 [], AV.ints IntKind.u32 8 h0, AV.ints IntKind.u32 8 [4294967277, 4294967295, 4294967295, 4294967295, 4294967295, 4294967295, 4294967295, 2147483647], AV.bool v_c4, AV.bool !v_c4] ++ List.replicate 4 .dead, [Blk.var (AV.ints IntKind.u32 8 h0), Blk.var (AV.ints IntKind.u32 8 [0, 0, 0, 0, 0, 0, 0, 0]), Blk.rsv, Blk.rsv, Blk.rsv, Blk.rsv, Blk.rsv, Blk.rsv, Blk.rsv, Blk.rsv]⟩
noncomputable def L1 (mrP : rP.Ty) (mrless : rless.Ty) (mrminus : rminus.Ty) {R : Type} (N : Nat) (ke0 : (List Int) → Bool → Option R) : Nat → (List Int) → Option R
  | 0, _ => none
  | m + 1, h0 =>
    mrP R
     (mrless R h0 ([4294967277, 4294967295, 4294967295, 4294967295, 4294967295, 4294967295, 4294967295, 2147483647])
      (fun v_c4 => cond (!v_c4)
       (mrP R
        (mrminus R h0 ([4294967277, 4294967295, 4294967295, 4294967295, 4294967295, 4294967295, 4294967295, 2147483647])
         (fun v_c5 => L1 mrP mrless mrminus N ke0 m v_c5)))
       (ke0 h0 v_c4)))
theorem round_L1 (mrP : rP.Ty) (mrless : rless.Ty) (mrminus : rminus.Ty) {R : Type} (N : Nat) (Rn : St → Option R) (k : K R) (h0 : List Int) : evC (g mrP mrless mrminus) an 0 N c_L1 none (roundK (nmOf 0 (an.loop 1)) Rn k) (s_L1 h0) =
  mrP R
   (mrless R h0 ([4294967277, 4294967295, 4294967295, 4294967295, 4294967295, 4294967295, 4294967295, 2147483647])
    (fun v_c4 => cond (!v_c4)
     (mrP R
      (mrminus R h0 ([4294967277, 4294967295, 4294967295, 4294967295, 4294967295, 4294967295, 4294967295, 2147483647])
       (fun v_c5 => Rn (s_L1 v_c5))))
     (k.ext 0 (x_L1_0 h0 v_c4)))) := by kernel_rfl
theorem run_L1 (mrP : rP.Ty) (mrless : rless.Ty) (mrminus : rminus.Ty) {R : Type} (N : Nat) (k : K R) : ∀ (m : Nat) (h0 : List Int), loopN (evC (g mrP mrless mrminus) an 0 N c_L1 none) k (nmOf 0 (an.loop 1)) m (s_L1 h0) =
    L1 mrP mrless mrminus N (fun h0 v_c4 => (k).ext 0 (x_L1_0 h0 v_c4)) m h0 := by
  intro m
  induction m with
  | zero => intros; rfl
  | succ m ih =>
    intros
    rw [loopN_succ, round_L1]
    simp only [ih]
    kernel_rfl
noncomputable def m (mrP : rP.Ty) (mrless : rless.Ty) (mrminus : rminus.Ty) {R : Type} (N : Nat) (a1 : List Int) (kr0 : (List Int) → Option R) : Option R :=
  L1 mrP mrless mrminus N
   (fun h0_c6 _v_c7 => kr0 h0_c6) N a1
theorem tree (mrP : rP.Ty) (mrless : rless.Ty) (mrminus : rminus.Ty) {R : Type} (N : Nat) (κ : AV → List Blk → Option R) (a1 : List Int) : evF (g mrP mrless mrminus) an N Tryd.f40 [AV.ints IntKind.u32 8 a1] [] κ =
  loopN (evC (g mrP mrless mrminus) an 0 N c_L1 none) (ctx (g mrP mrless mrminus) an 0 N (bodyOf Tryd.f40) [1, 0, 0] (endK (g mrP mrless mrminus) an Tryd.f40 [] κ)) (nmOf 0 (an.loop 1)) N (s_L1 a1) := by kernel_rfl
theorem eq (mrP : rP.Ty) (mrless : rless.Ty) (mrminus : rminus.Ty) {R : Type} (N : Nat) (κ : AV → List Blk → Option R) (a1 : List Int) : evF (g mrP mrless mrminus) an N Tryd.f40 [AV.ints IntKind.u32 8 a1] [] κ =
  m mrP mrless mrminus N a1 (fun v => κ (AV.ints IntKind.u32 8 v) []) := by
  rw [tree]
  simp only [run_L1]
  kernel_rfl
abbrev Ty : Type 1 := ∀ R : Type, (List Int) → ((List Int) → Option R) → Option R
def con (f : Ty) : Con := fun R args bs κ => match args, bs with
  | [AV.ints IntKind.u32 8 a1], [] => f R a1 (fun v => κ (AV.ints IntKind.u32 8 v) [])
  | _, _ => none
theorem con_eq (f : Ty) (R : Type) (κ : AV → List Blk → Option R) (a1 : List Int) : con f R [AV.ints IntKind.u32 8 a1] [] κ = f R a1 (fun v => κ (AV.ints IntKind.u32 8 v) []) := rfl
noncomputable def M (N : Nat) : Ty := fun R a1 kr0 => m (rP.M N) (rless.M N) (rminus.M N) (R := R) N a1 kr0
def gts : List (Nat × AV) := []
theorem gok (N : Nat) : GOk (g (rP.M N) (rless.M N) (rminus.M N)) := giD_ok hm (by intro p hp; cases hp) (gtL_ok (by decide)) (ovL_ok (by
    intro p hp
    simp only [List.mem_cons, List.not_mem_nil, or_false] at hp
    rcases hp with rfl | rfl | rfl
    · exact ⟨(rP.ok N).gt (gtL_sub (by repeat (first | exact subG_nil _ | refine subG_cons (by kernel_rfl) ?_))) (gtL_ok (by decide)), _, Tryd.func68, by kernel_rfl, by kernel_rfl⟩
    · exact ⟨(rless.ok N).gt (gtL_sub (by repeat (first | exact subG_nil _ | refine subG_cons (by kernel_rfl) ?_))) (gtL_ok (by decide)), _, Tryd.func67, by kernel_rfl, by kernel_rfl⟩
    · exact ⟨(rminus.ok N).gt (gtL_sub (by repeat (first | exact subG_nil _ | refine subG_cons (by kernel_rfl) ?_))) (gtL_ok (by decide)), _, Tryd.func69, by kernel_rfl, by kernel_rfl⟩
)) 1
theorem ok (N : Nat) : SoundC Tryd.prog (gtL gts) 40 (con (M N)) := by
  refine SoundC.mono (evF_ok (gok N) hm an N Tryd.func40) fun R args bs κ r h => ?_
  unfold con at h
  split at h
  · exact (eq (rP.M N) (rless.M N) (rminus.M N) N κ _).trans h
  · cases h
end rLeast


/-! ### Tryd.f70: rfold -/
namespace rfold
def an : Anns := ⟨fun i => findA i [(4, ⟨[1, 2, 3, 4, 5], [⟨1, 0, .u8⟩, ⟨2, 1, .u8⟩, ⟨3, 2, .u8⟩], 3⟩), (12, ⟨[2, 3, 7, 8], [⟨2, 0, .u8⟩, ⟨3, 1, .u8⟩], 2⟩), (9, ⟨[2, 3, 4], [⟨2, 0, .u8⟩, ⟨3, 1, .u8⟩], 2⟩)], fun i => findA i [], false, fun _ => none⟩
noncomputable def g (mrLeast : rLeast.Ty) : Gi := giD Tryd.prog (gtL []) (fun _ => an) 0 [] (ovL [(40, rLeast.con mrLeast)]) 1
noncomputable def c_L4 : Code := loopOf Tryd.f70 0
noncomputable def c_L12 : Code := loopOf Tryd.f70 2
noncomputable def c_L9 : Code := loopOf Tryd.f70 1
def s_L4 (over4 : Int) (i5 : Int) (h0 : List Int) (h2 : List Int) : St := ⟨[AV.dead, AV.ptr 0 [], AV.ptr 1 [], AV.ptr 2 [], AV.int IntKind.u64 over4, AV.int IntKind.i64 i5] ++ List.replicate 50 .dead, [Blk.var (AV.ints IntKind.u32 16 h0), Blk.var (AV.ints IntKind.u32 8 [0, 0, 0, 0, 0, 0, 0, 0]), Blk.var (AV.ints IntKind.u32 8 h2)]⟩
def s_L12 (x7 : Int) (i8 : Int) (h1 : List Int) : St := ⟨[AV.dead, AV.dead, AV.ptr 0 [], AV.ptr 1 [], AV.dead, AV.dead, AV.dead, AV.int IntKind.u64 x7, AV.int IntKind.i64 i8] ++ List.replicate 47 .dead, [Blk.var (AV.ints IntKind.u32 8 [0, 0, 0, 0, 0, 0, 0, 0]), Blk.var (AV.ints IntKind.u32 8 h1)]⟩
def s_L9 (over4v1 : Int) (h1v1 : List Int) : St := ⟨[AV.dead, AV.dead, AV.ptr 0 [], AV.ptr 1 [], AV.int IntKind.u64 over4v1] ++ List.replicate 51 .dead, [Blk.var (AV.ints IntKind.u32 8 [0, 0, 0, 0, 0, 0, 0, 0]), Blk.var (AV.ints IntKind.u32 8 h1v1)]⟩
def x_L4_0 (over4 : Int) (i5 : Int) (h0 : List Int) (h2 : List Int) : St := ⟨[AV.dead, AV.ptr 0 [], AV.ptr 1 [], AV.ptr 2 [], AV.int IntKind.u64 over4, AV.int IntKind.i64 i5] ++ List.replicate 4 .dead ++ [AV.int IntKind.i64 i5, AV.bool (decide (i5 < 8))] ++ List.replicate 44 .dead, [Blk.var (AV.ints IntKind.u32 16 h0), Blk.var (AV.ints IntKind.u32 8 [0, 0, 0, 0, 0, 0, 0, 0]), Blk.var (AV.ints IntKind.u32 8 h2)]⟩
def x_L12_0 (x7 : Int) (i8 : Int) (h1 : List Int) : St := ⟨[AV.dead, AV.dead, AV.ptr 0 [], AV.ptr 1 [], AV.dead, AV.dead, AV.dead, AV.int IntKind.u64 x7, AV.int IntKind.i64 i8] ++ List.replicate 28 .dead ++ [AV.int IntKind.i64 i8, AV.bool (decide (i8 < 8))] ++ List.replicate 17 .dead, [Blk.var (AV.ints IntKind.u32 8 [0, 0, 0, 0, 0, 0, 0, 0]), Blk.var (AV.ints IntKind.u32 8 h1)]⟩
def x_L9_0 (over4v1 : Int) (h1v1 : List Int) : St := ⟨[AV.dead, AV.dead, AV.ptr 0 [], AV.ptr 1 [], AV.int IntKind.u64 over4v1] ++ List.replicate 28 .dead ++ [AV.int IntKind.u64 over4v1, AV.bool (decide (over4v1 > 0))] ++ List.replicate 21 .dead, [Blk.var (AV.ints IntKind.u32 8 [0, 0, 0, 0, 0, 0, 0, 0]), Blk.var (AV.ints IntKind.u32 8 h1v1)]⟩
noncomputable def L4 (mrLeast : rLeast.Ty) {R : Type} (N : Nat) (ke0 : Int → Int → (List Int) → (List Int) → Option R) : Nat → Int → Int → (List Int) → (List Int) → Option R
  | 0, _, _, _, _ => none
  | m + 1, over4, i5, h0, h2 =>
    cond (decide (i5 < 8))
     (cond (decide (0 ≤ i5))
      (cond (decide (i5 < 16))
       (cond (decide (0 ≤ IntKind.i64.wrap (8 + i5)))
        (cond (decide (IntKind.i64.wrap (8 + i5) < 16))
         (cond (decide (0 ≤ i5))
          (cond (decide (i5 < 8))
           (L4 mrLeast N ke0 m (ishr IntKind.u64 (IntKind.u64.wrap (IntKind.u64.wrap (IntKind.u64.wrap (h0.getD i5.toNat 0) + IntKind.u64.wrap (38 * IntKind.u64.wrap (h0.getD (IntKind.i64.wrap (8 + i5)).toNat 0))) + over4)) 32) (IntKind.i64.wrap (i5 + 1)) h0 (h2.set i5.toNat (IntKind.u32.wrap (IntKind.u64.wrap (IntKind.u64.wrap (IntKind.u64.wrap (h0.getD i5.toNat 0) + IntKind.u64.wrap (38 * IntKind.u64.wrap (h0.getD (IntKind.i64.wrap (8 + i5)).toNat 0))) + over4)))))
           (none))
          (none))
         (none))
        (none))
       (none))
      (none))
     (ke0 over4 i5 h0 h2)
theorem round_L4 (mrLeast : rLeast.Ty) {R : Type} (N : Nat) (Rn : St → Option R) (k : K R) (over4 : Int) (i5 : Int) (h0 : List Int) (h2 : List Int) : evC (g mrLeast) an 0 N c_L4 none (roundK (nmOf 0 (an.loop 4)) Rn k) (s_L4 over4 i5 h0 h2) =
  cond (decide (i5 < 8))
   (cond (decide (0 ≤ i5))
    (cond (decide (i5 < 16))
     (cond (decide (0 ≤ IntKind.i64.wrap (8 + i5)))
      (cond (decide (IntKind.i64.wrap (8 + i5) < 16))
       (cond (decide (0 ≤ i5))
        (cond (decide (i5 < 8))
         (Rn (s_L4 (ishr IntKind.u64 (IntKind.u64.wrap (IntKind.u64.wrap (IntKind.u64.wrap (h0.getD i5.toNat 0) + IntKind.u64.wrap (38 * IntKind.u64.wrap (h0.getD (IntKind.i64.wrap (8 + i5)).toNat 0))) + over4)) 32) (IntKind.i64.wrap (i5 + 1)) h0 (h2.set i5.toNat (IntKind.u32.wrap (IntKind.u64.wrap (IntKind.u64.wrap (IntKind.u64.wrap (h0.getD i5.toNat 0) + IntKind.u64.wrap (38 * IntKind.u64.wrap (h0.getD (IntKind.i64.wrap (8 + i5)).toNat 0))) + over4))))))
         (none))
        (none))
       (none))
      (none))
     (none))
    (none))
   (k.ext 0 (x_L4_0 over4 i5 h0 h2)) := by kernel_rfl
theorem run_L4 (mrLeast : rLeast.Ty) {R : Type} (N : Nat) (k : K R) : ∀ (m : Nat) (over4 : Int) (i5 : Int) (h0 : List Int) (h2 : List Int), loopN (evC (g mrLeast) an 0 N c_L4 none) k (nmOf 0 (an.loop 4)) m (s_L4 over4 i5 h0 h2) =
    L4 mrLeast N (fun over4 i5 h0 h2 => (k).ext 0 (x_L4_0 over4 i5 h0 h2)) m over4 i5 h0 h2 := by
  intro m
  induction m with
  | zero => intros; rfl
  | succ m ih =>
    intros
    rw [loopN_succ, round_L4]
    simp only [ih]
    kernel_rfl
noncomputable def L12 (mrLeast : rLeast.Ty) {R : Type} (N : Nat) (ke0 : Int → Int → (List Int) → Option R) : Nat → Int → Int → (List Int) → Option R
  | 0, _, _, _ => none
  | m + 1, x7, i8, h1 =>
    cond (decide (i8 < 8))
     (cond (decide (0 ≤ i8))
      (cond (decide (i8 < 8))
       (cond (decide (0 ≤ i8))
        (cond (decide (i8 < 8))
         (L12 mrLeast N ke0 m (ishr IntKind.u64 (IntKind.u64.wrap (x7 + IntKind.u64.wrap (h1.getD i8.toNat 0))) 32) (IntKind.i64.wrap (i8 + 1)) (h1.set i8.toNat (IntKind.u32.wrap (IntKind.u64.wrap (x7 + IntKind.u64.wrap (h1.getD i8.toNat 0))))))
         (none))
        (none))
       (none))
      (none))
     (ke0 x7 i8 h1)
theorem round_L12 (mrLeast : rLeast.Ty) {R : Type} (N : Nat) (Rn : St → Option R) (k : K R) (x7 : Int) (i8 : Int) (h1 : List Int) : evC (g mrLeast) an 0 N c_L12 none (roundK (nmOf 0 (an.loop 12)) Rn k) (s_L12 x7 i8 h1) =
  cond (decide (i8 < 8))
   (cond (decide (0 ≤ i8))
    (cond (decide (i8 < 8))
     (cond (decide (0 ≤ i8))
      (cond (decide (i8 < 8))
       (Rn (s_L12 (ishr IntKind.u64 (IntKind.u64.wrap (x7 + IntKind.u64.wrap (h1.getD i8.toNat 0))) 32) (IntKind.i64.wrap (i8 + 1)) (h1.set i8.toNat (IntKind.u32.wrap (IntKind.u64.wrap (x7 + IntKind.u64.wrap (h1.getD i8.toNat 0)))))))
       (none))
      (none))
     (none))
    (none))
   (k.ext 4 (x_L12_0 x7 i8 h1)) := by kernel_rfl
theorem run_L12 (mrLeast : rLeast.Ty) {R : Type} (N : Nat) (k : K R) : ∀ (m : Nat) (x7 : Int) (i8 : Int) (h1 : List Int), loopN (evC (g mrLeast) an 0 N c_L12 none) k (nmOf 0 (an.loop 12)) m (s_L12 x7 i8 h1) =
    L12 mrLeast N (fun x7 i8 h1 => (k).ext 4 (x_L12_0 x7 i8 h1)) m x7 i8 h1 := by
  intro m
  induction m with
  | zero => intros; rfl
  | succ m ih =>
    intros
    rw [loopN_succ, round_L12]
    simp only [ih]
    kernel_rfl
noncomputable def L9 (mrLeast : rLeast.Ty) {R : Type} (N : Nat) (ke0 : Int → (List Int) → Option R) : Nat → Int → (List Int) → Option R
  | 0, _, _ => none
  | m + 1, over4v1, h1v1 =>
    cond (decide (over4v1 > 0))
     (L12 mrLeast N
      (fun x7_c18 _i8_c19 h1_c20 => L9 mrLeast N ke0 m x7_c18 h1_c20) N (IntKind.u64.wrap (over4v1 * 38)) 0 h1v1)
     (ke0 over4v1 h1v1)
theorem round_L9 (mrLeast : rLeast.Ty) {R : Type} (N : Nat) (Rn : St → Option R) (k : K R) (over4v1 : Int) (h1v1 : List Int) : evC (g mrLeast) an 0 N c_L9 none (roundK (nmOf 0 (an.loop 9)) Rn k) (s_L9 over4v1 h1v1) =
  cond (decide (over4v1 > 0))
   (loopN (evC (g mrLeast) an 0 N c_L12 none) (ctx (g mrLeast) an 0 N c_L9 [1, 0, 1, 0, 1, 0] (roundK (nmOf 0 (an.loop 9)) Rn k)) (nmOf 0 (an.loop 12)) N (s_L12 (IntKind.u64.wrap (over4v1 * 38)) 0 h1v1))
   (k.ext 2 (x_L9_0 over4v1 h1v1)) := by kernel_rfl
theorem round_L9_e0 (mrLeast : rLeast.Ty) {R : Type} (N : Nat) (Rn : St → Option R) (k : K R) (x7_c18 : Int) (i8_c19 : Int) (h1_c20 : List Int) : (ctx (g mrLeast) an 0 N c_L9 [1, 0, 1, 0, 1, 0] (roundK (nmOf 0 (an.loop 9)) Rn k)).ext 4 (x_L12_0 x7_c18 i8_c19 h1_c20) =
  Rn (s_L9 x7_c18 h1_c20) := by kernel_rfl
theorem run_L9 (mrLeast : rLeast.Ty) {R : Type} (N : Nat) (k : K R) : ∀ (m : Nat) (over4v1 : Int) (h1v1 : List Int), loopN (evC (g mrLeast) an 0 N c_L9 none) k (nmOf 0 (an.loop 9)) m (s_L9 over4v1 h1v1) =
    L9 mrLeast N (fun over4v1 h1v1 => (k).ext 2 (x_L9_0 over4v1 h1v1)) m over4v1 h1v1 := by
  intro m
  induction m with
  | zero => intros; rfl
  | succ m ih =>
    intros
    rw [loopN_succ, round_L9]
    simp only [run_L12, round_L9_e0, ih]
    kernel_rfl
noncomputable def m (mrLeast : rLeast.Ty) {R : Type} (N : Nat) (w1 : List Int) (kr0 : (List Int) → Option R) : Option R :=
  L4 mrLeast N
   (fun over4_c14 _i5_c15 _h0_c16 h2_c17 => L9 mrLeast N
    (fun _over4_c21 h1_c22 => mrLeast R h1_c22
     (fun v_c23 => kr0 v_c23)) N over4_c14 h2_c17) N 0 0 w1 ([0, 0, 0, 0, 0, 0, 0, 0])
theorem tree (mrLeast : rLeast.Ty) {R : Type} (N : Nat) (κ : AV → List Blk → Option R) (w1 : List Int) : evF (g mrLeast) an N Tryd.f70 [AV.ints IntKind.u32 16 w1] [] κ =
  loopN (evC (g mrLeast) an 0 N c_L4 none) (ctx (g mrLeast) an 0 N (bodyOf Tryd.f70) [1, 1, 1, 0, 1, 0] (endK (g mrLeast) an Tryd.f70 [] κ)) (nmOf 0 (an.loop 4)) N (s_L4 0 0 w1 ([0, 0, 0, 0, 0, 0, 0, 0])) := by kernel_rfl
theorem tree_e0 (mrLeast : rLeast.Ty) {R : Type} (N : Nat) (κ : AV → List Blk → Option R) (over4_c14 : Int) (i5_c15 : Int) (h0_c16 : List Int) (h2_c17 : List Int) : (ctx (g mrLeast) an 0 N (bodyOf Tryd.f70) [1, 1, 1, 0, 1, 0] (endK (g mrLeast) an Tryd.f70 [] κ)).ext 0 (x_L4_0 over4_c14 i5_c15 h0_c16 h2_c17) =
  loopN (evC (g mrLeast) an 0 N c_L9 none) (ctx (g mrLeast) an 0 N (bodyOf Tryd.f70) [1, 1, 1, 1, 0, 0] (endK (g mrLeast) an Tryd.f70 [] κ)) (nmOf 0 (an.loop 9)) N (s_L9 over4_c14 h2_c17) := by kernel_rfl
theorem eq (mrLeast : rLeast.Ty) {R : Type} (N : Nat) (κ : AV → List Blk → Option R) (w1 : List Int) : evF (g mrLeast) an N Tryd.f70 [AV.ints IntKind.u32 16 w1] [] κ =
  m mrLeast N w1 (fun v => κ (AV.ints IntKind.u32 8 v) []) := by
  rw [tree]
  simp only [run_L4, run_L9, tree_e0]
  kernel_rfl
abbrev Ty : Type 1 := ∀ R : Type, (List Int) → ((List Int) → Option R) → Option R
def con (f : Ty) : Con := fun R args bs κ => match args, bs with
  | [AV.ints IntKind.u32 16 w1], [] => f R w1 (fun v => κ (AV.ints IntKind.u32 8 v) [])
  | _, _ => none
theorem con_eq (f : Ty) (R : Type) (κ : AV → List Blk → Option R) (w1 : List Int) : con f R [AV.ints IntKind.u32 16 w1] [] κ = f R w1 (fun v => κ (AV.ints IntKind.u32 8 v) []) := rfl
noncomputable def M (N : Nat) : Ty := fun R w1 kr0 => m (rLeast.M N) (R := R) N w1 kr0
def gts : List (Nat × AV) := []
theorem gok (N : Nat) : GOk (g (rLeast.M N)) := giD_ok hm (by intro p hp; cases hp) (gtL_ok (by decide)) (ovL_ok (by
    intro p hp
    simp only [List.mem_cons, List.not_mem_nil, or_false] at hp
    rcases hp with rfl
    · exact ⟨(rLeast.ok N).gt (gtL_sub (by repeat (first | exact subG_nil _ | refine subG_cons (by kernel_rfl) ?_))) (gtL_ok (by decide)), _, Tryd.func40, by kernel_rfl, by kernel_rfl⟩
)) 1
theorem ok (N : Nat) : SoundC Tryd.prog (gtL gts) 70 (con (M N)) := by
  refine SoundC.mono (evF_ok (gok N) hm an N Tryd.func70) fun R args bs κ r h => ?_
  unfold con at h
  split at h
  · exact (eq (rLeast.M N) N κ _).trans h
  · cases h
end rfold


/-! ### Tryd.f41: rTimes -/
namespace rTimes
def an : Anns := ⟨fun i => findA i [(7, ⟨[2, 3, 4, 5, 6, 7, 8], [⟨2, 0, .u8⟩, ⟨3, 1, .u8⟩, ⟨4, 2, .u8⟩, ⟨5, 3, .u8⟩], 4⟩), (3, ⟨[2, 3, 4, 5, 6], [⟨2, 0, .u8⟩, ⟨3, 1, .u8⟩, ⟨4, 2, .u8⟩, ⟨5, 3, .u8⟩], 4⟩)], fun i => findA i [], false, fun _ => none⟩
noncomputable def g (mrfold : rfold.Ty) : Gi := giD Tryd.prog (gtL []) (fun _ => an) 0 [] (ovL [(70, rfold.con mrfold)]) 1
noncomputable def c_L7 : Code := loopOf Tryd.f41 1
noncomputable def c_L3 : Code := loopOf Tryd.f41 0
def s_L7 (i6 : Int) (over7 : Int) (k8 : Int) (h0 : List Int) (h1 : List Int) (h3 : List Int) : St := ⟨[AV.dead, AV.dead, AV.ptr 0 [], AV.ptr 1 [], AV.ptr 2 [], AV.ptr 3 [], AV.int IntKind.i64 i6, AV.int IntKind.u64 over7, AV.int IntKind.i64 k8] ++ List.replicate 43 .dead, [Blk.var (AV.ints IntKind.u32 8 h0), Blk.var (AV.ints IntKind.u32 8 h1), Blk.var (AV.ints IntKind.u32 8 [0, 0, 0, 0, 0, 0, 0, 0]), Blk.var (AV.ints IntKind.u32 16 h3)]⟩
def s_L3 (i6v1 : Int) (h0v1 : List Int) (h1v1 : List Int) (h3v1 : List Int) : St := ⟨[AV.dead, AV.dead, AV.ptr 0 [], AV.ptr 1 [], AV.ptr 2 [], AV.ptr 3 [], AV.int IntKind.i64 i6v1] ++ List.replicate 45 .dead, [Blk.var (AV.ints IntKind.u32 8 h0v1), Blk.var (AV.ints IntKind.u32 8 h1v1), Blk.var (AV.ints IntKind.u32 8 [0, 0, 0, 0, 0, 0, 0, 0]), Blk.var (AV.ints IntKind.u32 16 h3v1)]⟩
def x_L7_0 (i6 : Int) (over7 : Int) (k8 : Int) (h0 : List Int) (h1 : List Int) (h3 : List Int) : St := ⟨[AV.dead, AV.dead, AV.ptr 0 [], AV.ptr 1 [], AV.ptr 2 [], AV.ptr 3 [], AV.int IntKind.i64 i6, AV.int IntKind.u64 over7, AV.int IntKind.i64 k8] ++ List.replicate 6 .dead ++ [AV.int IntKind.i64 k8, AV.bool (decide (k8 < 8))] ++ List.replicate 35 .dead, [Blk.var (AV.ints IntKind.u32 8 h0), Blk.var (AV.ints IntKind.u32 8 h1), Blk.var (AV.ints IntKind.u32 8 [0, 0, 0, 0, 0, 0, 0, 0]), Blk.var (AV.ints IntKind.u32 16 h3)]⟩
def x_L3_0 (i6v1 : Int) (h0v1 : List Int) (h1v1 : List Int) (h3v1 : List Int) : St := ⟨[AV.dead, AV.dead, AV.ptr 0 [], AV.ptr 1 [], AV.ptr 2 [], AV.ptr 3 [], AV.int IntKind.i64 i6v1] ++ List.replicate 4 .dead ++ [AV.int IntKind.i64 i6v1, AV.bool (decide (i6v1 < 8))] ++ List.replicate 39 .dead, [Blk.var (AV.ints IntKind.u32 8 h0v1), Blk.var (AV.ints IntKind.u32 8 h1v1), Blk.var (AV.ints IntKind.u32 8 [0, 0, 0, 0, 0, 0, 0, 0]), Blk.var (AV.ints IntKind.u32 16 h3v1)]⟩
noncomputable def L7 (mrfold : rfold.Ty) {R : Type} (N : Nat) (ke0 : Int → Int → Int → (List Int) → (List Int) → (List Int) → Option R) : Nat → Int → Int → Int → (List Int) → (List Int) → (List Int) → Option R
  | 0, _, _, _, _, _, _ => none
  | m + 1, i6, over7, k8, h0, h1, h3 =>
    cond (decide (k8 < 8))
     (cond (decide (0 ≤ i6))
      (cond (decide (i6 < 8))
       (cond (decide (0 ≤ k8))
        (cond (decide (k8 < 8))
         (cond (decide (0 ≤ IntKind.i64.wrap (i6 + k8)))
          (cond (decide (IntKind.i64.wrap (i6 + k8) < 16))
           (cond (decide (0 ≤ IntKind.i64.wrap (i6 + k8)))
            (cond (decide (IntKind.i64.wrap (i6 + k8) < 16))
             (L7 mrfold N ke0 m i6 (ishr IntKind.u64 (IntKind.u64.wrap (IntKind.u64.wrap (IntKind.u64.wrap (IntKind.u64.wrap (h0.getD i6.toNat 0) * IntKind.u64.wrap (h1.getD k8.toNat 0)) + IntKind.u64.wrap (h3.getD (IntKind.i64.wrap (i6 + k8)).toNat 0)) + over7)) 32) (IntKind.i64.wrap (k8 + 1)) h0 h1 (h3.set (IntKind.i64.wrap (i6 + k8)).toNat (IntKind.u32.wrap (IntKind.u64.wrap (IntKind.u64.wrap (IntKind.u64.wrap (IntKind.u64.wrap (h0.getD i6.toNat 0) * IntKind.u64.wrap (h1.getD k8.toNat 0)) + IntKind.u64.wrap (h3.getD (IntKind.i64.wrap (i6 + k8)).toNat 0)) + over7)))))
             (none))
            (none))
           (none))
          (none))
         (none))
        (none))
       (none))
      (none))
     (ke0 i6 over7 k8 h0 h1 h3)
theorem round_L7 (mrfold : rfold.Ty) {R : Type} (N : Nat) (Rn : St → Option R) (k : K R) (i6 : Int) (over7 : Int) (k8 : Int) (h0 : List Int) (h1 : List Int) (h3 : List Int) : evC (g mrfold) an 0 N c_L7 none (roundK (nmOf 0 (an.loop 7)) Rn k) (s_L7 i6 over7 k8 h0 h1 h3) =
  cond (decide (k8 < 8))
   (cond (decide (0 ≤ i6))
    (cond (decide (i6 < 8))
     (cond (decide (0 ≤ k8))
      (cond (decide (k8 < 8))
       (cond (decide (0 ≤ IntKind.i64.wrap (i6 + k8)))
        (cond (decide (IntKind.i64.wrap (i6 + k8) < 16))
         (cond (decide (0 ≤ IntKind.i64.wrap (i6 + k8)))
          (cond (decide (IntKind.i64.wrap (i6 + k8) < 16))
           (Rn (s_L7 i6 (ishr IntKind.u64 (IntKind.u64.wrap (IntKind.u64.wrap (IntKind.u64.wrap (IntKind.u64.wrap (h0.getD i6.toNat 0) * IntKind.u64.wrap (h1.getD k8.toNat 0)) + IntKind.u64.wrap (h3.getD (IntKind.i64.wrap (i6 + k8)).toNat 0)) + over7)) 32) (IntKind.i64.wrap (k8 + 1)) h0 h1 (h3.set (IntKind.i64.wrap (i6 + k8)).toNat (IntKind.u32.wrap (IntKind.u64.wrap (IntKind.u64.wrap (IntKind.u64.wrap (IntKind.u64.wrap (h0.getD i6.toNat 0) * IntKind.u64.wrap (h1.getD k8.toNat 0)) + IntKind.u64.wrap (h3.getD (IntKind.i64.wrap (i6 + k8)).toNat 0)) + over7))))))
           (none))
          (none))
         (none))
        (none))
       (none))
      (none))
     (none))
    (none))
   (k.ext 2 (x_L7_0 i6 over7 k8 h0 h1 h3)) := by kernel_rfl
theorem run_L7 (mrfold : rfold.Ty) {R : Type} (N : Nat) (k : K R) : ∀ (m : Nat) (i6 : Int) (over7 : Int) (k8 : Int) (h0 : List Int) (h1 : List Int) (h3 : List Int), loopN (evC (g mrfold) an 0 N c_L7 none) k (nmOf 0 (an.loop 7)) m (s_L7 i6 over7 k8 h0 h1 h3) =
    L7 mrfold N (fun i6 over7 k8 h0 h1 h3 => (k).ext 2 (x_L7_0 i6 over7 k8 h0 h1 h3)) m i6 over7 k8 h0 h1 h3 := by
  intro m
  induction m with
  | zero => intros; rfl
  | succ m ih =>
    intros
    rw [loopN_succ, round_L7]
    simp only [ih]
    kernel_rfl
noncomputable def L3 (mrfold : rfold.Ty) {R : Type} (N : Nat) (ke0 : Int → (List Int) → (List Int) → (List Int) → Option R) : Nat → Int → (List Int) → (List Int) → (List Int) → Option R
  | 0, _, _, _, _ => none
  | m + 1, i6v1, h0v1, h1v1, h3v1 =>
    cond (decide (i6v1 < 8))
     (L7 mrfold N
      (fun i6_c16 over7_c17 _k8_c18 h0_c19 h1_c20 h3_c21 => cond (decide (0 ≤ IntKind.i64.wrap (i6_c16 + 8)))
       (cond (decide (IntKind.i64.wrap (i6_c16 + 8) < 16))
        (L3 mrfold N ke0 m (IntKind.i64.wrap (i6_c16 + 1)) h0_c19 h1_c20 (h3_c21.set (IntKind.i64.wrap (i6_c16 + 8)).toNat (IntKind.u32.wrap over7_c17)))
        (none))
       (none)) N i6v1 0 0 h0v1 h1v1 h3v1)
     (ke0 i6v1 h0v1 h1v1 h3v1)
theorem round_L3 (mrfold : rfold.Ty) {R : Type} (N : Nat) (Rn : St → Option R) (k : K R) (i6v1 : Int) (h0v1 : List Int) (h1v1 : List Int) (h3v1 : List Int) : evC (g mrfold) an 0 N c_L3 none (roundK (nmOf 0 (an.loop 3)) Rn k) (s_L3 i6v1 h0v1 h1v1 h3v1) =
  cond (decide (i6v1 < 8))
   (loopN (evC (g mrfold) an 0 N c_L7 none) (ctx (g mrfold) an 0 N c_L3 [1, 0, 0, 1, 0, 1, 0] (roundK (nmOf 0 (an.loop 3)) Rn k)) (nmOf 0 (an.loop 7)) N (s_L7 i6v1 0 0 h0v1 h1v1 h3v1))
   (k.ext 0 (x_L3_0 i6v1 h0v1 h1v1 h3v1)) := by kernel_rfl
theorem round_L3_e0 (mrfold : rfold.Ty) {R : Type} (N : Nat) (Rn : St → Option R) (k : K R) (i6_c16 : Int) (over7_c17 : Int) (k8_c18 : Int) (h0_c19 : List Int) (h1_c20 : List Int) (h3_c21 : List Int) : (ctx (g mrfold) an 0 N c_L3 [1, 0, 0, 1, 0, 1, 0] (roundK (nmOf 0 (an.loop 3)) Rn k)).ext 2 (x_L7_0 i6_c16 over7_c17 k8_c18 h0_c19 h1_c20 h3_c21) =
  cond (decide (0 ≤ IntKind.i64.wrap (i6_c16 + 8)))
   (cond (decide (IntKind.i64.wrap (i6_c16 + 8) < 16))
    (Rn (s_L3 (IntKind.i64.wrap (i6_c16 + 1)) h0_c19 h1_c20 (h3_c21.set (IntKind.i64.wrap (i6_c16 + 8)).toNat (IntKind.u32.wrap over7_c17))))
    (none))
   (none) := by kernel_rfl
theorem run_L3 (mrfold : rfold.Ty) {R : Type} (N : Nat) (k : K R) : ∀ (m : Nat) (i6v1 : Int) (h0v1 : List Int) (h1v1 : List Int) (h3v1 : List Int), loopN (evC (g mrfold) an 0 N c_L3 none) k (nmOf 0 (an.loop 3)) m (s_L3 i6v1 h0v1 h1v1 h3v1) =
    L3 mrfold N (fun i6v1 h0v1 h1v1 h3v1 => (k).ext 0 (x_L3_0 i6v1 h0v1 h1v1 h3v1)) m i6v1 h0v1 h1v1 h3v1 := by
  intro m
  induction m with
  | zero => intros; rfl
  | succ m ih =>
    intros
    rw [loopN_succ, round_L3]
    simp only [run_L7, round_L3_e0, ih]
    kernel_rfl
noncomputable def m (mrfold : rfold.Ty) {R : Type} (N : Nat) (a1 : List Int) (b2 : List Int) (kr0 : (List Int) → Option R) : Option R :=
  L3 mrfold N
   (fun _i6_c22 _h0_c23 _h1_c24 h3_c25 => mrfold R h3_c25
    (fun v_c26 => kr0 v_c26)) N 0 a1 b2 ([0, 0, 0, 0, 0, 0, 0, 0, 0, 0, 0, 0, 0, 0, 0, 0])
theorem tree (mrfold : rfold.Ty) {R : Type} (N : Nat) (κ : AV → List Blk → Option R) (a1 : List Int) (b2 : List Int) : evF (g mrfold) an N Tryd.f41 [AV.ints IntKind.u32 8 a1, AV.ints IntKind.u32 8 b2] [] κ =
  loopN (evC (g mrfold) an 0 N c_L3 none) (ctx (g mrfold) an 0 N (bodyOf Tryd.f41) [1, 1, 0, 1, 0] (endK (g mrfold) an Tryd.f41 [] κ)) (nmOf 0 (an.loop 3)) N (s_L3 0 a1 b2 ([0, 0, 0, 0, 0, 0, 0, 0, 0, 0, 0, 0, 0, 0, 0, 0])) := by kernel_rfl
theorem eq (mrfold : rfold.Ty) {R : Type} (N : Nat) (κ : AV → List Blk → Option R) (a1 : List Int) (b2 : List Int) : evF (g mrfold) an N Tryd.f41 [AV.ints IntKind.u32 8 a1, AV.ints IntKind.u32 8 b2] [] κ =
  m mrfold N a1 b2 (fun v => κ (AV.ints IntKind.u32 8 v) []) := by
  rw [tree]
  simp only [run_L3]
  kernel_rfl
abbrev Ty : Type 1 := ∀ R : Type, (List Int) → (List Int) → ((List Int) → Option R) → Option R
def con (f : Ty) : Con := fun R args bs κ => match args, bs with
  | [AV.ints IntKind.u32 8 a1, AV.ints IntKind.u32 8 b2], [] => f R a1 b2 (fun v => κ (AV.ints IntKind.u32 8 v) [])
  | _, _ => none
theorem con_eq (f : Ty) (R : Type) (κ : AV → List Blk → Option R) (a1 : List Int) (b2 : List Int) : con f R [AV.ints IntKind.u32 8 a1, AV.ints IntKind.u32 8 b2] [] κ = f R a1 b2 (fun v => κ (AV.ints IntKind.u32 8 v) []) := rfl
noncomputable def M (N : Nat) : Ty := fun R a1 b2 kr0 => m (rfold.M N) (R := R) N a1 b2 kr0
def gts : List (Nat × AV) := []
theorem gok (N : Nat) : GOk (g (rfold.M N)) := giD_ok hm (by intro p hp; cases hp) (gtL_ok (by decide)) (ovL_ok (by
    intro p hp
    simp only [List.mem_cons, List.not_mem_nil, or_false] at hp
    rcases hp with rfl
    · exact ⟨(rfold.ok N).gt (gtL_sub (by repeat (first | exact subG_nil _ | refine subG_cons (by kernel_rfl) ?_))) (gtL_ok (by decide)), _, Tryd.func70, by kernel_rfl, by kernel_rfl⟩
)) 1
theorem ok (N : Nat) : SoundC Tryd.prog (gtL gts) 41 (con (M N)) := by
  refine SoundC.mono (evF_ok (gok N) hm an N Tryd.func41) fun R args bs κ r h => ?_
  unfold con at h
  split at h
  · exact (eq (rfold.M N) N κ _ _).trans h
  · cases h
end rTimes


/-! ### Tryd.f46: rAdd -/
namespace rAdd
def an : Anns := ⟨fun i => findA i [(4, ⟨[2, 3, 4, 5, 6, 7], [⟨2, 0, .u8⟩, ⟨3, 1, .u8⟩, ⟨4, 2, .u8⟩, ⟨5, 3, .u8⟩], 4⟩)], fun i => findA i [], false, fun _ => none⟩
noncomputable def g (mrfold : rfold.Ty) : Gi := giD Tryd.prog (gtL []) (fun _ => an) 0 [] (ovL [(70, rfold.con mrfold)]) 1
noncomputable def c_L4 : Code := loopOf Tryd.f46 0
def s_L4 (over6 : Int) (i7 : Int) (h0 : List Int) (h1 : List Int) (h3 : List Int) : St := ⟨[AV.dead, AV.dead, AV.ptr 0 [], AV.ptr 1 [], AV.ptr 2 [], AV.ptr 3 [], AV.int IntKind.u64 over6, AV.int IntKind.i64 i7] ++ List.replicate 28 .dead, [Blk.var (AV.ints IntKind.u32 8 h0), Blk.var (AV.ints IntKind.u32 8 h1), Blk.var (AV.ints IntKind.u32 8 [0, 0, 0, 0, 0, 0, 0, 0]), Blk.var (AV.ints IntKind.u32 16 h3)]⟩
def x_L4_0 (over6 : Int) (i7 : Int) (h0 : List Int) (h1 : List Int) (h3 : List Int) : St := ⟨[AV.dead, AV.dead, AV.ptr 0 [], AV.ptr 1 [], AV.ptr 2 [], AV.ptr 3 [], AV.int IntKind.u64 over6, AV.int IntKind.i64 i7, AV.dead, AV.dead, AV.int IntKind.i64 i7, AV.bool (decide (i7 < 8))] ++ List.replicate 24 .dead, [Blk.var (AV.ints IntKind.u32 8 h0), Blk.var (AV.ints IntKind.u32 8 h1), Blk.var (AV.ints IntKind.u32 8 [0, 0, 0, 0, 0, 0, 0, 0]), Blk.var (AV.ints IntKind.u32 16 h3)]⟩
noncomputable def L4 (mrfold : rfold.Ty) {R : Type} (N : Nat) (ke0 : Int → Int → (List Int) → (List Int) → (List Int) → Option R) : Nat → Int → Int → (List Int) → (List Int) → (List Int) → Option R
  | 0, _, _, _, _, _ => none
  | m + 1, over6, i7, h0, h1, h3 =>
    cond (decide (i7 < 8))
     (cond (decide (0 ≤ i7))
      (cond (decide (i7 < 8))
       (cond (decide (0 ≤ i7))
        (cond (decide (i7 < 8))
         (cond (decide (0 ≤ i7))
          (cond (decide (i7 < 16))
           (L4 mrfold N ke0 m (ishr IntKind.u64 (IntKind.u64.wrap (IntKind.u64.wrap (IntKind.u64.wrap (h0.getD i7.toNat 0) + IntKind.u64.wrap (h1.getD i7.toNat 0)) + over6)) 32) (IntKind.i64.wrap (i7 + 1)) h0 h1 (h3.set i7.toNat (IntKind.u32.wrap (IntKind.u64.wrap (IntKind.u64.wrap (IntKind.u64.wrap (h0.getD i7.toNat 0) + IntKind.u64.wrap (h1.getD i7.toNat 0)) + over6)))))
           (none))
          (none))
         (none))
        (none))
       (none))
      (none))
     (ke0 over6 i7 h0 h1 h3)
theorem round_L4 (mrfold : rfold.Ty) {R : Type} (N : Nat) (Rn : St → Option R) (k : K R) (over6 : Int) (i7 : Int) (h0 : List Int) (h1 : List Int) (h3 : List Int) : evC (g mrfold) an 0 N c_L4 none (roundK (nmOf 0 (an.loop 4)) Rn k) (s_L4 over6 i7 h0 h1 h3) =
  cond (decide (i7 < 8))
   (cond (decide (0 ≤ i7))
    (cond (decide (i7 < 8))
     (cond (decide (0 ≤ i7))
      (cond (decide (i7 < 8))
       (cond (decide (0 ≤ i7))
        (cond (decide (i7 < 16))
         (Rn (s_L4 (ishr IntKind.u64 (IntKind.u64.wrap (IntKind.u64.wrap (IntKind.u64.wrap (h0.getD i7.toNat 0) + IntKind.u64.wrap (h1.getD i7.toNat 0)) + over6)) 32) (IntKind.i64.wrap (i7 + 1)) h0 h1 (h3.set i7.toNat (IntKind.u32.wrap (IntKind.u64.wrap (IntKind.u64.wrap (IntKind.u64.wrap (h0.getD i7.toNat 0) + IntKind.u64.wrap (h1.getD i7.toNat 0)) + over6))))))
         (none))
        (none))
       (none))
      (none))
     (none))
    (none))
   (k.ext 0 (x_L4_0 over6 i7 h0 h1 h3)) := by kernel_rfl
theorem run_L4 (mrfold : rfold.Ty) {R : Type} (N : Nat) (k : K R) : ∀ (m : Nat) (over6 : Int) (i7 : Int) (h0 : List Int) (h1 : List Int) (h3 : List Int), loopN (evC (g mrfold) an 0 N c_L4 none) k (nmOf 0 (an.loop 4)) m (s_L4 over6 i7 h0 h1 h3) =
    L4 mrfold N (fun over6 i7 h0 h1 h3 => (k).ext 0 (x_L4_0 over6 i7 h0 h1 h3)) m over6 i7 h0 h1 h3 := by
  intro m
  induction m with
  | zero => intros; rfl
  | succ m ih =>
    intros
    rw [loopN_succ, round_L4]
    simp only [ih]
    kernel_rfl
noncomputable def m (mrfold : rfold.Ty) {R : Type} (N : Nat) (a1 : List Int) (b2 : List Int) (kr0 : (List Int) → Option R) : Option R :=
  L4 mrfold N
   (fun over6_c6 _i7_c7 _h0_c8 _h1_c9 h3_c10 => mrfold R (h3_c10.set 8 (IntKind.u32.wrap over6_c6))
    (fun v_c11 => kr0 v_c11)) N 0 0 a1 b2 ([0, 0, 0, 0, 0, 0, 0, 0, 0, 0, 0, 0, 0, 0, 0, 0])
theorem tree (mrfold : rfold.Ty) {R : Type} (N : Nat) (κ : AV → List Blk → Option R) (a1 : List Int) (b2 : List Int) : evF (g mrfold) an N Tryd.f46 [AV.ints IntKind.u32 8 a1, AV.ints IntKind.u32 8 b2] [] κ =
  loopN (evC (g mrfold) an 0 N c_L4 none) (ctx (g mrfold) an 0 N (bodyOf Tryd.f46) [1, 1, 1, 0, 1, 0] (endK (g mrfold) an Tryd.f46 [] κ)) (nmOf 0 (an.loop 4)) N (s_L4 0 0 a1 b2 ([0, 0, 0, 0, 0, 0, 0, 0, 0, 0, 0, 0, 0, 0, 0, 0])) := by kernel_rfl
theorem eq (mrfold : rfold.Ty) {R : Type} (N : Nat) (κ : AV → List Blk → Option R) (a1 : List Int) (b2 : List Int) : evF (g mrfold) an N Tryd.f46 [AV.ints IntKind.u32 8 a1, AV.ints IntKind.u32 8 b2] [] κ =
  m mrfold N a1 b2 (fun v => κ (AV.ints IntKind.u32 8 v) []) := by
  rw [tree]
  simp only [run_L4]
  kernel_rfl
abbrev Ty : Type 1 := ∀ R : Type, (List Int) → (List Int) → ((List Int) → Option R) → Option R
def con (f : Ty) : Con := fun R args bs κ => match args, bs with
  | [AV.ints IntKind.u32 8 a1, AV.ints IntKind.u32 8 b2], [] => f R a1 b2 (fun v => κ (AV.ints IntKind.u32 8 v) [])
  | _, _ => none
theorem con_eq (f : Ty) (R : Type) (κ : AV → List Blk → Option R) (a1 : List Int) (b2 : List Int) : con f R [AV.ints IntKind.u32 8 a1, AV.ints IntKind.u32 8 b2] [] κ = f R a1 b2 (fun v => κ (AV.ints IntKind.u32 8 v) []) := rfl
noncomputable def M (N : Nat) : Ty := fun R a1 b2 kr0 => m (rfold.M N) (R := R) N a1 b2 kr0
def gts : List (Nat × AV) := []
theorem gok (N : Nat) : GOk (g (rfold.M N)) := giD_ok hm (by intro p hp; cases hp) (gtL_ok (by decide)) (ovL_ok (by
    intro p hp
    simp only [List.mem_cons, List.not_mem_nil, or_false] at hp
    rcases hp with rfl
    · exact ⟨(rfold.ok N).gt (gtL_sub (by repeat (first | exact subG_nil _ | refine subG_cons (by kernel_rfl) ?_))) (gtL_ok (by decide)), _, Tryd.func70, by kernel_rfl, by kernel_rfl⟩
)) 1
theorem ok (N : Nat) : SoundC Tryd.prog (gtL gts) 46 (con (M N)) := by
  refine SoundC.mono (evF_ok (gok N) hm an N Tryd.func46) fun R args bs κ r h => ?_
  unfold con at h
  split at h
  · exact (eq (rfold.M N) N κ _ _).trans h
  · cases h
end rAdd


/-! ### Tryd.f43: rSub -/
namespace rSub
def an : Anns := ⟨fun i => findA i [], fun i => findA i [], false, fun _ => none⟩
noncomputable def g (mrP : rP.Ty) (mrLeast : rLeast.Ty) (mrminus : rminus.Ty) (mrAdd : rAdd.Ty) : Gi := giD Tryd.prog (gtL []) (fun _ => an) 0 [] (ovL [(68, rP.con mrP), (40, rLeast.con mrLeast), (69, rminus.con mrminus), (46, rAdd.con mrAdd)]) 1
noncomputable def m (mrP : rP.Ty) (mrLeast : rLeast.Ty) (mrminus : rminus.Ty) (mrAdd : rAdd.Ty) {R : Type} (_N : Nat) (a1 : List Int) (b2 : List Int) (kr0 : (List Int) → Option R) : Option R :=
  mrP R
   (mrLeast R b2
    (fun v_c3 => mrminus R ([4294967277, 4294967295, 4294967295, 4294967295, 4294967295, 4294967295, 4294967295, 2147483647]) v_c3
     (fun v_c4 => mrAdd R a1 v_c4
      (fun v_c5 => kr0 v_c5))))
theorem tree (mrP : rP.Ty) (mrLeast : rLeast.Ty) (mrminus : rminus.Ty) (mrAdd : rAdd.Ty) {R : Type} (N : Nat) (κ : AV → List Blk → Option R) (a1 : List Int) (b2 : List Int) : evF (g mrP mrLeast mrminus mrAdd) an N Tryd.f43 [AV.ints IntKind.u32 8 a1, AV.ints IntKind.u32 8 b2] [] κ =
  mrP R
   (mrLeast R b2
    (fun v_c3 => mrminus R ([4294967277, 4294967295, 4294967295, 4294967295, 4294967295, 4294967295, 4294967295, 2147483647]) v_c3
     (fun v_c4 => mrAdd R a1 v_c4
      (fun v_c5 => κ (AV.ints IntKind.u32 8 v_c5) [])))) := by kernel_rfl
theorem eq (mrP : rP.Ty) (mrLeast : rLeast.Ty) (mrminus : rminus.Ty) (mrAdd : rAdd.Ty) {R : Type} (N : Nat) (κ : AV → List Blk → Option R) (a1 : List Int) (b2 : List Int) : evF (g mrP mrLeast mrminus mrAdd) an N Tryd.f43 [AV.ints IntKind.u32 8 a1, AV.ints IntKind.u32 8 b2] [] κ =
  m mrP mrLeast mrminus mrAdd N a1 b2 (fun v => κ (AV.ints IntKind.u32 8 v) []) := by
  rw [tree]
  kernel_rfl
abbrev Ty : Type 1 := ∀ R : Type, (List Int) → (List Int) → ((List Int) → Option R) → Option R
def con (f : Ty) : Con := fun R args bs κ => match args, bs with
  | [AV.ints IntKind.u32 8 a1, AV.ints IntKind.u32 8 b2], [] => f R a1 b2 (fun v => κ (AV.ints IntKind.u32 8 v) [])
  | _, _ => none
theorem con_eq (f : Ty) (R : Type) (κ : AV → List Blk → Option R) (a1 : List Int) (b2 : List Int) : con f R [AV.ints IntKind.u32 8 a1, AV.ints IntKind.u32 8 b2] [] κ = f R a1 b2 (fun v => κ (AV.ints IntKind.u32 8 v) []) := rfl
noncomputable def M (N : Nat) : Ty := fun R a1 b2 kr0 => m (rP.M N) (rLeast.M N) (rminus.M N) (rAdd.M N) (R := R) N a1 b2 kr0
def gts : List (Nat × AV) := []
theorem gok (N : Nat) : GOk (g (rP.M N) (rLeast.M N) (rminus.M N) (rAdd.M N)) := giD_ok hm (by intro p hp; cases hp) (gtL_ok (by decide)) (ovL_ok (by
    intro p hp
    simp only [List.mem_cons, List.not_mem_nil, or_false] at hp
    rcases hp with rfl | rfl | rfl | rfl
    · exact ⟨(rP.ok N).gt (gtL_sub (by repeat (first | exact subG_nil _ | refine subG_cons (by kernel_rfl) ?_))) (gtL_ok (by decide)), _, Tryd.func68, by kernel_rfl, by kernel_rfl⟩
    · exact ⟨(rLeast.ok N).gt (gtL_sub (by repeat (first | exact subG_nil _ | refine subG_cons (by kernel_rfl) ?_))) (gtL_ok (by decide)), _, Tryd.func40, by kernel_rfl, by kernel_rfl⟩
    · exact ⟨(rminus.ok N).gt (gtL_sub (by repeat (first | exact subG_nil _ | refine subG_cons (by kernel_rfl) ?_))) (gtL_ok (by decide)), _, Tryd.func69, by kernel_rfl, by kernel_rfl⟩
    · exact ⟨(rAdd.ok N).gt (gtL_sub (by repeat (first | exact subG_nil _ | refine subG_cons (by kernel_rfl) ?_))) (gtL_ok (by decide)), _, Tryd.func46, by kernel_rfl, by kernel_rfl⟩
)) 1
theorem ok (N : Nat) : SoundC Tryd.prog (gtL gts) 43 (con (M N)) := by
  refine SoundC.mono (evF_ok (gok N) hm an N Tryd.func43) fun R args bs κ r h => ?_
  unfold con at h
  split at h
  · exact (eq (rP.M N) (rLeast.M N) (rminus.M N) (rAdd.M N) N κ _ _).trans h
  · cases h
end rSub


/-! ### Tryd.f71: rPower -/
namespace rPower
def an : Anns := ⟨fun i => findA i [(3, ⟨[2, 3, 4, 5, 6], [⟨2, 0, .u8⟩, ⟨3, 1, .u8⟩, ⟨4, 2, .u8⟩, ⟨5, 3, .u8⟩], 4⟩)], fun i => findA i [], false, fun _ => none⟩
noncomputable def g (mrTimes : rTimes.Ty) : Gi := giD Tryd.prog (gtL []) (fun _ => an) 0 [] (ovL [(41, rTimes.con mrTimes)]) 1
noncomputable def c_L3 : Code := loopOf Tryd.f71 0
def s_L3 (i6 : Int) (h0 : List Int) (h1 : List Int) (h3 : List Int) : St := ⟨[AV.dead, AV.dead, AV.ptr 0 [], AV.ptr 1 [], AV.ptr 2 [], AV.ptr 3 [], AV.int IntKind.i64 i6] ++ List.replicate 22 .dead, [Blk.var (AV.ints IntKind.u32 8 h0), Blk.var (AV.ints IntKind.u32 8 h1), Blk.var (AV.ints IntKind.u32 8 [0, 0, 0, 0, 0, 0, 0, 0]), Blk.var (AV.ints IntKind.u32 8 h3)]⟩
def x_L3_0 (i6 : Int) (h0 : List Int) (h1 : List Int) (h3 : List Int) : St := ⟨[AV.dead, AV.dead, AV.ptr 0 [], AV.ptr 1 [], AV.ptr 2 [], AV.ptr 3 [], AV.int IntKind.i64 i6, AV.dead, AV.int IntKind.i64 i6, AV.bool (decide (i6 ≥ 0))] ++ List.replicate 19 .dead, [Blk.var (AV.ints IntKind.u32 8 h0), Blk.var (AV.ints IntKind.u32 8 h1), Blk.var (AV.ints IntKind.u32 8 [0, 0, 0, 0, 0, 0, 0, 0]), Blk.var (AV.ints IntKind.u32 8 h3)]⟩
noncomputable def L3 (mrTimes : rTimes.Ty) {R : Type} (N : Nat) (ke0 : Int → (List Int) → (List Int) → (List Int) → Option R) : Nat → Int → (List Int) → (List Int) → (List Int) → Option R
  | 0, _, _, _, _ => none
  | m + 1, i6, h0, h1, h3 =>
    cond (decide (i6 ≥ 0))
     (mrTimes R h3 h3
      (fun v_c8 => cond (decide (0 ≤ IntKind.i64.wrap (i6.tdiv 32)))
       (cond (decide (IntKind.i64.wrap (i6.tdiv 32) < 8))
        (cond (iand IntKind.u32 (ishr IntKind.u32 (h1.getD (IntKind.i64.wrap (i6.tdiv 32)).toNat 0) (IntKind.u64.wrap (i6.tmod 32))) 1 == 1)
         (mrTimes R v_c8 h0
          (fun v_c9 => L3 mrTimes N ke0 m (IntKind.i64.wrap (i6 - 1)) h0 h1 v_c9))
         (L3 mrTimes N ke0 m (IntKind.i64.wrap (i6 - 1)) h0 h1 v_c8))
        (none))
       (none)))
     (ke0 i6 h0 h1 h3)
theorem round_L3 (mrTimes : rTimes.Ty) {R : Type} (N : Nat) (Rn : St → Option R) (k : K R) (i6 : Int) (h0 : List Int) (h1 : List Int) (h3 : List Int) : evC (g mrTimes) an 0 N c_L3 none (roundK (nmOf 0 (an.loop 3)) Rn k) (s_L3 i6 h0 h1 h3) =
  cond (decide (i6 ≥ 0))
   (mrTimes R h3 h3
    (fun v_c8 => cond (decide (0 ≤ IntKind.i64.wrap (i6.tdiv 32)))
     (cond (decide (IntKind.i64.wrap (i6.tdiv 32) < 8))
      (cond (iand IntKind.u32 (ishr IntKind.u32 (h1.getD (IntKind.i64.wrap (i6.tdiv 32)).toNat 0) (IntKind.u64.wrap (i6.tmod 32))) 1 == 1)
       (mrTimes R v_c8 h0
        (fun v_c9 => Rn (s_L3 (IntKind.i64.wrap (i6 - 1)) h0 h1 v_c9)))
       (Rn (s_L3 (IntKind.i64.wrap (i6 - 1)) h0 h1 v_c8)))
      (none))
     (none)))
   (k.ext 0 (x_L3_0 i6 h0 h1 h3)) := by kernel_rfl
theorem run_L3 (mrTimes : rTimes.Ty) {R : Type} (N : Nat) (k : K R) : ∀ (m : Nat) (i6 : Int) (h0 : List Int) (h1 : List Int) (h3 : List Int), loopN (evC (g mrTimes) an 0 N c_L3 none) k (nmOf 0 (an.loop 3)) m (s_L3 i6 h0 h1 h3) =
    L3 mrTimes N (fun i6 h0 h1 h3 => (k).ext 0 (x_L3_0 i6 h0 h1 h3)) m i6 h0 h1 h3 := by
  intro m
  induction m with
  | zero => intros; rfl
  | succ m ih =>
    intros
    rw [loopN_succ, round_L3]
    simp only [ih]
    kernel_rfl
noncomputable def m (mrTimes : rTimes.Ty) {R : Type} (N : Nat) (a1 : List Int) (e2 : List Int) (kr0 : (List Int) → Option R) : Option R :=
  L3 mrTimes N
   (fun _i6_c10 _h0_c11 _h1_c12 h3_c13 => kr0 h3_c13) N 255 a1 e2 ([1, 0, 0, 0, 0, 0, 0, 0])
theorem tree (mrTimes : rTimes.Ty) {R : Type} (N : Nat) (κ : AV → List Blk → Option R) (a1 : List Int) (e2 : List Int) : evF (g mrTimes) an N Tryd.f71 [AV.ints IntKind.u32 8 a1, AV.ints IntKind.u32 8 e2] [] κ =
  loopN (evC (g mrTimes) an 0 N c_L3 none) (ctx (g mrTimes) an 0 N (bodyOf Tryd.f71) [1, 1, 0, 1, 0] (endK (g mrTimes) an Tryd.f71 [] κ)) (nmOf 0 (an.loop 3)) N (s_L3 255 a1 e2 ([1, 0, 0, 0, 0, 0, 0, 0])) := by kernel_rfl
theorem eq (mrTimes : rTimes.Ty) {R : Type} (N : Nat) (κ : AV → List Blk → Option R) (a1 : List Int) (e2 : List Int) : evF (g mrTimes) an N Tryd.f71 [AV.ints IntKind.u32 8 a1, AV.ints IntKind.u32 8 e2] [] κ =
  m mrTimes N a1 e2 (fun v => κ (AV.ints IntKind.u32 8 v) []) := by
  rw [tree]
  simp only [run_L3]
  kernel_rfl
abbrev Ty : Type 1 := ∀ R : Type, (List Int) → (List Int) → ((List Int) → Option R) → Option R
def con (f : Ty) : Con := fun R args bs κ => match args, bs with
  | [AV.ints IntKind.u32 8 a1, AV.ints IntKind.u32 8 e2], [] => f R a1 e2 (fun v => κ (AV.ints IntKind.u32 8 v) [])
  | _, _ => none
theorem con_eq (f : Ty) (R : Type) (κ : AV → List Blk → Option R) (a1 : List Int) (e2 : List Int) : con f R [AV.ints IntKind.u32 8 a1, AV.ints IntKind.u32 8 e2] [] κ = f R a1 e2 (fun v => κ (AV.ints IntKind.u32 8 v) []) := rfl
noncomputable def M (N : Nat) : Ty := fun R a1 e2 kr0 => m (rTimes.M N) (R := R) N a1 e2 kr0
def gts : List (Nat × AV) := []
theorem gok (N : Nat) : GOk (g (rTimes.M N)) := giD_ok hm (by intro p hp; cases hp) (gtL_ok (by decide)) (ovL_ok (by
    intro p hp
    simp only [List.mem_cons, List.not_mem_nil, or_false] at hp
    rcases hp with rfl
    · exact ⟨(rTimes.ok N).gt (gtL_sub (by repeat (first | exact subG_nil _ | refine subG_cons (by kernel_rfl) ?_))) (gtL_ok (by decide)), _, Tryd.func41, by kernel_rfl, by kernel_rfl⟩
)) 1
theorem ok (N : Nat) : SoundC Tryd.prog (gtL gts) 71 (con (M N)) := by
  refine SoundC.mono (evF_ok (gok N) hm an N Tryd.func71) fun R args bs κ r h => ?_
  unfold con at h
  split at h
  · exact (eq (rTimes.M N) N κ _ _).trans h
  · cases h
end rPower


/-! ### Tryd.f45: rInvert -/
namespace rInvert
def an : Anns := ⟨fun i => findA i [], fun i => findA i [], false, fun _ => none⟩
noncomputable def g (mrP : rP.Ty) (mrminus : rminus.Ty) (mrPower : rPower.Ty) : Gi := giD Tryd.prog (gtL []) (fun _ => an) 0 [] (ovL [(68, rP.con mrP), (69, rminus.con mrminus), (71, rPower.con mrPower)]) 1
noncomputable def m (mrP : rP.Ty) (mrminus : rminus.Ty) (mrPower : rPower.Ty) {R : Type} (_N : Nat) (a1 : List Int) (kr0 : (List Int) → Option R) : Option R :=
  mrP R
   (mrminus R ([4294967277, 4294967295, 4294967295, 4294967295, 4294967295, 4294967295, 4294967295, 2147483647]) ([2, 0, 0, 0, 0, 0, 0, 0])
    (fun v_c2 => mrPower R a1 v_c2
     (fun v_c3 => kr0 v_c3)))
theorem tree (mrP : rP.Ty) (mrminus : rminus.Ty) (mrPower : rPower.Ty) {R : Type} (N : Nat) (κ : AV → List Blk → Option R) (a1 : List Int) : evF (g mrP mrminus mrPower) an N Tryd.f45 [AV.ints IntKind.u32 8 a1] [] κ =
  mrP R
   (mrminus R ([4294967277, 4294967295, 4294967295, 4294967295, 4294967295, 4294967295, 4294967295, 2147483647]) ([2, 0, 0, 0, 0, 0, 0, 0])
    (fun v_c2 => mrPower R a1 v_c2
     (fun v_c3 => κ (AV.ints IntKind.u32 8 v_c3) []))) := by kernel_rfl
theorem eq (mrP : rP.Ty) (mrminus : rminus.Ty) (mrPower : rPower.Ty) {R : Type} (N : Nat) (κ : AV → List Blk → Option R) (a1 : List Int) : evF (g mrP mrminus mrPower) an N Tryd.f45 [AV.ints IntKind.u32 8 a1] [] κ =
  m mrP mrminus mrPower N a1 (fun v => κ (AV.ints IntKind.u32 8 v) []) := by
  rw [tree]
  kernel_rfl
abbrev Ty : Type 1 := ∀ R : Type, (List Int) → ((List Int) → Option R) → Option R
def con (f : Ty) : Con := fun R args bs κ => match args, bs with
  | [AV.ints IntKind.u32 8 a1], [] => f R a1 (fun v => κ (AV.ints IntKind.u32 8 v) [])
  | _, _ => none
theorem con_eq (f : Ty) (R : Type) (κ : AV → List Blk → Option R) (a1 : List Int) : con f R [AV.ints IntKind.u32 8 a1] [] κ = f R a1 (fun v => κ (AV.ints IntKind.u32 8 v) []) := rfl
noncomputable def M (N : Nat) : Ty := fun R a1 kr0 => m (rP.M N) (rminus.M N) (rPower.M N) (R := R) N a1 kr0
def gts : List (Nat × AV) := []
theorem gok (N : Nat) : GOk (g (rP.M N) (rminus.M N) (rPower.M N)) := giD_ok hm (by intro p hp; cases hp) (gtL_ok (by decide)) (ovL_ok (by
    intro p hp
    simp only [List.mem_cons, List.not_mem_nil, or_false] at hp
    rcases hp with rfl | rfl | rfl
    · exact ⟨(rP.ok N).gt (gtL_sub (by repeat (first | exact subG_nil _ | refine subG_cons (by kernel_rfl) ?_))) (gtL_ok (by decide)), _, Tryd.func68, by kernel_rfl, by kernel_rfl⟩
    · exact ⟨(rminus.ok N).gt (gtL_sub (by repeat (first | exact subG_nil _ | refine subG_cons (by kernel_rfl) ?_))) (gtL_ok (by decide)), _, Tryd.func69, by kernel_rfl, by kernel_rfl⟩
    · exact ⟨(rPower.ok N).gt (gtL_sub (by repeat (first | exact subG_nil _ | refine subG_cons (by kernel_rfl) ?_))) (gtL_ok (by decide)), _, Tryd.func71, by kernel_rfl, by kernel_rfl⟩
)) 1
theorem ok (N : Nat) : SoundC Tryd.prog (gtL gts) 45 (con (M N)) := by
  refine SoundC.mono (evF_ok (gok N) hm an N Tryd.func45) fun R args bs κ r h => ?_
  unfold con at h
  split at h
  · exact (eq (rP.M N) (rminus.M N) (rPower.M N) N κ _).trans h
  · cases h
end rInvert


/-! ### Tryd.f72: rhalf -/
namespace rhalf
def an : Anns := ⟨fun i => findA i [(3, ⟨[1, 2, 3, 4], [⟨1, 0, .u8⟩, ⟨2, 1, .u8⟩, ⟨3, 2, .u8⟩], 3⟩)], fun i => findA i [], false, fun _ => none⟩
noncomputable def g : Gi := giD Tryd.prog (gtL []) (fun _ => an) 0 [] (ovL []) 1
noncomputable def c_L3 : Code := loopOf Tryd.f72 0
def s_L3 (i4 : Int) (h0 : List Int) (h2 : List Int) : St := ⟨[AV.dead, AV.ptr 0 [], AV.ptr 1 [], AV.ptr 2 [], AV.int IntKind.i64 i4] ++ List.replicate 25 .dead, [Blk.var (AV.ints IntKind.u32 8 h0), Blk.var (AV.ints IntKind.u32 8 [0, 0, 0, 0, 0, 0, 0, 0]), Blk.var (AV.ints IntKind.u32 8 h2)]⟩
def x_L3_0 (i4 : Int) (h0 : List Int) (h2 : List Int) : St := ⟨[AV.dead, AV.ptr 0 [], AV.ptr 1 [], AV.ptr 2 [], AV.int IntKind.i64 i4, AV.dead, AV.int IntKind.i64 i4, AV.bool (decide (i4 < 8))] ++ List.replicate 22 .dead, [Blk.var (AV.ints IntKind.u32 8 h0), Blk.var (AV.ints IntKind.u32 8 [0, 0, 0, 0, 0, 0, 0, 0]), Blk.var (AV.ints IntKind.u32 8 h2)]⟩
noncomputable def L3 {R : Type} (N : Nat) (ke0 : Int → (List Int) → (List Int) → Option R) : Nat → Int → (List Int) → (List Int) → Option R
  | 0, _, _, _ => none
  | m + 1, i4, h0, h2 =>
    cond (decide (i4 < 8))
     (cond (decide (0 ≤ i4))
      (cond (decide (i4 < 8))
       (cond (decide (0 ≤ i4))
        (cond (decide (i4 < 8))
         (cond (decide (i4 < 7))
          (cond (decide (0 ≤ i4))
           (cond (decide (i4 < 8))
            (cond (decide (0 ≤ IntKind.i64.wrap (i4 + 1)))
             (cond (decide (IntKind.i64.wrap (i4 + 1) < 8))
              (cond (decide (0 ≤ i4))
               (cond (decide (i4 < 8))
                (L3 N ke0 m (IntKind.i64.wrap (i4 + 1)) h0 ((h2.set i4.toNat (ishr IntKind.u32 (h0.getD i4.toNat 0) 1)).set i4.toNat (IntKind.u32.wrap ((h2.set i4.toNat (ishr IntKind.u32 (h0.getD i4.toNat 0) 1)).getD i4.toNat 0 + IntKind.u32.wrap ((h0.getD (IntKind.i64.wrap (i4 + 1)).toNat 0).tmod 2 * 2147483648)))))
                (none))
               (none))
              (none))
             (none))
            (none))
           (none))
          (L3 N ke0 m (IntKind.i64.wrap (i4 + 1)) h0 (h2.set i4.toNat (ishr IntKind.u32 (h0.getD i4.toNat 0) 1))))
         (none))
        (none))
       (none))
      (none))
     (ke0 i4 h0 h2)
theorem round_L3 {R : Type} (N : Nat) (Rn : St → Option R) (k : K R) (i4 : Int) (h0 : List Int) (h2 : List Int) : evC (g) an 0 N c_L3 none (roundK (nmOf 0 (an.loop 3)) Rn k) (s_L3 i4 h0 h2) =
  cond (decide (i4 < 8))
   (cond (decide (0 ≤ i4))
    (cond (decide (i4 < 8))
     (cond (decide (0 ≤ i4))
      (cond (decide (i4 < 8))
       (cond (decide (i4 < 7))
        (cond (decide (0 ≤ i4))
         (cond (decide (i4 < 8))
          (cond (decide (0 ≤ IntKind.i64.wrap (i4 + 1)))
           (cond (decide (IntKind.i64.wrap (i4 + 1) < 8))
            (cond (decide (0 ≤ i4))
             (cond (decide (i4 < 8))
              (Rn (s_L3 (IntKind.i64.wrap (i4 + 1)) h0 ((h2.set i4.toNat (ishr IntKind.u32 (h0.getD i4.toNat 0) 1)).set i4.toNat (IntKind.u32.wrap ((h2.set i4.toNat (ishr IntKind.u32 (h0.getD i4.toNat 0) 1)).getD i4.toNat 0 + IntKind.u32.wrap ((h0.getD (IntKind.i64.wrap (i4 + 1)).toNat 0).tmod 2 * 2147483648))))))
              (none))
             (none))
            (none))
           (none))
          (none))
         (none))
        (Rn (s_L3 (IntKind.i64.wrap (i4 + 1)) h0 (h2.set i4.toNat (ishr IntKind.u32 (h0.getD i4.toNat 0) 1)))))
       (none))
      (none))
     (none))
    (none))
   (k.ext 0 (x_L3_0 i4 h0 h2)) := by kernel_rfl
theorem run_L3 {R : Type} (N : Nat) (k : K R) : ∀ (m : Nat) (i4 : Int) (h0 : List Int) (h2 : List Int), loopN (evC (g) an 0 N c_L3 none) k (nmOf 0 (an.loop 3)) m (s_L3 i4 h0 h2) =
    L3 N (fun i4 h0 h2 => (k).ext 0 (x_L3_0 i4 h0 h2)) m i4 h0 h2 := by
  intro m
  induction m with
  | zero => intros; rfl
  | succ m ih =>
    intros
    rw [loopN_succ, round_L3]
    simp only [ih]
    kernel_rfl
noncomputable def m {R : Type} (N : Nat) (a1 : List Int) (kr0 : (List Int) → Option R) : Option R :=
  L3 N
   (fun _i4_c3 _h0_c4 h2_c5 => kr0 h2_c5) N 0 a1 ([0, 0, 0, 0, 0, 0, 0, 0])
theorem tree {R : Type} (N : Nat) (κ : AV → List Blk → Option R) (a1 : List Int) : evF (g) an N Tryd.f72 [AV.ints IntKind.u32 8 a1] [] κ =
  loopN (evC (g) an 0 N c_L3 none) (ctx (g) an 0 N (bodyOf Tryd.f72) [1, 1, 0, 1, 0] (endK (g) an Tryd.f72 [] κ)) (nmOf 0 (an.loop 3)) N (s_L3 0 a1 ([0, 0, 0, 0, 0, 0, 0, 0])) := by kernel_rfl
theorem eq {R : Type} (N : Nat) (κ : AV → List Blk → Option R) (a1 : List Int) : evF (g) an N Tryd.f72 [AV.ints IntKind.u32 8 a1] [] κ =
  m N a1 (fun v => κ (AV.ints IntKind.u32 8 v) []) := by
  rw [tree]
  simp only [run_L3]
  kernel_rfl
abbrev Ty : Type 1 := ∀ R : Type, (List Int) → ((List Int) → Option R) → Option R
def con (f : Ty) : Con := fun R args bs κ => match args, bs with
  | [AV.ints IntKind.u32 8 a1], [] => f R a1 (fun v => κ (AV.ints IntKind.u32 8 v) [])
  | _, _ => none
theorem con_eq (f : Ty) (R : Type) (κ : AV → List Blk → Option R) (a1 : List Int) : con f R [AV.ints IntKind.u32 8 a1] [] κ = f R a1 (fun v => κ (AV.ints IntKind.u32 8 v) []) := rfl
noncomputable def M (N : Nat) : Ty := fun R a1 kr0 => m (R := R) N a1 kr0
def gts : List (Nat × AV) := []
theorem gok (_N : Nat) : GOk (g) := giD_ok hm (by intro p hp; cases hp) (gtL_ok (by decide)) (ovL_ok (by intro p hp; cases hp)) 1
theorem ok (N : Nat) : SoundC Tryd.prog (gtL gts) 72 (con (M N)) := by
  refine SoundC.mono (evF_ok (gok N) hm an N Tryd.func72) fun R args bs κ r h => ?_
  unfold con at h
  split at h
  · exact (eq N κ _).trans h
  · cases h
end rhalf


/-! ### Tryd.f42: rRoot -/
namespace rRoot
def an : Anns := ⟨fun i => findA i [], fun i => findA i [], false, fun _ => none⟩
noncomputable def g (mrLeast : rLeast.Ty) (mrP : rP.Ty) (mrminus : rminus.Ty) (mrhalf : rhalf.Ty) (mrPower : rPower.Ty) (mrTimes : rTimes.Ty) : Gi := giD Tryd.prog (gtL []) (fun _ => an) 0 [] (ovL [(40, rLeast.con mrLeast), (68, rP.con mrP), (69, rminus.con mrminus), (72, rhalf.con mrhalf), (71, rPower.con mrPower), (41, rTimes.con mrTimes)]) 1
noncomputable def m (mrLeast : rLeast.Ty) (mrP : rP.Ty) (mrminus : rminus.Ty) (mrhalf : rhalf.Ty) (mrPower : rPower.Ty) (mrTimes : rTimes.Ty) {R : Type} (_N : Nat) (a1 : List Int) (kr0 : (List Int) → Bool → Option R) : Option R :=
  mrLeast R a1
   (fun v_c5 => cond (v_c5 == [0, 0, 0, 0, 0, 0, 0, 0])
    (kr0 v_c5 true)
    (mrP R
     (mrminus R ([4294967277, 4294967295, 4294967295, 4294967295, 4294967295, 4294967295, 4294967295, 2147483647]) ([1, 0, 0, 0, 0, 0, 0, 0])
      (fun v_c6 => mrhalf R v_c6
       (fun v_c7 => mrPower R v_c5 v_c7
        (fun v_c8 => cond (!v_c8 == [1, 0, 0, 0, 0, 0, 0, 0])
         (kr0 ([0, 0, 0, 0, 0, 0, 0, 0]) false)
         (mrP R
          (mrminus R ([4294967277, 4294967295, 4294967295, 4294967295, 4294967295, 4294967295, 4294967295, 2147483647]) ([5, 0, 0, 0, 0, 0, 0, 0])
           (fun v_c9 => mrhalf R v_c9
            (fun v_c10 => mrhalf R v_c10
             (fun v_c11 => mrhalf R v_c11
              (fun v_c12 => mrPower R v_c5 v_c12
               (fun v_c13 => mrTimes R v_c13 v_c5
                (fun v_c14 => mrTimes R v_c14 v_c14
                 (fun v_c15 => cond (!v_c15 == v_c5)
                  (mrP R
                   (mrminus R ([4294967277, 4294967295, 4294967295, 4294967295, 4294967295, 4294967295, 4294967295, 2147483647]) ([1, 0, 0, 0, 0, 0, 0, 0])
                    (fun v_c16 => mrhalf R v_c16
                     (fun v_c17 => mrhalf R v_c17
                      (fun v_c18 => mrPower R ([2, 0, 0, 0, 0, 0, 0, 0]) v_c18
                       (fun v_c19 => mrTimes R v_c14 v_c19
                        (fun v_c20 => cond ((v_c20.getD 0 0).tmod 2 == 1)
                         (mrP R
                          (mrminus R ([4294967277, 4294967295, 4294967295, 4294967295, 4294967295, 4294967295, 4294967295, 2147483647]) v_c20
                           (fun v_c21 => kr0 v_c21 true)))
                         (kr0 v_c20 true))))))))
                  (cond ((v_c14.getD 0 0).tmod 2 == 1)
                   (mrP R
                    (mrminus R ([4294967277, 4294967295, 4294967295, 4294967295, 4294967295, 4294967295, 4294967295, 2147483647]) v_c14
                     (fun v_c22 => kr0 v_c22 true)))
                   (kr0 v_c14 true)))))))))))))))))
theorem tree (mrLeast : rLeast.Ty) (mrP : rP.Ty) (mrminus : rminus.Ty) (mrhalf : rhalf.Ty) (mrPower : rPower.Ty) (mrTimes : rTimes.Ty) {R : Type} (N : Nat) (κ : AV → List Blk → Option R) (a1 : List Int) : evF (g mrLeast mrP mrminus mrhalf mrPower mrTimes) an N Tryd.f42 [AV.ints IntKind.u32 8 a1] [] κ =
  mrLeast R a1
   (fun v_c5 => cond (v_c5 == [0, 0, 0, 0, 0, 0, 0, 0])
    (κ (AV.tup [AV.ints IntKind.u32 8 v_c5, AV.bool true]) [])
    (mrP R
     (mrminus R ([4294967277, 4294967295, 4294967295, 4294967295, 4294967295, 4294967295, 4294967295, 2147483647]) ([1, 0, 0, 0, 0, 0, 0, 0])
      (fun v_c6 => mrhalf R v_c6
       (fun v_c7 => mrPower R v_c5 v_c7
        (fun v_c8 => cond (!v_c8 == [1, 0, 0, 0, 0, 0, 0, 0])
         (κ (AV.tup [AV.ints IntKind.u32 8 [0, 0, 0, 0, 0, 0, 0, 0], AV.bool false]) [])
         (mrP R
          (mrminus R ([4294967277, 4294967295, 4294967295, 4294967295, 4294967295, 4294967295, 4294967295, 2147483647]) ([5, 0, 0, 0, 0, 0, 0, 0])
           (fun v_c9 => mrhalf R v_c9
            (fun v_c10 => mrhalf R v_c10
             (fun v_c11 => mrhalf R v_c11
              (fun v_c12 => mrPower R v_c5 v_c12
               (fun v_c13 => mrTimes R v_c13 v_c5
                (fun v_c14 => mrTimes R v_c14 v_c14
                 (fun v_c15 => cond (!v_c15 == v_c5)
                  (mrP R
                   (mrminus R ([4294967277, 4294967295, 4294967295, 4294967295, 4294967295, 4294967295, 4294967295, 2147483647]) ([1, 0, 0, 0, 0, 0, 0, 0])
                    (fun v_c16 => mrhalf R v_c16
                     (fun v_c17 => mrhalf R v_c17
                      (fun v_c18 => mrPower R ([2, 0, 0, 0, 0, 0, 0, 0]) v_c18
                       (fun v_c19 => mrTimes R v_c14 v_c19
                        (fun v_c20 => cond ((v_c20.getD 0 0).tmod 2 == 1)
                         (mrP R
                          (mrminus R ([4294967277, 4294967295, 4294967295, 4294967295, 4294967295, 4294967295, 4294967295, 2147483647]) v_c20
                           (fun v_c21 => κ (AV.tup [AV.ints IntKind.u32 8 v_c21, AV.bool true]) [])))
                         (κ (AV.tup [AV.ints IntKind.u32 8 v_c20, AV.bool true]) []))))))))
                  (cond ((v_c14.getD 0 0).tmod 2 == 1)
                   (mrP R
                    (mrminus R ([4294967277, 4294967295, 4294967295, 4294967295, 4294967295, 4294967295, 4294967295, 2147483647]) v_c14
                     (fun v_c22 => κ (AV.tup [AV.ints IntKind.u32 8 v_c22, AV.bool true]) [])))
                   (κ (AV.tup [AV.ints IntKind.u32 8 v_c14, AV.bool true]) []))))))))))))))))) := by kernel_rfl
theorem eq (mrLeast : rLeast.Ty) (mrP : rP.Ty) (mrminus : rminus.Ty) (mrhalf : rhalf.Ty) (mrPower : rPower.Ty) (mrTimes : rTimes.Ty) {R : Type} (N : Nat) (κ : AV → List Blk → Option R) (a1 : List Int) : evF (g mrLeast mrP mrminus mrhalf mrPower mrTimes) an N Tryd.f42 [AV.ints IntKind.u32 8 a1] [] κ =
  m mrLeast mrP mrminus mrhalf mrPower mrTimes N a1 (fun v v_1 => κ (AV.tup [AV.ints IntKind.u32 8 v, AV.bool v_1]) []) := by
  rw [tree]
  kernel_rfl
abbrev Ty : Type 1 := ∀ R : Type, (List Int) → ((List Int) → Bool → Option R) → Option R
def con (f : Ty) : Con := fun R args bs κ => match args, bs with
  | [AV.ints IntKind.u32 8 a1], [] => f R a1 (fun v v_1 => κ (AV.tup [AV.ints IntKind.u32 8 v, AV.bool v_1]) [])
  | _, _ => none
theorem con_eq (f : Ty) (R : Type) (κ : AV → List Blk → Option R) (a1 : List Int) : con f R [AV.ints IntKind.u32 8 a1] [] κ = f R a1 (fun v v_1 => κ (AV.tup [AV.ints IntKind.u32 8 v, AV.bool v_1]) []) := rfl
noncomputable def M (N : Nat) : Ty := fun R a1 kr0 => m (rLeast.M N) (rP.M N) (rminus.M N) (rhalf.M N) (rPower.M N) (rTimes.M N) (R := R) N a1 kr0
def gts : List (Nat × AV) := []
theorem gok (N : Nat) : GOk (g (rLeast.M N) (rP.M N) (rminus.M N) (rhalf.M N) (rPower.M N) (rTimes.M N)) := giD_ok hm (by intro p hp; cases hp) (gtL_ok (by decide)) (ovL_ok (by
    intro p hp
    simp only [List.mem_cons, List.not_mem_nil, or_false] at hp
    rcases hp with rfl | rfl | rfl | rfl | rfl | rfl
    · exact ⟨(rLeast.ok N).gt (gtL_sub (by repeat (first | exact subG_nil _ | refine subG_cons (by kernel_rfl) ?_))) (gtL_ok (by decide)), _, Tryd.func40, by kernel_rfl, by kernel_rfl⟩
    · exact ⟨(rP.ok N).gt (gtL_sub (by repeat (first | exact subG_nil _ | refine subG_cons (by kernel_rfl) ?_))) (gtL_ok (by decide)), _, Tryd.func68, by kernel_rfl, by kernel_rfl⟩
    · exact ⟨(rminus.ok N).gt (gtL_sub (by repeat (first | exact subG_nil _ | refine subG_cons (by kernel_rfl) ?_))) (gtL_ok (by decide)), _, Tryd.func69, by kernel_rfl, by kernel_rfl⟩
    · exact ⟨(rhalf.ok N).gt (gtL_sub (by repeat (first | exact subG_nil _ | refine subG_cons (by kernel_rfl) ?_))) (gtL_ok (by decide)), _, Tryd.func72, by kernel_rfl, by kernel_rfl⟩
    · exact ⟨(rPower.ok N).gt (gtL_sub (by repeat (first | exact subG_nil _ | refine subG_cons (by kernel_rfl) ?_))) (gtL_ok (by decide)), _, Tryd.func71, by kernel_rfl, by kernel_rfl⟩
    · exact ⟨(rTimes.ok N).gt (gtL_sub (by repeat (first | exact subG_nil _ | refine subG_cons (by kernel_rfl) ?_))) (gtL_ok (by decide)), _, Tryd.func41, by kernel_rfl, by kernel_rfl⟩
)) 1
theorem ok (N : Nat) : SoundC Tryd.prog (gtL gts) 42 (con (M N)) := by
  refine SoundC.mono (evF_ok (gok N) hm an N Tryd.func42) fun R args bs κ r h => ?_
  unfold con at h
  split at h
  · exact (eq (rLeast.M N) (rP.M N) (rminus.M N) (rhalf.M N) (rPower.M N) (rTimes.M N) N κ _).trans h
  · cases h
end rRoot


/-! ### Tryd.f39: rRead -/
namespace rRead
def an : Anns := ⟨fun i => findA i [(3, ⟨[1, 2, 3, 4], [⟨1, 0, .u8⟩, ⟨2, 1, .u8⟩, ⟨3, 2, .u8⟩], 3⟩)], fun i => findA i [], false, fun _ => none⟩
noncomputable def g : Gi := giD Tryd.prog (gtL []) (fun _ => an) 0 [] (ovL []) 1
noncomputable def c_L3 : Code := loopOf Tryd.f39 0
def s_L3 (i4 : Int) (h0 : List Int) (h2 : List Int) : St := ⟨[AV.dead, AV.ptr 0 [], AV.ptr 1 [], AV.ptr 2 [], AV.int IntKind.i64 i4] ++ List.replicate 21 .dead, [Blk.var (AV.ints IntKind.u8 32 h0), Blk.var (AV.ints IntKind.u32 8 [0, 0, 0, 0, 0, 0, 0, 0]), Blk.var (AV.ints IntKind.u32 8 h2)]⟩
def x_L3_0 (i4 : Int) (h0 : List Int) (h2 : List Int) : St := ⟨[AV.dead, AV.ptr 0 [], AV.ptr 1 [], AV.ptr 2 [], AV.int IntKind.i64 i4, AV.dead, AV.int IntKind.i64 i4, AV.bool (decide (i4 < 32))] ++ List.replicate 18 .dead, [Blk.var (AV.ints IntKind.u8 32 h0), Blk.var (AV.ints IntKind.u32 8 [0, 0, 0, 0, 0, 0, 0, 0]), Blk.var (AV.ints IntKind.u32 8 h2)]⟩
noncomputable def L3 {R : Type} (N : Nat) (ke0 : Int → (List Int) → (List Int) → Option R) : Nat → Int → (List Int) → (List Int) → Option R
  | 0, _, _, _ => none
  | m + 1, i4, h0, h2 =>
    cond (decide (i4 < 32))
     (cond (decide (0 ≤ IntKind.i64.wrap (i4.tdiv 4)))
      (cond (decide (IntKind.i64.wrap (i4.tdiv 4) < 8))
       (cond (decide (0 ≤ i4))
        (cond (decide (i4 < 32))
         (cond (decide (0 ≤ IntKind.i64.wrap (i4.tdiv 4)))
          (cond (decide (IntKind.i64.wrap (i4.tdiv 4) < 8))
           (L3 N ke0 m (IntKind.i64.wrap (i4 + 1)) h0 (h2.set (IntKind.i64.wrap (i4.tdiv 4)).toNat (IntKind.u32.wrap (h2.getD (IntKind.i64.wrap (i4.tdiv 4)).toNat 0 + ishl IntKind.u32 (IntKind.u32.wrap (h0.getD i4.toNat 0)) (IntKind.u64.wrap (IntKind.i64.wrap (8 * i4.tmod 4)))))))
           (none))
          (none))
         (none))
        (none))
       (none))
      (none))
     (ke0 i4 h0 h2)
theorem round_L3 {R : Type} (N : Nat) (Rn : St → Option R) (k : K R) (i4 : Int) (h0 : List Int) (h2 : List Int) : evC (g) an 0 N c_L3 none (roundK (nmOf 0 (an.loop 3)) Rn k) (s_L3 i4 h0 h2) =
  cond (decide (i4 < 32))
   (cond (decide (0 ≤ IntKind.i64.wrap (i4.tdiv 4)))
    (cond (decide (IntKind.i64.wrap (i4.tdiv 4) < 8))
     (cond (decide (0 ≤ i4))
      (cond (decide (i4 < 32))
       (cond (decide (0 ≤ IntKind.i64.wrap (i4.tdiv 4)))
        (cond (decide (IntKind.i64.wrap (i4.tdiv 4) < 8))
         (Rn (s_L3 (IntKind.i64.wrap (i4 + 1)) h0 (h2.set (IntKind.i64.wrap (i4.tdiv 4)).toNat (IntKind.u32.wrap (h2.getD (IntKind.i64.wrap (i4.tdiv 4)).toNat 0 + ishl IntKind.u32 (IntKind.u32.wrap (h0.getD i4.toNat 0)) (IntKind.u64.wrap (IntKind.i64.wrap (8 * i4.tmod 4))))))))
         (none))
        (none))
       (none))
      (none))
     (none))
    (none))
   (k.ext 0 (x_L3_0 i4 h0 h2)) := by kernel_rfl
theorem run_L3 {R : Type} (N : Nat) (k : K R) : ∀ (m : Nat) (i4 : Int) (h0 : List Int) (h2 : List Int), loopN (evC (g) an 0 N c_L3 none) k (nmOf 0 (an.loop 3)) m (s_L3 i4 h0 h2) =
    L3 N (fun i4 h0 h2 => (k).ext 0 (x_L3_0 i4 h0 h2)) m i4 h0 h2 := by
  intro m
  induction m with
  | zero => intros; rfl
  | succ m ih =>
    intros
    rw [loopN_succ, round_L3]
    simp only [ih]
    kernel_rfl
noncomputable def m {R : Type} (N : Nat) (b1 : List Int) (kr0 : (List Int) → Option R) : Option R :=
  L3 N
   (fun _i4_c3 _h0_c4 h2_c5 => kr0 h2_c5) N 0 b1 ([0, 0, 0, 0, 0, 0, 0, 0])
theorem tree {R : Type} (N : Nat) (κ : AV → List Blk → Option R) (b1 : List Int) : evF (g) an N Tryd.f39 [AV.ints IntKind.u8 32 b1] [] κ =
  loopN (evC (g) an 0 N c_L3 none) (ctx (g) an 0 N (bodyOf Tryd.f39) [1, 1, 0, 1, 0] (endK (g) an Tryd.f39 [] κ)) (nmOf 0 (an.loop 3)) N (s_L3 0 b1 ([0, 0, 0, 0, 0, 0, 0, 0])) := by kernel_rfl
theorem eq {R : Type} (N : Nat) (κ : AV → List Blk → Option R) (b1 : List Int) : evF (g) an N Tryd.f39 [AV.ints IntKind.u8 32 b1] [] κ =
  m N b1 (fun v => κ (AV.ints IntKind.u32 8 v) []) := by
  rw [tree]
  simp only [run_L3]
  kernel_rfl
abbrev Ty : Type 1 := ∀ R : Type, (List Int) → ((List Int) → Option R) → Option R
def con (f : Ty) : Con := fun R args bs κ => match args, bs with
  | [AV.ints IntKind.u8 32 b1], [] => f R b1 (fun v => κ (AV.ints IntKind.u32 8 v) [])
  | _, _ => none
theorem con_eq (f : Ty) (R : Type) (κ : AV → List Blk → Option R) (b1 : List Int) : con f R [AV.ints IntKind.u8 32 b1] [] κ = f R b1 (fun v => κ (AV.ints IntKind.u32 8 v) []) := rfl
noncomputable def M (N : Nat) : Ty := fun R b1 kr0 => m (R := R) N b1 kr0
def gts : List (Nat × AV) := []
theorem gok (_N : Nat) : GOk (g) := giD_ok hm (by intro p hp; cases hp) (gtL_ok (by decide)) (ovL_ok (by intro p hp; cases hp)) 1
theorem ok (N : Nat) : SoundC Tryd.prog (gtL gts) 39 (con (M N)) := by
  refine SoundC.mono (evF_ok (gok N) hm an N Tryd.func39) fun R args bs κ r h => ?_
  unfold con at h
  split at h
  · exact (eq N κ _).trans h
  · cases h
end rRead


/-! ### Tryd.f51: rBytes -/
namespace rBytes
def an : Anns := ⟨fun i => findA i [(3, ⟨[1, 2, 3, 4], [⟨1, 0, .u8⟩, ⟨2, 1, .u8⟩, ⟨3, 2, .u8⟩], 3⟩)], fun i => findA i [], false, fun _ => none⟩
noncomputable def g : Gi := giD Tryd.prog (gtL []) (fun _ => an) 0 [] (ovL []) 1
noncomputable def c_L3 : Code := loopOf Tryd.f51 0
def s_L3 (i4 : Int) (h0 : List Int) (h2 : List Int) : St := ⟨[AV.dead, AV.ptr 0 [], AV.ptr 1 [], AV.ptr 2 [], AV.int IntKind.i64 i4] ++ List.replicate 18 .dead, [Blk.var (AV.ints IntKind.u32 8 h0), Blk.var (AV.ints IntKind.u8 32 [0, 0, 0, 0, 0, 0, 0, 0, 0, 0, 0, 0, 0, 0, 0, 0, 0, 0, 0, 0, 0, 0, 0, 0, 0, 0, 0, 0, 0, 0, 0, 0]), Blk.var (AV.ints IntKind.u8 32 h2)]⟩
def x_L3_0 (i4 : Int) (h0 : List Int) (h2 : List Int) : St := ⟨[AV.dead, AV.ptr 0 [], AV.ptr 1 [], AV.ptr 2 [], AV.int IntKind.i64 i4, AV.dead, AV.int IntKind.i64 i4, AV.bool (decide (i4 < 32))] ++ List.replicate 15 .dead, [Blk.var (AV.ints IntKind.u32 8 h0), Blk.var (AV.ints IntKind.u8 32 [0, 0, 0, 0, 0, 0, 0, 0, 0, 0, 0, 0, 0, 0, 0, 0, 0, 0, 0, 0, 0, 0, 0, 0, 0, 0, 0, 0, 0, 0, 0, 0]), Blk.var (AV.ints IntKind.u8 32 h2)]⟩
noncomputable def L3 {R : Type} (N : Nat) (ke0 : Int → (List Int) → (List Int) → Option R) : Nat → Int → (List Int) → (List Int) → Option R
  | 0, _, _, _ => none
  | m + 1, i4, h0, h2 =>
    cond (decide (i4 < 32))
     (cond (decide (0 ≤ IntKind.i64.wrap (i4.tdiv 4)))
      (cond (decide (IntKind.i64.wrap (i4.tdiv 4) < 8))
       (cond (decide (0 ≤ i4))
        (cond (decide (i4 < 32))
         (L3 N ke0 m (IntKind.i64.wrap (i4 + 1)) h0 (h2.set i4.toNat (IntKind.u8.wrap (ishr IntKind.u32 (h0.getD (IntKind.i64.wrap (i4.tdiv 4)).toNat 0) (IntKind.u64.wrap (IntKind.i64.wrap (8 * i4.tmod 4)))))))
         (none))
        (none))
       (none))
      (none))
     (ke0 i4 h0 h2)
theorem round_L3 {R : Type} (N : Nat) (Rn : St → Option R) (k : K R) (i4 : Int) (h0 : List Int) (h2 : List Int) : evC (g) an 0 N c_L3 none (roundK (nmOf 0 (an.loop 3)) Rn k) (s_L3 i4 h0 h2) =
  cond (decide (i4 < 32))
   (cond (decide (0 ≤ IntKind.i64.wrap (i4.tdiv 4)))
    (cond (decide (IntKind.i64.wrap (i4.tdiv 4) < 8))
     (cond (decide (0 ≤ i4))
      (cond (decide (i4 < 32))
       (Rn (s_L3 (IntKind.i64.wrap (i4 + 1)) h0 (h2.set i4.toNat (IntKind.u8.wrap (ishr IntKind.u32 (h0.getD (IntKind.i64.wrap (i4.tdiv 4)).toNat 0) (IntKind.u64.wrap (IntKind.i64.wrap (8 * i4.tmod 4))))))))
       (none))
      (none))
     (none))
    (none))
   (k.ext 0 (x_L3_0 i4 h0 h2)) := by kernel_rfl
theorem run_L3 {R : Type} (N : Nat) (k : K R) : ∀ (m : Nat) (i4 : Int) (h0 : List Int) (h2 : List Int), loopN (evC (g) an 0 N c_L3 none) k (nmOf 0 (an.loop 3)) m (s_L3 i4 h0 h2) =
    L3 N (fun i4 h0 h2 => (k).ext 0 (x_L3_0 i4 h0 h2)) m i4 h0 h2 := by
  intro m
  induction m with
  | zero => intros; rfl
  | succ m ih =>
    intros
    rw [loopN_succ, round_L3]
    simp only [ih]
    kernel_rfl
noncomputable def m {R : Type} (N : Nat) (a1 : List Int) (kr0 : (List Int) → Option R) : Option R :=
  L3 N
   (fun _i4_c3 _h0_c4 h2_c5 => kr0 h2_c5) N 0 a1 ([0, 0, 0, 0, 0, 0, 0, 0, 0, 0, 0, 0, 0, 0, 0, 0, 0, 0, 0, 0, 0, 0, 0, 0, 0, 0, 0, 0, 0, 0, 0, 0])
theorem tree {R : Type} (N : Nat) (κ : AV → List Blk → Option R) (a1 : List Int) : evF (g) an N Tryd.f51 [AV.ints IntKind.u32 8 a1] [] κ =
  loopN (evC (g) an 0 N c_L3 none) (ctx (g) an 0 N (bodyOf Tryd.f51) [1, 1, 0, 1, 0] (endK (g) an Tryd.f51 [] κ)) (nmOf 0 (an.loop 3)) N (s_L3 0 a1 ([0, 0, 0, 0, 0, 0, 0, 0, 0, 0, 0, 0, 0, 0, 0, 0, 0, 0, 0, 0, 0, 0, 0, 0, 0, 0, 0, 0, 0, 0, 0, 0])) := by kernel_rfl
theorem eq {R : Type} (N : Nat) (κ : AV → List Blk → Option R) (a1 : List Int) : evF (g) an N Tryd.f51 [AV.ints IntKind.u32 8 a1] [] κ =
  m N a1 (fun v => κ (AV.ints IntKind.u8 32 v) []) := by
  rw [tree]
  simp only [run_L3]
  kernel_rfl
abbrev Ty : Type 1 := ∀ R : Type, (List Int) → ((List Int) → Option R) → Option R
def con (f : Ty) : Con := fun R args bs κ => match args, bs with
  | [AV.ints IntKind.u32 8 a1], [] => f R a1 (fun v => κ (AV.ints IntKind.u8 32 v) [])
  | _, _ => none
theorem con_eq (f : Ty) (R : Type) (κ : AV → List Blk → Option R) (a1 : List Int) : con f R [AV.ints IntKind.u32 8 a1] [] κ = f R a1 (fun v => κ (AV.ints IntKind.u8 32 v) []) := rfl
noncomputable def M (N : Nat) : Ty := fun R a1 kr0 => m (R := R) N a1 kr0
def gts : List (Nat × AV) := []
theorem gok (_N : Nat) : GOk (g) := giD_ok hm (by intro p hp; cases hp) (gtL_ok (by decide)) (ovL_ok (by intro p hp; cases hp)) 1
theorem ok (N : Nat) : SoundC Tryd.prog (gtL gts) 51 (con (M N)) := by
  refine SoundC.mono (evF_ok (gok N) hm an N Tryd.func51) fun R args bs κ r h => ?_
  unfold con at h
  split at h
  · exact (eq N κ _).trans h
  · cases h
end rBytes


/-! ### Tryd.f47: rCurve -/
namespace rCurve
def an : Anns := ⟨fun i => findA i [], fun i => findA i [], false, fun _ => none⟩
noncomputable def g : Gi := giD Tryd.prog (gtL []) (fun _ => an) 0 [] (ovL []) 1
noncomputable def m {R : Type} (_N : Nat) (kr0 : Option R) : Option R :=
  kr0
theorem tree {R : Type} (N : Nat) (κ : AV → List Blk → Option R) : evF (g) an N Tryd.f47 [] [] κ =
  κ (AV.ints IntKind.u32 8 [324630691, 1978355146, 1094834347, 7342669, 2004478104, 2361868409, 728759923, 1375956206]) [] := by kernel_rfl
theorem eq {R : Type} (N : Nat) (κ : AV → List Blk → Option R) : evF (g) an N Tryd.f47 [] [] κ =
  m N (κ (AV.ints IntKind.u32 8 [324630691, 1978355146, 1094834347, 7342669, 2004478104, 2361868409, 728759923, 1375956206]) []) := by
  rw [tree]
  kernel_rfl
abbrev Ty : Type 1 := ∀ R : Type, Option R → Option R
def con (f : Ty) : Con := fun R args bs κ => match args, bs with
  | [], [] => f R (κ (AV.ints IntKind.u32 8 [324630691, 1978355146, 1094834347, 7342669, 2004478104, 2361868409, 728759923, 1375956206]) [])
  | _, _ => none
theorem con_eq (f : Ty) (R : Type) (κ : AV → List Blk → Option R) : con f R [] [] κ = f R (κ (AV.ints IntKind.u32 8 [324630691, 1978355146, 1094834347, 7342669, 2004478104, 2361868409, 728759923, 1375956206]) []) := rfl
noncomputable def M (N : Nat) : Ty := fun R kr0 => m (R := R) N kr0
def gts : List (Nat × AV) := []
theorem gok (_N : Nat) : GOk (g) := giD_ok hm (by intro p hp; cases hp) (gtL_ok (by decide)) (ovL_ok (by intro p hp; cases hp)) 1
theorem ok (N : Nat) : SoundC Tryd.prog (gtL gts) 47 (con (M N)) := by
  refine SoundC.mono (evF_ok (gok N) hm an N Tryd.func47) fun R args bs κ r h => ?_
  unfold con at h
  split at h
  · exact (eq N κ).trans h
  · cases h
end rCurve


/-! ### Tryd.f77: rBaseX -/
namespace rBaseX
def an : Anns := ⟨fun i => findA i [], fun i => findA i [], false, fun _ => none⟩
noncomputable def g : Gi := giD Tryd.prog (gtL []) (fun _ => an) 0 [] (ovL []) 1
noncomputable def m {R : Type} (_N : Nat) (kr0 : Option R) : Option R :=
  kr0
theorem tree {R : Type} (N : Nat) (κ : AV → List Blk → Option R) : evF (g) an N Tryd.f77 [] [] κ =
  κ (AV.ints IntKind.u32 8 [2401621274, 3377868128, 2502272946, 1764542304, 4258716764, 3232031281, 3446559742, 560543443]) [] := by kernel_rfl
theorem eq {R : Type} (N : Nat) (κ : AV → List Blk → Option R) : evF (g) an N Tryd.f77 [] [] κ =
  m N (κ (AV.ints IntKind.u32 8 [2401621274, 3377868128, 2502272946, 1764542304, 4258716764, 3232031281, 3446559742, 560543443]) []) := by
  rw [tree]
  kernel_rfl
abbrev Ty : Type 1 := ∀ R : Type, Option R → Option R
def con (f : Ty) : Con := fun R args bs κ => match args, bs with
  | [], [] => f R (κ (AV.ints IntKind.u32 8 [2401621274, 3377868128, 2502272946, 1764542304, 4258716764, 3232031281, 3446559742, 560543443]) [])
  | _, _ => none
theorem con_eq (f : Ty) (R : Type) (κ : AV → List Blk → Option R) : con f R [] [] κ = f R (κ (AV.ints IntKind.u32 8 [2401621274, 3377868128, 2502272946, 1764542304, 4258716764, 3232031281, 3446559742, 560543443]) []) := rfl
noncomputable def M (N : Nat) : Ty := fun R kr0 => m (R := R) N kr0
def gts : List (Nat × AV) := []
theorem gok (_N : Nat) : GOk (g) := giD_ok hm (by intro p hp; cases hp) (gtL_ok (by decide)) (ovL_ok (by intro p hp; cases hp)) 1
theorem ok (N : Nat) : SoundC Tryd.prog (gtL gts) 77 (con (M N)) := by
  refine SoundC.mono (evF_ok (gok N) hm an N Tryd.func77) fun R args bs κ r h => ?_
  unfold con at h
  split at h
  · exact (eq N κ).trans h
  · cases h
end rBaseX


/-! ### Tryd.f78: rBaseY -/
namespace rBaseY
def an : Anns := ⟨fun i => findA i [], fun i => findA i [], false, fun _ => none⟩
noncomputable def g : Gi := giD Tryd.prog (gtL []) (fun _ => an) 0 [] (ovL []) 1
noncomputable def m {R : Type} (_N : Nat) (kr0 : Option R) : Option R :=
  kr0
theorem tree {R : Type} (N : Nat) (κ : AV → List Blk → Option R) : evF (g) an N Tryd.f78 [] [] κ =
  κ (AV.ints IntKind.u32 8 [1717986904, 1717986918, 1717986918, 1717986918, 1717986918, 1717986918, 1717986918, 1717986918]) [] := by kernel_rfl
theorem eq {R : Type} (N : Nat) (κ : AV → List Blk → Option R) : evF (g) an N Tryd.f78 [] [] κ =
  m N (κ (AV.ints IntKind.u32 8 [1717986904, 1717986918, 1717986918, 1717986918, 1717986918, 1717986918, 1717986918, 1717986918]) []) := by
  rw [tree]
  kernel_rfl
abbrev Ty : Type 1 := ∀ R : Type, Option R → Option R
def con (f : Ty) : Con := fun R args bs κ => match args, bs with
  | [], [] => f R (κ (AV.ints IntKind.u32 8 [1717986904, 1717986918, 1717986918, 1717986918, 1717986918, 1717986918, 1717986918, 1717986918]) [])
  | _, _ => none
theorem con_eq (f : Ty) (R : Type) (κ : AV → List Blk → Option R) : con f R [] [] κ = f R (κ (AV.ints IntKind.u32 8 [1717986904, 1717986918, 1717986918, 1717986918, 1717986918, 1717986918, 1717986918, 1717986918]) []) := rfl
noncomputable def M (N : Nat) : Ty := fun R kr0 => m (R := R) N kr0
def gts : List (Nat × AV) := []
theorem gok (_N : Nat) : GOk (g) := giD_ok hm (by intro p hp; cases hp) (gtL_ok (by decide)) (ovL_ok (by intro p hp; cases hp)) 1
theorem ok (N : Nat) : SoundC Tryd.prog (gtL gts) 78 (con (M N)) := by
  refine SoundC.mono (evF_ok (gok N) hm an N Tryd.func78) fun R args bs κ r h => ?_
  unfold con at h
  split at h
  · exact (eq N κ).trans h
  · cases h
end rBaseY

end Go.Proofs.YtjaappocnonkbaaDoor.fn
