/- What the scalars' references compute, with the proof; printed by a program. -/
import Derived.Test.YtganankiiipkgaaProg
import Derived.Test.YtganankiiipkgaaEv4
import Derived.Test.YtganankiiipkgaaFnScalar
namespace Go.Proofs.Ytganankiiipkgaa.fn
open Go Go.Proofs Go.Ev

/-! ### Try.f19: rmodulus -/
namespace rmodulus
def an : Anns := ⟨fun i => findA i [], fun i => findA i [], true, fun _ => none⟩
noncomputable def g : Gi := giD Try.prog (gtL []) (fun _ => an) 0 [] (ovL []) 1
noncomputable def m {R : Type} (_N : Nat) (kr0 : Option R) : Option R :=
  kr0
theorem tree {R : Type} (N : Nat) (κ : AV → List Blk → Option R) : evF (g) an N Try.f19 [] [] κ =
  κ (AV.own 0 [] 0 none) ([Blk.row IntKind.i64 false [16, 0, 0, 0, 0, 0, 0, 0, 0, 0, 0, 0, 0, 0, 0, 0, 20, 222, 249, 222, 162, 247, 156, 214, 88, 18, 99, 26, 92, 245, 211, 237]]) := by kernel_rfl
theorem eq {R : Type} (N : Nat) (κ : AV → List Blk → Option R) : evF (g) an N Try.f19 [] [] κ =
  m N (κ (AV.own 0 [] 0 none) ([Blk.row IntKind.i64 false [16, 0, 0, 0, 0, 0, 0, 0, 0, 0, 0, 0, 0, 0, 0, 0, 20, 222, 249, 222, 162, 247, 156, 214, 88, 18, 99, 26, 92, 245, 211, 237]])) := by
  rw [tree]
  kernel_rfl
abbrev Ty : Type 1 := ∀ R : Type, Option R → Option R
def con (f : Ty) : Con := fun R args bs κ => match args, bs with
  | [], [] => f R (κ (AV.own 0 [] 0 none) ([Blk.row IntKind.i64 false [16, 0, 0, 0, 0, 0, 0, 0, 0, 0, 0, 0, 0, 0, 0, 0, 20, 222, 249, 222, 162, 247, 156, 214, 88, 18, 99, 26, 92, 245, 211, 237]]))
  | _, _ => none
theorem con_eq (f : Ty) (R : Type) (κ : AV → List Blk → Option R) : con f R [] [] κ = f R (κ (AV.own 0 [] 0 none) ([Blk.row IntKind.i64 false [16, 0, 0, 0, 0, 0, 0, 0, 0, 0, 0, 0, 0, 0, 0, 0, 20, 222, 249, 222, 162, 247, 156, 214, 88, 18, 99, 26, 92, 245, 211, 237]])) := rfl
noncomputable def M (N : Nat) : Ty := fun R kr0 => m (R := R) N kr0
def gts : List (Nat × AV) := []
theorem gok (_N : Nat) : GOk (g) := giD_ok hm (by intro p hp; cases hp) (gtL_ok (by decide)) (ovL_ok (by intro p hp; cases hp)) 1
theorem ok (N : Nat) : SoundC Try.prog (gtL gts) 19 (con (M N)) := by
  refine SoundC.mono (evF_ok (gok N) hm an N Try.func19) fun R args bs κ r h => ?_
  unfold con at h
  split at h
  · exact (eq N κ).trans h
  · cases h
end rmodulus


/-! ### Try.f20: rless -/
namespace rless
def an : Anns := ⟨fun i => findA i [(3, ⟨[0, 3, 9, 10], [⟨3, 0, .i64⟩], 1⟩)], fun i => findA i [], false, fun _ => none⟩
noncomputable def g (mrmodulus : rmodulus.Ty) : Gi := giD Try.prog (gtL []) (fun _ => an) 0 [] (ovL [(19, rmodulus.con mrmodulus)]) 1
noncomputable def c_L3 : Code := loopOf Try.f20 0
def s_L3 (a0 : Option Bool) (a0_1 : List Int) (t9 : Int) (t10 : Int) : St := ⟨[AV.isl IntKind.i64 a0 a0_1, AV.dead, AV.dead, AV.own 0 [] 0 none] ++ List.replicate 5 .dead ++ [AV.int IntKind.i64 t9, AV.int IntKind.i64 t10] ++ List.replicate 21 .dead, [Blk.row IntKind.i64 false [0, 16, 0, 0, 0, 0, 0, 0, 0, 0, 0, 0, 0, 0, 0, 0, 0, 20, 222, 249, 222, 162, 247, 156, 214, 88, 18, 99, 26, 92, 245, 211, 237]]⟩
def x_L3_0 (a0 : Option Bool) (a0_1 : List Int) (t9 : Int) (t10 : Int) : St := ⟨[AV.isl IntKind.i64 a0 a0_1, AV.dead, AV.bool (decide (a0_1.getD t10.toNat 0 < [0, 16, 0, 0, 0, 0, 0, 0, 0, 0, 0, 0, 0, 0, 0, 0, 0, 20, 222, 249, 222, 162, 247, 156, 214, 88, 18, 99, 26, 92, 245, 211, 237].getD (0 + t10.toNat) 0)), AV.own 0 [] 0 none, AV.int IntKind.i64 t10] ++ List.replicate 4 .dead ++ [AV.int IntKind.i64 t9, AV.int IntKind.i64 t10, AV.bool (decide (t10 < t9)), AV.int IntKind.i64 t10, AV.isl IntKind.i64 a0 a0_1, AV.int IntKind.i64 t10, AV.rpi IntKind.i64 (a0_1.getD t10.toNat 0), AV.int IntKind.i64 (a0_1.getD t10.toNat 0), AV.own 0 [] 0 none, AV.int IntKind.i64 t10, AV.ptr 0 [0 + t10.toNat], AV.int IntKind.i64 ([0, 16, 0, 0, 0, 0, 0, 0, 0, 0, 0, 0, 0, 0, 0, 0, 0, 20, 222, 249, 222, 162, 247, 156, 214, 88, 18, 99, 26, 92, 245, 211, 237].getD (0 + t10.toNat) 0), AV.bool (a0_1.getD t10.toNat 0 != [0, 16, 0, 0, 0, 0, 0, 0, 0, 0, 0, 0, 0, 0, 0, 0, 0, 20, 222, 249, 222, 162, 247, 156, 214, 88, 18, 99, 26, 92, 245, 211, 237].getD (0 + t10.toNat) 0), AV.isl IntKind.i64 a0 a0_1, AV.int IntKind.i64 t10, AV.rpi IntKind.i64 (a0_1.getD t10.toNat 0), AV.int IntKind.i64 (a0_1.getD t10.toNat 0), AV.own 0 [] 0 none, AV.int IntKind.i64 t10, AV.ptr 0 [0 + t10.toNat], AV.int IntKind.i64 ([0, 16, 0, 0, 0, 0, 0, 0, 0, 0, 0, 0, 0, 0, 0, 0, 0, 20, 222, 249, 222, 162, 247, 156, 214, 88, 18, 99, 26, 92, 245, 211, 237].getD (0 + t10.toNat) 0), AV.bool (decide (a0_1.getD t10.toNat 0 < [0, 16, 0, 0, 0, 0, 0, 0, 0, 0, 0, 0, 0, 0, 0, 0, 0, 20, 222, 249, 222, 162, 247, 156, 214, 88, 18, 99, 26, 92, 245, 211, 237].getD (0 + t10.toNat) 0)), AV.dead], [Blk.row IntKind.i64 false [0, 16, 0, 0, 0, 0, 0, 0, 0, 0, 0, 0, 0, 0, 0, 0, 0, 20, 222, 249, 222, 162, 247, 156, 214, 88, 18, 99, 26, 92, 245, 211, 237]]⟩
def x_L3_1 (a0 : Option Bool) (a0_1 : List Int) (t9 : Int) (t10 : Int) : St := ⟨[AV.isl IntKind.i64 a0 a0_1, AV.dead, AV.dead, AV.own 0 [] 0 none] ++ List.replicate 5 .dead ++ [AV.int IntKind.i64 t9, AV.int IntKind.i64 t10, AV.bool (decide (t10 < t9))] ++ List.replicate 20 .dead, [Blk.row IntKind.i64 false [0, 16, 0, 0, 0, 0, 0, 0, 0, 0, 0, 0, 0, 0, 0, 0, 0, 20, 222, 249, 222, 162, 247, 156, 214, 88, 18, 99, 26, 92, 245, 211, 237]]⟩
noncomputable def L3 (mrmodulus : rmodulus.Ty) {R : Type} (N : Nat) (ke0 : (Option Bool) → (List Int) → Int → Int → Option R) (ke1 : (Option Bool) → (List Int) → Int → Int → Option R) : Nat → (Option Bool) → (List Int) → Int → Int → Option R
  | 0, _, _, _, _ => none
  | m + 1, a0, a0_1, t9, t10 =>
    cond (decide (t10 < t9))
     (cond (decide (0 ≤ t10))
      (cond (decide (t10 < (↑a0_1.length : Int)))
       (cond (decide (0 ≤ t10))
        (cond (decide (t10 < 33))
         (cond (a0_1.getD t10.toNat 0 != [0, 16, 0, 0, 0, 0, 0, 0, 0, 0, 0, 0, 0, 0, 0, 0, 0, 20, 222, 249, 222, 162, 247, 156, 214, 88, 18, 99, 26, 92, 245, 211, 237].getD (0 + t10.toNat) 0)
          (cond (decide (0 ≤ t10))
           (cond (decide (t10 < (↑a0_1.length : Int)))
            (cond (decide (0 ≤ t10))
             (cond (decide (t10 < 33))
              (ke0 a0 a0_1 t9 t10)
              (none))
             (none))
            (none))
           (none))
          (L3 mrmodulus N ke0 ke1 m a0 a0_1 t9 (IntKind.i64.wrap (t10 + 1))))
         (none))
        (none))
       (none))
      (none))
     (ke1 a0 a0_1 t9 t10)
theorem round_L3 (mrmodulus : rmodulus.Ty) {R : Type} (N : Nat) (Rn : St → Option R) (k : K R) (a0 : Option Bool) (a0_1 : List Int) (t9 : Int) (t10 : Int) : evC (g mrmodulus) an 0 N c_L3 none (roundK (nmOf 0 (an.loop 3)) Rn k) (s_L3 a0 a0_1 t9 t10) =
  cond (decide (t10 < t9))
   (cond (decide (0 ≤ t10))
    (cond (decide (t10 < (↑a0_1.length : Int)))
     (cond (decide (0 ≤ t10))
      (cond (decide (t10 < 33))
       (cond (a0_1.getD t10.toNat 0 != [0, 16, 0, 0, 0, 0, 0, 0, 0, 0, 0, 0, 0, 0, 0, 0, 0, 20, 222, 249, 222, 162, 247, 156, 214, 88, 18, 99, 26, 92, 245, 211, 237].getD (0 + t10.toNat) 0)
        (cond (decide (0 ≤ t10))
         (cond (decide (t10 < (↑a0_1.length : Int)))
          (cond (decide (0 ≤ t10))
           (cond (decide (t10 < 33))
            (k.ret (x_L3_0 a0 a0_1 t9 t10))
            (none))
           (none))
          (none))
         (none))
        (Rn (s_L3 a0 a0_1 t9 (IntKind.i64.wrap (t10 + 1)))))
       (none))
      (none))
     (none))
    (none))
   (k.ext 0 (x_L3_1 a0 a0_1 t9 t10)) := by kernel_rfl
theorem run_L3 (mrmodulus : rmodulus.Ty) {R : Type} (N : Nat) (k : K R) : ∀ (m : Nat) (a0 : Option Bool) (a0_1 : List Int) (t9 : Int) (t10 : Int), loopN (evC (g mrmodulus) an 0 N c_L3 none) k (nmOf 0 (an.loop 3)) m (s_L3 a0 a0_1 t9 t10) =
    L3 mrmodulus N (fun a0 a0_1 t9 t10 => (k).ret (x_L3_0 a0 a0_1 t9 t10)) (fun a0 a0_1 t9 t10 => (k).ext 0 (x_L3_1 a0 a0_1 t9 t10)) m a0 a0_1 t9 t10 := by
  intro m
  induction m with
  | zero => intros; rfl
  | succ m ih =>
    intros
    rw [loopN_succ, round_L3]
    simp only [ih]
    kernel_rfl
noncomputable def m (mrmodulus : rmodulus.Ty) {R : Type} (N : Nat) (aN1 : Option Bool) (a2 : List Int) (kr0 : Bool → Option R) : Option R :=
  mrmodulus R
   (L3 mrmodulus N
    (fun _a0_c4 a0_1_c5 _t9_c6 t10_c7 => kr0 (decide (a0_1_c5.getD t10_c7.toNat 0 < [0, 16, 0, 0, 0, 0, 0, 0, 0, 0, 0, 0, 0, 0, 0, 0, 0, 20, 222, 249, 222, 162, 247, 156, 214, 88, 18, 99, 26, 92, 245, 211, 237].getD (0 + t10_c7.toNat) 0)))
    (fun _a0_c8 _a0_1_c9 _t9_c10 _t10_c11 => kr0 false) N aN1 a2 ((↑a2.length : Int)) 0)
theorem tree (mrmodulus : rmodulus.Ty) {R : Type} (N : Nat) (κ : AV → List Blk → Option R) (aN1 : Option Bool) (a2 : List Int) : evF (g mrmodulus) an N Try.f20 [AV.isl IntKind.i64 aN1 a2] [] κ =
  mrmodulus R
   (loopN (evC (g mrmodulus) an 0 N c_L3 none) (ctx (g mrmodulus) an 0 N (bodyOf Try.f20) [1, 1, 0, 1, 0] (endK (g mrmodulus) an Try.f20 [] κ)) (nmOf 0 (an.loop 3)) N (s_L3 aN1 a2 ((↑a2.length : Int)) 0)) := by kernel_rfl
theorem eq (mrmodulus : rmodulus.Ty) {R : Type} (N : Nat) (κ : AV → List Blk → Option R) (aN1 : Option Bool) (a2 : List Int) : evF (g mrmodulus) an N Try.f20 [AV.isl IntKind.i64 aN1 a2] [] κ =
  m mrmodulus N aN1 a2 (fun v => κ (AV.bool v) []) := by
  rw [tree]
  simp only [run_L3]
  kernel_rfl
abbrev Ty : Type 1 := ∀ R : Type, (Option Bool) → (List Int) → (Bool → Option R) → Option R
def con (f : Ty) : Con := fun R args bs κ => match args, bs with
  | [AV.isl IntKind.i64 aN1 a2], [] => f R aN1 a2 (fun v => κ (AV.bool v) [])
  | _, _ => none
theorem con_eq (f : Ty) (R : Type) (κ : AV → List Blk → Option R) (aN1 : Option Bool) (a2 : List Int) : con f R [AV.isl IntKind.i64 aN1 a2] [] κ = f R aN1 a2 (fun v => κ (AV.bool v) []) := rfl
noncomputable def M (N : Nat) : Ty := fun R aN1 a2 kr0 => m (rmodulus.M N) (R := R) N aN1 a2 kr0
def gts : List (Nat × AV) := []
theorem gok (N : Nat) : GOk (g (rmodulus.M N)) := giD_ok hm (by intro p hp; cases hp) (gtL_ok (by decide)) (ovL_ok (by
    intro p hp
    simp only [List.mem_cons, List.not_mem_nil, or_false] at hp
    rcases hp with rfl
    · exact ⟨(rmodulus.ok N).gt (gtL_sub (by repeat (first | exact subG_nil _ | refine subG_cons (by kernel_rfl) ?_))) (gtL_ok (by decide)), _, Try.func19, by kernel_rfl, by kernel_rfl⟩
)) 1
theorem ok (N : Nat) : SoundC Try.prog (gtL gts) 20 (con (M N)) := by
  refine SoundC.mono (evF_ok (gok N) hm an N Try.func20) fun R args bs κ r h => ?_
  unfold con at h
  split at h
  · exact (eq (rmodulus.M N) N κ _ _).trans h
  · cases h
end rless


/-! ### Try.f8: rMod -/
namespace rMod
def an : Anns := ⟨fun i => findA i [(10, ⟨[0, 2, 3, 4, 5, 6, 7], [⟨2, 0, .u8⟩, ⟨3, 1, .i64⟩, ⟨4, 2, .i64⟩], 3⟩), (7, ⟨[0, 2, 3, 4, 5], [⟨2, 0, .u8⟩, ⟨3, 1, .i64⟩, ⟨4, 2, .i64⟩], 3⟩), (4, ⟨[0, 2, 3, 4, 5], [⟨2, 0, .u8⟩, ⟨3, 1, .i64⟩, ⟨4, 2, .i64⟩], 3⟩), (20, ⟨[2, 3, 9, 10], [⟨2, 0, .u8⟩, ⟨3, 1, .i64⟩, ⟨9, 2, .u8⟩], 3⟩)], fun i => findA i [], false, fun _ => none⟩
noncomputable def g (mrmodulus : rmodulus.Ty) (mrless : rless.Ty) : Gi := giD Try.prog (gtL []) (fun _ => an) 0 [] (ovL [(19, rmodulus.con mrmodulus), (20, rless.con mrless)]) 1
noncomputable def c_L10 : Code := loopOf Try.f8 2
noncomputable def c_L7 : Code := loopOf Try.f8 1
noncomputable def c_L4 : Code := loopOf Try.f8 0
noncomputable def c_L20 : Code := loopOf Try.f8 3
def s_L10 (b0 : Option Bool) (b0_1 : List Int) (i5 : Int) (owe6 : Int) (k7 : Int) (h1 : List Int) : St := ⟨[AV.isl IntKind.u8 b0 b0_1, AV.dead, AV.ptr 0 [], AV.own 1 [] 0 none, AV.own 2 [] 0 none, AV.int IntKind.i64 i5, AV.int IntKind.i64 owe6, AV.int IntKind.i64 k7] ++ List.replicate 65 .dead, [Blk.var (AV.ints IntKind.u8 32 [0, 0, 0, 0, 0, 0, 0, 0, 0, 0, 0, 0, 0, 0, 0, 0, 0, 0, 0, 0, 0, 0, 0, 0, 0, 0, 0, 0, 0, 0, 0, 0]), Blk.row IntKind.i64 false h1, Blk.row IntKind.i64 false [0, 16, 0, 0, 0, 0, 0, 0, 0, 0, 0, 0, 0, 0, 0, 0, 0, 20, 222, 249, 222, 162, 247, 156, 214, 88, 18, 99, 26, 92, 245, 211, 237]]⟩
def s_L7 (b0v1 : Option Bool) (b0_1v1 : List Int) (i5v1 : Int) (h1v1 : List Int) : St := ⟨[AV.isl IntKind.u8 b0v1 b0_1v1, AV.dead, AV.ptr 0 [], AV.own 1 [] 0 none, AV.own 2 [] 0 none, AV.int IntKind.i64 i5v1] ++ List.replicate 67 .dead, [Blk.var (AV.ints IntKind.u8 32 [0, 0, 0, 0, 0, 0, 0, 0, 0, 0, 0, 0, 0, 0, 0, 0, 0, 0, 0, 0, 0, 0, 0, 0, 0, 0, 0, 0, 0, 0, 0, 0]), Blk.row IntKind.i64 false h1v1, Blk.row IntKind.i64 false [0, 16, 0, 0, 0, 0, 0, 0, 0, 0, 0, 0, 0, 0, 0, 0, 0, 20, 222, 249, 222, 162, 247, 156, 214, 88, 18, 99, 26, 92, 245, 211, 237]]⟩
def s_L4 (b0v2 : Option Bool) (b0_1v2 : List Int) (i5v2 : Int) (h1v2 : List Int) : St := ⟨[AV.isl IntKind.u8 b0v2 b0_1v2, AV.dead, AV.ptr 0 [], AV.own 1 [] 0 none, AV.own 2 [] 0 none, AV.int IntKind.i64 i5v2] ++ List.replicate 67 .dead, [Blk.var (AV.ints IntKind.u8 32 [0, 0, 0, 0, 0, 0, 0, 0, 0, 0, 0, 0, 0, 0, 0, 0, 0, 0, 0, 0, 0, 0, 0, 0, 0, 0, 0, 0, 0, 0, 0, 0]), Blk.row IntKind.i64 false h1v2, Blk.row IntKind.i64 false [0, 16, 0, 0, 0, 0, 0, 0, 0, 0, 0, 0, 0, 0, 0, 0, 0, 20, 222, 249, 222, 162, 247, 156, 214, 88, 18, 99, 26, 92, 245, 211, 237]]⟩
def s_L20 (i10 : Int) (h1v3 : List Int) (h2 : List Int) : St := ⟨[AV.dead, AV.dead, AV.ptr 0 [], AV.own 1 [] 0 none] ++ List.replicate 5 .dead ++ [AV.ptr 2 [], AV.int IntKind.i64 i10] ++ List.replicate 62 .dead, [Blk.var (AV.ints IntKind.u8 32 [0, 0, 0, 0, 0, 0, 0, 0, 0, 0, 0, 0, 0, 0, 0, 0, 0, 0, 0, 0, 0, 0, 0, 0, 0, 0, 0, 0, 0, 0, 0, 0]), Blk.row IntKind.i64 false h1v3, Blk.var (AV.ints IntKind.u8 32 h2)]⟩
def x_L10_0 (b0 : Option Bool) (b0_1 : List Int) (i5 : Int) (owe6 : Int) (k7 : Int) (h1 : List Int) : St := ⟨[AV.isl IntKind.u8 b0 b0_1, AV.dead, AV.ptr 0 [], AV.own 1 [] 0 none, AV.own 2 [] 0 none, AV.int IntKind.i64 i5, AV.int IntKind.i64 owe6, AV.int IntKind.i64 k7] ++ List.replicate 28 .dead ++ [AV.int IntKind.i64 k7, AV.bool (decide (k7 ≥ 0))] ++ List.replicate 35 .dead, [Blk.var (AV.ints IntKind.u8 32 [0, 0, 0, 0, 0, 0, 0, 0, 0, 0, 0, 0, 0, 0, 0, 0, 0, 0, 0, 0, 0, 0, 0, 0, 0, 0, 0, 0, 0, 0, 0, 0]), Blk.row IntKind.i64 false h1, Blk.row IntKind.i64 false [0, 16, 0, 0, 0, 0, 0, 0, 0, 0, 0, 0, 0, 0, 0, 0, 0, 20, 222, 249, 222, 162, 247, 156, 214, 88, 18, 99, 26, 92, 245, 211, 237]]⟩
def x_L7_0 (b0v1 : Option Bool) (b0_1v1 : List Int) (i5v1 : Int) (h1v1 : List Int) (v_c48 : Bool) : St := ⟨[AV.isl IntKind.u8 b0v1 b0_1v1, AV.dead, AV.ptr 0 [], AV.own 1 [] 0 none, AV.own 2 [] 0 none, AV.int IntKind.i64 i5v1] ++ List.replicate 27 .dead ++ [AV.own 1 [] 0 none, AV.bool v_c48, AV.bool !v_c48] ++ List.replicate 37 .dead, [Blk.var (AV.ints IntKind.u8 32 [0, 0, 0, 0, 0, 0, 0, 0, 0, 0, 0, 0, 0, 0, 0, 0, 0, 0, 0, 0, 0, 0, 0, 0, 0, 0, 0, 0, 0, 0, 0, 0]), Blk.row IntKind.i64 false h1v1, Blk.row IntKind.i64 false [0, 16, 0, 0, 0, 0, 0, 0, 0, 0, 0, 0, 0, 0, 0, 0, 0, 20, 222, 249, 222, 162, 247, 156, 214, 88, 18, 99, 26, 92, 245, 211, 237], Blk.rsv, Blk.rsv, Blk.rsv, Blk.rsv]⟩
def x_L4_0 (b0v2 : Option Bool) (b0_1v2 : List Int) (i5v2 : Int) (h1v2 : List Int) : St := ⟨[AV.isl IntKind.u8 b0v2 b0_1v2, AV.dead, AV.ptr 0 [], AV.own 1 [] 0 none, AV.own 2 [] 0 none, AV.int IntKind.i64 i5v2] ++ List.replicate 12 .dead ++ [AV.int IntKind.i64 i5v2, AV.bool (decide (i5v2 ≥ 0))] ++ List.replicate 53 .dead, [Blk.var (AV.ints IntKind.u8 32 [0, 0, 0, 0, 0, 0, 0, 0, 0, 0, 0, 0, 0, 0, 0, 0, 0, 0, 0, 0, 0, 0, 0, 0, 0, 0, 0, 0, 0, 0, 0, 0]), Blk.row IntKind.i64 false h1v2, Blk.row IntKind.i64 false [0, 16, 0, 0, 0, 0, 0, 0, 0, 0, 0, 0, 0, 0, 0, 0, 0, 20, 222, 249, 222, 162, 247, 156, 214, 88, 18, 99, 26, 92, 245, 211, 237]]⟩
def x_L20_0 (i10 : Int) (h1v3 : List Int) (h2 : List Int) : St := ⟨[AV.dead, AV.dead, AV.ptr 0 [], AV.own 1 [] 0 none] ++ List.replicate 5 .dead ++ [AV.ptr 2 [], AV.int IntKind.i64 i10] ++ List.replicate 49 .dead ++ [AV.int IntKind.i64 i10, AV.bool (decide (i10 < 32))] ++ List.replicate 11 .dead, [Blk.var (AV.ints IntKind.u8 32 [0, 0, 0, 0, 0, 0, 0, 0, 0, 0, 0, 0, 0, 0, 0, 0, 0, 0, 0, 0, 0, 0, 0, 0, 0, 0, 0, 0, 0, 0, 0, 0]), Blk.row IntKind.i64 false h1v3, Blk.var (AV.ints IntKind.u8 32 h2)]⟩
noncomputable def L10 (mrmodulus : rmodulus.Ty) (mrless : rless.Ty) {R : Type} (N : Nat) (ke0 : (Option Bool) → (List Int) → Int → Int → Int → (List Int) → Option R) : Nat → (Option Bool) → (List Int) → Int → Int → Int → (List Int) → Option R
  | 0, _, _, _, _, _, _ => none
  | m + 1, b0, b0_1, i5, owe6, k7, h1 =>
    cond (decide (k7 ≥ 0))
     (cond (decide (0 ≤ k7))
      (cond (decide (k7 < (↑(olen none h1.length 0) : Int)))
       (cond (decide (0 ≤ k7))
        (cond (decide (k7 < 33))
         (cond (decide (IntKind.i64.wrap (IntKind.i64.wrap (h1.getD (0 + k7.toNat) 0 - [0, 16, 0, 0, 0, 0, 0, 0, 0, 0, 0, 0, 0, 0, 0, 0, 0, 20, 222, 249, 222, 162, 247, 156, 214, 88, 18, 99, 26, 92, 245, 211, 237].getD (0 + k7.toNat) 0) - owe6) < 0))
          (cond (decide (0 ≤ k7))
           (cond (decide (k7 < (↑(olen none h1.length 0) : Int)))
            (L10 mrmodulus mrless N ke0 m b0 b0_1 i5 1 (IntKind.i64.wrap (k7 - 1)) (h1.set (0 + k7.toNat) (IntKind.i64.wrap (IntKind.i64.wrap (IntKind.i64.wrap (h1.getD (0 + k7.toNat) 0 - [0, 16, 0, 0, 0, 0, 0, 0, 0, 0, 0, 0, 0, 0, 0, 0, 0, 20, 222, 249, 222, 162, 247, 156, 214, 88, 18, 99, 26, 92, 245, 211, 237].getD (0 + k7.toNat) 0) - owe6) + 256))))
            (none))
           (none))
          (cond (decide (0 ≤ k7))
           (cond (decide (k7 < (↑(olen none h1.length 0) : Int)))
            (L10 mrmodulus mrless N ke0 m b0 b0_1 i5 0 (IntKind.i64.wrap (k7 - 1)) (h1.set (0 + k7.toNat) (IntKind.i64.wrap (IntKind.i64.wrap (h1.getD (0 + k7.toNat) 0 - [0, 16, 0, 0, 0, 0, 0, 0, 0, 0, 0, 0, 0, 0, 0, 0, 0, 20, 222, 249, 222, 162, 247, 156, 214, 88, 18, 99, 26, 92, 245, 211, 237].getD (0 + k7.toNat) 0) - owe6))))
            (none))
           (none)))
         (none))
        (none))
       (none))
      (none))
     (ke0 b0 b0_1 i5 owe6 k7 h1)
theorem round_L10 (mrmodulus : rmodulus.Ty) (mrless : rless.Ty) {R : Type} (N : Nat) (Rn : St → Option R) (k : K R) (b0 : Option Bool) (b0_1 : List Int) (i5 : Int) (owe6 : Int) (k7 : Int) (h1 : List Int) : evC (g mrmodulus mrless) an 0 N c_L10 none (roundK (nmOf 0 (an.loop 10)) Rn k) (s_L10 b0 b0_1 i5 owe6 k7 h1) =
  cond (decide (k7 ≥ 0))
   (cond (decide (0 ≤ k7))
    (cond (decide (k7 < (↑(olen none h1.length 0) : Int)))
     (cond (decide (0 ≤ k7))
      (cond (decide (k7 < 33))
       (cond (decide (IntKind.i64.wrap (IntKind.i64.wrap (h1.getD (0 + k7.toNat) 0 - [0, 16, 0, 0, 0, 0, 0, 0, 0, 0, 0, 0, 0, 0, 0, 0, 0, 20, 222, 249, 222, 162, 247, 156, 214, 88, 18, 99, 26, 92, 245, 211, 237].getD (0 + k7.toNat) 0) - owe6) < 0))
        (cond (decide (0 ≤ k7))
         (cond (decide (k7 < (↑(olen none h1.length 0) : Int)))
          (Rn (s_L10 b0 b0_1 i5 1 (IntKind.i64.wrap (k7 - 1)) (h1.set (0 + k7.toNat) (IntKind.i64.wrap (IntKind.i64.wrap (IntKind.i64.wrap (h1.getD (0 + k7.toNat) 0 - [0, 16, 0, 0, 0, 0, 0, 0, 0, 0, 0, 0, 0, 0, 0, 0, 0, 20, 222, 249, 222, 162, 247, 156, 214, 88, 18, 99, 26, 92, 245, 211, 237].getD (0 + k7.toNat) 0) - owe6) + 256)))))
          (none))
         (none))
        (cond (decide (0 ≤ k7))
         (cond (decide (k7 < (↑(olen none h1.length 0) : Int)))
          (Rn (s_L10 b0 b0_1 i5 0 (IntKind.i64.wrap (k7 - 1)) (h1.set (0 + k7.toNat) (IntKind.i64.wrap (IntKind.i64.wrap (h1.getD (0 + k7.toNat) 0 - [0, 16, 0, 0, 0, 0, 0, 0, 0, 0, 0, 0, 0, 0, 0, 0, 0, 20, 222, 249, 222, 162, 247, 156, 214, 88, 18, 99, 26, 92, 245, 211, 237].getD (0 + k7.toNat) 0) - owe6)))))
          (none))
         (none)))
       (none))
      (none))
     (none))
    (none))
   (k.ext 4 (x_L10_0 b0 b0_1 i5 owe6 k7 h1)) := by kernel_rfl
theorem run_L10 (mrmodulus : rmodulus.Ty) (mrless : rless.Ty) {R : Type} (N : Nat) (k : K R) : ∀ (m : Nat) (b0 : Option Bool) (b0_1 : List Int) (i5 : Int) (owe6 : Int) (k7 : Int) (h1 : List Int), loopN (evC (g mrmodulus mrless) an 0 N c_L10 none) k (nmOf 0 (an.loop 10)) m (s_L10 b0 b0_1 i5 owe6 k7 h1) =
    L10 mrmodulus mrless N (fun b0 b0_1 i5 owe6 k7 h1 => (k).ext 4 (x_L10_0 b0 b0_1 i5 owe6 k7 h1)) m b0 b0_1 i5 owe6 k7 h1 := by
  intro m
  induction m with
  | zero => intros; rfl
  | succ m ih =>
    intros
    rw [loopN_succ, round_L10]
    simp only [ih]
    kernel_rfl
noncomputable def L7 (mrmodulus : rmodulus.Ty) (mrless : rless.Ty) {R : Type} (N : Nat) (ke0 : (Option Bool) → (List Int) → Int → (List Int) → Bool → Option R) : Nat → (Option Bool) → (List Int) → Int → (List Int) → Option R
  | 0, _, _, _, _ => none
  | m + 1, b0v1, b0_1v1, i5v1, h1v1 =>
    mrless R none h1v1
     (fun v_c48 => cond (!v_c48)
      (L10 mrmodulus mrless N
       (fun b0_c49 b0_1_c50 i5_c51 _owe6_c52 _k7_c53 h1_c54 => L7 mrmodulus mrless N ke0 m b0_c49 b0_1_c50 i5_c51 h1_c54) N b0v1 b0_1v1 i5v1 0 32 h1v1)
      (ke0 b0v1 b0_1v1 i5v1 h1v1 v_c48))
theorem round_L7 (mrmodulus : rmodulus.Ty) (mrless : rless.Ty) {R : Type} (N : Nat) (Rn : St → Option R) (k : K R) (b0v1 : Option Bool) (b0_1v1 : List Int) (i5v1 : Int) (h1v1 : List Int) : evC (g mrmodulus mrless) an 0 N c_L7 none (roundK (nmOf 0 (an.loop 7)) Rn k) (s_L7 b0v1 b0_1v1 i5v1 h1v1) =
  mrless R none h1v1
   (fun v_c48 => cond (!v_c48)
    (loopN (evC (g mrmodulus mrless) an 0 N c_L10 none) (ctx (g mrmodulus mrless) an 0 N c_L7 [1, 0, 1, 1, 0] (roundK (nmOf 0 (an.loop 7)) Rn k)) (nmOf 0 (an.loop 10)) N (s_L10 b0v1 b0_1v1 i5v1 0 32 h1v1))
    (k.ext 2 (x_L7_0 b0v1 b0_1v1 i5v1 h1v1 v_c48))) := by kernel_rfl
theorem round_L7_e0 (mrmodulus : rmodulus.Ty) (mrless : rless.Ty) {R : Type} (N : Nat) (Rn : St → Option R) (k : K R) (b0_c49 : Option Bool) (b0_1_c50 : List Int) (i5_c51 : Int) (owe6_c52 : Int) (k7_c53 : Int) (h1_c54 : List Int) : (ctx (g mrmodulus mrless) an 0 N c_L7 [1, 0, 1, 1, 0] (roundK (nmOf 0 (an.loop 7)) Rn k)).ext 4 (x_L10_0 b0_c49 b0_1_c50 i5_c51 owe6_c52 k7_c53 h1_c54) =
  Rn (s_L7 b0_c49 b0_1_c50 i5_c51 h1_c54) := by kernel_rfl
theorem run_L7 (mrmodulus : rmodulus.Ty) (mrless : rless.Ty) {R : Type} (N : Nat) (k : K R) : ∀ (m : Nat) (b0v1 : Option Bool) (b0_1v1 : List Int) (i5v1 : Int) (h1v1 : List Int), loopN (evC (g mrmodulus mrless) an 0 N c_L7 none) k (nmOf 0 (an.loop 7)) m (s_L7 b0v1 b0_1v1 i5v1 h1v1) =
    L7 mrmodulus mrless N (fun b0v1 b0_1v1 i5v1 h1v1 v_c48 => (k).ext 2 (x_L7_0 b0v1 b0_1v1 i5v1 h1v1 v_c48)) m b0v1 b0_1v1 i5v1 h1v1 := by
  intro m
  induction m with
  | zero => intros; rfl
  | succ m ih =>
    intros
    rw [loopN_succ, round_L7]
    simp only [run_L10, round_L7_e0, ih]
    kernel_rfl
noncomputable def L4 (mrmodulus : rmodulus.Ty) (mrless : rless.Ty) {R : Type} (N : Nat) (ke0 : (Option Bool) → (List Int) → Int → (List Int) → Option R) : Nat → (Option Bool) → (List Int) → Int → (List Int) → Option R
  | 0, _, _, _, _ => none
  | m + 1, b0v2, b0_1v2, i5v2, h1v2 =>
    cond (decide (i5v2 ≥ 0))
     (cond (decide (1 ≤ (↑(olen none h1v2.length 0) : Int)))
      (cond (decide ((0 + (cut (some (olen none h1v2.length 0 - 1)) 1 h1v2).length) * 8 ≤ 140737488355328))
       (cond (decide (0 + (cut (some (olen none h1v2.length 0 - 1)) 1 h1v2).length ≤ 140737488355328))
        (cond (decide (0 ≤ i5v2))
         (cond (decide (i5v2 < (↑b0_1v2.length : Int)))
          (cond (decide (((cut none 0 ([] ++ cut (some (olen none h1v2.length 0 - 1)) 1 h1v2)).length + 1) * 8 ≤ 140737488355328))
           (cond (decide ((cut none 0 ([] ++ cut (some (olen none h1v2.length 0 - 1)) 1 h1v2)).length + 1 ≤ 140737488355328))
            (L7 mrmodulus mrless N
             (fun b0_c55 b0_1_c56 i5_c57 h1_c58 _v_c59 => L4 mrmodulus mrless N ke0 m b0_c55 b0_1_c56 (IntKind.i64.wrap (i5_c57 - 1)) h1_c58) N b0v2 b0_1v2 i5v2 (cut none 0 ([] ++ cut (some (olen none h1v2.length 0 - 1)) 1 h1v2) ++ [IntKind.i64.wrap (b0_1v2.getD i5v2.toNat 0)]))
            (none))
           (none))
          (none))
         (none))
        (none))
       (none))
      (none))
     (ke0 b0v2 b0_1v2 i5v2 h1v2)
theorem round_L4 (mrmodulus : rmodulus.Ty) (mrless : rless.Ty) {R : Type} (N : Nat) (Rn : St → Option R) (k : K R) (b0v2 : Option Bool) (b0_1v2 : List Int) (i5v2 : Int) (h1v2 : List Int) : evC (g mrmodulus mrless) an 0 N c_L4 none (roundK (nmOf 0 (an.loop 4)) Rn k) (s_L4 b0v2 b0_1v2 i5v2 h1v2) =
  cond (decide (i5v2 ≥ 0))
   (cond (decide (1 ≤ (↑(olen none h1v2.length 0) : Int)))
    (cond (decide ((0 + (cut (some (olen none h1v2.length 0 - 1)) 1 h1v2).length) * 8 ≤ 140737488355328))
     (cond (decide (0 + (cut (some (olen none h1v2.length 0 - 1)) 1 h1v2).length ≤ 140737488355328))
      (cond (decide (0 ≤ i5v2))
       (cond (decide (i5v2 < (↑b0_1v2.length : Int)))
        (cond (decide (((cut none 0 ([] ++ cut (some (olen none h1v2.length 0 - 1)) 1 h1v2)).length + 1) * 8 ≤ 140737488355328))
         (cond (decide ((cut none 0 ([] ++ cut (some (olen none h1v2.length 0 - 1)) 1 h1v2)).length + 1 ≤ 140737488355328))
          (loopN (evC (g mrmodulus mrless) an 0 N c_L7 none) (ctx (g mrmodulus mrless) an 0 N c_L4 [1, 0, 0, 1, 0] (roundK (nmOf 0 (an.loop 4)) Rn k)) (nmOf 0 (an.loop 7)) N (s_L7 b0v2 b0_1v2 i5v2 (cut none 0 ([] ++ cut (some (olen none h1v2.length 0 - 1)) 1 h1v2) ++ [IntKind.i64.wrap (b0_1v2.getD i5v2.toNat 0)])))
          (none))
         (none))
        (none))
       (none))
      (none))
     (none))
    (none))
   (k.ext 0 (x_L4_0 b0v2 b0_1v2 i5v2 h1v2)) := by kernel_rfl
theorem round_L4_e0 (mrmodulus : rmodulus.Ty) (mrless : rless.Ty) {R : Type} (N : Nat) (Rn : St → Option R) (k : K R) (b0_c55 : Option Bool) (b0_1_c56 : List Int) (i5_c57 : Int) (h1_c58 : List Int) (v_c59 : Bool) : (ctx (g mrmodulus mrless) an 0 N c_L4 [1, 0, 0, 1, 0] (roundK (nmOf 0 (an.loop 4)) Rn k)).ext 2 (x_L7_0 b0_c55 b0_1_c56 i5_c57 h1_c58 v_c59) =
  Rn (s_L4 b0_c55 b0_1_c56 (IntKind.i64.wrap (i5_c57 - 1)) h1_c58) := by kernel_rfl
theorem run_L4 (mrmodulus : rmodulus.Ty) (mrless : rless.Ty) {R : Type} (N : Nat) (k : K R) : ∀ (m : Nat) (b0v2 : Option Bool) (b0_1v2 : List Int) (i5v2 : Int) (h1v2 : List Int), loopN (evC (g mrmodulus mrless) an 0 N c_L4 none) k (nmOf 0 (an.loop 4)) m (s_L4 b0v2 b0_1v2 i5v2 h1v2) =
    L4 mrmodulus mrless N (fun b0v2 b0_1v2 i5v2 h1v2 => (k).ext 0 (x_L4_0 b0v2 b0_1v2 i5v2 h1v2)) m b0v2 b0_1v2 i5v2 h1v2 := by
  intro m
  induction m with
  | zero => intros; rfl
  | succ m ih =>
    intros
    rw [loopN_succ, round_L4]
    simp only [run_L10, run_L7, round_L4_e0, ih]
    kernel_rfl
noncomputable def L20 (mrmodulus : rmodulus.Ty) (mrless : rless.Ty) {R : Type} (N : Nat) (ke0 : Int → (List Int) → (List Int) → Option R) : Nat → Int → (List Int) → (List Int) → Option R
  | 0, _, _, _ => none
  | m + 1, i10, h1v3, h2 =>
    cond (decide (i10 < 32))
     (cond (decide (0 ≤ IntKind.i64.wrap (32 - i10)))
      (cond (decide (IntKind.i64.wrap (32 - i10) < (↑(olen none h1v3.length 0) : Int)))
       (cond (decide (0 ≤ i10))
        (cond (decide (i10 < 32))
         (L20 mrmodulus mrless N ke0 m (IntKind.i64.wrap (i10 + 1)) h1v3 (h2.set i10.toNat (IntKind.u8.wrap (h1v3.getD (0 + (IntKind.i64.wrap (32 - i10)).toNat) 0))))
         (none))
        (none))
       (none))
      (none))
     (ke0 i10 h1v3 h2)
theorem round_L20 (mrmodulus : rmodulus.Ty) (mrless : rless.Ty) {R : Type} (N : Nat) (Rn : St → Option R) (k : K R) (i10 : Int) (h1v3 : List Int) (h2 : List Int) : evC (g mrmodulus mrless) an 0 N c_L20 none (roundK (nmOf 0 (an.loop 20)) Rn k) (s_L20 i10 h1v3 h2) =
  cond (decide (i10 < 32))
   (cond (decide (0 ≤ IntKind.i64.wrap (32 - i10)))
    (cond (decide (IntKind.i64.wrap (32 - i10) < (↑(olen none h1v3.length 0) : Int)))
     (cond (decide (0 ≤ i10))
      (cond (decide (i10 < 32))
       (Rn (s_L20 (IntKind.i64.wrap (i10 + 1)) h1v3 (h2.set i10.toNat (IntKind.u8.wrap (h1v3.getD (0 + (IntKind.i64.wrap (32 - i10)).toNat) 0)))))
       (none))
      (none))
     (none))
    (none))
   (k.ext 6 (x_L20_0 i10 h1v3 h2)) := by kernel_rfl
theorem run_L20 (mrmodulus : rmodulus.Ty) (mrless : rless.Ty) {R : Type} (N : Nat) (k : K R) : ∀ (m : Nat) (i10 : Int) (h1v3 : List Int) (h2 : List Int), loopN (evC (g mrmodulus mrless) an 0 N c_L20 none) k (nmOf 0 (an.loop 20)) m (s_L20 i10 h1v3 h2) =
    L20 mrmodulus mrless N (fun i10 h1v3 h2 => (k).ext 6 (x_L20_0 i10 h1v3 h2)) m i10 h1v3 h2 := by
  intro m
  induction m with
  | zero => intros; rfl
  | succ m ih =>
    intros
    rw [loopN_succ, round_L20]
    simp only [run_L10, run_L7, run_L4, ih]
    kernel_rfl
noncomputable def m (mrmodulus : rmodulus.Ty) (mrless : rless.Ty) {R : Type} (N : Nat) (bN1 : Option Bool) (b2 : List Int) (kr0 : (List Int) → Option R) : Option R :=
  mrmodulus R
   (L4 mrmodulus mrless N
    (fun _b0_c60 _b0_1_c61 _i5_c62 h1_c63 => L20 mrmodulus mrless N
     (fun _i10_c64 _h1_c65 h2_c66 => kr0 h2_c66) N 0 h1_c63 ([0, 0, 0, 0, 0, 0, 0, 0, 0, 0, 0, 0, 0, 0, 0, 0, 0, 0, 0, 0, 0, 0, 0, 0, 0, 0, 0, 0, 0, 0, 0, 0])) N bN1 b2 (IntKind.i64.wrap ((↑b2.length : Int) - 1)) ([0, 0, 0, 0, 0, 0, 0, 0, 0, 0, 0, 0, 0, 0, 0, 0, 0, 0, 0, 0, 0, 0, 0, 0, 0, 0, 0, 0, 0, 0, 0, 0, 0]))
theorem tree (mrmodulus : rmodulus.Ty) (mrless : rless.Ty) {R : Type} (N : Nat) (κ : AV → List Blk → Option R) (bN1 : Option Bool) (b2 : List Int) : evF (g mrmodulus mrless) an N Try.f8 [AV.isl IntKind.u8 bN1 b2] [] κ =
  mrmodulus R
   (loopN (evC (g mrmodulus mrless) an 0 N c_L4 none) (ctx (g mrmodulus mrless) an 0 N (bodyOf Try.f8) [1, 1, 1, 0, 1, 0] (endK (g mrmodulus mrless) an Try.f8 [] κ)) (nmOf 0 (an.loop 4)) N (s_L4 bN1 b2 (IntKind.i64.wrap ((↑b2.length : Int) - 1)) ([0, 0, 0, 0, 0, 0, 0, 0, 0, 0, 0, 0, 0, 0, 0, 0, 0, 0, 0, 0, 0, 0, 0, 0, 0, 0, 0, 0, 0, 0, 0, 0, 0]))) := by kernel_rfl
theorem tree_e0 (mrmodulus : rmodulus.Ty) (mrless : rless.Ty) {R : Type} (N : Nat) (κ : AV → List Blk → Option R) (b0_c60 : Option Bool) (b0_1_c61 : List Int) (i5_c62 : Int) (h1_c63 : List Int) : (ctx (g mrmodulus mrless) an 0 N (bodyOf Try.f8) [1, 1, 1, 0, 1, 0] (endK (g mrmodulus mrless) an Try.f8 [] κ)).ext 0 (x_L4_0 b0_c60 b0_1_c61 i5_c62 h1_c63) =
  loopN (evC (g mrmodulus mrless) an 0 N c_L20 none) (ctx (g mrmodulus mrless) an 0 N (bodyOf Try.f8) [1, 1, 1, 1, 1, 0, 1, 0] (endK (g mrmodulus mrless) an Try.f8 [] κ)) (nmOf 0 (an.loop 20)) N (s_L20 0 h1_c63 ([0, 0, 0, 0, 0, 0, 0, 0, 0, 0, 0, 0, 0, 0, 0, 0, 0, 0, 0, 0, 0, 0, 0, 0, 0, 0, 0, 0, 0, 0, 0, 0])) := by kernel_rfl
theorem eq (mrmodulus : rmodulus.Ty) (mrless : rless.Ty) {R : Type} (N : Nat) (κ : AV → List Blk → Option R) (bN1 : Option Bool) (b2 : List Int) : evF (g mrmodulus mrless) an N Try.f8 [AV.isl IntKind.u8 bN1 b2] [] κ =
  m mrmodulus mrless N bN1 b2 (fun v => κ (AV.ints IntKind.u8 32 v) []) := by
  rw [tree]
  simp only [run_L10, run_L7, run_L4, run_L20, tree_e0]
  kernel_rfl
abbrev Ty : Type 1 := ∀ R : Type, (Option Bool) → (List Int) → ((List Int) → Option R) → Option R
def con (f : Ty) : Con := fun R args bs κ => match args, bs with
  | [AV.isl IntKind.u8 bN1 b2], [] => f R bN1 b2 (fun v => κ (AV.ints IntKind.u8 32 v) [])
  | _, _ => none
theorem con_eq (f : Ty) (R : Type) (κ : AV → List Blk → Option R) (bN1 : Option Bool) (b2 : List Int) : con f R [AV.isl IntKind.u8 bN1 b2] [] κ = f R bN1 b2 (fun v => κ (AV.ints IntKind.u8 32 v) []) := rfl
noncomputable def M (N : Nat) : Ty := fun R bN1 b2 kr0 => m (rmodulus.M N) (rless.M N) (R := R) N bN1 b2 kr0
def gts : List (Nat × AV) := []
theorem gok (N : Nat) : GOk (g (rmodulus.M N) (rless.M N)) := giD_ok hm (by intro p hp; cases hp) (gtL_ok (by decide)) (ovL_ok (by
    intro p hp
    simp only [List.mem_cons, List.not_mem_nil, or_false] at hp
    rcases hp with rfl | rfl
    · exact ⟨(rmodulus.ok N).gt (gtL_sub (by repeat (first | exact subG_nil _ | refine subG_cons (by kernel_rfl) ?_))) (gtL_ok (by decide)), _, Try.func19, by kernel_rfl, by kernel_rfl⟩
    · exact ⟨(rless.ok N).gt (gtL_sub (by repeat (first | exact subG_nil _ | refine subG_cons (by kernel_rfl) ?_))) (gtL_ok (by decide)), _, Try.func20, by kernel_rfl, by kernel_rfl⟩
)) 1
theorem ok (N : Nat) : SoundC Try.prog (gtL gts) 8 (con (M N)) := by
  refine SoundC.mono (evF_ok (gok N) hm an N Try.func8) fun R args bs κ r h => ?_
  unfold con at h
  split at h
  · exact (eq (rmodulus.M N) (rless.M N) N κ _ _).trans h
  · cases h
end rMod


/-! ### Try.f12: rAdd -/
namespace rAdd
def an : Anns := ⟨fun i => findA i [(4, ⟨[2, 3, 4, 5, 6, 7], [⟨2, 0, .u8⟩, ⟨3, 1, .u8⟩, ⟨4, 2, .u8⟩, ⟨5, 3, .u8⟩], 4⟩)], fun i => findA i [], false, fun _ => none⟩
noncomputable def g (mrMod : rMod.Ty) : Gi := giD Try.prog (gtL []) (fun _ => an) 0 [] (ovL [(8, rMod.con mrMod)]) 1
noncomputable def c_L4 : Code := loopOf Try.f12 0
def s_L4 (over6 : Int) (i7 : Int) (h0 : List Int) (h1 : List Int) (h3 : List Int) : St := ⟨[AV.dead, AV.dead, AV.ptr 0 [], AV.ptr 1 [], AV.ptr 2 [], AV.own 3 [] 0 none, AV.int IntKind.i64 over6, AV.int IntKind.i64 i7] ++ List.replicate 30 .dead, [Blk.var (AV.ints IntKind.u8 32 h0), Blk.var (AV.ints IntKind.u8 32 h1), Blk.var (AV.ints IntKind.u8 32 [0, 0, 0, 0, 0, 0, 0, 0, 0, 0, 0, 0, 0, 0, 0, 0, 0, 0, 0, 0, 0, 0, 0, 0, 0, 0, 0, 0, 0, 0, 0, 0]), Blk.row IntKind.u8 false h3]⟩
def x_L4_0 (over6 : Int) (i7 : Int) (h0 : List Int) (h1 : List Int) (h3 : List Int) : St := ⟨[AV.dead, AV.dead, AV.ptr 0 [], AV.ptr 1 [], AV.ptr 2 [], AV.own 3 [] 0 none, AV.int IntKind.i64 over6, AV.int IntKind.i64 i7, AV.dead, AV.int IntKind.i64 i7, AV.bool (decide (i7 < 32))] ++ List.replicate 27 .dead, [Blk.var (AV.ints IntKind.u8 32 h0), Blk.var (AV.ints IntKind.u8 32 h1), Blk.var (AV.ints IntKind.u8 32 [0, 0, 0, 0, 0, 0, 0, 0, 0, 0, 0, 0, 0, 0, 0, 0, 0, 0, 0, 0, 0, 0, 0, 0, 0, 0, 0, 0, 0, 0, 0, 0]), Blk.row IntKind.u8 false h3]⟩
noncomputable def L4 (mrMod : rMod.Ty) {R : Type} (N : Nat) (ke0 : Int → Int → (List Int) → (List Int) → (List Int) → Option R) : Nat → Int → Int → (List Int) → (List Int) → (List Int) → Option R
  | 0, _, _, _, _, _ => none
  | m + 1, over6, i7, h0, h1, h3 =>
    cond (decide (i7 < 32))
     (cond (decide (0 ≤ i7))
      (cond (decide (i7 < 32))
       (cond (decide (0 ≤ i7))
        (cond (decide (i7 < 32))
         (cond (decide ((h3.length + 1) * 1 ≤ 140737488355328))
          (cond (decide (h3.length + 1 ≤ 140737488355328))
           (L4 mrMod N ke0 m (IntKind.i64.wrap ((IntKind.i64.wrap (over6 + IntKind.i64.wrap (IntKind.i64.wrap (h0.getD i7.toNat 0) + IntKind.i64.wrap (h1.getD i7.toNat 0)))).tdiv 256)) (IntKind.i64.wrap (i7 + 1)) h0 h1 (h3 ++ [IntKind.u8.wrap ((IntKind.i64.wrap (over6 + IntKind.i64.wrap (IntKind.i64.wrap (h0.getD i7.toNat 0) + IntKind.i64.wrap (h1.getD i7.toNat 0)))).tmod 256)]))
           (none))
          (none))
         (none))
        (none))
       (none))
      (none))
     (ke0 over6 i7 h0 h1 h3)
theorem round_L4 (mrMod : rMod.Ty) {R : Type} (N : Nat) (Rn : St → Option R) (k : K R) (over6 : Int) (i7 : Int) (h0 : List Int) (h1 : List Int) (h3 : List Int) : evC (g mrMod) an 0 N c_L4 none (roundK (nmOf 0 (an.loop 4)) Rn k) (s_L4 over6 i7 h0 h1 h3) =
  cond (decide (i7 < 32))
   (cond (decide (0 ≤ i7))
    (cond (decide (i7 < 32))
     (cond (decide (0 ≤ i7))
      (cond (decide (i7 < 32))
       (cond (decide ((h3.length + 1) * 1 ≤ 140737488355328))
        (cond (decide (h3.length + 1 ≤ 140737488355328))
         (Rn (s_L4 (IntKind.i64.wrap ((IntKind.i64.wrap (over6 + IntKind.i64.wrap (IntKind.i64.wrap (h0.getD i7.toNat 0) + IntKind.i64.wrap (h1.getD i7.toNat 0)))).tdiv 256)) (IntKind.i64.wrap (i7 + 1)) h0 h1 (h3 ++ [IntKind.u8.wrap ((IntKind.i64.wrap (over6 + IntKind.i64.wrap (IntKind.i64.wrap (h0.getD i7.toNat 0) + IntKind.i64.wrap (h1.getD i7.toNat 0)))).tmod 256)])))
         (none))
        (none))
       (none))
      (none))
     (none))
    (none))
   (k.ext 0 (x_L4_0 over6 i7 h0 h1 h3)) := by kernel_rfl
theorem run_L4 (mrMod : rMod.Ty) {R : Type} (N : Nat) (k : K R) : ∀ (m : Nat) (over6 : Int) (i7 : Int) (h0 : List Int) (h1 : List Int) (h3 : List Int), loopN (evC (g mrMod) an 0 N c_L4 none) k (nmOf 0 (an.loop 4)) m (s_L4 over6 i7 h0 h1 h3) =
    L4 mrMod N (fun over6 i7 h0 h1 h3 => (k).ext 0 (x_L4_0 over6 i7 h0 h1 h3)) m over6 i7 h0 h1 h3 := by
  intro m
  induction m with
  | zero => intros; rfl
  | succ m ih =>
    intros
    rw [loopN_succ, round_L4]
    simp only [ih]
    kernel_rfl
noncomputable def m (mrMod : rMod.Ty) {R : Type} (N : Nat) (a1 : List Int) (b2 : List Int) (kr0 : (List Int) → Option R) : Option R :=
  L4 mrMod N
   (fun over6_c6 _i7_c7 _h0_c8 _h1_c9 h3_c10 => cond (decide ((h3_c10.length + 1) * 1 ≤ 140737488355328))
    (cond (decide (h3_c10.length + 1 ≤ 140737488355328))
     (mrMod R none (cut none 0 (h3_c10 ++ [IntKind.u8.wrap over6_c6]))
      (fun v_c11 => kr0 v_c11))
     (none))
    (none)) N 0 0 a1 b2 []
theorem tree (mrMod : rMod.Ty) {R : Type} (N : Nat) (κ : AV → List Blk → Option R) (a1 : List Int) (b2 : List Int) : evF (g mrMod) an N Try.f12 [AV.ints IntKind.u8 32 a1, AV.ints IntKind.u8 32 b2] [] κ =
  loopN (evC (g mrMod) an 0 N c_L4 none) (ctx (g mrMod) an 0 N (bodyOf Try.f12) [1, 1, 1, 0, 1, 0] (endK (g mrMod) an Try.f12 [] κ)) (nmOf 0 (an.loop 4)) N (s_L4 0 0 a1 b2 []) := by kernel_rfl
theorem eq (mrMod : rMod.Ty) {R : Type} (N : Nat) (κ : AV → List Blk → Option R) (a1 : List Int) (b2 : List Int) : evF (g mrMod) an N Try.f12 [AV.ints IntKind.u8 32 a1, AV.ints IntKind.u8 32 b2] [] κ =
  m mrMod N a1 b2 (fun v => κ (AV.ints IntKind.u8 32 v) []) := by
  rw [tree]
  simp only [run_L4]
  kernel_rfl
abbrev Ty : Type 1 := ∀ R : Type, (List Int) → (List Int) → ((List Int) → Option R) → Option R
def con (f : Ty) : Con := fun R args bs κ => match args, bs with
  | [AV.ints IntKind.u8 32 a1, AV.ints IntKind.u8 32 b2], [] => f R a1 b2 (fun v => κ (AV.ints IntKind.u8 32 v) [])
  | _, _ => none
theorem con_eq (f : Ty) (R : Type) (κ : AV → List Blk → Option R) (a1 : List Int) (b2 : List Int) : con f R [AV.ints IntKind.u8 32 a1, AV.ints IntKind.u8 32 b2] [] κ = f R a1 b2 (fun v => κ (AV.ints IntKind.u8 32 v) []) := rfl
noncomputable def M (N : Nat) : Ty := fun R a1 b2 kr0 => m (rMod.M N) (R := R) N a1 b2 kr0
def gts : List (Nat × AV) := []
theorem gok (N : Nat) : GOk (g (rMod.M N)) := giD_ok hm (by intro p hp; cases hp) (gtL_ok (by decide)) (ovL_ok (by
    intro p hp
    simp only [List.mem_cons, List.not_mem_nil, or_false] at hp
    rcases hp with rfl
    · exact ⟨(rMod.ok N).gt (gtL_sub (by repeat (first | exact subG_nil _ | refine subG_cons (by kernel_rfl) ?_))) (gtL_ok (by decide)), _, Try.func8, by kernel_rfl, by kernel_rfl⟩
)) 1
theorem ok (N : Nat) : SoundC Try.prog (gtL gts) 12 (con (M N)) := by
  refine SoundC.mono (evF_ok (gok N) hm an N Try.func12) fun R args bs κ r h => ?_
  unfold con at h
  split at h
  · exact (eq (rMod.M N) N κ _ _).trans h
  · cases h
end rAdd


/-! ### Try.f14: rTimes -/
namespace rTimes
def an : Anns := ⟨fun i => findA i [(6, ⟨[2, 3, 4, 5, 6, 7], [⟨2, 0, .u8⟩, ⟨3, 1, .u8⟩, ⟨4, 2, .u8⟩, ⟨5, 3, .i64⟩], 4⟩), (3, ⟨[2, 3, 4, 5, 6], [⟨2, 0, .u8⟩, ⟨3, 1, .u8⟩, ⟨4, 2, .u8⟩, ⟨5, 3, .i64⟩], 4⟩), (12, ⟨[4, 8, 9, 39, 40, 41], [⟨4, 0, .u8⟩, ⟨8, 1, .u8⟩, ⟨39, 2, .i64⟩], 3⟩)], fun i => findA i [], false, fun _ => none⟩
noncomputable def g (mrMod : rMod.Ty) : Gi := giD Try.prog (gtL []) (fun _ => an) 0 [] (ovL [(8, rMod.con mrMod)]) 1
noncomputable def c_L6 : Code := loopOf Try.f14 1
noncomputable def c_L3 : Code := loopOf Try.f14 0
noncomputable def c_L12 : Code := loopOf Try.f14 2
def s_L6 (i6 : Int) (k7 : Int) (h0 : List Int) (h1 : List Int) (h3 : List Int) : St := ⟨[AV.dead, AV.dead, AV.ptr 0 [], AV.ptr 1 [], AV.ptr 2 [], AV.own 3 [] 0 none, AV.int IntKind.i64 i6, AV.int IntKind.i64 k7] ++ List.replicate 51 .dead, [Blk.var (AV.ints IntKind.u8 32 h0), Blk.var (AV.ints IntKind.u8 32 h1), Blk.var (AV.ints IntKind.u8 32 [0, 0, 0, 0, 0, 0, 0, 0, 0, 0, 0, 0, 0, 0, 0, 0, 0, 0, 0, 0, 0, 0, 0, 0, 0, 0, 0, 0, 0, 0, 0, 0]), Blk.row IntKind.i64 false h3]⟩
def s_L3 (i6v1 : Int) (h0v1 : List Int) (h1v1 : List Int) (h3v1 : List Int) : St := ⟨[AV.dead, AV.dead, AV.ptr 0 [], AV.ptr 1 [], AV.ptr 2 [], AV.own 3 [] 0 none, AV.int IntKind.i64 i6v1] ++ List.replicate 52 .dead, [Blk.var (AV.ints IntKind.u8 32 h0v1), Blk.var (AV.ints IntKind.u8 32 h1v1), Blk.var (AV.ints IntKind.u8 32 [0, 0, 0, 0, 0, 0, 0, 0, 0, 0, 0, 0, 0, 0, 0, 0, 0, 0, 0, 0, 0, 0, 0, 0, 0, 0, 0, 0, 0, 0, 0, 0]), Blk.row IntKind.i64 false h3v1]⟩
def s_L12 (over9 : Int) (t40 : Int) (t41 : Int) (h1v2 : List Int) (h2 : List Int) : St := ⟨List.replicate 4 .dead ++ [AV.ptr 0 [], AV.dead, AV.dead, AV.dead, AV.own 1 [] 0 none, AV.int IntKind.i64 over9] ++ List.replicate 29 .dead ++ [AV.own 2 [] 0 none, AV.int IntKind.i64 t40, AV.int IntKind.i64 t41] ++ List.replicate 17 .dead, [Blk.var (AV.ints IntKind.u8 32 [0, 0, 0, 0, 0, 0, 0, 0, 0, 0, 0, 0, 0, 0, 0, 0, 0, 0, 0, 0, 0, 0, 0, 0, 0, 0, 0, 0, 0, 0, 0, 0]), Blk.row IntKind.u8 false h1v2, Blk.row IntKind.i64 false h2]⟩
def x_L6_0 (i6 : Int) (k7 : Int) (h0 : List Int) (h1 : List Int) (h3 : List Int) : St := ⟨[AV.dead, AV.dead, AV.ptr 0 [], AV.ptr 1 [], AV.ptr 2 [], AV.own 3 [] 0 none, AV.int IntKind.i64 i6, AV.int IntKind.i64 k7] ++ List.replicate 9 .dead ++ [AV.int IntKind.i64 k7, AV.bool (decide (k7 < 32))] ++ List.replicate 40 .dead, [Blk.var (AV.ints IntKind.u8 32 h0), Blk.var (AV.ints IntKind.u8 32 h1), Blk.var (AV.ints IntKind.u8 32 [0, 0, 0, 0, 0, 0, 0, 0, 0, 0, 0, 0, 0, 0, 0, 0, 0, 0, 0, 0, 0, 0, 0, 0, 0, 0, 0, 0, 0, 0, 0, 0]), Blk.row IntKind.i64 false h3]⟩
def x_L3_0 (i6v1 : Int) (h0v1 : List Int) (h1v1 : List Int) (h3v1 : List Int) : St := ⟨[AV.dead, AV.dead, AV.ptr 0 [], AV.ptr 1 [], AV.ptr 2 [], AV.own 3 [] 0 none, AV.int IntKind.i64 i6v1] ++ List.replicate 6 .dead ++ [AV.int IntKind.i64 i6v1, AV.bool (decide (i6v1 < 32))] ++ List.replicate 44 .dead, [Blk.var (AV.ints IntKind.u8 32 h0v1), Blk.var (AV.ints IntKind.u8 32 h1v1), Blk.var (AV.ints IntKind.u8 32 [0, 0, 0, 0, 0, 0, 0, 0, 0, 0, 0, 0, 0, 0, 0, 0, 0, 0, 0, 0, 0, 0, 0, 0, 0, 0, 0, 0, 0, 0, 0, 0]), Blk.row IntKind.i64 false h3v1]⟩
def x_L12_0 (over9 : Int) (t40 : Int) (t41 : Int) (h1v2 : List Int) (h2 : List Int) : St := ⟨List.replicate 4 .dead ++ [AV.ptr 0 [], AV.dead, AV.dead, AV.dead, AV.own 1 [] 0 none, AV.int IntKind.i64 over9] ++ List.replicate 29 .dead ++ [AV.own 2 [] 0 none, AV.int IntKind.i64 t40, AV.int IntKind.i64 t41, AV.bool (decide (t41 < t40))] ++ List.replicate 16 .dead, [Blk.var (AV.ints IntKind.u8 32 [0, 0, 0, 0, 0, 0, 0, 0, 0, 0, 0, 0, 0, 0, 0, 0, 0, 0, 0, 0, 0, 0, 0, 0, 0, 0, 0, 0, 0, 0, 0, 0]), Blk.row IntKind.u8 false h1v2, Blk.row IntKind.i64 false h2]⟩
noncomputable def L6 (mrMod : rMod.Ty) {R : Type} (N : Nat) (ke0 : Int → Int → (List Int) → (List Int) → (List Int) → Option R) : Nat → Int → Int → (List Int) → (List Int) → (List Int) → Option R
  | 0, _, _, _, _, _ => none
  | m + 1, i6, k7, h0, h1, h3 =>
    cond (decide (k7 < 32))
     (cond (decide (0 ≤ IntKind.i64.wrap (i6 + k7)))
      (cond (decide (IntKind.i64.wrap (i6 + k7) < (↑(olen none h3.length 0) : Int)))
       (cond (decide (0 ≤ i6))
        (cond (decide (i6 < 32))
         (cond (decide (0 ≤ k7))
          (cond (decide (k7 < 32))
           (cond (decide (0 ≤ IntKind.i64.wrap (i6 + k7)))
            (cond (decide (IntKind.i64.wrap (i6 + k7) < (↑(olen none h3.length 0) : Int)))
             (L6 mrMod N ke0 m i6 (IntKind.i64.wrap (k7 + 1)) h0 h1 (h3.set (0 + (IntKind.i64.wrap (i6 + k7)).toNat) (IntKind.i64.wrap (h3.getD (0 + (IntKind.i64.wrap (i6 + k7)).toNat) 0 + IntKind.i64.wrap (IntKind.i64.wrap (h0.getD i6.toNat 0) * IntKind.i64.wrap (h1.getD k7.toNat 0))))))
             (none))
            (none))
           (none))
          (none))
         (none))
        (none))
       (none))
      (none))
     (ke0 i6 k7 h0 h1 h3)
theorem round_L6 (mrMod : rMod.Ty) {R : Type} (N : Nat) (Rn : St → Option R) (k : K R) (i6 : Int) (k7 : Int) (h0 : List Int) (h1 : List Int) (h3 : List Int) : evC (g mrMod) an 0 N c_L6 none (roundK (nmOf 0 (an.loop 6)) Rn k) (s_L6 i6 k7 h0 h1 h3) =
  cond (decide (k7 < 32))
   (cond (decide (0 ≤ IntKind.i64.wrap (i6 + k7)))
    (cond (decide (IntKind.i64.wrap (i6 + k7) < (↑(olen none h3.length 0) : Int)))
     (cond (decide (0 ≤ i6))
      (cond (decide (i6 < 32))
       (cond (decide (0 ≤ k7))
        (cond (decide (k7 < 32))
         (cond (decide (0 ≤ IntKind.i64.wrap (i6 + k7)))
          (cond (decide (IntKind.i64.wrap (i6 + k7) < (↑(olen none h3.length 0) : Int)))
           (Rn (s_L6 i6 (IntKind.i64.wrap (k7 + 1)) h0 h1 (h3.set (0 + (IntKind.i64.wrap (i6 + k7)).toNat) (IntKind.i64.wrap (h3.getD (0 + (IntKind.i64.wrap (i6 + k7)).toNat) 0 + IntKind.i64.wrap (IntKind.i64.wrap (h0.getD i6.toNat 0) * IntKind.i64.wrap (h1.getD k7.toNat 0)))))))
           (none))
          (none))
         (none))
        (none))
       (none))
      (none))
     (none))
    (none))
   (k.ext 2 (x_L6_0 i6 k7 h0 h1 h3)) := by kernel_rfl
theorem run_L6 (mrMod : rMod.Ty) {R : Type} (N : Nat) (k : K R) : ∀ (m : Nat) (i6 : Int) (k7 : Int) (h0 : List Int) (h1 : List Int) (h3 : List Int), loopN (evC (g mrMod) an 0 N c_L6 none) k (nmOf 0 (an.loop 6)) m (s_L6 i6 k7 h0 h1 h3) =
    L6 mrMod N (fun i6 k7 h0 h1 h3 => (k).ext 2 (x_L6_0 i6 k7 h0 h1 h3)) m i6 k7 h0 h1 h3 := by
  intro m
  induction m with
  | zero => intros; rfl
  | succ m ih =>
    intros
    rw [loopN_succ, round_L6]
    simp only [ih]
    kernel_rfl
noncomputable def L3 (mrMod : rMod.Ty) {R : Type} (N : Nat) (ke0 : Int → (List Int) → (List Int) → (List Int) → Option R) : Nat → Int → (List Int) → (List Int) → (List Int) → Option R
  | 0, _, _, _, _ => none
  | m + 1, i6v1, h0v1, h1v1, h3v1 =>
    cond (decide (i6v1 < 32))
     (L6 mrMod N
      (fun i6_c28 _k7_c29 h0_c30 h1_c31 h3_c32 => L3 mrMod N ke0 m (IntKind.i64.wrap (i6_c28 + 1)) h0_c30 h1_c31 h3_c32) N i6v1 0 h0v1 h1v1 h3v1)
     (ke0 i6v1 h0v1 h1v1 h3v1)
theorem round_L3 (mrMod : rMod.Ty) {R : Type} (N : Nat) (Rn : St → Option R) (k : K R) (i6v1 : Int) (h0v1 : List Int) (h1v1 : List Int) (h3v1 : List Int) : evC (g mrMod) an 0 N c_L3 none (roundK (nmOf 0 (an.loop 3)) Rn k) (s_L3 i6v1 h0v1 h1v1 h3v1) =
  cond (decide (i6v1 < 32))
   (loopN (evC (g mrMod) an 0 N c_L6 none) (ctx (g mrMod) an 0 N c_L3 [1, 0, 0, 1, 0] (roundK (nmOf 0 (an.loop 3)) Rn k)) (nmOf 0 (an.loop 6)) N (s_L6 i6v1 0 h0v1 h1v1 h3v1))
   (k.ext 0 (x_L3_0 i6v1 h0v1 h1v1 h3v1)) := by kernel_rfl
theorem round_L3_e0 (mrMod : rMod.Ty) {R : Type} (N : Nat) (Rn : St → Option R) (k : K R) (i6_c28 : Int) (k7_c29 : Int) (h0_c30 : List Int) (h1_c31 : List Int) (h3_c32 : List Int) : (ctx (g mrMod) an 0 N c_L3 [1, 0, 0, 1, 0] (roundK (nmOf 0 (an.loop 3)) Rn k)).ext 2 (x_L6_0 i6_c28 k7_c29 h0_c30 h1_c31 h3_c32) =
  Rn (s_L3 (IntKind.i64.wrap (i6_c28 + 1)) h0_c30 h1_c31 h3_c32) := by kernel_rfl
theorem run_L3 (mrMod : rMod.Ty) {R : Type} (N : Nat) (k : K R) : ∀ (m : Nat) (i6v1 : Int) (h0v1 : List Int) (h1v1 : List Int) (h3v1 : List Int), loopN (evC (g mrMod) an 0 N c_L3 none) k (nmOf 0 (an.loop 3)) m (s_L3 i6v1 h0v1 h1v1 h3v1) =
    L3 mrMod N (fun i6v1 h0v1 h1v1 h3v1 => (k).ext 0 (x_L3_0 i6v1 h0v1 h1v1 h3v1)) m i6v1 h0v1 h1v1 h3v1 := by
  intro m
  induction m with
  | zero => intros; rfl
  | succ m ih =>
    intros
    rw [loopN_succ, round_L3]
    simp only [run_L6, round_L3_e0, ih]
    kernel_rfl
noncomputable def L12 (mrMod : rMod.Ty) {R : Type} (N : Nat) (ke0 : Int → Int → Int → (List Int) → (List Int) → Option R) : Nat → Int → Int → Int → (List Int) → (List Int) → Option R
  | 0, _, _, _, _, _ => none
  | m + 1, over9, t40, t41, h1v2, h2 =>
    cond (decide (t41 < t40))
     (cond (decide (0 ≤ t41))
      (cond (decide (t41 < (↑(olen none h2.length 0) : Int)))
       (cond (decide ((h1v2.length + 1) * 1 ≤ 140737488355328))
        (cond (decide (h1v2.length + 1 ≤ 140737488355328))
         (L12 mrMod N ke0 m (IntKind.i64.wrap ((IntKind.i64.wrap (over9 + h2.getD (0 + t41.toNat) 0)).tdiv 256)) t40 (IntKind.i64.wrap (t41 + 1)) (h1v2 ++ [IntKind.u8.wrap ((IntKind.i64.wrap (over9 + h2.getD (0 + t41.toNat) 0)).tmod 256)]) h2)
         (none))
        (none))
       (none))
      (none))
     (ke0 over9 t40 t41 h1v2 h2)
theorem round_L12 (mrMod : rMod.Ty) {R : Type} (N : Nat) (Rn : St → Option R) (k : K R) (over9 : Int) (t40 : Int) (t41 : Int) (h1v2 : List Int) (h2 : List Int) : evC (g mrMod) an 0 N c_L12 none (roundK (nmOf 0 (an.loop 12)) Rn k) (s_L12 over9 t40 t41 h1v2 h2) =
  cond (decide (t41 < t40))
   (cond (decide (0 ≤ t41))
    (cond (decide (t41 < (↑(olen none h2.length 0) : Int)))
     (cond (decide ((h1v2.length + 1) * 1 ≤ 140737488355328))
      (cond (decide (h1v2.length + 1 ≤ 140737488355328))
       (Rn (s_L12 (IntKind.i64.wrap ((IntKind.i64.wrap (over9 + h2.getD (0 + t41.toNat) 0)).tdiv 256)) t40 (IntKind.i64.wrap (t41 + 1)) (h1v2 ++ [IntKind.u8.wrap ((IntKind.i64.wrap (over9 + h2.getD (0 + t41.toNat) 0)).tmod 256)]) h2))
       (none))
      (none))
     (none))
    (none))
   (k.ext 4 (x_L12_0 over9 t40 t41 h1v2 h2)) := by kernel_rfl
theorem run_L12 (mrMod : rMod.Ty) {R : Type} (N : Nat) (k : K R) : ∀ (m : Nat) (over9 : Int) (t40 : Int) (t41 : Int) (h1v2 : List Int) (h2 : List Int), loopN (evC (g mrMod) an 0 N c_L12 none) k (nmOf 0 (an.loop 12)) m (s_L12 over9 t40 t41 h1v2 h2) =
    L12 mrMod N (fun over9 t40 t41 h1v2 h2 => (k).ext 4 (x_L12_0 over9 t40 t41 h1v2 h2)) m over9 t40 t41 h1v2 h2 := by
  intro m
  induction m with
  | zero => intros; rfl
  | succ m ih =>
    intros
    rw [loopN_succ, round_L12]
    simp only [run_L6, run_L3, ih]
    kernel_rfl
noncomputable def m (mrMod : rMod.Ty) {R : Type} (N : Nat) (a1 : List Int) (b2 : List Int) (kr0 : (List Int) → Option R) : Option R :=
  L3 mrMod N
   (fun _i6_c33 _h0_c34 _h1_c35 h3_c36 => L12 mrMod N
    (fun _over9_c37 _t40_c38 _t41_c39 h1_c40 _h2_c41 => mrMod R none h1_c40
     (fun v_c42 => kr0 v_c42)) N 0 ((↑(olen none h3_c36.length 0) : Int)) 0 [] h3_c36) N 0 a1 b2 ([0, 0, 0, 0, 0, 0, 0, 0, 0, 0, 0, 0, 0, 0, 0, 0, 0, 0, 0, 0, 0, 0, 0, 0, 0, 0, 0, 0, 0, 0, 0, 0, 0, 0, 0, 0, 0, 0, 0, 0, 0, 0, 0, 0, 0, 0, 0, 0, 0, 0, 0, 0, 0, 0, 0, 0, 0, 0, 0, 0, 0, 0, 0, 0, 0])
theorem tree (mrMod : rMod.Ty) {R : Type} (N : Nat) (κ : AV → List Blk → Option R) (a1 : List Int) (b2 : List Int) : evF (g mrMod) an N Try.f14 [AV.ints IntKind.u8 32 a1, AV.ints IntKind.u8 32 b2] [] κ =
  loopN (evC (g mrMod) an 0 N c_L3 none) (ctx (g mrMod) an 0 N (bodyOf Try.f14) [1, 1, 0, 1, 0] (endK (g mrMod) an Try.f14 [] κ)) (nmOf 0 (an.loop 3)) N (s_L3 0 a1 b2 ([0, 0, 0, 0, 0, 0, 0, 0, 0, 0, 0, 0, 0, 0, 0, 0, 0, 0, 0, 0, 0, 0, 0, 0, 0, 0, 0, 0, 0, 0, 0, 0, 0, 0, 0, 0, 0, 0, 0, 0, 0, 0, 0, 0, 0, 0, 0, 0, 0, 0, 0, 0, 0, 0, 0, 0, 0, 0, 0, 0, 0, 0, 0, 0, 0])) := by kernel_rfl
theorem tree_e0 (mrMod : rMod.Ty) {R : Type} (N : Nat) (κ : AV → List Blk → Option R) (i6_c33 : Int) (h0_c34 : List Int) (h1_c35 : List Int) (h3_c36 : List Int) : (ctx (g mrMod) an 0 N (bodyOf Try.f14) [1, 1, 0, 1, 0] (endK (g mrMod) an Try.f14 [] κ)).ext 0 (x_L3_0 i6_c33 h0_c34 h1_c35 h3_c36) =
  loopN (evC (g mrMod) an 0 N c_L12 none) (ctx (g mrMod) an 0 N (bodyOf Try.f14) [1, 1, 1, 1, 1, 0, 1, 0] (endK (g mrMod) an Try.f14 [] κ)) (nmOf 0 (an.loop 12)) N (s_L12 0 ((↑(olen none h3_c36.length 0) : Int)) 0 [] h3_c36) := by kernel_rfl
theorem eq (mrMod : rMod.Ty) {R : Type} (N : Nat) (κ : AV → List Blk → Option R) (a1 : List Int) (b2 : List Int) : evF (g mrMod) an N Try.f14 [AV.ints IntKind.u8 32 a1, AV.ints IntKind.u8 32 b2] [] κ =
  m mrMod N a1 b2 (fun v => κ (AV.ints IntKind.u8 32 v) []) := by
  rw [tree]
  simp only [run_L6, run_L3, run_L12, tree_e0]
  kernel_rfl
abbrev Ty : Type 1 := ∀ R : Type, (List Int) → (List Int) → ((List Int) → Option R) → Option R
def con (f : Ty) : Con := fun R args bs κ => match args, bs with
  | [AV.ints IntKind.u8 32 a1, AV.ints IntKind.u8 32 b2], [] => f R a1 b2 (fun v => κ (AV.ints IntKind.u8 32 v) [])
  | _, _ => none
theorem con_eq (f : Ty) (R : Type) (κ : AV → List Blk → Option R) (a1 : List Int) (b2 : List Int) : con f R [AV.ints IntKind.u8 32 a1, AV.ints IntKind.u8 32 b2] [] κ = f R a1 b2 (fun v => κ (AV.ints IntKind.u8 32 v) []) := rfl
noncomputable def M (N : Nat) : Ty := fun R a1 b2 kr0 => m (rMod.M N) (R := R) N a1 b2 kr0
def gts : List (Nat × AV) := []
theorem gok (N : Nat) : GOk (g (rMod.M N)) := giD_ok hm (by intro p hp; cases hp) (gtL_ok (by decide)) (ovL_ok (by
    intro p hp
    simp only [List.mem_cons, List.not_mem_nil, or_false] at hp
    rcases hp with rfl
    · exact ⟨(rMod.ok N).gt (gtL_sub (by repeat (first | exact subG_nil _ | refine subG_cons (by kernel_rfl) ?_))) (gtL_ok (by decide)), _, Try.func8, by kernel_rfl, by kernel_rfl⟩
)) 1
theorem ok (N : Nat) : SoundC Try.prog (gtL gts) 14 (con (M N)) := by
  refine SoundC.mono (evF_ok (gok N) hm an N Try.func14) fun R args bs κ r h => ?_
  unfold con at h
  split at h
  · exact (eq (rMod.M N) N κ _ _).trans h
  · cases h
end rTimes


/-! ### Try.f16: rNegate -/
namespace rNegate
def an : Anns := ⟨fun i => findA i [(6, ⟨[2, 3, 4, 5, 6, 7], [⟨2, 0, .u8⟩, ⟨3, 1, .u8⟩, ⟨4, 2, .i64⟩, ⟨5, 3, .u8⟩], 4⟩)], fun i => findA i [], false, fun _ => none⟩
noncomputable def g (mrMod : rMod.Ty) (mrmodulus : rmodulus.Ty) : Gi := giD Try.prog (gtL []) (fun _ => an) 0 [] (ovL [(8, rMod.con mrMod), (19, rmodulus.con mrmodulus)]) 1
noncomputable def c_L6 : Code := loopOf Try.f16 0
def s_L6 (owe6 : Int) (i7 : Int) (h1 : List Int) (h3 : List Int) : St := ⟨[AV.dead, AV.dead, AV.ptr 0 [], AV.ptr 1 [], AV.own 2 [] 0 none, AV.own 3 [] 0 none, AV.int IntKind.i64 owe6, AV.int IntKind.i64 i7] ++ List.replicate 32 .dead, [Blk.var (AV.ints IntKind.u8 32 [0, 0, 0, 0, 0, 0, 0, 0, 0, 0, 0, 0, 0, 0, 0, 0, 0, 0, 0, 0, 0, 0, 0, 0, 0, 0, 0, 0, 0, 0, 0, 0]), Blk.var (AV.ints IntKind.u8 32 h1), Blk.row IntKind.i64 false [16, 0, 0, 0, 0, 0, 0, 0, 0, 0, 0, 0, 0, 0, 0, 0, 20, 222, 249, 222, 162, 247, 156, 214, 88, 18, 99, 26, 92, 245, 211, 237], Blk.row IntKind.u8 false h3]⟩
def x_L6_0 (owe6 : Int) (i7 : Int) (h1 : List Int) (h3 : List Int) : St := ⟨[AV.dead, AV.dead, AV.ptr 0 [], AV.ptr 1 [], AV.own 2 [] 0 none, AV.own 3 [] 0 none, AV.int IntKind.i64 owe6, AV.int IntKind.i64 i7] ++ List.replicate 5 .dead ++ [AV.int IntKind.i64 i7, AV.bool (decide (i7 < 32))] ++ List.replicate 25 .dead, [Blk.var (AV.ints IntKind.u8 32 [0, 0, 0, 0, 0, 0, 0, 0, 0, 0, 0, 0, 0, 0, 0, 0, 0, 0, 0, 0, 0, 0, 0, 0, 0, 0, 0, 0, 0, 0, 0, 0]), Blk.var (AV.ints IntKind.u8 32 h1), Blk.row IntKind.i64 false [16, 0, 0, 0, 0, 0, 0, 0, 0, 0, 0, 0, 0, 0, 0, 0, 20, 222, 249, 222, 162, 247, 156, 214, 88, 18, 99, 26, 92, 245, 211, 237], Blk.row IntKind.u8 false h3]⟩
noncomputable def L6 (mrMod : rMod.Ty) (mrmodulus : rmodulus.Ty) {R : Type} (N : Nat) (ke0 : Int → Int → (List Int) → (List Int) → Option R) : Nat → Int → Int → (List Int) → (List Int) → Option R
  | 0, _, _, _, _ => none
  | m + 1, owe6, i7, h1, h3 =>
    cond (decide (i7 < 32))
     (cond (decide (0 ≤ IntKind.i64.wrap (31 - i7)))
      (cond (decide (IntKind.i64.wrap (31 - i7) < 32))
       (cond (decide (0 ≤ i7))
        (cond (decide (i7 < 32))
         (cond (decide (IntKind.i64.wrap (IntKind.i64.wrap ([16, 0, 0, 0, 0, 0, 0, 0, 0, 0, 0, 0, 0, 0, 0, 0, 20, 222, 249, 222, 162, 247, 156, 214, 88, 18, 99, 26, 92, 245, 211, 237].getD (0 + (IntKind.i64.wrap (31 - i7)).toNat) 0 - IntKind.i64.wrap (h1.getD i7.toNat 0)) - owe6) < 0))
          (cond (decide ((h3.length + 1) * 1 ≤ 140737488355328))
           (cond (decide (h3.length + 1 ≤ 140737488355328))
            (L6 mrMod mrmodulus N ke0 m 1 (IntKind.i64.wrap (i7 + 1)) h1 (h3 ++ [IntKind.u8.wrap (IntKind.i64.wrap (IntKind.i64.wrap (IntKind.i64.wrap ([16, 0, 0, 0, 0, 0, 0, 0, 0, 0, 0, 0, 0, 0, 0, 0, 20, 222, 249, 222, 162, 247, 156, 214, 88, 18, 99, 26, 92, 245, 211, 237].getD (0 + (IntKind.i64.wrap (31 - i7)).toNat) 0 - IntKind.i64.wrap (h1.getD i7.toNat 0)) - owe6) + 256))]))
            (none))
           (none))
          (cond (decide ((h3.length + 1) * 1 ≤ 140737488355328))
           (cond (decide (h3.length + 1 ≤ 140737488355328))
            (L6 mrMod mrmodulus N ke0 m 0 (IntKind.i64.wrap (i7 + 1)) h1 (h3 ++ [IntKind.u8.wrap (IntKind.i64.wrap (IntKind.i64.wrap ([16, 0, 0, 0, 0, 0, 0, 0, 0, 0, 0, 0, 0, 0, 0, 0, 20, 222, 249, 222, 162, 247, 156, 214, 88, 18, 99, 26, 92, 245, 211, 237].getD (0 + (IntKind.i64.wrap (31 - i7)).toNat) 0 - IntKind.i64.wrap (h1.getD i7.toNat 0)) - owe6))]))
            (none))
           (none)))
         (none))
        (none))
       (none))
      (none))
     (ke0 owe6 i7 h1 h3)
theorem round_L6 (mrMod : rMod.Ty) (mrmodulus : rmodulus.Ty) {R : Type} (N : Nat) (Rn : St → Option R) (k : K R) (owe6 : Int) (i7 : Int) (h1 : List Int) (h3 : List Int) : evC (g mrMod mrmodulus) an 0 N c_L6 none (roundK (nmOf 0 (an.loop 6)) Rn k) (s_L6 owe6 i7 h1 h3) =
  cond (decide (i7 < 32))
   (cond (decide (0 ≤ IntKind.i64.wrap (31 - i7)))
    (cond (decide (IntKind.i64.wrap (31 - i7) < 32))
     (cond (decide (0 ≤ i7))
      (cond (decide (i7 < 32))
       (cond (decide (IntKind.i64.wrap (IntKind.i64.wrap ([16, 0, 0, 0, 0, 0, 0, 0, 0, 0, 0, 0, 0, 0, 0, 0, 20, 222, 249, 222, 162, 247, 156, 214, 88, 18, 99, 26, 92, 245, 211, 237].getD (0 + (IntKind.i64.wrap (31 - i7)).toNat) 0 - IntKind.i64.wrap (h1.getD i7.toNat 0)) - owe6) < 0))
        (cond (decide ((h3.length + 1) * 1 ≤ 140737488355328))
         (cond (decide (h3.length + 1 ≤ 140737488355328))
          (Rn (s_L6 1 (IntKind.i64.wrap (i7 + 1)) h1 (h3 ++ [IntKind.u8.wrap (IntKind.i64.wrap (IntKind.i64.wrap (IntKind.i64.wrap ([16, 0, 0, 0, 0, 0, 0, 0, 0, 0, 0, 0, 0, 0, 0, 0, 20, 222, 249, 222, 162, 247, 156, 214, 88, 18, 99, 26, 92, 245, 211, 237].getD (0 + (IntKind.i64.wrap (31 - i7)).toNat) 0 - IntKind.i64.wrap (h1.getD i7.toNat 0)) - owe6) + 256))])))
          (none))
         (none))
        (cond (decide ((h3.length + 1) * 1 ≤ 140737488355328))
         (cond (decide (h3.length + 1 ≤ 140737488355328))
          (Rn (s_L6 0 (IntKind.i64.wrap (i7 + 1)) h1 (h3 ++ [IntKind.u8.wrap (IntKind.i64.wrap (IntKind.i64.wrap ([16, 0, 0, 0, 0, 0, 0, 0, 0, 0, 0, 0, 0, 0, 0, 0, 20, 222, 249, 222, 162, 247, 156, 214, 88, 18, 99, 26, 92, 245, 211, 237].getD (0 + (IntKind.i64.wrap (31 - i7)).toNat) 0 - IntKind.i64.wrap (h1.getD i7.toNat 0)) - owe6))])))
          (none))
         (none)))
       (none))
      (none))
     (none))
    (none))
   (k.ext 0 (x_L6_0 owe6 i7 h1 h3)) := by kernel_rfl
theorem run_L6 (mrMod : rMod.Ty) (mrmodulus : rmodulus.Ty) {R : Type} (N : Nat) (k : K R) : ∀ (m : Nat) (owe6 : Int) (i7 : Int) (h1 : List Int) (h3 : List Int), loopN (evC (g mrMod mrmodulus) an 0 N c_L6 none) k (nmOf 0 (an.loop 6)) m (s_L6 owe6 i7 h1 h3) =
    L6 mrMod mrmodulus N (fun owe6 i7 h1 h3 => (k).ext 0 (x_L6_0 owe6 i7 h1 h3)) m owe6 i7 h1 h3 := by
  intro m
  induction m with
  | zero => intros; rfl
  | succ m ih =>
    intros
    rw [loopN_succ, round_L6]
    simp only [ih]
    kernel_rfl
noncomputable def m (mrMod : rMod.Ty) (mrmodulus : rmodulus.Ty) {R : Type} (N : Nat) (a1 : List Int) (kr0 : (List Int) → Option R) : Option R :=
  mrMod R none (cut (some 32) 0 a1)
   (fun v_c7 => mrmodulus R
    (L6 mrMod mrmodulus N
     (fun _owe6_c8 _i7_c9 _h1_c10 h3_c11 => mrMod R none h3_c11
      (fun v_c12 => kr0 v_c12)) N 0 0 v_c7 []))
theorem tree (mrMod : rMod.Ty) (mrmodulus : rmodulus.Ty) {R : Type} (N : Nat) (κ : AV → List Blk → Option R) (a1 : List Int) : evF (g mrMod mrmodulus) an N Try.f16 [AV.ints IntKind.u8 32 a1] [] κ =
  mrMod R none (cut (some 32) 0 a1)
   (fun v_c7 => mrmodulus R
    (loopN (evC (g mrMod mrmodulus) an 0 N c_L6 none) (ctx (g mrMod mrmodulus) an 0 N (bodyOf Try.f16) [1, 1, 1, 1, 1, 0, 1, 0] (endK (g mrMod mrmodulus) an Try.f16 [] κ)) (nmOf 0 (an.loop 6)) N (s_L6 0 0 v_c7 []))) := by kernel_rfl
theorem eq (mrMod : rMod.Ty) (mrmodulus : rmodulus.Ty) {R : Type} (N : Nat) (κ : AV → List Blk → Option R) (a1 : List Int) : evF (g mrMod mrmodulus) an N Try.f16 [AV.ints IntKind.u8 32 a1] [] κ =
  m mrMod mrmodulus N a1 (fun v => κ (AV.ints IntKind.u8 32 v) []) := by
  rw [tree]
  simp only [run_L6]
  kernel_rfl
abbrev Ty : Type 1 := ∀ R : Type, (List Int) → ((List Int) → Option R) → Option R
def con (f : Ty) : Con := fun R args bs κ => match args, bs with
  | [AV.ints IntKind.u8 32 a1], [] => f R a1 (fun v => κ (AV.ints IntKind.u8 32 v) [])
  | _, _ => none
theorem con_eq (f : Ty) (R : Type) (κ : AV → List Blk → Option R) (a1 : List Int) : con f R [AV.ints IntKind.u8 32 a1] [] κ = f R a1 (fun v => κ (AV.ints IntKind.u8 32 v) []) := rfl
noncomputable def M (N : Nat) : Ty := fun R a1 kr0 => m (rMod.M N) (rmodulus.M N) (R := R) N a1 kr0
def gts : List (Nat × AV) := []
theorem gok (N : Nat) : GOk (g (rMod.M N) (rmodulus.M N)) := giD_ok hm (by intro p hp; cases hp) (gtL_ok (by decide)) (ovL_ok (by
    intro p hp
    simp only [List.mem_cons, List.not_mem_nil, or_false] at hp
    rcases hp with rfl | rfl
    · exact ⟨(rMod.ok N).gt (gtL_sub (by repeat (first | exact subG_nil _ | refine subG_cons (by kernel_rfl) ?_))) (gtL_ok (by decide)), _, Try.func8, by kernel_rfl, by kernel_rfl⟩
    · exact ⟨(rmodulus.ok N).gt (gtL_sub (by repeat (first | exact subG_nil _ | refine subG_cons (by kernel_rfl) ?_))) (gtL_ok (by decide)), _, Try.func19, by kernel_rfl, by kernel_rfl⟩
)) 1
theorem ok (N : Nat) : SoundC Try.prog (gtL gts) 16 (con (M N)) := by
  refine SoundC.mono (evF_ok (gok N) hm an N Try.func16) fun R args bs κ r h => ?_
  unfold con at h
  split at h
  · exact (eq (rMod.M N) (rmodulus.M N) N κ _).trans h
  · cases h
end rNegate


/-! ### Try.f6: alive11 -/
namespace alive11
def an : Anns := ⟨fun i => findA i [], fun i => findA i [], false, fun _ => none⟩
noncomputable def g (msNegate : sNegate.Ty) (msRight : sRight.Ty) : Gi := giD Try.prog (gtL []) (fun _ => an) 0 [] (ovL [(15, sNegate.con msNegate), (9, sRight.con msRight)]) 1
noncomputable def m (msNegate : sNegate.Ty) (msRight : sRight.Ty) {R : Type} (_N : Nat) (kr0 : Bool → Option R) : Option R :=
  msNegate R ([1, 0, 0, 0, 0, 0, 0, 0, 0, 0, 0, 0, 0, 0, 0, 0, 0, 0, 0, 0, 0, 0, 0, 0, 0, 0, 0, 0, 0, 0, 0, 0])
   (fun v_c4 => cond (v_c4.getD 0 0 != 236)
    (kr0 false)
    (cond (v_c4.getD 31 0 != 16)
     (kr0 false)
     (msRight R v_c4
      (fun v_c5 => cond (!v_c5)
       (kr0 false)
       (msRight R (v_c4.set 0 (IntKind.u8.wrap (v_c4.getD 0 0 + 1)))
        (fun v_c6 => kr0 (!v_c6)))))))
theorem tree (msNegate : sNegate.Ty) (msRight : sRight.Ty) {R : Type} (N : Nat) (κ : AV → List Blk → Option R) : evF (g msNegate msRight) an N Try.f6 [] [] κ =
  msNegate R ([1, 0, 0, 0, 0, 0, 0, 0, 0, 0, 0, 0, 0, 0, 0, 0, 0, 0, 0, 0, 0, 0, 0, 0, 0, 0, 0, 0, 0, 0, 0, 0])
   (fun v_c4 => cond (v_c4.getD 0 0 != 236)
    (κ (AV.bool false) [])
    (cond (v_c4.getD 31 0 != 16)
     (κ (AV.bool false) [])
     (msRight R v_c4
      (fun v_c5 => cond (!v_c5)
       (κ (AV.bool false) [])
       (msRight R (v_c4.set 0 (IntKind.u8.wrap (v_c4.getD 0 0 + 1)))
        (fun v_c6 => κ (AV.bool !v_c6) [])))))) := by kernel_rfl
theorem eq (msNegate : sNegate.Ty) (msRight : sRight.Ty) {R : Type} (N : Nat) (κ : AV → List Blk → Option R) : evF (g msNegate msRight) an N Try.f6 [] [] κ =
  m msNegate msRight N (fun v => κ (AV.bool v) []) := by
  rw [tree]
  kernel_rfl
abbrev Ty : Type 1 := ∀ R : Type, (Bool → Option R) → Option R
def con (f : Ty) : Con := fun R args bs κ => match args, bs with
  | [], [] => f R (fun v => κ (AV.bool v) [])
  | _, _ => none
theorem con_eq (f : Ty) (R : Type) (κ : AV → List Blk → Option R) : con f R [] [] κ = f R (fun v => κ (AV.bool v) []) := rfl
noncomputable def M (N : Nat) : Ty := fun R kr0 => m (sNegate.M N) (sRight.M N) (R := R) N kr0
def gts : List (Nat × AV) := []
theorem gok (N : Nat) : GOk (g (sNegate.M N) (sRight.M N)) := giD_ok hm (by intro p hp; cases hp) (gtL_ok (by decide)) (ovL_ok (by
    intro p hp
    simp only [List.mem_cons, List.not_mem_nil, or_false] at hp
    rcases hp with rfl | rfl
    · exact ⟨(sNegate.ok N).gt (gtL_sub (by repeat (first | exact subG_nil _ | refine subG_cons (by kernel_rfl) ?_))) (gtL_ok (by decide)), _, Try.func15, by kernel_rfl, by kernel_rfl⟩
    · exact ⟨(sRight.ok N).gt (gtL_sub (by repeat (first | exact subG_nil _ | refine subG_cons (by kernel_rfl) ?_))) (gtL_ok (by decide)), _, Try.func9, by kernel_rfl, by kernel_rfl⟩
)) 1
theorem ok (N : Nat) : SoundC Try.prog (gtL gts) 6 (con (M N)) := by
  refine SoundC.mono (evF_ok (gok N) hm an N Try.func6) fun R args bs κ r h => ?_
  unfold con at h
  split at h
  · exact (eq (sNegate.M N) (sRight.M N) N κ).trans h
  · cases h
end alive11


/-! ### Try.f3: ScalarReduces -/
namespace ScalarReduces
def an : Anns := ⟨fun i => findA i [], fun i => findA i [], false, fun _ => none⟩
noncomputable def g (malive11 : alive11.Ty) (mReduce : Reduce.Ty) (mrMod : rMod.Ty) (msRight : sRight.Ty) (mBit : Bit.Ty) : Gi := giD Try.prog (gtL []) (fun _ => an) 0 [] (ovL [(6, alive11.con malive11), (7, Reduce.con mReduce), (8, rMod.con mrMod), (9, sRight.con msRight), (10, Bit.con mBit)]) 1
noncomputable def m (malive11 : alive11.Ty) (mReduce : Reduce.Ty) (mrMod : rMod.Ty) (msRight : sRight.Ty) (mBit : Bit.Ty) {R : Type} (_N : Nat) (w1 : List Int) (s2 : List Int) (i3 : Int) (kr0 : Bool → Option R) : Option R :=
  malive11 R
   (fun v_c7 => cond (!v_c7)
    (kr0 false)
    (mReduce R w1
     (fun v_c8 => mrMod R none (cut (some 64) 0 w1)
      (fun v_c9 => cond (!v_c8 == v_c9)
       (kr0 false)
       (msRight R s2
        (fun v_c10 => mrMod R none (cut (some 32) 0 s2)
         (fun v_c11 => cond (!v_c10 == (v_c11 == s2))
          (kr0 false)
          (cond (decide (i3 ≥ 0))
           (cond (decide (i3 < 256))
            (cond (decide (0 ≤ IntKind.i64.wrap (i3.tdiv 8)))
             (cond (decide (IntKind.i64.wrap (i3.tdiv 8) < 32))
              (mBit R s2 i3
               (fun v_c12 => kr0 (v_c12 == (iand IntKind.u8 (ishr IntKind.u8 (s2.getD (IntKind.i64.wrap (i3.tdiv 8)).toNat 0) (IntKind.u64.wrap (i3.tmod 8))) 1 == 1))))
              (none))
             (none))
            (mBit R s2 i3
             (fun v_c13 => kr0 (v_c13 == false))))
           (mBit R s2 i3
            (fun v_c14 => kr0 (v_c14 == false)))))))))))
theorem tree (malive11 : alive11.Ty) (mReduce : Reduce.Ty) (mrMod : rMod.Ty) (msRight : sRight.Ty) (mBit : Bit.Ty) {R : Type} (N : Nat) (κ : AV → List Blk → Option R) (w1 : List Int) (s2 : List Int) (i3 : Int) : evF (g malive11 mReduce mrMod msRight mBit) an N Try.f3 [AV.ints IntKind.u8 64 w1, AV.ints IntKind.u8 32 s2, AV.int IntKind.i64 i3] [] κ =
  malive11 R
   (fun v_c7 => cond (!v_c7)
    (κ (AV.bool false) [])
    (mReduce R w1
     (fun v_c8 => mrMod R none (cut (some 64) 0 w1)
      (fun v_c9 => cond (!v_c8 == v_c9)
       (κ (AV.bool false) [])
       (msRight R s2
        (fun v_c10 => mrMod R none (cut (some 32) 0 s2)
         (fun v_c11 => cond (!v_c10 == (v_c11 == s2))
          (κ (AV.bool false) [])
          (cond (decide (i3 ≥ 0))
           (cond (decide (i3 < 256))
            (cond (decide (0 ≤ IntKind.i64.wrap (i3.tdiv 8)))
             (cond (decide (IntKind.i64.wrap (i3.tdiv 8) < 32))
              (mBit R s2 i3
               (fun v_c12 => κ (AV.bool (v_c12 == (iand IntKind.u8 (ishr IntKind.u8 (s2.getD (IntKind.i64.wrap (i3.tdiv 8)).toNat 0) (IntKind.u64.wrap (i3.tmod 8))) 1 == 1))) []))
              (none))
             (none))
            (mBit R s2 i3
             (fun v_c13 => κ (AV.bool (v_c13 == false)) [])))
           (mBit R s2 i3
            (fun v_c14 => κ (AV.bool (v_c14 == false)) [])))))))))) := by kernel_rfl
theorem eq (malive11 : alive11.Ty) (mReduce : Reduce.Ty) (mrMod : rMod.Ty) (msRight : sRight.Ty) (mBit : Bit.Ty) {R : Type} (N : Nat) (κ : AV → List Blk → Option R) (w1 : List Int) (s2 : List Int) (i3 : Int) : evF (g malive11 mReduce mrMod msRight mBit) an N Try.f3 [AV.ints IntKind.u8 64 w1, AV.ints IntKind.u8 32 s2, AV.int IntKind.i64 i3] [] κ =
  m malive11 mReduce mrMod msRight mBit N w1 s2 i3 (fun v => κ (AV.bool v) []) := by
  rw [tree]
  kernel_rfl
abbrev Ty : Type 1 := ∀ R : Type, (List Int) → (List Int) → Int → (Bool → Option R) → Option R
def con (f : Ty) : Con := fun R args bs κ => match args, bs with
  | [AV.ints IntKind.u8 64 w1, AV.ints IntKind.u8 32 s2, AV.int IntKind.i64 i3], [] => f R w1 s2 i3 (fun v => κ (AV.bool v) [])
  | _, _ => none
theorem con_eq (f : Ty) (R : Type) (κ : AV → List Blk → Option R) (w1 : List Int) (s2 : List Int) (i3 : Int) : con f R [AV.ints IntKind.u8 64 w1, AV.ints IntKind.u8 32 s2, AV.int IntKind.i64 i3] [] κ = f R w1 s2 i3 (fun v => κ (AV.bool v) []) := rfl
noncomputable def M (N : Nat) : Ty := fun R w1 s2 i3 kr0 => m (alive11.M N) (Reduce.M N) (rMod.M N) (sRight.M N) (Bit.M N) (R := R) N w1 s2 i3 kr0
def gts : List (Nat × AV) := []
theorem gok (N : Nat) : GOk (g (alive11.M N) (Reduce.M N) (rMod.M N) (sRight.M N) (Bit.M N)) := giD_ok hm (by intro p hp; cases hp) (gtL_ok (by decide)) (ovL_ok (by
    intro p hp
    simp only [List.mem_cons, List.not_mem_nil, or_false] at hp
    rcases hp with rfl | rfl | rfl | rfl | rfl
    · exact ⟨(alive11.ok N).gt (gtL_sub (by repeat (first | exact subG_nil _ | refine subG_cons (by kernel_rfl) ?_))) (gtL_ok (by decide)), _, Try.func6, by kernel_rfl, by kernel_rfl⟩
    · exact ⟨(Reduce.ok N).gt (gtL_sub (by repeat (first | exact subG_nil _ | refine subG_cons (by kernel_rfl) ?_))) (gtL_ok (by decide)), _, Try.func7, by kernel_rfl, by kernel_rfl⟩
    · exact ⟨(rMod.ok N).gt (gtL_sub (by repeat (first | exact subG_nil _ | refine subG_cons (by kernel_rfl) ?_))) (gtL_ok (by decide)), _, Try.func8, by kernel_rfl, by kernel_rfl⟩
    · exact ⟨(sRight.ok N).gt (gtL_sub (by repeat (first | exact subG_nil _ | refine subG_cons (by kernel_rfl) ?_))) (gtL_ok (by decide)), _, Try.func9, by kernel_rfl, by kernel_rfl⟩
    · exact ⟨(Bit.ok N).gt (gtL_sub (by repeat (first | exact subG_nil _ | refine subG_cons (by kernel_rfl) ?_))) (gtL_ok (by decide)), _, Try.func10, by kernel_rfl, by kernel_rfl⟩
)) 1
theorem ok (N : Nat) : SoundC Try.prog (gtL gts) 3 (con (M N)) := by
  refine SoundC.mono (evF_ok (gok N) hm an N Try.func3) fun R args bs κ r h => ?_
  unfold con at h
  split at h
  · exact (eq (alive11.M N) (Reduce.M N) (rMod.M N) (sRight.M N) (Bit.M N) N κ _ _ _).trans h
  · cases h
end ScalarReduces


/-! ### Try.f4: ScalarSums -/
namespace ScalarSums
def an : Anns := ⟨fun i => findA i [], fun i => findA i [], false, fun _ => none⟩
noncomputable def g (malive11 : alive11.Ty) (msAdd : sAdd.Ty) (mrAdd : rAdd.Ty) (msTimes : sTimes.Ty) (mrTimes : rTimes.Ty) (msNegate : sNegate.Ty) (mrNegate : rNegate.Ty) : Gi := giD Try.prog (gtL []) (fun _ => an) 0 [] (ovL [(6, alive11.con malive11), (11, sAdd.con msAdd), (12, rAdd.con mrAdd), (13, sTimes.con msTimes), (14, rTimes.con mrTimes), (15, sNegate.con msNegate), (16, rNegate.con mrNegate)]) 1
noncomputable def m (malive11 : alive11.Ty) (msAdd : sAdd.Ty) (mrAdd : rAdd.Ty) (msTimes : sTimes.Ty) (mrTimes : rTimes.Ty) (msNegate : sNegate.Ty) (mrNegate : rNegate.Ty) {R : Type} (_N : Nat) (a1 : List Int) (b2 : List Int) (kr0 : Bool → Option R) : Option R :=
  malive11 R
   (fun v_c8 => cond (!v_c8)
    (kr0 false)
    (msAdd R a1 b2
     (fun v_c9 => mrAdd R a1 b2
      (fun v_c10 => cond (v_c9 == v_c10)
       (msTimes R a1 b2
        (fun v_c11 => mrTimes R a1 b2
         (fun v_c12 => cond (v_c11 == v_c12)
          (msNegate R a1
           (fun v_c13 => mrNegate R a1
            (fun v_c14 => kr0 (v_c13 == v_c14))))
          (kr0 false))))
       (kr0 false)))))
theorem tree (malive11 : alive11.Ty) (msAdd : sAdd.Ty) (mrAdd : rAdd.Ty) (msTimes : sTimes.Ty) (mrTimes : rTimes.Ty) (msNegate : sNegate.Ty) (mrNegate : rNegate.Ty) {R : Type} (N : Nat) (κ : AV → List Blk → Option R) (a1 : List Int) (b2 : List Int) : evF (g malive11 msAdd mrAdd msTimes mrTimes msNegate mrNegate) an N Try.f4 [AV.ints IntKind.u8 32 a1, AV.ints IntKind.u8 32 b2] [] κ =
  malive11 R
   (fun v_c8 => cond (!v_c8)
    (κ (AV.bool false) [])
    (msAdd R a1 b2
     (fun v_c9 => mrAdd R a1 b2
      (fun v_c10 => cond (v_c9 == v_c10)
       (msTimes R a1 b2
        (fun v_c11 => mrTimes R a1 b2
         (fun v_c12 => cond (v_c11 == v_c12)
          (msNegate R a1
           (fun v_c13 => mrNegate R a1
            (fun v_c14 => κ (AV.bool (v_c13 == v_c14)) [])))
          (κ (AV.bool false) []))))
       (κ (AV.bool false) []))))) := by kernel_rfl
theorem eq (malive11 : alive11.Ty) (msAdd : sAdd.Ty) (mrAdd : rAdd.Ty) (msTimes : sTimes.Ty) (mrTimes : rTimes.Ty) (msNegate : sNegate.Ty) (mrNegate : rNegate.Ty) {R : Type} (N : Nat) (κ : AV → List Blk → Option R) (a1 : List Int) (b2 : List Int) : evF (g malive11 msAdd mrAdd msTimes mrTimes msNegate mrNegate) an N Try.f4 [AV.ints IntKind.u8 32 a1, AV.ints IntKind.u8 32 b2] [] κ =
  m malive11 msAdd mrAdd msTimes mrTimes msNegate mrNegate N a1 b2 (fun v => κ (AV.bool v) []) := by
  rw [tree]
  kernel_rfl
abbrev Ty : Type 1 := ∀ R : Type, (List Int) → (List Int) → (Bool → Option R) → Option R
def con (f : Ty) : Con := fun R args bs κ => match args, bs with
  | [AV.ints IntKind.u8 32 a1, AV.ints IntKind.u8 32 b2], [] => f R a1 b2 (fun v => κ (AV.bool v) [])
  | _, _ => none
theorem con_eq (f : Ty) (R : Type) (κ : AV → List Blk → Option R) (a1 : List Int) (b2 : List Int) : con f R [AV.ints IntKind.u8 32 a1, AV.ints IntKind.u8 32 b2] [] κ = f R a1 b2 (fun v => κ (AV.bool v) []) := rfl
noncomputable def M (N : Nat) : Ty := fun R a1 b2 kr0 => m (alive11.M N) (sAdd.M N) (rAdd.M N) (sTimes.M N) (rTimes.M N) (sNegate.M N) (rNegate.M N) (R := R) N a1 b2 kr0
def gts : List (Nat × AV) := []
theorem gok (N : Nat) : GOk (g (alive11.M N) (sAdd.M N) (rAdd.M N) (sTimes.M N) (rTimes.M N) (sNegate.M N) (rNegate.M N)) := giD_ok hm (by intro p hp; cases hp) (gtL_ok (by decide)) (ovL_ok (by
    intro p hp
    simp only [List.mem_cons, List.not_mem_nil, or_false] at hp
    rcases hp with rfl | rfl | rfl | rfl | rfl | rfl | rfl
    · exact ⟨(alive11.ok N).gt (gtL_sub (by repeat (first | exact subG_nil _ | refine subG_cons (by kernel_rfl) ?_))) (gtL_ok (by decide)), _, Try.func6, by kernel_rfl, by kernel_rfl⟩
    · exact ⟨(sAdd.ok N).gt (gtL_sub (by repeat (first | exact subG_nil _ | refine subG_cons (by kernel_rfl) ?_))) (gtL_ok (by decide)), _, Try.func11, by kernel_rfl, by kernel_rfl⟩
    · exact ⟨(rAdd.ok N).gt (gtL_sub (by repeat (first | exact subG_nil _ | refine subG_cons (by kernel_rfl) ?_))) (gtL_ok (by decide)), _, Try.func12, by kernel_rfl, by kernel_rfl⟩
    · exact ⟨(sTimes.ok N).gt (gtL_sub (by repeat (first | exact subG_nil _ | refine subG_cons (by kernel_rfl) ?_))) (gtL_ok (by decide)), _, Try.func13, by kernel_rfl, by kernel_rfl⟩
    · exact ⟨(rTimes.ok N).gt (gtL_sub (by repeat (first | exact subG_nil _ | refine subG_cons (by kernel_rfl) ?_))) (gtL_ok (by decide)), _, Try.func14, by kernel_rfl, by kernel_rfl⟩
    · exact ⟨(sNegate.ok N).gt (gtL_sub (by repeat (first | exact subG_nil _ | refine subG_cons (by kernel_rfl) ?_))) (gtL_ok (by decide)), _, Try.func15, by kernel_rfl, by kernel_rfl⟩
    · exact ⟨(rNegate.ok N).gt (gtL_sub (by repeat (first | exact subG_nil _ | refine subG_cons (by kernel_rfl) ?_))) (gtL_ok (by decide)), _, Try.func16, by kernel_rfl, by kernel_rfl⟩
)) 1
theorem ok (N : Nat) : SoundC Try.prog (gtL gts) 4 (con (M N)) := by
  refine SoundC.mono (evF_ok (gok N) hm an N Try.func4) fun R args bs κ r h => ?_
  unfold con at h
  split at h
  · exact (eq (alive11.M N) (sAdd.M N) (rAdd.M N) (sTimes.M N) (rTimes.M N) (sNegate.M N) (rNegate.M N) N κ _ _).trans h
  · cases h
end ScalarSums


/-! ### Try.f5: ScalarChains -/
namespace ScalarChains
def an : Anns := ⟨fun i => findA i [], fun i => findA i [], false, fun _ => none⟩
noncomputable def g (malive11 : alive11.Ty) (msAdd : sAdd.Ty) (msTimes : sTimes.Ty) (msNegate : sNegate.Ty) (msRight : sRight.Ty) : Gi := giD Try.prog (gtL []) (fun _ => an) 0 [] (ovL [(6, alive11.con malive11), (11, sAdd.con msAdd), (13, sTimes.con msTimes), (15, sNegate.con msNegate), (9, sRight.con msRight)]) 1
noncomputable def m (malive11 : alive11.Ty) (msAdd : sAdd.Ty) (msTimes : sTimes.Ty) (msNegate : sNegate.Ty) (msRight : sRight.Ty) {R : Type} (_N : Nat) (a1 : List Int) (b2 : List Int) (c3 : List Int) (kr0 : Bool → Option R) : Option R :=
  malive11 R
   (fun v_c16 => cond (!v_c16)
    (kr0 false)
    (msAdd R a1 b2
     (fun v_c17 => msTimes R v_c17 c3
      (fun v_c18 => msTimes R a1 c3
       (fun v_c19 => msTimes R b2 c3
        (fun v_c20 => msAdd R v_c19 v_c20
         (fun v_c21 => msNegate R a1
          (fun v_c22 => msAdd R a1 v_c22
           (fun v_c23 => cond (v_c18 == v_c21)
            (cond (v_c23 == [0, 0, 0, 0, 0, 0, 0, 0, 0, 0, 0, 0, 0, 0, 0, 0, 0, 0, 0, 0, 0, 0, 0, 0, 0, 0, 0, 0, 0, 0, 0, 0])
             (msRight R v_c18
              (fun v_c24 => cond v_c24
               (msTimes R a1 b2
                (fun v_c25 => msTimes R b2 a1
                 (fun v_c26 => cond (v_c25 == v_c26)
                  (msNegate R a1
                   (fun v_c27 => msTimes R v_c27 b2
                    (fun v_c28 => msTimes R a1 b2
                     (fun v_c29 => msNegate R v_c29
                      (fun v_c30 => kr0 (v_c28 == v_c30))))))
                  (kr0 false))))
               (kr0 false)))
             (kr0 false))
            (kr0 false))))))))))
theorem tree (malive11 : alive11.Ty) (msAdd : sAdd.Ty) (msTimes : sTimes.Ty) (msNegate : sNegate.Ty) (msRight : sRight.Ty) {R : Type} (N : Nat) (κ : AV → List Blk → Option R) (a1 : List Int) (b2 : List Int) (c3 : List Int) : evF (g malive11 msAdd msTimes msNegate msRight) an N Try.f5 [AV.ints IntKind.u8 32 a1, AV.ints IntKind.u8 32 b2, AV.ints IntKind.u8 32 c3] [] κ =
  malive11 R
   (fun v_c16 => cond (!v_c16)
    (κ (AV.bool false) [])
    (msAdd R a1 b2
     (fun v_c17 => msTimes R v_c17 c3
      (fun v_c18 => msTimes R a1 c3
       (fun v_c19 => msTimes R b2 c3
        (fun v_c20 => msAdd R v_c19 v_c20
         (fun v_c21 => msNegate R a1
          (fun v_c22 => msAdd R a1 v_c22
           (fun v_c23 => cond (v_c18 == v_c21)
            (cond (v_c23 == [0, 0, 0, 0, 0, 0, 0, 0, 0, 0, 0, 0, 0, 0, 0, 0, 0, 0, 0, 0, 0, 0, 0, 0, 0, 0, 0, 0, 0, 0, 0, 0])
             (msRight R v_c18
              (fun v_c24 => cond v_c24
               (msTimes R a1 b2
                (fun v_c25 => msTimes R b2 a1
                 (fun v_c26 => cond (v_c25 == v_c26)
                  (msNegate R a1
                   (fun v_c27 => msTimes R v_c27 b2
                    (fun v_c28 => msTimes R a1 b2
                     (fun v_c29 => msNegate R v_c29
                      (fun v_c30 => κ (AV.bool (v_c28 == v_c30)) [])))))
                  (κ (AV.bool false) []))))
               (κ (AV.bool false) [])))
             (κ (AV.bool false) []))
            (κ (AV.bool false) [])))))))))) := by kernel_rfl
theorem eq (malive11 : alive11.Ty) (msAdd : sAdd.Ty) (msTimes : sTimes.Ty) (msNegate : sNegate.Ty) (msRight : sRight.Ty) {R : Type} (N : Nat) (κ : AV → List Blk → Option R) (a1 : List Int) (b2 : List Int) (c3 : List Int) : evF (g malive11 msAdd msTimes msNegate msRight) an N Try.f5 [AV.ints IntKind.u8 32 a1, AV.ints IntKind.u8 32 b2, AV.ints IntKind.u8 32 c3] [] κ =
  m malive11 msAdd msTimes msNegate msRight N a1 b2 c3 (fun v => κ (AV.bool v) []) := by
  rw [tree]
  kernel_rfl
abbrev Ty : Type 1 := ∀ R : Type, (List Int) → (List Int) → (List Int) → (Bool → Option R) → Option R
def con (f : Ty) : Con := fun R args bs κ => match args, bs with
  | [AV.ints IntKind.u8 32 a1, AV.ints IntKind.u8 32 b2, AV.ints IntKind.u8 32 c3], [] => f R a1 b2 c3 (fun v => κ (AV.bool v) [])
  | _, _ => none
theorem con_eq (f : Ty) (R : Type) (κ : AV → List Blk → Option R) (a1 : List Int) (b2 : List Int) (c3 : List Int) : con f R [AV.ints IntKind.u8 32 a1, AV.ints IntKind.u8 32 b2, AV.ints IntKind.u8 32 c3] [] κ = f R a1 b2 c3 (fun v => κ (AV.bool v) []) := rfl
noncomputable def M (N : Nat) : Ty := fun R a1 b2 c3 kr0 => m (alive11.M N) (sAdd.M N) (sTimes.M N) (sNegate.M N) (sRight.M N) (R := R) N a1 b2 c3 kr0
def gts : List (Nat × AV) := []
theorem gok (N : Nat) : GOk (g (alive11.M N) (sAdd.M N) (sTimes.M N) (sNegate.M N) (sRight.M N)) := giD_ok hm (by intro p hp; cases hp) (gtL_ok (by decide)) (ovL_ok (by
    intro p hp
    simp only [List.mem_cons, List.not_mem_nil, or_false] at hp
    rcases hp with rfl | rfl | rfl | rfl | rfl
    · exact ⟨(alive11.ok N).gt (gtL_sub (by repeat (first | exact subG_nil _ | refine subG_cons (by kernel_rfl) ?_))) (gtL_ok (by decide)), _, Try.func6, by kernel_rfl, by kernel_rfl⟩
    · exact ⟨(sAdd.ok N).gt (gtL_sub (by repeat (first | exact subG_nil _ | refine subG_cons (by kernel_rfl) ?_))) (gtL_ok (by decide)), _, Try.func11, by kernel_rfl, by kernel_rfl⟩
    · exact ⟨(sTimes.ok N).gt (gtL_sub (by repeat (first | exact subG_nil _ | refine subG_cons (by kernel_rfl) ?_))) (gtL_ok (by decide)), _, Try.func13, by kernel_rfl, by kernel_rfl⟩
    · exact ⟨(sNegate.ok N).gt (gtL_sub (by repeat (first | exact subG_nil _ | refine subG_cons (by kernel_rfl) ?_))) (gtL_ok (by decide)), _, Try.func15, by kernel_rfl, by kernel_rfl⟩
    · exact ⟨(sRight.ok N).gt (gtL_sub (by repeat (first | exact subG_nil _ | refine subG_cons (by kernel_rfl) ?_))) (gtL_ok (by decide)), _, Try.func9, by kernel_rfl, by kernel_rfl⟩
)) 1
theorem ok (N : Nat) : SoundC Try.prog (gtL gts) 5 (con (M N)) := by
  refine SoundC.mono (evF_ok (gok N) hm an N Try.func5) fun R args bs κ r h => ?_
  unfold con at h
  split at h
  · exact (eq (alive11.M N) (sAdd.M N) (sTimes.M N) (sNegate.M N) (sRight.M N) N κ _ _ _).trans h
  · cases h
end ScalarChains

end Go.Proofs.Ytganankiiipkgaa.fn
