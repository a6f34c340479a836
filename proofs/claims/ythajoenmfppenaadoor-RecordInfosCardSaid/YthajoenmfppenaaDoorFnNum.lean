/- What the errors' numbers are, with the proof; printed by a program. -/
import Derived.Test.YthajoenmfppenaaDoorProg
import Derived.Test.YthajoenmfppenaaDoorEv4
import Derived.Test.YthajoenmfppenaaDoorFnWords
import Derived.Test.YthajoenmfppenaaDoorIs
namespace Go.Proofs.YthajoenmfppenaaDoor.fn
open Go Go.Proofs Go.Ev
/-! ### Tryd.f14: Num -/
namespace Num
def an : Anns := ⟨fun i => findA i [(5, ⟨[0, 28, 29, 30], [], 0, []⟩)], fun i => findA i [], false, fun _ => none, []⟩
noncomputable def g (mIs : Is.Ty) : Gi := giD Tryd.prog (gtL [(0, .err 1), (1, .err 2), (2, .err 3), (3, .err 4), (4, .err 5), (5, .err 6), (6, .err 7), (7, .err 8), (8, .err 9), (9, .err 10), (10, .err 11), (11, .err 12), (12, .err 13), (13, .err 14), (14, .err 15), (15, .err 16), (16, .err 17), (17, .err 18), (18, .err 19)]) (fun _ => an) 0 [] (ovL [(49, Is.con mIs)]) 1
noncomputable def c_L5 : Code := loopOf Tryd.f14 0
def s_L5 (e0 : Nat) (t30 : Int) : St := ⟨[AV.err e0] ++ List.replicate 27 .dead ++ [AV.esl [1, 2, 3, 4, 5, 6, 7, 8, 9, 10, 11, 12, 13, 14, 15, 16, 17, 18, 19], AV.int IntKind.i64 19, AV.int IntKind.i64 t30] ++ List.replicate 10 .dead, []⟩
def x_L5_0 (e0 : Nat) (t30 : Int) (v_c5 : Bool) : St := ⟨[AV.err e0, AV.dead, AV.int IntKind.i64 (IntKind.i64.wrap (t30 + 1)), AV.dead, AV.int IntKind.i64 t30, AV.err ([1, 2, 3, 4, 5, 6, 7, 8, 9, 10, 11, 12, 13, 14, 15, 16, 17, 18, 19].getD t30.toNat 0)] ++ List.replicate 22 .dead ++ [AV.esl [1, 2, 3, 4, 5, 6, 7, 8, 9, 10, 11, 12, 13, 14, 15, 16, 17, 18, 19], AV.int IntKind.i64 19, AV.int IntKind.i64 t30, AV.bool (decide (t30 < 19)), AV.int IntKind.i64 t30, AV.rpe ([1, 2, 3, 4, 5, 6, 7, 8, 9, 10, 11, 12, 13, 14, 15, 16, 17, 18, 19].getD t30.toNat 0), AV.err ([1, 2, 3, 4, 5, 6, 7, 8, 9, 10, 11, 12, 13, 14, 15, 16, 17, 18, 19].getD t30.toNat 0), AV.err e0, AV.err ([1, 2, 3, 4, 5, 6, 7, 8, 9, 10, 11, 12, 13, 14, 15, 16, 17, 18, 19].getD t30.toNat 0), AV.bool v_c5, AV.int IntKind.i64 t30, AV.int IntKind.i64 (IntKind.i64.wrap (t30 + 1)), AV.dead], [Blk.rsv, Blk.rsv, Blk.rsv, Blk.rsv]⟩
def x_L5_1 (e0 : Nat) (t30 : Int) : St := ⟨[AV.err e0] ++ List.replicate 27 .dead ++ [AV.esl [1, 2, 3, 4, 5, 6, 7, 8, 9, 10, 11, 12, 13, 14, 15, 16, 17, 18, 19], AV.int IntKind.i64 19, AV.int IntKind.i64 t30, AV.bool (decide (t30 < 19))] ++ List.replicate 9 .dead, []⟩
noncomputable def L5 (mIs : Is.Ty) {R : Type} (N : Nat) (ke0 : Nat → Int → Bool → Option R) (ke1 : Nat → Int → Option R) : Nat → Nat → Int → Option R
  | 0, _, _ => none
  | m + 1, e0, t30 =>
    cond (decide (t30 < 19))
     (cond (decide (0 ≤ t30))
      (cond (decide (t30 < 19))
       (mIs R e0 ([1, 2, 3, 4, 5, 6, 7, 8, 9, 10, 11, 12, 13, 14, 15, 16, 17, 18, 19].getD t30.toNat 0)
        (fun v_c5 => cond v_c5
         (ke0 e0 t30 v_c5)
         (L5 mIs N ke0 ke1 m e0 (IntKind.i64.wrap (t30 + 1)))))
       none)
      none)
     (ke1 e0 t30)
theorem round_L5 (mIs : Is.Ty) {R : Type} (N : Nat) (Rn : St → Option R) (k : K R) (e0 : Nat) (t30 : Int) : evC (g mIs) an 0 N c_L5 none (roundK (nmOf 0 (an.loop 5)) Rn k) (s_L5 e0 t30) =
  cond (decide (t30 < 19))
   (cond (decide (0 ≤ t30))
    (cond (decide (t30 < 19))
     (mIs R e0 ([1, 2, 3, 4, 5, 6, 7, 8, 9, 10, 11, 12, 13, 14, 15, 16, 17, 18, 19].getD t30.toNat 0)
      (fun v_c5 => cond v_c5
       (k.ret (x_L5_0 e0 t30 v_c5))
       (Rn (s_L5 e0 (IntKind.i64.wrap (t30 + 1))))))
     none)
    none)
   (k.ext 0 (x_L5_1 e0 t30)) := by kernel_rfl
theorem run_L5 (mIs : Is.Ty) {R : Type} (N : Nat) (k : K R) : ∀ (m : Nat) (e0 : Nat) (t30 : Int), loopN (evC (g mIs) an 0 N c_L5 none) k (nmOf 0 (an.loop 5)) m (s_L5 e0 t30) =
    L5 mIs N (fun e0 t30 v_c5 => (k).ret (x_L5_0 e0 t30 v_c5)) (fun e0 t30 => (k).ext 0 (x_L5_1 e0 t30)) m e0 t30 := by
  intro m
  induction m with
  | zero => intros; rfl
  | succ m ih =>
    intros
    rw [loopN_succ, round_L5]
    simp only [ih]
    kernel_rfl
noncomputable def m (mIs : Is.Ty) {R : Type} (N : Nat) (e1 : Nat) (kr0 : Int → Option R) : Option R :=
  cond (e1.beq 0)
   (kr0 0)
   (L5 mIs N
    (fun _e0_c6 t30_c7 _v_c8 => kr0 (IntKind.i64.wrap (t30_c7 + 1)))
    (fun _e0_c9 _t30_c10 => kr0 (-1)) N e1 0)
theorem tree (mIs : Is.Ty) {R : Type} (N : Nat) (κ : AV → List Blk → Option R) (e1 : Nat) : evF (g mIs) an N Tryd.f14 [AV.err e1] [] κ =
  cond (e1.beq 0)
   (κ (AV.int IntKind.i64 0) [])
   (loopN (evC (g mIs) an 0 N c_L5 none) (ctx (g mIs) an 0 N (bodyOf Tryd.f14) [1, 1, 1, 0, 1, 0] (endK (g mIs) an Tryd.f14 [] κ)) (nmOf 0 (an.loop 5)) N (s_L5 e1 0)) := by kernel_rfl
theorem eq (mIs : Is.Ty) {R : Type} (N : Nat) (κ : AV → List Blk → Option R) (e1 : Nat) : evF (g mIs) an N Tryd.f14 [AV.err e1] [] κ =
  m mIs N e1 (fun v => κ (AV.int IntKind.i64 v) []) := by
  rw [tree]
  simp only [run_L5]
  kernel_rfl
abbrev Ty : Type 1 := ∀ R : Type, Nat → (Int → Option R) → Option R
def con (f : Ty) : Con := fun R args bs κ => match args, bs with
  | [AV.err e1], [] => f R e1 (fun v => κ (AV.int IntKind.i64 v) [])
  | _, _ => none
theorem con_eq (f : Ty) (R : Type) (κ : AV → List Blk → Option R) (e1 : Nat) : con f R [AV.err e1] [] κ = f R e1 (fun v => κ (AV.int IntKind.i64 v) []) := rfl
noncomputable def M (N : Nat) : Ty := fun R e1 kr0 => m (Is.M N) (R := R) N e1 kr0
def gts : List (Nat × AV) := [(0, .err 1), (1, .err 2), (2, .err 3), (3, .err 4), (4, .err 5), (5, .err 6), (6, .err 7), (7, .err 8), (8, .err 9), (9, .err 10), (10, .err 11), (11, .err 12), (12, .err 13), (13, .err 14), (14, .err 15), (15, .err 16), (16, .err 17), (17, .err 18), (18, .err 19)]
theorem gok (N : Nat) : GOk (g (Is.M N)) := giD_ok hm (by intro p hp; cases hp) (gtL_ok (by decide)) (ovL_ok (by
    intro p hp
    simp only [List.mem_cons, List.not_mem_nil, or_false] at hp
    rcases hp with rfl
    · exact ⟨(Is.ok N).gt (gtL_sub (by repeat (first | exact subG_nil _ | refine subG_cons (by kernel_rfl) ?_))) (gtL_ok (by decide)), _, Tryd.func49, by kernel_rfl, by kernel_rfl⟩
)) 1
theorem ok (N : Nat) : SoundC Tryd.prog (gtL gts) 14 (con (M N)) := by
  refine SoundC.mono (evF_ok (gok N) hm an N Tryd.func14) fun R args bs κ r h => ?_
  unfold con at h
  split at h
  · exact (eq (Is.M N) N κ _).trans h
  · cases h
end Num

end Go.Proofs.YthajoenmfppenaaDoor.fn
