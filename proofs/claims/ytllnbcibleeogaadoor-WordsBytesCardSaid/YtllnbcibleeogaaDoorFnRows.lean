/- What the rows' functions compute, with the proof; printed by a program. -/
import Derived.Test.YtllnbcibleeogaaDoorProg
import Derived.Test.YtllnbcibleeogaaDoorEv4
import Derived.Test.YtllnbcibleeogaaDoorFnWords
import Derived.Test.YtllnbcibleeogaaDoorFnNum
import Derived.Test.YtllnbcibleeogaaDoorClone
namespace Go.Proofs.YtllnbcibleeogaaDoor.fn
open Go Go.Proofs Go.Ev

/-! ### Tryd.f20: Bytes -/
namespace Bytes
def an : Anns := ⟨fun i => findA i [], fun i => findA i [], true, fun _ => none⟩
noncomputable def g : Gi := giD Tryd.prog (gtL []) (fun _ => an) 0 [] (ovL []) 1
noncomputable def m {R : Type} (_N : Nat) (_aN1 : Option Bool) (a2 : List Int) (kr0 : Nat → (List Int) → Option R) : Option R :=
  cond (decide (0 ≤ IntKind.i64.wrap (IntKind.i64.wrap ((↑a2.length : Int) + 6))))
   (cond (decide (1 * IntKind.i64.wrap (IntKind.i64.wrap ((↑a2.length : Int) + 6)) ≤ 140737488355328))
    (cond (decide ((0 + a2.length) * 1 ≤ 140737488355328))
     (cond (decide (0 + a2.length ≤ 140737488355328))
      (cond (decide ((a2.length + 6) * 1 ≤ 140737488355328))
       (cond (decide (a2.length + 6 ≤ 140737488355328))
        (cond (decide ((↑a2.length : Int) ≤ (↑(a2 ++ [201, 202, 203, 204, 205, 206]).length : Int)))
         (kr0 ((↑a2.length : Int).toNat) (a2 ++ [201, 202, 203, 204, 205, 206]))
         (none))
        (none))
       (none))
      (none))
     (none))
    (none))
   (none)
theorem tree {R : Type} (N : Nat) (κ : AV → List Blk → Option R) (aN1 : Option Bool) (a2 : List Int) : evF (g) an N Tryd.f20 [AV.isl IntKind.u8 aN1 a2] [] κ =
  cond (decide (0 ≤ IntKind.i64.wrap (IntKind.i64.wrap ((↑a2.length : Int) + 6))))
   (cond (decide (1 * IntKind.i64.wrap (IntKind.i64.wrap ((↑a2.length : Int) + 6)) ≤ 140737488355328))
    (cond (decide ((0 + a2.length) * 1 ≤ 140737488355328))
     (cond (decide (0 + a2.length ≤ 140737488355328))
      (cond (decide ((a2.length + 6) * 1 ≤ 140737488355328))
       (cond (decide (a2.length + 6 ≤ 140737488355328))
        (cond (decide ((↑a2.length : Int) ≤ (↑(a2 ++ [201, 202, 203, 204, 205, 206]).length : Int)))
         (κ (AV.own 0 [] 0 (some (↑a2.length : Int).toNat)) ([Blk.row IntKind.u8 false (a2 ++ [201, 202, 203, 204, 205, 206])]))
         (none))
        (none))
       (none))
      (none))
     (none))
    (none))
   (none) := by kernel_rfl
theorem eq {R : Type} (N : Nat) (κ : AV → List Blk → Option R) (aN1 : Option Bool) (a2 : List Int) : evF (g) an N Tryd.f20 [AV.isl IntKind.u8 aN1 a2] [] κ =
  m N aN1 a2 (fun v b => κ (AV.own 0 [] 0 (some v)) ([Blk.row IntKind.u8 false b])) := by
  rw [tree]
  kernel_rfl
abbrev Ty : Type 1 := ∀ R : Type, (Option Bool) → (List Int) → (Nat → (List Int) → Option R) → Option R
def con (f : Ty) : Con := fun R args bs κ => match args, bs with
  | [AV.isl IntKind.u8 aN1 a2], [] => f R aN1 a2 (fun v b => κ (AV.own 0 [] 0 (some v)) ([Blk.row IntKind.u8 false b]))
  | _, _ => none
theorem con_eq (f : Ty) (R : Type) (κ : AV → List Blk → Option R) (aN1 : Option Bool) (a2 : List Int) : con f R [AV.isl IntKind.u8 aN1 a2] [] κ = f R aN1 a2 (fun v b => κ (AV.own 0 [] 0 (some v)) ([Blk.row IntKind.u8 false b])) := rfl
noncomputable def M (N : Nat) : Ty := fun R aN1 a2 kr0 => m (R := R) N aN1 a2 kr0
def gts : List (Nat × AV) := []
theorem gok (_N : Nat) : GOk (g) := giD_ok hm (by intro p hp; cases hp) (gtL_ok (by decide)) (ovL_ok (by intro p hp; cases hp)) 1
theorem ok (N : Nat) : SoundC Tryd.prog (gtL gts) 20 (con (M N)) := by
  refine SoundC.mono (evF_ok (gok N) hm an N Tryd.func20) fun R args bs κ r h => ?_
  unfold con at h
  split at h
  · exact (eq N κ _ _).trans h
  · cases h
end Bytes


/-! ### Tryd.f26: Kept -/
namespace Kept
def an : Anns := ⟨fun i => findA i [], fun i => findA i [], false, fun _ => some 8⟩
noncomputable def g : Gi := giD Tryd.prog (gtL []) (fun _ => an) 0 [] (ovL []) 1
noncomputable def m {R : Type} (_N : Nat) (a1 : Nat) (_a2 : Option Nat) (a3 : Bool) (a4 : List Int) (_wasN5 : Option Bool) (was6 : List Int) (kr0 : Bool → Bool → (List Int) → Option R) : Option R :=
  cond a3
   (none)
   (cond (true && a1.beq a1 && a1.ble a4.length)
    (cond a3
     (none)
     (cond a3
      (none)
      (cond (decide (IntKind.i64.wrap ((↑was6.length : Int) + 6) ≤ (↑(a4.length - a1) : Int)))
       (cond a3
        (none)
        (cond (decide ((↑was6.length : Int) ≤ (↑(a4.length - a1) : Int)))
         (cond (!toStr (cut (some (↑was6.length : Int).toNat) a1 a4) == toStr was6)
          (kr0 false a3 a4)
          (cond a3
           (none)
           (cond (decide (0 ≤ IntKind.i64.wrap ((↑was6.length : Int) + 0)))
            (cond (decide (IntKind.i64.wrap ((↑was6.length : Int) + 0) < (↑(a4.length - a1) : Int)))
             (cond (a4.getD (a1 + (IntKind.i64.wrap ((↑was6.length : Int) + 0)).toNat) 0 != 201)
              (kr0 false a3 a4)
              (cond a3
               (none)
               (cond (decide (0 ≤ IntKind.i64.wrap ((↑was6.length : Int) + 1)))
                (cond (decide (IntKind.i64.wrap ((↑was6.length : Int) + 1) < (↑(a4.length - a1) : Int)))
                 (cond (a4.getD (a1 + (IntKind.i64.wrap ((↑was6.length : Int) + 1)).toNat) 0 != 202)
                  (kr0 false a3 a4)
                  (cond a3
                   (none)
                   (cond (decide (0 ≤ IntKind.i64.wrap ((↑was6.length : Int) + 2)))
                    (cond (decide (IntKind.i64.wrap ((↑was6.length : Int) + 2) < (↑(a4.length - a1) : Int)))
                     (cond (a4.getD (a1 + (IntKind.i64.wrap ((↑was6.length : Int) + 2)).toNat) 0 != 203)
                      (kr0 false a3 a4)
                      (cond a3
                       (none)
                       (cond (decide (0 ≤ IntKind.i64.wrap ((↑was6.length : Int) + 3)))
                        (cond (decide (IntKind.i64.wrap ((↑was6.length : Int) + 3) < (↑(a4.length - a1) : Int)))
                         (cond (a4.getD (a1 + (IntKind.i64.wrap ((↑was6.length : Int) + 3)).toNat) 0 != 204)
                          (kr0 false a3 a4)
                          (cond a3
                           (none)
                           (cond (decide (0 ≤ IntKind.i64.wrap ((↑was6.length : Int) + 4)))
                            (cond (decide (IntKind.i64.wrap ((↑was6.length : Int) + 4) < (↑(a4.length - a1) : Int)))
                             (cond (a4.getD (a1 + (IntKind.i64.wrap ((↑was6.length : Int) + 4)).toNat) 0 != 205)
                              (kr0 false a3 a4)
                              (cond a3
                               (none)
                               (cond (decide (0 ≤ IntKind.i64.wrap ((↑was6.length : Int) + 5)))
                                (cond (decide (IntKind.i64.wrap ((↑was6.length : Int) + 5) < (↑(a4.length - a1) : Int)))
                                 (cond (a4.getD (a1 + (IntKind.i64.wrap ((↑was6.length : Int) + 5)).toNat) 0 != 206)
                                  (kr0 false a3 a4)
                                  (kr0 true a3 a4))
                                 (none))
                                (none))))
                             (none))
                            (none))))
                         (none))
                        (none))))
                     (none))
                    (none))))
                 (none))
                (none))))
             (none))
            (none))))
         (none)))
       (none))))
    (none))
theorem tree {R : Type} (N : Nat) (κ : AV → List Blk → Option R) (a1 : Nat) (a2 : Option Nat) (a3 : Bool) (a4 : List Int) (wasN5 : Option Bool) (was6 : List Int) : evF (g) an N Tryd.f26 [AV.own 0 [] a1 a2, AV.isl IntKind.u8 wasN5 was6] [Blk.row IntKind.u8 a3 a4] κ =
  cond a3
   (none)
   (cond (true && a1.beq a1 && a1.ble a4.length)
    (cond a3
     (none)
     (cond a3
      (none)
      (cond (decide (IntKind.i64.wrap ((↑was6.length : Int) + 6) ≤ (↑(a4.length - a1) : Int)))
       (cond a3
        (none)
        (cond (decide ((↑was6.length : Int) ≤ (↑(a4.length - a1) : Int)))
         (cond (!toStr (cut (some (↑was6.length : Int).toNat) a1 a4) == toStr was6)
          (κ (AV.bool false) ([Blk.row IntKind.u8 a3 a4]))
          (cond a3
           (none)
           (cond (decide (0 ≤ IntKind.i64.wrap ((↑was6.length : Int) + 0)))
            (cond (decide (IntKind.i64.wrap ((↑was6.length : Int) + 0) < (↑(a4.length - a1) : Int)))
             (cond (a4.getD (a1 + (IntKind.i64.wrap ((↑was6.length : Int) + 0)).toNat) 0 != 201)
              (κ (AV.bool false) ([Blk.row IntKind.u8 a3 a4]))
              (cond a3
               (none)
               (cond (decide (0 ≤ IntKind.i64.wrap ((↑was6.length : Int) + 1)))
                (cond (decide (IntKind.i64.wrap ((↑was6.length : Int) + 1) < (↑(a4.length - a1) : Int)))
                 (cond (a4.getD (a1 + (IntKind.i64.wrap ((↑was6.length : Int) + 1)).toNat) 0 != 202)
                  (κ (AV.bool false) ([Blk.row IntKind.u8 a3 a4]))
                  (cond a3
                   (none)
                   (cond (decide (0 ≤ IntKind.i64.wrap ((↑was6.length : Int) + 2)))
                    (cond (decide (IntKind.i64.wrap ((↑was6.length : Int) + 2) < (↑(a4.length - a1) : Int)))
                     (cond (a4.getD (a1 + (IntKind.i64.wrap ((↑was6.length : Int) + 2)).toNat) 0 != 203)
                      (κ (AV.bool false) ([Blk.row IntKind.u8 a3 a4]))
                      (cond a3
                       (none)
                       (cond (decide (0 ≤ IntKind.i64.wrap ((↑was6.length : Int) + 3)))
                        (cond (decide (IntKind.i64.wrap ((↑was6.length : Int) + 3) < (↑(a4.length - a1) : Int)))
                         (cond (a4.getD (a1 + (IntKind.i64.wrap ((↑was6.length : Int) + 3)).toNat) 0 != 204)
                          (κ (AV.bool false) ([Blk.row IntKind.u8 a3 a4]))
                          (cond a3
                           (none)
                           (cond (decide (0 ≤ IntKind.i64.wrap ((↑was6.length : Int) + 4)))
                            (cond (decide (IntKind.i64.wrap ((↑was6.length : Int) + 4) < (↑(a4.length - a1) : Int)))
                             (cond (a4.getD (a1 + (IntKind.i64.wrap ((↑was6.length : Int) + 4)).toNat) 0 != 205)
                              (κ (AV.bool false) ([Blk.row IntKind.u8 a3 a4]))
                              (cond a3
                               (none)
                               (cond (decide (0 ≤ IntKind.i64.wrap ((↑was6.length : Int) + 5)))
                                (cond (decide (IntKind.i64.wrap ((↑was6.length : Int) + 5) < (↑(a4.length - a1) : Int)))
                                 (cond (a4.getD (a1 + (IntKind.i64.wrap ((↑was6.length : Int) + 5)).toNat) 0 != 206)
                                  (κ (AV.bool false) ([Blk.row IntKind.u8 a3 a4]))
                                  (κ (AV.bool true) ([Blk.row IntKind.u8 a3 a4])))
                                 (none))
                                (none))))
                             (none))
                            (none))))
                         (none))
                        (none))))
                     (none))
                    (none))))
                 (none))
                (none))))
             (none))
            (none))))
         (none)))
       (none))))
    (none)) := by kernel_rfl
theorem eq {R : Type} (N : Nat) (κ : AV → List Blk → Option R) (a1 : Nat) (a2 : Option Nat) (a3 : Bool) (a4 : List Int) (wasN5 : Option Bool) (was6 : List Int) : evF (g) an N Tryd.f26 [AV.own 0 [] a1 a2, AV.isl IntKind.u8 wasN5 was6] [Blk.row IntKind.u8 a3 a4] κ =
  m N a1 a2 a3 a4 wasN5 was6 (fun v b b_2 => κ (AV.bool v) ([Blk.row IntKind.u8 b b_2])) := by
  rw [tree]
  kernel_rfl
abbrev Ty : Type 1 := ∀ R : Type, Nat → (Option Nat) → Bool → (List Int) → (Option Bool) → (List Int) → (Bool → Bool → (List Int) → Option R) → Option R
def con (f : Ty) : Con := fun R args bs κ => match args, bs with
  | [AV.own 0 [] a1 a2, AV.isl IntKind.u8 wasN5 was6], [Blk.row IntKind.u8 a3 a4] => f R a1 a2 a3 a4 wasN5 was6 (fun v b b_2 => κ (AV.bool v) ([Blk.row IntKind.u8 b b_2]))
  | _, _ => none
theorem con_eq (f : Ty) (R : Type) (κ : AV → List Blk → Option R) (a1 : Nat) (a2 : Option Nat) (a3 : Bool) (a4 : List Int) (wasN5 : Option Bool) (was6 : List Int) : con f R [AV.own 0 [] a1 a2, AV.isl IntKind.u8 wasN5 was6] [Blk.row IntKind.u8 a3 a4] κ = f R a1 a2 a3 a4 wasN5 was6 (fun v b b_2 => κ (AV.bool v) ([Blk.row IntKind.u8 b b_2])) := rfl
noncomputable def M (N : Nat) : Ty := fun R a1 a2 a3 a4 wasN5 was6 kr0 => m (R := R) N a1 a2 a3 a4 wasN5 was6 kr0
def gts : List (Nat × AV) := []
theorem gok (_N : Nat) : GOk (g) := giD_ok hm (by intro p hp; cases hp) (gtL_ok (by decide)) (ovL_ok (by intro p hp; cases hp)) 1
theorem ok (N : Nat) : SoundC Tryd.prog (gtL gts) 26 (con (M N)) := by
  refine SoundC.mono (evF_ok (gok N) hm an N Tryd.func26) fun R args bs κ r h => ?_
  unfold con at h
  split at h
  · exact (eq N κ _ _ _ _ _ _).trans h
  · cases h
end Kept


/-! ### Tryd.f21: wMix -/
namespace wMix
def an : Anns := ⟨fun i => findA i [(5, ⟨[1, 6, 17, 18], [⟨6, 0, .u8⟩], 1⟩)], fun i => findA i [], true, fun _ => none⟩
noncomputable def g (mClone : Clone.Ty) : Gi := giD Tryd.prog (gtL [(0, .err 4)]) (fun _ => an) 0 [] (ovL [(58, Clone.con mClone)]) 1
noncomputable def c_L5 : Code := loopOf Tryd.f21 0
def s_L5 (b1 : Option Bool) (b1_1 : List Int) (t17 : Int) (t18 : Int) (h0 : Bool) (h0_5 : List Int) : St := ⟨[AV.dead, AV.isl IntKind.u8 b1 b1_1] ++ List.replicate 4 .dead ++ [AV.own 0 [] 0 none] ++ List.replicate 10 .dead ++ [AV.int IntKind.i64 t17, AV.int IntKind.i64 t18] ++ List.replicate 14 .dead, [Blk.row IntKind.u8 h0 h0_5]⟩
def x_L5_0 (b1 : Option Bool) (b1_1 : List Int) (t17 : Int) (t18 : Int) (h0 : Bool) (h0_5 : List Int) : St := ⟨[AV.dead, AV.isl IntKind.u8 b1 b1_1] ++ List.replicate 4 .dead ++ [AV.own 0 [] 0 none] ++ List.replicate 10 .dead ++ [AV.int IntKind.i64 t17, AV.int IntKind.i64 t18, AV.bool (decide (t18 < t17))] ++ List.replicate 13 .dead, [Blk.row IntKind.u8 h0 h0_5]⟩
noncomputable def L5 (mClone : Clone.Ty) {R : Type} (N : Nat) (ke0 : (Option Bool) → (List Int) → Int → Int → Bool → (List Int) → Option R) : Nat → (Option Bool) → (List Int) → Int → Int → Bool → (List Int) → Option R
  | 0, _, _, _, _, _, _ => none
  | m + 1, b1, b1_1, t17, t18, h0, h0_5 =>
    cond (decide (t18 < t17))
     (cond (decide (0 ≤ t18))
      (cond (decide (t18 < (↑(olen none h0_5.length 0) : Int)))
       (cond (decide (0 ≤ t18))
        (cond (decide (t18 < (↑b1_1.length : Int)))
         (cond (decide (0 ≤ t18))
          (cond (decide (t18 < (↑(olen none h0_5.length 0) : Int)))
           (L5 mClone N ke0 m b1 b1_1 t17 (IntKind.i64.wrap (t18 + 1)) h0 (h0_5.set (0 + t18.toNat) (ixor IntKind.u8 (h0_5.getD (0 + t18.toNat) 0) (b1_1.getD t18.toNat 0))))
           (none))
          (none))
         (none))
        (none))
       (none))
      (none))
     (ke0 b1 b1_1 t17 t18 h0 h0_5)
theorem round_L5 (mClone : Clone.Ty) {R : Type} (N : Nat) (Rn : St → Option R) (k : K R) (b1 : Option Bool) (b1_1 : List Int) (t17 : Int) (t18 : Int) (h0 : Bool) (h0_5 : List Int) : evC (g mClone) an 0 N c_L5 none (roundK (nmOf 0 (an.loop 5)) Rn k) (s_L5 b1 b1_1 t17 t18 h0 h0_5) =
  cond (decide (t18 < t17))
   (cond (decide (0 ≤ t18))
    (cond (decide (t18 < (↑(olen none h0_5.length 0) : Int)))
     (cond (decide (0 ≤ t18))
      (cond (decide (t18 < (↑b1_1.length : Int)))
       (cond (decide (0 ≤ t18))
        (cond (decide (t18 < (↑(olen none h0_5.length 0) : Int)))
         (Rn (s_L5 b1 b1_1 t17 (IntKind.i64.wrap (t18 + 1)) h0 (h0_5.set (0 + t18.toNat) (ixor IntKind.u8 (h0_5.getD (0 + t18.toNat) 0) (b1_1.getD t18.toNat 0)))))
         (none))
        (none))
       (none))
      (none))
     (none))
    (none))
   (k.ext 0 (x_L5_0 b1 b1_1 t17 t18 h0 h0_5)) := by kernel_rfl
theorem run_L5 (mClone : Clone.Ty) {R : Type} (N : Nat) (k : K R) : ∀ (m : Nat) (b1 : Option Bool) (b1_1 : List Int) (t17 : Int) (t18 : Int) (h0 : Bool) (h0_5 : List Int), loopN (evC (g mClone) an 0 N c_L5 none) k (nmOf 0 (an.loop 5)) m (s_L5 b1 b1_1 t17 t18 h0 h0_5) =
    L5 mClone N (fun b1 b1_1 t17 t18 h0 h0_5 => (k).ext 0 (x_L5_0 b1 b1_1 t17 t18 h0 h0_5)) m b1 b1_1 t17 t18 h0 h0_5 := by
  intro m
  induction m with
  | zero => intros; rfl
  | succ m ih =>
    intros
    rw [loopN_succ, round_L5]
    simp only [ih]
    kernel_rfl
noncomputable def m (mClone : Clone.Ty) {R : Type} (N : Nat) (_aN1 : Option Bool) (a2 : List Int) (bN3 : Option Bool) (b4 : List Int) (kr0 : Option R) (kr1 : Bool → (List Int) → Option R) : Option R :=
  cond ((↑a2.length : Int) != (↑b4.length : Int))
   (kr0)
   (mClone R a2
    (L5 mClone N
     (fun _b1_c6 _b1_1_c7 _t17_c8 _t18_c9 h0_c10 h0_5_c11 => kr1 h0_c10 h0_5_c11) N bN3 b4 ((↑(olen none a2.length 0) : Int)) 0 a2.isEmpty a2))
theorem tree (mClone : Clone.Ty) {R : Type} (N : Nat) (κ : AV → List Blk → Option R) (aN1 : Option Bool) (a2 : List Int) (bN3 : Option Bool) (b4 : List Int) : evF (g mClone) an N Tryd.f21 [AV.isl IntKind.u8 aN1 a2, AV.isl IntKind.u8 bN3 b4] [] κ =
  cond ((↑a2.length : Int) != (↑b4.length : Int))
   (κ (AV.tup [AV.nils, AV.err 4]) [])
   (mClone R a2
    (loopN (evC (g mClone) an 0 N c_L5 none) (ctx (g mClone) an 0 N (bodyOf Tryd.f21) [1, 1, 1, 0, 1, 0] (endK (g mClone) an Tryd.f21 [] κ)) (nmOf 0 (an.loop 5)) N (s_L5 bN3 b4 ((↑(olen none a2.length 0) : Int)) 0 a2.isEmpty a2))) := by kernel_rfl
theorem eq (mClone : Clone.Ty) {R : Type} (N : Nat) (κ : AV → List Blk → Option R) (aN1 : Option Bool) (a2 : List Int) (bN3 : Option Bool) (b4 : List Int) : evF (g mClone) an N Tryd.f21 [AV.isl IntKind.u8 aN1 a2, AV.isl IntKind.u8 bN3 b4] [] κ =
  m mClone N aN1 a2 bN3 b4 (κ (AV.tup [AV.nils, AV.err 4]) []) (fun b b_1 => κ (AV.tup [AV.own 0 [] 0 none, AV.err 0]) ([Blk.row IntKind.u8 b b_1])) := by
  rw [tree]
  simp only [run_L5]
  kernel_rfl
abbrev Ty : Type 1 := ∀ R : Type, (Option Bool) → (List Int) → (Option Bool) → (List Int) → Option R → (Bool → (List Int) → Option R) → Option R
def con (f : Ty) : Con := fun R args bs κ => match args, bs with
  | [AV.isl IntKind.u8 aN1 a2, AV.isl IntKind.u8 bN3 b4], [] => f R aN1 a2 bN3 b4 (κ (AV.tup [AV.nils, AV.err 4]) []) (fun b b_1 => κ (AV.tup [AV.own 0 [] 0 none, AV.err 0]) ([Blk.row IntKind.u8 b b_1]))
  | _, _ => none
theorem con_eq (f : Ty) (R : Type) (κ : AV → List Blk → Option R) (aN1 : Option Bool) (a2 : List Int) (bN3 : Option Bool) (b4 : List Int) : con f R [AV.isl IntKind.u8 aN1 a2, AV.isl IntKind.u8 bN3 b4] [] κ = f R aN1 a2 bN3 b4 (κ (AV.tup [AV.nils, AV.err 4]) []) (fun b b_1 => κ (AV.tup [AV.own 0 [] 0 none, AV.err 0]) ([Blk.row IntKind.u8 b b_1])) := rfl
noncomputable def M (N : Nat) : Ty := fun R aN1 a2 bN3 b4 kr0 kr1 => m (Clone.M N) (R := R) N aN1 a2 bN3 b4 kr0 kr1
def gts : List (Nat × AV) := [(0, .err 4)]
theorem gok (N : Nat) : GOk (g (Clone.M N)) := giD_ok hm (by intro p hp; cases hp) (gtL_ok (by decide)) (ovL_ok (by
    intro p hp
    simp only [List.mem_cons, List.not_mem_nil, or_false] at hp
    rcases hp with rfl
    · exact ⟨(Clone.ok N).gt (gtL_sub (by repeat (first | exact subG_nil _ | refine subG_cons (by kernel_rfl) ?_))) (gtL_ok (by decide)), _, Tryd.func58, by kernel_rfl, by kernel_rfl⟩
)) 1
theorem ok (N : Nat) : SoundC Tryd.prog (gtL gts) 21 (con (M N)) := by
  refine SoundC.mono (evF_ok (gok N) hm an N Tryd.func21) fun R args bs κ r h => ?_
  unfold con at h
  split at h
  · exact (eq (Clone.M N) N κ _ _ _ _).trans h
  · cases h
end wMix


/-! ### Tryd.f22: wEqual -/
namespace wEqual
def an : Anns := ⟨fun i => findA i [(5, ⟨[0, 1, 5, 13, 14], [], 0⟩)], fun i => findA i [], false, fun _ => none⟩
noncomputable def g : Gi := giD Tryd.prog (gtL []) (fun _ => an) 0 [] (ovL []) 1
noncomputable def c_L5 : Code := loopOf Tryd.f22 0
def s_L5 (a0 : Option Bool) (a0_1 : List Int) (b1 : Option Bool) (b1_3 : List Int) (parts5 : Int) (t13 : Int) (t14 : Int) : St := ⟨[AV.isl IntKind.u8 a0 a0_1, AV.isl IntKind.u8 b1 b1_3, AV.dead, AV.dead, AV.dead, AV.int IntKind.u8 parts5] ++ List.replicate 7 .dead ++ [AV.int IntKind.i64 t13, AV.int IntKind.i64 t14] ++ List.replicate 16 .dead, []⟩
def x_L5_0 (a0 : Option Bool) (a0_1 : List Int) (b1 : Option Bool) (b1_3 : List Int) (parts5 : Int) (t13 : Int) (t14 : Int) : St := ⟨[AV.isl IntKind.u8 a0 a0_1, AV.isl IntKind.u8 b1 b1_3, AV.dead, AV.dead, AV.dead, AV.int IntKind.u8 parts5] ++ List.replicate 7 .dead ++ [AV.int IntKind.i64 t13, AV.int IntKind.i64 t14, AV.bool (decide (t14 < t13))] ++ List.replicate 15 .dead, []⟩
noncomputable def L5 {R : Type} (N : Nat) (ke0 : (Option Bool) → (List Int) → (Option Bool) → (List Int) → Int → Int → Int → Option R) : Nat → (Option Bool) → (List Int) → (Option Bool) → (List Int) → Int → Int → Int → Option R
  | 0, _, _, _, _, _, _, _ => none
  | m + 1, a0, a0_1, b1, b1_3, parts5, t13, t14 =>
    cond (decide (t14 < t13))
     (cond (decide (0 ≤ t14))
      (cond (decide (t14 < (↑a0_1.length : Int)))
       (cond (decide (0 ≤ t14))
        (cond (decide (t14 < (↑b1_3.length : Int)))
         (L5 N ke0 m a0 a0_1 b1 b1_3 (ior IntKind.u8 parts5 (ixor IntKind.u8 (a0_1.getD t14.toNat 0) (b1_3.getD t14.toNat 0))) t13 (IntKind.i64.wrap (t14 + 1)))
         (none))
        (none))
       (none))
      (none))
     (ke0 a0 a0_1 b1 b1_3 parts5 t13 t14)
theorem round_L5 {R : Type} (N : Nat) (Rn : St → Option R) (k : K R) (a0 : Option Bool) (a0_1 : List Int) (b1 : Option Bool) (b1_3 : List Int) (parts5 : Int) (t13 : Int) (t14 : Int) : evC (g) an 0 N c_L5 none (roundK (nmOf 0 (an.loop 5)) Rn k) (s_L5 a0 a0_1 b1 b1_3 parts5 t13 t14) =
  cond (decide (t14 < t13))
   (cond (decide (0 ≤ t14))
    (cond (decide (t14 < (↑a0_1.length : Int)))
     (cond (decide (0 ≤ t14))
      (cond (decide (t14 < (↑b1_3.length : Int)))
       (Rn (s_L5 a0 a0_1 b1 b1_3 (ior IntKind.u8 parts5 (ixor IntKind.u8 (a0_1.getD t14.toNat 0) (b1_3.getD t14.toNat 0))) t13 (IntKind.i64.wrap (t14 + 1))))
       (none))
      (none))
     (none))
    (none))
   (k.ext 0 (x_L5_0 a0 a0_1 b1 b1_3 parts5 t13 t14)) := by kernel_rfl
theorem run_L5 {R : Type} (N : Nat) (k : K R) : ∀ (m : Nat) (a0 : Option Bool) (a0_1 : List Int) (b1 : Option Bool) (b1_3 : List Int) (parts5 : Int) (t13 : Int) (t14 : Int), loopN (evC (g) an 0 N c_L5 none) k (nmOf 0 (an.loop 5)) m (s_L5 a0 a0_1 b1 b1_3 parts5 t13 t14) =
    L5 N (fun a0 a0_1 b1 b1_3 parts5 t13 t14 => (k).ext 0 (x_L5_0 a0 a0_1 b1 b1_3 parts5 t13 t14)) m a0 a0_1 b1 b1_3 parts5 t13 t14 := by
  intro m
  induction m with
  | zero => intros; rfl
  | succ m ih =>
    intros
    rw [loopN_succ, round_L5]
    simp only [ih]
    kernel_rfl
noncomputable def m {R : Type} (N : Nat) (aN1 : Option Bool) (a2 : List Int) (bN3 : Option Bool) (b4 : List Int) (kr0 : Bool → Option R) : Option R :=
  cond ((↑a2.length : Int) != (↑b4.length : Int))
   (kr0 false)
   (L5 N
    (fun _a0_c7 _a0_1_c8 _b1_c9 _b1_3_c10 parts5_c11 _t13_c12 _t14_c13 => kr0 (parts5_c11 == 0)) N aN1 a2 bN3 b4 0 ((↑a2.length : Int)) 0)
theorem tree {R : Type} (N : Nat) (κ : AV → List Blk → Option R) (aN1 : Option Bool) (a2 : List Int) (bN3 : Option Bool) (b4 : List Int) : evF (g) an N Tryd.f22 [AV.isl IntKind.u8 aN1 a2, AV.isl IntKind.u8 bN3 b4] [] κ =
  cond ((↑a2.length : Int) != (↑b4.length : Int))
   (κ (AV.bool false) [])
   (loopN (evC (g) an 0 N c_L5 none) (ctx (g) an 0 N (bodyOf Tryd.f22) [1, 1, 1, 0, 1, 0] (endK (g) an Tryd.f22 [] κ)) (nmOf 0 (an.loop 5)) N (s_L5 aN1 a2 bN3 b4 0 ((↑a2.length : Int)) 0)) := by kernel_rfl
theorem eq {R : Type} (N : Nat) (κ : AV → List Blk → Option R) (aN1 : Option Bool) (a2 : List Int) (bN3 : Option Bool) (b4 : List Int) : evF (g) an N Tryd.f22 [AV.isl IntKind.u8 aN1 a2, AV.isl IntKind.u8 bN3 b4] [] κ =
  m N aN1 a2 bN3 b4 (fun v => κ (AV.bool v) []) := by
  rw [tree]
  simp only [run_L5]
  kernel_rfl
abbrev Ty : Type 1 := ∀ R : Type, (Option Bool) → (List Int) → (Option Bool) → (List Int) → (Bool → Option R) → Option R
def con (f : Ty) : Con := fun R args bs κ => match args, bs with
  | [AV.isl IntKind.u8 aN1 a2, AV.isl IntKind.u8 bN3 b4], [] => f R aN1 a2 bN3 b4 (fun v => κ (AV.bool v) [])
  | _, _ => none
theorem con_eq (f : Ty) (R : Type) (κ : AV → List Blk → Option R) (aN1 : Option Bool) (a2 : List Int) (bN3 : Option Bool) (b4 : List Int) : con f R [AV.isl IntKind.u8 aN1 a2, AV.isl IntKind.u8 bN3 b4] [] κ = f R aN1 a2 bN3 b4 (fun v => κ (AV.bool v) []) := rfl
noncomputable def M (N : Nat) : Ty := fun R aN1 a2 bN3 b4 kr0 => m (R := R) N aN1 a2 bN3 b4 kr0
def gts : List (Nat × AV) := []
theorem gok (_N : Nat) : GOk (g) := giD_ok hm (by intro p hp; cases hp) (gtL_ok (by decide)) (ovL_ok (by intro p hp; cases hp)) 1
theorem ok (N : Nat) : SoundC Tryd.prog (gtL gts) 22 (con (M N)) := by
  refine SoundC.mono (evF_ok (gok N) hm an N Tryd.func22) fun R args bs κ r h => ?_
  unfold con at h
  split at h
  · exact (eq N κ _ _ _ _).trans h
  · cases h
end wEqual


/-! ### Tryd.f23: wZero -/
namespace wZero
def an : Anns := ⟨fun i => findA i [(3, ⟨[3, 6, 7, 8], [], 0⟩)], fun i => findA i [], false, fun _ => none⟩
noncomputable def g : Gi := giD Tryd.prog (gtL []) (fun _ => an) 0 [] (ovL []) 1
noncomputable def c_L3 : Code := loopOf Tryd.f23 0
def s_L3 (all3 : Int) (t6 : Option Bool) (t6_2 : List Int) (t7 : Int) (t8 : Int) : St := ⟨[AV.dead, AV.dead, AV.dead, AV.int IntKind.u8 all3, AV.dead, AV.dead, AV.isl IntKind.u8 t6 t6_2, AV.int IntKind.i64 t7, AV.int IntKind.i64 t8] ++ List.replicate 9 .dead, []⟩
def x_L3_0 (all3 : Int) (t6 : Option Bool) (t6_2 : List Int) (t7 : Int) (t8 : Int) : St := ⟨[AV.dead, AV.dead, AV.dead, AV.int IntKind.u8 all3, AV.dead, AV.dead, AV.isl IntKind.u8 t6 t6_2, AV.int IntKind.i64 t7, AV.int IntKind.i64 t8, AV.bool (decide (t8 < t7))] ++ List.replicate 8 .dead, []⟩
noncomputable def L3 {R : Type} (N : Nat) (ke0 : Int → (Option Bool) → (List Int) → Int → Int → Option R) : Nat → Int → (Option Bool) → (List Int) → Int → Int → Option R
  | 0, _, _, _, _, _ => none
  | m + 1, all3, t6, t6_2, t7, t8 =>
    cond (decide (t8 < t7))
     (cond (decide (0 ≤ t8))
      (cond (decide (t8 < (↑t6_2.length : Int)))
       (L3 N ke0 m (ior IntKind.u8 all3 (t6_2.getD t8.toNat 0)) t6 t6_2 t7 (IntKind.i64.wrap (t8 + 1)))
       (none))
      (none))
     (ke0 all3 t6 t6_2 t7 t8)
theorem round_L3 {R : Type} (N : Nat) (Rn : St → Option R) (k : K R) (all3 : Int) (t6 : Option Bool) (t6_2 : List Int) (t7 : Int) (t8 : Int) : evC (g) an 0 N c_L3 none (roundK (nmOf 0 (an.loop 3)) Rn k) (s_L3 all3 t6 t6_2 t7 t8) =
  cond (decide (t8 < t7))
   (cond (decide (0 ≤ t8))
    (cond (decide (t8 < (↑t6_2.length : Int)))
     (Rn (s_L3 (ior IntKind.u8 all3 (t6_2.getD t8.toNat 0)) t6 t6_2 t7 (IntKind.i64.wrap (t8 + 1))))
     (none))
    (none))
   (k.ext 0 (x_L3_0 all3 t6 t6_2 t7 t8)) := by kernel_rfl
theorem run_L3 {R : Type} (N : Nat) (k : K R) : ∀ (m : Nat) (all3 : Int) (t6 : Option Bool) (t6_2 : List Int) (t7 : Int) (t8 : Int), loopN (evC (g) an 0 N c_L3 none) k (nmOf 0 (an.loop 3)) m (s_L3 all3 t6 t6_2 t7 t8) =
    L3 N (fun all3 t6 t6_2 t7 t8 => (k).ext 0 (x_L3_0 all3 t6 t6_2 t7 t8)) m all3 t6 t6_2 t7 t8 := by
  intro m
  induction m with
  | zero => intros; rfl
  | succ m ih =>
    intros
    rw [loopN_succ, round_L3]
    simp only [ih]
    kernel_rfl
noncomputable def m {R : Type} (N : Nat) (bN1 : Option Bool) (b2 : List Int) (kr0 : Bool → Option R) : Option R :=
  L3 N
   (fun all3_c5 _t6_c6 _t6_2_c7 _t7_c8 _t8_c9 => kr0 (all3_c5 == 0)) N 0 bN1 b2 ((↑b2.length : Int)) 0
theorem tree {R : Type} (N : Nat) (κ : AV → List Blk → Option R) (bN1 : Option Bool) (b2 : List Int) : evF (g) an N Tryd.f23 [AV.isl IntKind.u8 bN1 b2] [] κ =
  loopN (evC (g) an 0 N c_L3 none) (ctx (g) an 0 N (bodyOf Tryd.f23) [1, 1, 0, 1, 0] (endK (g) an Tryd.f23 [] κ)) (nmOf 0 (an.loop 3)) N (s_L3 0 bN1 b2 ((↑b2.length : Int)) 0) := by kernel_rfl
theorem eq {R : Type} (N : Nat) (κ : AV → List Blk → Option R) (bN1 : Option Bool) (b2 : List Int) : evF (g) an N Tryd.f23 [AV.isl IntKind.u8 bN1 b2] [] κ =
  m N bN1 b2 (fun v => κ (AV.bool v) []) := by
  rw [tree]
  simp only [run_L3]
  kernel_rfl
abbrev Ty : Type 1 := ∀ R : Type, (Option Bool) → (List Int) → (Bool → Option R) → Option R
def con (f : Ty) : Con := fun R args bs κ => match args, bs with
  | [AV.isl IntKind.u8 bN1 b2], [] => f R bN1 b2 (fun v => κ (AV.bool v) [])
  | _, _ => none
theorem con_eq (f : Ty) (R : Type) (κ : AV → List Blk → Option R) (bN1 : Option Bool) (b2 : List Int) : con f R [AV.isl IntKind.u8 bN1 b2] [] κ = f R bN1 b2 (fun v => κ (AV.bool v) []) := rfl
noncomputable def M (N : Nat) : Ty := fun R bN1 b2 kr0 => m (R := R) N bN1 b2 kr0
def gts : List (Nat × AV) := []
theorem gok (_N : Nat) : GOk (g) := giD_ok hm (by intro p hp; cases hp) (gtL_ok (by decide)) (ovL_ok (by intro p hp; cases hp)) 1
theorem ok (N : Nat) : SoundC Tryd.prog (gtL gts) 23 (con (M N)) := by
  refine SoundC.mono (evF_ok (gok N) hm an N Tryd.func23) fun R args bs κ r h => ?_
  unfold con at h
  split at h
  · exact (eq N κ _ _).trans h
  · cases h
end wZero


/-! ### Tryd.f25: rMix -/
namespace rMix
def an : Anns := ⟨fun i => findA i [(3, ⟨[1, 5, 9, 10, 11], [⟨5, 0, .u8⟩], 1⟩)], fun i => findA i [], true, fun _ => none⟩
noncomputable def g : Gi := giD Tryd.prog (gtL []) (fun _ => an) 0 [] (ovL []) 1
noncomputable def c_L3 : Code := loopOf Tryd.f25 0
def s_L3 (b1 : Option Bool) (b1_1 : List Int) (t9 : Option Bool) (t9_3 : List Int) (t10 : Int) (t11 : Int) (h0 : List Int) : St := ⟨[AV.dead, AV.isl IntKind.u8 b1 b1_1, AV.dead, AV.dead, AV.dead, AV.own 0 [] 0 none, AV.dead, AV.dead, AV.dead, AV.isl IntKind.u8 t9 t9_3, AV.int IntKind.i64 t10, AV.int IntKind.i64 t11] ++ List.replicate 15 .dead, [Blk.row IntKind.u8 false h0]⟩
def x_L3_0 (b1 : Option Bool) (b1_1 : List Int) (t9 : Option Bool) (t9_3 : List Int) (t10 : Int) (t11 : Int) (h0 : List Int) : St := ⟨[AV.dead, AV.isl IntKind.u8 b1 b1_1, AV.dead, AV.dead, AV.dead, AV.own 0 [] 0 none, AV.dead, AV.dead, AV.dead, AV.isl IntKind.u8 t9 t9_3, AV.int IntKind.i64 t10, AV.int IntKind.i64 t11, AV.bool (decide (t11 < t10))] ++ List.replicate 14 .dead, [Blk.row IntKind.u8 false h0]⟩
noncomputable def L3 {R : Type} (N : Nat) (ke0 : (Option Bool) → (List Int) → (Option Bool) → (List Int) → Int → Int → (List Int) → Option R) : Nat → (Option Bool) → (List Int) → (Option Bool) → (List Int) → Int → Int → (List Int) → Option R
  | 0, _, _, _, _, _, _, _ => none
  | m + 1, b1, b1_1, t9, t9_3, t10, t11, h0 =>
    cond (decide (t11 < t10))
     (cond (decide (0 ≤ t11))
      (cond (decide (t11 < (↑t9_3.length : Int)))
       (cond (decide (0 ≤ t11))
        (cond (decide (t11 < (↑b1_1.length : Int)))
         (cond (decide ((h0.length + 1) * 1 ≤ 140737488355328))
          (cond (decide (h0.length + 1 ≤ 140737488355328))
           (L3 N ke0 m b1 b1_1 t9 t9_3 t10 (IntKind.i64.wrap (t11 + 1)) (h0 ++ [ixor IntKind.u8 (t9_3.getD t11.toNat 0) (b1_1.getD t11.toNat 0)]))
           (none))
          (none))
         (none))
        (none))
       (none))
      (none))
     (ke0 b1 b1_1 t9 t9_3 t10 t11 h0)
theorem round_L3 {R : Type} (N : Nat) (Rn : St → Option R) (k : K R) (b1 : Option Bool) (b1_1 : List Int) (t9 : Option Bool) (t9_3 : List Int) (t10 : Int) (t11 : Int) (h0 : List Int) : evC (g) an 0 N c_L3 none (roundK (nmOf 0 (an.loop 3)) Rn k) (s_L3 b1 b1_1 t9 t9_3 t10 t11 h0) =
  cond (decide (t11 < t10))
   (cond (decide (0 ≤ t11))
    (cond (decide (t11 < (↑t9_3.length : Int)))
     (cond (decide (0 ≤ t11))
      (cond (decide (t11 < (↑b1_1.length : Int)))
       (cond (decide ((h0.length + 1) * 1 ≤ 140737488355328))
        (cond (decide (h0.length + 1 ≤ 140737488355328))
         (Rn (s_L3 b1 b1_1 t9 t9_3 t10 (IntKind.i64.wrap (t11 + 1)) (h0 ++ [ixor IntKind.u8 (t9_3.getD t11.toNat 0) (b1_1.getD t11.toNat 0)])))
         (none))
        (none))
       (none))
      (none))
     (none))
    (none))
   (k.ext 0 (x_L3_0 b1 b1_1 t9 t9_3 t10 t11 h0)) := by kernel_rfl
theorem run_L3 {R : Type} (N : Nat) (k : K R) : ∀ (m : Nat) (b1 : Option Bool) (b1_1 : List Int) (t9 : Option Bool) (t9_3 : List Int) (t10 : Int) (t11 : Int) (h0 : List Int), loopN (evC (g) an 0 N c_L3 none) k (nmOf 0 (an.loop 3)) m (s_L3 b1 b1_1 t9 t9_3 t10 t11 h0) =
    L3 N (fun b1 b1_1 t9 t9_3 t10 t11 h0 => (k).ext 0 (x_L3_0 b1 b1_1 t9 t9_3 t10 t11 h0)) m b1 b1_1 t9 t9_3 t10 t11 h0 := by
  intro m
  induction m with
  | zero => intros; rfl
  | succ m ih =>
    intros
    rw [loopN_succ, round_L3]
    simp only [ih]
    kernel_rfl
noncomputable def m {R : Type} (N : Nat) (aN1 : Option Bool) (a2 : List Int) (bN3 : Option Bool) (b4 : List Int) (kr0 : (List Int) → Option R) : Option R :=
  L3 N
   (fun _b1_c7 _b1_1_c8 _t9_c9 _t9_3_c10 _t10_c11 _t11_c12 h0_c13 => kr0 h0_c13) N bN3 b4 aN1 a2 ((↑a2.length : Int)) 0 []
theorem tree {R : Type} (N : Nat) (κ : AV → List Blk → Option R) (aN1 : Option Bool) (a2 : List Int) (bN3 : Option Bool) (b4 : List Int) : evF (g) an N Tryd.f25 [AV.isl IntKind.u8 aN1 a2, AV.isl IntKind.u8 bN3 b4] [] κ =
  loopN (evC (g) an 0 N c_L3 none) (ctx (g) an 0 N (bodyOf Tryd.f25) [1, 1, 0, 1, 0] (endK (g) an Tryd.f25 [] κ)) (nmOf 0 (an.loop 3)) N (s_L3 bN3 b4 aN1 a2 ((↑a2.length : Int)) 0 []) := by kernel_rfl
theorem eq {R : Type} (N : Nat) (κ : AV → List Blk → Option R) (aN1 : Option Bool) (a2 : List Int) (bN3 : Option Bool) (b4 : List Int) : evF (g) an N Tryd.f25 [AV.isl IntKind.u8 aN1 a2, AV.isl IntKind.u8 bN3 b4] [] κ =
  m N aN1 a2 bN3 b4 (fun b => κ (AV.own 0 [] 0 none) ([Blk.row IntKind.u8 false b])) := by
  rw [tree]
  simp only [run_L3]
  kernel_rfl
abbrev Ty : Type 1 := ∀ R : Type, (Option Bool) → (List Int) → (Option Bool) → (List Int) → ((List Int) → Option R) → Option R
def con (f : Ty) : Con := fun R args bs κ => match args, bs with
  | [AV.isl IntKind.u8 aN1 a2, AV.isl IntKind.u8 bN3 b4], [] => f R aN1 a2 bN3 b4 (fun b => κ (AV.own 0 [] 0 none) ([Blk.row IntKind.u8 false b]))
  | _, _ => none
theorem con_eq (f : Ty) (R : Type) (κ : AV → List Blk → Option R) (aN1 : Option Bool) (a2 : List Int) (bN3 : Option Bool) (b4 : List Int) : con f R [AV.isl IntKind.u8 aN1 a2, AV.isl IntKind.u8 bN3 b4] [] κ = f R aN1 a2 bN3 b4 (fun b => κ (AV.own 0 [] 0 none) ([Blk.row IntKind.u8 false b])) := rfl
noncomputable def M (N : Nat) : Ty := fun R aN1 a2 bN3 b4 kr0 => m (R := R) N aN1 a2 bN3 b4 kr0
def gts : List (Nat × AV) := []
theorem gok (_N : Nat) : GOk (g) := giD_ok hm (by intro p hp; cases hp) (gtL_ok (by decide)) (ovL_ok (by intro p hp; cases hp)) 1
theorem ok (N : Nat) : SoundC Tryd.prog (gtL gts) 25 (con (M N)) := by
  refine SoundC.mono (evF_ok (gok N) hm an N Tryd.func25) fun R args bs κ r h => ?_
  unfold con at h
  split at h
  · exact (eq N κ _ _ _ _).trans h
  · cases h
end rMix


/-! ### Tryd.f6: WordsRows -/
namespace WordsRows
def an : Anns := ⟨fun i => findA i [], fun i => findA i [], false, fun _ => none⟩
noncomputable def g (malive01 : alive01.Ty) (mBytes : Bytes.Ty) (mwMix : wMix.Ty) (mwEqual : wEqual.Ty) (mwZero : wZero.Ty) (mNum : Num.Ty) (mrMix : rMix.Ty) (mKept : Kept.Ty) : Gi := giW [26] (giD Tryd.prog (gtL [(0, .err 4), (1, .err 1), (2, .err 2), (3, .err 3), (4, .err 5), (5, .err 6), (6, .err 7), (7, .err 8), (8, .err 9), (9, .err 10), (10, .err 11), (11, .err 12), (12, .err 13), (13, .err 14), (14, .err 15), (15, .err 16), (16, .err 17), (17, .err 18), (18, .err 19)]) (fun _ => an) 0 [] (ovL [(13, alive01.con malive01), (20, Bytes.con mBytes), (21, wMix.con mwMix), (22, wEqual.con mwEqual), (23, wZero.con mwZero), (24, Num.con mNum), (25, rMix.con mrMix), (26, Kept.con mKept)]) 1)
noncomputable def m (malive01 : alive01.Ty) (mBytes : Bytes.Ty) (mwMix : wMix.Ty) (mwEqual : wEqual.Ty) (mwZero : wZero.Ty) (mNum : Num.Ty) (mrMix : rMix.Ty) (mKept : Kept.Ty) {R : Type} (_N : Nat) (aN1 : Option Bool) (a2 : List Int) (bN3 : Option Bool) (b4 : List Int) (kr0 : Bool → Option R) : Option R :=
  malive01 R
   (fun v_c2 => cond (!v_c2)
    (kr0 false)
    (cond (decide ((↑a2.length : Int) > 300))
     (kr0 true)
     (cond (decide ((↑b4.length : Int) > 300))
      (kr0 true)
      (mBytes R aN1 a2
       (fun v_c3 b_c4 => mBytes R bN3 b4
        (fun v_c5 b_c6 => mwMix R none (cut (some v_c3) 0 b_c4) none (cut (some v_c5) 0 b_c6)
         (mwEqual R none (cut (some v_c3) 0 b_c4) none (cut (some v_c5) 0 b_c6)
          (fun v_c7 => cond (!v_c7 == (toStr a2 == toStr b4))
           (kr0 false)
           (mwZero R none (cut (some v_c3) 0 b_c4)
            (fun v_c8 => cond (decide (0 ≤ IntKind.i64.wrap (↑a2.length : Int)))
             (cond (decide (IntKind.i64.wrap (↑a2.length : Int) ≤ IntKind.i64.wrap (↑a2.length : Int)))
              (cond (decide (1 * IntKind.i64.wrap (↑a2.length : Int) ≤ 140737488355328))
               (cond (!v_c8 == (toStr a2 == toStr (cut none 0 (List.replicate (IntKind.i64.wrap (↑a2.length : Int)).toNat (0 : Int)))))
                (kr0 false)
                (cond ((↑a2.length : Int) != (↑b4.length : Int))
                 (mNum R 4
                  (fun v_c9 => kr0 (v_c9 == 4)))
                 (mwMix R (some true) [] bN3 b4
                  (kr0 false)
                  (fun _b_c10 _b_1_c11 => kr0 false))))
               (none))
              (none))
             (none)))))
         (fun _b_c12 b_1_c13 => mwEqual R none (cut (some v_c3) 0 b_c4) none (cut (some v_c5) 0 b_c6)
          (fun v_c14 => cond (!v_c14 == (toStr a2 == toStr b4))
           (kr0 false)
           (mwZero R none (cut (some v_c3) 0 b_c4)
            (fun v_c15 => cond (decide (0 ≤ IntKind.i64.wrap (↑a2.length : Int)))
             (cond (decide (IntKind.i64.wrap (↑a2.length : Int) ≤ IntKind.i64.wrap (↑a2.length : Int)))
              (cond (decide (1 * IntKind.i64.wrap (↑a2.length : Int) ≤ 140737488355328))
               (cond (!v_c15 == (toStr a2 == toStr (cut none 0 (List.replicate (IntKind.i64.wrap (↑a2.length : Int)).toNat (0 : Int)))))
                (kr0 false)
                (cond ((↑a2.length : Int) != (↑b4.length : Int))
                 (cond ((↑(olen none b_1_c13.length 0) : Int) == 0)
                  (mNum R 0
                   (fun v_c16 => kr0 (v_c16 == 4)))
                  (kr0 false))
                 (mwMix R none b_1_c13 bN3 b4
                  (mrMix R aN1 a2 bN3 b4
                   (fun b_c17 => cond (toStr b_1_c13 == toStr b_c17)
                    (kr0 false)
                    (kr0 false)))
                  (fun _b_c18 b_1_c19 => mrMix R aN1 a2 bN3 b4
                   (fun b_c20 => cond (toStr b_1_c13 == toStr b_c20)
                    (cond (toStr b_1_c19 == toStr a2)
                     (mKept R 0 (some v_c3) false b_c4 aN1 a2
                      (fun _v_c21 b_c22 b_2_c23 => cond (true && false == b_c22 && b_2_c23.length.beq b_c4.length && true && true)
                       (none)
                       (none)))
                     (kr0 false))
                    (kr0 false))))))
               (none))
              (none))
             (none)))))))))))
theorem tree (malive01 : alive01.Ty) (mBytes : Bytes.Ty) (mwMix : wMix.Ty) (mwEqual : wEqual.Ty) (mwZero : wZero.Ty) (mNum : Num.Ty) (mrMix : rMix.Ty) (mKept : Kept.Ty) {R : Type} (N : Nat) (κ : AV → List Blk → Option R) (aN1 : Option Bool) (a2 : List Int) (bN3 : Option Bool) (b4 : List Int) : evF (g malive01 mBytes mwMix mwEqual mwZero mNum mrMix mKept) an N Tryd.f6 [AV.isl IntKind.u8 aN1 a2, AV.isl IntKind.u8 bN3 b4] [] κ =
  malive01 R
   (fun v_c2 => cond (!v_c2)
    (κ (AV.bool false) [])
    (cond (decide ((↑a2.length : Int) > 300))
     (κ (AV.bool true) [])
     (cond (decide ((↑b4.length : Int) > 300))
      (κ (AV.bool true) [])
      (mBytes R aN1 a2
       (fun v_c3 b_c4 => mBytes R bN3 b4
        (fun v_c5 b_c6 => mwMix R none (cut (some v_c3) 0 b_c4) none (cut (some v_c5) 0 b_c6)
         (mwEqual R none (cut (some v_c3) 0 b_c4) none (cut (some v_c5) 0 b_c6)
          (fun v_c7 => cond (!v_c7 == (toStr a2 == toStr b4))
           (κ (AV.bool false) [])
           (mwZero R none (cut (some v_c3) 0 b_c4)
            (fun v_c8 => cond (decide (0 ≤ IntKind.i64.wrap (↑a2.length : Int)))
             (cond (decide (IntKind.i64.wrap (↑a2.length : Int) ≤ IntKind.i64.wrap (↑a2.length : Int)))
              (cond (decide (1 * IntKind.i64.wrap (↑a2.length : Int) ≤ 140737488355328))
               (cond (!v_c8 == (toStr a2 == toStr (cut none 0 (List.replicate (IntKind.i64.wrap (↑a2.length : Int)).toNat (0 : Int)))))
                (κ (AV.bool false) [])
                (cond ((↑a2.length : Int) != (↑b4.length : Int))
                 (mNum R 4
                  (fun v_c9 => κ (AV.bool (v_c9 == 4)) []))
                 (mwMix R (some true) [] bN3 b4
                  (κ (AV.bool false) [])
                  (fun _b_c10 _b_1_c11 => κ (AV.bool false) []))))
               (none))
              (none))
             (none)))))
         (fun _b_c12 b_1_c13 => mwEqual R none (cut (some v_c3) 0 b_c4) none (cut (some v_c5) 0 b_c6)
          (fun v_c14 => cond (!v_c14 == (toStr a2 == toStr b4))
           (κ (AV.bool false) [])
           (mwZero R none (cut (some v_c3) 0 b_c4)
            (fun v_c15 => cond (decide (0 ≤ IntKind.i64.wrap (↑a2.length : Int)))
             (cond (decide (IntKind.i64.wrap (↑a2.length : Int) ≤ IntKind.i64.wrap (↑a2.length : Int)))
              (cond (decide (1 * IntKind.i64.wrap (↑a2.length : Int) ≤ 140737488355328))
               (cond (!v_c15 == (toStr a2 == toStr (cut none 0 (List.replicate (IntKind.i64.wrap (↑a2.length : Int)).toNat (0 : Int)))))
                (κ (AV.bool false) [])
                (cond ((↑a2.length : Int) != (↑b4.length : Int))
                 (cond ((↑(olen none b_1_c13.length 0) : Int) == 0)
                  (mNum R 0
                   (fun v_c16 => κ (AV.bool (v_c16 == 4)) []))
                  (κ (AV.bool false) []))
                 (mwMix R none b_1_c13 bN3 b4
                  (mrMix R aN1 a2 bN3 b4
                   (fun b_c17 => cond (toStr b_1_c13 == toStr b_c17)
                    (κ (AV.bool false) [])
                    (κ (AV.bool false) [])))
                  (fun _b_c18 b_1_c19 => mrMix R aN1 a2 bN3 b4
                   (fun b_c20 => cond (toStr b_1_c13 == toStr b_c20)
                    (cond (toStr b_1_c19 == toStr a2)
                     (mKept R 0 (some v_c3) false b_c4 aN1 a2
                      (fun _v_c21 b_c22 b_2_c23 => cond (true && false == b_c22 && b_2_c23.length.beq b_c4.length && true && true)
                       (none)
                       (none)))
                     (κ (AV.bool false) []))
                    (κ (AV.bool false) []))))))
               (none))
              (none))
             (none))))))))))) := by kernel_rfl
theorem eq (malive01 : alive01.Ty) (mBytes : Bytes.Ty) (mwMix : wMix.Ty) (mwEqual : wEqual.Ty) (mwZero : wZero.Ty) (mNum : Num.Ty) (mrMix : rMix.Ty) (mKept : Kept.Ty) {R : Type} (N : Nat) (κ : AV → List Blk → Option R) (aN1 : Option Bool) (a2 : List Int) (bN3 : Option Bool) (b4 : List Int) : evF (g malive01 mBytes mwMix mwEqual mwZero mNum mrMix mKept) an N Tryd.f6 [AV.isl IntKind.u8 aN1 a2, AV.isl IntKind.u8 bN3 b4] [] κ =
  m malive01 mBytes mwMix mwEqual mwZero mNum mrMix mKept N aN1 a2 bN3 b4 (fun v => κ (AV.bool v) []) := by
  rw [tree]
  kernel_rfl
abbrev Ty : Type 1 := ∀ R : Type, (Option Bool) → (List Int) → (Option Bool) → (List Int) → (Bool → Option R) → Option R
def con (f : Ty) : Con := fun R args bs κ => match args, bs with
  | [AV.isl IntKind.u8 aN1 a2, AV.isl IntKind.u8 bN3 b4], [] => f R aN1 a2 bN3 b4 (fun v => κ (AV.bool v) [])
  | _, _ => none
theorem con_eq (f : Ty) (R : Type) (κ : AV → List Blk → Option R) (aN1 : Option Bool) (a2 : List Int) (bN3 : Option Bool) (b4 : List Int) : con f R [AV.isl IntKind.u8 aN1 a2, AV.isl IntKind.u8 bN3 b4] [] κ = f R aN1 a2 bN3 b4 (fun v => κ (AV.bool v) []) := rfl
noncomputable def M (N : Nat) : Ty := fun R aN1 a2 bN3 b4 kr0 => m (alive01.M N) (Bytes.M N) (wMix.M N) (wEqual.M N) (wZero.M N) (Num.M N) (rMix.M N) (Kept.M N) (R := R) N aN1 a2 bN3 b4 kr0
def gts : List (Nat × AV) := [(0, .err 4), (1, .err 1), (2, .err 2), (3, .err 3), (4, .err 5), (5, .err 6), (6, .err 7), (7, .err 8), (8, .err 9), (9, .err 10), (10, .err 11), (11, .err 12), (12, .err 13), (13, .err 14), (14, .err 15), (15, .err 16), (16, .err 17), (17, .err 18), (18, .err 19)]
theorem gok (N : Nat) : GOk (g (alive01.M N) (Bytes.M N) (wMix.M N) (wEqual.M N) (wZero.M N) (Num.M N) (rMix.M N) (Kept.M N)) := giW_ok (giD_ok hm (by intro p hp; cases hp) (gtL_ok (by decide)) (ovL_ok (by
    intro p hp
    simp only [List.mem_cons, List.not_mem_nil, or_false] at hp
    rcases hp with rfl | rfl | rfl | rfl | rfl | rfl | rfl | rfl
    · exact ⟨(alive01.ok N).gt (gtL_sub (by repeat (first | exact subG_nil _ | refine subG_cons (by kernel_rfl) ?_))) (gtL_ok (by decide)), _, Tryd.func13, by kernel_rfl, by kernel_rfl⟩
    · exact ⟨(Bytes.ok N).gt (gtL_sub (by repeat (first | exact subG_nil _ | refine subG_cons (by kernel_rfl) ?_))) (gtL_ok (by decide)), _, Tryd.func20, by kernel_rfl, by kernel_rfl⟩
    · exact ⟨(wMix.ok N).gt (gtL_sub (by repeat (first | exact subG_nil _ | refine subG_cons (by kernel_rfl) ?_))) (gtL_ok (by decide)), _, Tryd.func21, by kernel_rfl, by kernel_rfl⟩
    · exact ⟨(wEqual.ok N).gt (gtL_sub (by repeat (first | exact subG_nil _ | refine subG_cons (by kernel_rfl) ?_))) (gtL_ok (by decide)), _, Tryd.func22, by kernel_rfl, by kernel_rfl⟩
    · exact ⟨(wZero.ok N).gt (gtL_sub (by repeat (first | exact subG_nil _ | refine subG_cons (by kernel_rfl) ?_))) (gtL_ok (by decide)), _, Tryd.func23, by kernel_rfl, by kernel_rfl⟩
    · exact ⟨(Num.ok N).gt (gtL_sub (by repeat (first | exact subG_nil _ | refine subG_cons (by kernel_rfl) ?_))) (gtL_ok (by decide)), _, Tryd.func24, by kernel_rfl, by kernel_rfl⟩
    · exact ⟨(rMix.ok N).gt (gtL_sub (by repeat (first | exact subG_nil _ | refine subG_cons (by kernel_rfl) ?_))) (gtL_ok (by decide)), _, Tryd.func25, by kernel_rfl, by kernel_rfl⟩
    · exact ⟨(Kept.ok N).gt (gtL_sub (by repeat (first | exact subG_nil _ | refine subG_cons (by kernel_rfl) ?_))) (gtL_ok (by decide)), _, Tryd.func26, by kernel_rfl, by kernel_rfl⟩
)) 1)
theorem ok (N : Nat) : SoundC Tryd.prog (gtL gts) 6 (con (M N)) := by
  refine SoundC.mono (evF_ok (gok N) hm an N Tryd.func6) fun R args bs κ r h => ?_
  unfold con at h
  split at h
  · exact (eq (alive01.M N) (Bytes.M N) (wMix.M N) (wEqual.M N) (wZero.M N) (Num.M N) (rMix.M N) (Kept.M N) N κ _ _ _ _).trans h
  · cases h
end WordsRows

end Go.Proofs.YtllnbcibleeogaaDoor.fn
