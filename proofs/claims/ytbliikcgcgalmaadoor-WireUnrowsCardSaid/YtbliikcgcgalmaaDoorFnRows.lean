/- What the rows' functions compute, with the proof; printed by a program. -/
import Derived.Test.YtbliikcgcgalmaaDoorProg
import Derived.Test.YtbliikcgcgalmaaDoorEv4
import Derived.Test.YtbliikcgcgalmaaDoorFnWords
namespace Go.Proofs.YtbliikcgcgalmaaDoor.fn
open Go Go.Proofs Go.Ev

/-! ### Tryd.f24: Bytes -/
namespace Bytes
def an : Anns := ⟨fun i => findA i [], fun i => findA i [], true, fun _ => none, []⟩
noncomputable def g : Gi := giD Tryd.prog (gtL []) (fun _ => an) 0 [] (ovL []) 1
noncomputable def m {R : Type} (_N : Nat) (_aN1 : Option Bool) (a2 : List Int) (kr0 : Nat → (List Int) → Option R) : Option R :=
  cond (decide (0 ≤ IntKind.i64.wrap (IntKind.i64.wrap ((↑a2.length : Int) + 6))))
   (cond (decide (1 * IntKind.i64.wrap (IntKind.i64.wrap ((↑a2.length : Int) + 6)) ≤ 140737488355328))
    (cond (decide ((0 + a2.length) * 1 ≤ 140737488355328))
     (cond (decide (0 + a2.length ≤ 140737488355328))
      (cond (decide ((a2.length + 6) * 1 ≤ 140737488355328))
       (cond (decide (a2.length + 6 ≤ 140737488355328))
        (cond (decide ((↑a2.length : Int) ≤ (↑(a2 ++ [201, 202, 203, 204, 205, 206]).length : Int)))
         (kr0 ((↑a2.length : Int).toNat) (a2 ++ [201, 202, 203, 204, 205, 206]))
         (none))
        (none))
       (none))
      (none))
     (none))
    (none))
   (none)
theorem tree {R : Type} (N : Nat) (κ : AV → List Blk → Option R) (aN1 : Option Bool) (a2 : List Int) : evF (g) an N Tryd.f24 [AV.isl IntKind.u8 aN1 a2] [] κ =
  cond (decide (0 ≤ IntKind.i64.wrap (IntKind.i64.wrap ((↑a2.length : Int) + 6))))
   (cond (decide (1 * IntKind.i64.wrap (IntKind.i64.wrap ((↑a2.length : Int) + 6)) ≤ 140737488355328))
    (cond (decide ((0 + a2.length) * 1 ≤ 140737488355328))
     (cond (decide (0 + a2.length ≤ 140737488355328))
      (cond (decide ((a2.length + 6) * 1 ≤ 140737488355328))
       (cond (decide (a2.length + 6 ≤ 140737488355328))
        (cond (decide ((↑a2.length : Int) ≤ (↑(a2 ++ [201, 202, 203, 204, 205, 206]).length : Int)))
         (κ (AV.own 0 [] 0 (some (↑a2.length : Int).toNat)) ([Blk.row IntKind.u8 false (a2 ++ [201, 202, 203, 204, 205, 206])]))
         (none))
        (none))
       (none))
      (none))
     (none))
    (none))
   (none) := by kernel_rfl
theorem eq {R : Type} (N : Nat) (κ : AV → List Blk → Option R) (aN1 : Option Bool) (a2 : List Int) : evF (g) an N Tryd.f24 [AV.isl IntKind.u8 aN1 a2] [] κ =
  m N aN1 a2 (fun v b => κ (AV.own 0 [] 0 (some v)) ([Blk.row IntKind.u8 false b])) := by
  rw [tree]
  kernel_rfl
abbrev Ty : Type 1 := ∀ R : Type, (Option Bool) → (List Int) → (Nat → (List Int) → Option R) → Option R
def con (f : Ty) : Con := fun R args bs κ => match args, bs with
  | [AV.isl IntKind.u8 aN1 a2], [] => f R aN1 a2 (fun v b => κ (AV.own 0 [] 0 (some v)) ([Blk.row IntKind.u8 false b]))
  | _, _ => none
theorem con_eq (f : Ty) (R : Type) (κ : AV → List Blk → Option R) (aN1 : Option Bool) (a2 : List Int) : con f R [AV.isl IntKind.u8 aN1 a2] [] κ = f R aN1 a2 (fun v b => κ (AV.own 0 [] 0 (some v)) ([Blk.row IntKind.u8 false b])) := rfl
noncomputable def M (N : Nat) : Ty := fun R aN1 a2 kr0 => m (R := R) N aN1 a2 kr0
def gts : List (Nat × AV) := []
theorem gok (_N : Nat) : GOk (g) := giD_ok hm (by intro p hp; cases hp) (gtL_ok (by decide)) (ovL_ok (by intro p hp; cases hp)) 1
theorem ok (N : Nat) : SoundC Tryd.prog (gtL gts) 24 (con (M N)) := by
  refine SoundC.mono (evF_ok (gok N) hm an N Tryd.func24) fun R args bs κ r h => ?_
  unfold con at h
  split at h
  · exact (eq N κ _ _).trans h
  · cases h
end Bytes


/-! ### Tryd.f26: Kept -/
namespace Kept
def an : Anns := ⟨fun i => findA i [], fun i => findA i [], false, fun _ => some 8, []⟩
noncomputable def g : Gi := giD Tryd.prog (gtL []) (fun _ => an) 0 [] (ovL []) 1
noncomputable def m {R : Type} (_N : Nat) (a1 : Nat) (_a2 : Option Nat) (a3 : Bool) (a4 : List Int) (_wasN5 : Option Bool) (was6 : List Int) (kr0 : Bool → Bool → (List Int) → Option R) : Option R :=
  cond a3
   (none)
   (cond (true && a1.beq a1 && a1.ble a4.length)
    (cond a3
     (none)
     (cond a3
      (none)
      (cond (decide (IntKind.i64.wrap ((↑was6.length : Int) + 6) ≤ (↑(a4.length - a1) : Int)))
       (cond a3
        (none)
        (cond (decide ((↑was6.length : Int) ≤ (↑(a4.length - a1) : Int)))
         (cond (!toStr (cut (some (↑was6.length : Int).toNat) a1 a4) == toStr was6)
          (kr0 false a3 a4)
          (cond a3
           (none)
           (cond (decide (0 ≤ IntKind.i64.wrap ((↑was6.length : Int) + 0)))
            (cond (decide (IntKind.i64.wrap ((↑was6.length : Int) + 0) < (↑(a4.length - a1) : Int)))
             (cond (a4.getD (a1 + (IntKind.i64.wrap ((↑was6.length : Int) + 0)).toNat) 0 != 201)
              (kr0 false a3 a4)
              (cond a3
               (none)
               (cond (decide (0 ≤ IntKind.i64.wrap ((↑was6.length : Int) + 1)))
                (cond (decide (IntKind.i64.wrap ((↑was6.length : Int) + 1) < (↑(a4.length - a1) : Int)))
                 (cond (a4.getD (a1 + (IntKind.i64.wrap ((↑was6.length : Int) + 1)).toNat) 0 != 202)
                  (kr0 false a3 a4)
                  (cond a3
                   (none)
                   (cond (decide (0 ≤ IntKind.i64.wrap ((↑was6.length : Int) + 2)))
                    (cond (decide (IntKind.i64.wrap ((↑was6.length : Int) + 2) < (↑(a4.length - a1) : Int)))
                     (cond (a4.getD (a1 + (IntKind.i64.wrap ((↑was6.length : Int) + 2)).toNat) 0 != 203)
                      (kr0 false a3 a4)
                      (cond a3
                       (none)
                       (cond (decide (0 ≤ IntKind.i64.wrap ((↑was6.length : Int) + 3)))
                        (cond (decide (IntKind.i64.wrap ((↑was6.length : Int) + 3) < (↑(a4.length - a1) : Int)))
                         (cond (a4.getD (a1 + (IntKind.i64.wrap ((↑was6.length : Int) + 3)).toNat) 0 != 204)
                          (kr0 false a3 a4)
                          (cond a3
                           (none)
                           (cond (decide (0 ≤ IntKind.i64.wrap ((↑was6.length : Int) + 4)))
                            (cond (decide (IntKind.i64.wrap ((↑was6.length : Int) + 4) < (↑(a4.length - a1) : Int)))
                             (cond (a4.getD (a1 + (IntKind.i64.wrap ((↑was6.length : Int) + 4)).toNat) 0 != 205)
                              (kr0 false a3 a4)
                              (cond a3
                               (none)
                               (cond (decide (0 ≤ IntKind.i64.wrap ((↑was6.length : Int) + 5)))
                                (cond (decide (IntKind.i64.wrap ((↑was6.length : Int) + 5) < (↑(a4.length - a1) : Int)))
                                 (cond (a4.getD (a1 + (IntKind.i64.wrap ((↑was6.length : Int) + 5)).toNat) 0 != 206)
                                  (kr0 false a3 a4)
                                  (kr0 true a3 a4))
                                 (none))
                                (none))))
                             (none))
                            (none))))
                         (none))
                        (none))))
                     (none))
                    (none))))
                 (none))
                (none))))
             (none))
            (none))))
         (none)))
       (none))))
    (none))
theorem tree {R : Type} (N : Nat) (κ : AV → List Blk → Option R) (a1 : Nat) (a2 : Option Nat) (a3 : Bool) (a4 : List Int) (wasN5 : Option Bool) (was6 : List Int) : evF (g) an N Tryd.f26 [AV.own 0 [] a1 a2, AV.isl IntKind.u8 wasN5 was6] [Blk.row IntKind.u8 a3 a4] κ =
  cond a3
   (none)
   (cond (true && a1.beq a1 && a1.ble a4.length)
    (cond a3
     (none)
     (cond a3
      (none)
      (cond (decide (IntKind.i64.wrap ((↑was6.length : Int) + 6) ≤ (↑(a4.length - a1) : Int)))
       (cond a3
        (none)
        (cond (decide ((↑was6.length : Int) ≤ (↑(a4.length - a1) : Int)))
         (cond (!toStr (cut (some (↑was6.length : Int).toNat) a1 a4) == toStr was6)
          (κ (AV.bool false) ([Blk.row IntKind.u8 a3 a4]))
          (cond a3
           (none)
           (cond (decide (0 ≤ IntKind.i64.wrap ((↑was6.length : Int) + 0)))
            (cond (decide (IntKind.i64.wrap ((↑was6.length : Int) + 0) < (↑(a4.length - a1) : Int)))
             (cond (a4.getD (a1 + (IntKind.i64.wrap ((↑was6.length : Int) + 0)).toNat) 0 != 201)
              (κ (AV.bool false) ([Blk.row IntKind.u8 a3 a4]))
              (cond a3
               (none)
               (cond (decide (0 ≤ IntKind.i64.wrap ((↑was6.length : Int) + 1)))
                (cond (decide (IntKind.i64.wrap ((↑was6.length : Int) + 1) < (↑(a4.length - a1) : Int)))
                 (cond (a4.getD (a1 + (IntKind.i64.wrap ((↑was6.length : Int) + 1)).toNat) 0 != 202)
                  (κ (AV.bool false) ([Blk.row IntKind.u8 a3 a4]))
                  (cond a3
                   (none)
                   (cond (decide (0 ≤ IntKind.i64.wrap ((↑was6.length : Int) + 2)))
                    (cond (decide (IntKind.i64.wrap ((↑was6.length : Int) + 2) < (↑(a4.length - a1) : Int)))
                     (cond (a4.getD (a1 + (IntKind.i64.wrap ((↑was6.length : Int) + 2)).toNat) 0 != 203)
                      (κ (AV.bool false) ([Blk.row IntKind.u8 a3 a4]))
                      (cond a3
                       (none)
                       (cond (decide (0 ≤ IntKind.i64.wrap ((↑was6.length : Int) + 3)))
                        (cond (decide (IntKind.i64.wrap ((↑was6.length : Int) + 3) < (↑(a4.length - a1) : Int)))
                         (cond (a4.getD (a1 + (IntKind.i64.wrap ((↑was6.length : Int) + 3)).toNat) 0 != 204)
                          (κ (AV.bool false) ([Blk.row IntKind.u8 a3 a4]))
                          (cond a3
                           (none)
                           (cond (decide (0 ≤ IntKind.i64.wrap ((↑was6.length : Int) + 4)))
                            (cond (decide (IntKind.i64.wrap ((↑was6.length : Int) + 4) < (↑(a4.length - a1) : Int)))
                             (cond (a4.getD (a1 + (IntKind.i64.wrap ((↑was6.length : Int) + 4)).toNat) 0 != 205)
                              (κ (AV.bool false) ([Blk.row IntKind.u8 a3 a4]))
                              (cond a3
                               (none)
                               (cond (decide (0 ≤ IntKind.i64.wrap ((↑was6.length : Int) + 5)))
                                (cond (decide (IntKind.i64.wrap ((↑was6.length : Int) + 5) < (↑(a4.length - a1) : Int)))
                                 (cond (a4.getD (a1 + (IntKind.i64.wrap ((↑was6.length : Int) + 5)).toNat) 0 != 206)
                                  (κ (AV.bool false) ([Blk.row IntKind.u8 a3 a4]))
                                  (κ (AV.bool true) ([Blk.row IntKind.u8 a3 a4])))
                                 (none))
                                (none))))
                             (none))
                            (none))))
                         (none))
                        (none))))
                     (none))
                    (none))))
                 (none))
                (none))))
             (none))
            (none))))
         (none)))
       (none))))
    (none)) := by kernel_rfl
theorem eq {R : Type} (N : Nat) (κ : AV → List Blk → Option R) (a1 : Nat) (a2 : Option Nat) (a3 : Bool) (a4 : List Int) (wasN5 : Option Bool) (was6 : List Int) : evF (g) an N Tryd.f26 [AV.own 0 [] a1 a2, AV.isl IntKind.u8 wasN5 was6] [Blk.row IntKind.u8 a3 a4] κ =
  m N a1 a2 a3 a4 wasN5 was6 (fun v b b_2 => κ (AV.bool v) ([Blk.row IntKind.u8 b b_2])) := by
  rw [tree]
  kernel_rfl
abbrev Ty : Type 1 := ∀ R : Type, Nat → (Option Nat) → Bool → (List Int) → (Option Bool) → (List Int) → (Bool → Bool → (List Int) → Option R) → Option R
def con (f : Ty) : Con := fun R args bs κ => match args, bs with
  | [AV.own 0 [] a1 a2, AV.isl IntKind.u8 wasN5 was6], [Blk.row IntKind.u8 a3 a4] => f R a1 a2 a3 a4 wasN5 was6 (fun v b b_2 => κ (AV.bool v) ([Blk.row IntKind.u8 b b_2]))
  | _, _ => none
theorem con_eq (f : Ty) (R : Type) (κ : AV → List Blk → Option R) (a1 : Nat) (a2 : Option Nat) (a3 : Bool) (a4 : List Int) (wasN5 : Option Bool) (was6 : List Int) : con f R [AV.own 0 [] a1 a2, AV.isl IntKind.u8 wasN5 was6] [Blk.row IntKind.u8 a3 a4] κ = f R a1 a2 a3 a4 wasN5 was6 (fun v b b_2 => κ (AV.bool v) ([Blk.row IntKind.u8 b b_2])) := rfl
noncomputable def M (N : Nat) : Ty := fun R a1 a2 a3 a4 wasN5 was6 kr0 => m (R := R) N a1 a2 a3 a4 wasN5 was6 kr0
def gts : List (Nat × AV) := []
theorem gok (_N : Nat) : GOk (g) := giD_ok hm (by intro p hp; cases hp) (gtL_ok (by decide)) (ovL_ok (by intro p hp; cases hp)) 1
theorem ok (N : Nat) : SoundC Tryd.prog (gtL gts) 26 (con (M N)) := by
  refine SoundC.mono (evF_ok (gok N) hm an N Tryd.func26) fun R args bs κ r h => ?_
  unfold con at h
  split at h
  · exact (eq N κ _ _ _ _ _ _).trans h
  · cases h
end Kept

end Go.Proofs.YtbliikcgcgalmaaDoor.fn
