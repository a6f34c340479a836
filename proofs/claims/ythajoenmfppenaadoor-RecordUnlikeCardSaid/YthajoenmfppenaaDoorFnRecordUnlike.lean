/- What a law of records computes, with the proof; printed by a program. -/
import Derived.Test.YthajoenmfppenaaDoorProg
import Derived.Test.YthajoenmfppenaaDoorEv4
import Derived.Test.YthajoenmfppenaaDoorFnL23
import Derived.Test.YthajoenmfppenaaDoorFnRec
namespace Go.Proofs.YthajoenmfppenaaDoor.fn
open Go Go.Proofs Go.Ev

/-! ### Tryd.f18: commits23 -/
namespace commits23
def an : Anns := ⟨fun i => findA i [], fun i => findA i [], true, fun _ => none, []⟩
noncomputable def g : Gi := giL (giD Tryd.prog (gtL []) (fun _ => an) 0 [] (ovL []) 1)
noncomputable def m {R : Type} (_N : Nat) (kr0 : Option R) : Option R :=
  kr0
theorem tree {R : Type} (N : Nat) (κ : AV → List Blk → Option R) : evF g an N Tryd.f18 [] [] κ =
  κ (AV.own 0 [] 0 none) ([Blk.row IntKind.u8 false [5, 0, 0, 0, 6, 99, 111, 109, 109, 105, 116, 0, 0, 0]]) := by kernel_rfl
theorem eq {R : Type} (N : Nat) (κ : AV → List Blk → Option R) : evF g an N Tryd.f18 [] [] κ =
  m N (κ (AV.own 0 [] 0 none) ([Blk.row IntKind.u8 false [5, 0, 0, 0, 6, 99, 111, 109, 109, 105, 116, 0, 0, 0]])) := by
  rw [tree]
  kernel_rfl
abbrev Ty : Type 1 := ∀ R : Type, Option R → Option R
def con (f : Ty) : Con := fun R args bs κ => match args, bs with
  | [], [] => f R (κ (AV.own 0 [] 0 none) ([Blk.row IntKind.u8 false [5, 0, 0, 0, 6, 99, 111, 109, 109, 105, 116, 0, 0, 0]]))
  | _, _ => none
theorem con_eq (f : Ty) (R : Type) (κ : AV → List Blk → Option R) : con f R [] [] κ = f R (κ (AV.own 0 [] 0 none) ([Blk.row IntKind.u8 false [5, 0, 0, 0, 6, 99, 111, 109, 109, 105, 116, 0, 0, 0]])) := rfl
noncomputable def M (N : Nat) : Ty := fun R kr0 => m (R := R) N kr0
def gts : List (Nat × AV) := []
theorem gok (_N : Nat) : GOk g := giL_ok (giD_ok hm (by intro p hp; cases hp) (gtL_ok (by decide)) (ovL_ok (by intro p hp; cases hp)) 1)
theorem ok (N : Nat) : SoundC Tryd.prog (gtL gts) 18 (con (M N)) := by
  refine SoundC.mono (evF_ok (gok N) hm an N Tryd.func18) fun R args bs κ r h => ?_
  unfold con at h
  split at h
  · exact (eq N κ).trans h
  · cases h
end commits23


/-! ### Tryd.f4: RecordUnlike -/
namespace RecordUnlike
def an : Anns := ⟨fun i => findA i [], fun i => findA i [], false, fun _ => none, []⟩
noncomputable def g (malive23 : alive23.Ty) (mbigLeaf23 : bigLeaf23.Ty) (mrecOffer : recOffer.Ty) (mcommits23 : commits23.Ty) : Gi := giD Tryd.prog (gtL [(0, .err 1), (2, .err 3), (3, .err 4), (19, .ints .u32 64 K256)]) (fun _ => an) 0 [] (ovL [(15, alive23.con malive23), (16, bigLeaf23.con mbigLeaf23), (17, recOffer.con mrecOffer), (18, commits23.con mcommits23)]) 1
noncomputable def m (malive23 : alive23.Ty) (mbigLeaf23 : bigLeaf23.Ty) (mrecOffer : recOffer.Ty) (mcommits23 : commits23.Ty) {R : Type} (_N : Nat) (x1 : List Int) (x2 : Int) (x3 : Int) (x4 : Int) (x5 : Int) (x6 : List Int) (x7 : List Int) (x8 : List Int) (xN9 : Option Bool) (x10 : List Int) (x11 : List Int) (x12 : List Int) (x13 : List Int) (x14 : List Int) (x15 : List Int) (xN16 : Option Bool) (x17 : List Int) (x18 : List Int) (x19 : List Int) (x20 : List Int) (a21 : List Int) (a22 : Int) (a23 : List Int) (a24 : List Int) (b25 : List Int) (b26 : Int) (b27 : List Int) (b28 : List Int) (kr0 : Bool → Option R) : Option R :=
  malive23 R
   (fun v_c3 => cond (!v_c3)
    (kr0 false)
    (mbigLeaf23 R x14 x15 xN16 x17 x18 x19
     (fun v_c4 => cond v_c4
      (kr0 true)
      (mbigLeaf23 R x7 x8 xN9 x10 x11 x12
       (fun v_c5 => cond v_c5
        (kr0 true)
        (cond (decide (x3 < 0))
         (kr0 true)
         (cond (decide (x3 > 14))
          (kr0 true)
          (mrecOffer R x1 x2 x3 x4 x5 x6 x7 x8 xN9 x10 x11 x12 x13 x14 x15 xN16 x17 x18 x19 x20 a21 a22 a23 a24
           (fun _v_c6 v_1_c7 v_2_c8 => mrecOffer R x1 x2 x3 x4 x5 x6 x7 x8 xN9 x10 x11 x12 x13 x14 x15 xN16 x17 x18 x19 x20 b25 b26 b27 b28
            (fun _v_c9 v_1_c10 v_2_c11 => mrecOffer R x1 x2 (IntKind.i64.wrap (x3 + 1)) x4 x5 x6 x7 x8 xN9 x10 x11 x12 x13 x14 x15 xN16 x17 x18 x19 x20 a21 a22 a23 a24
             (fun _v_c12 v_1_c13 v_2_c14 => mrecOffer R x1 x2 x3 2 3 ([0, 0, 0, 0, 0, 0, 0, 0, 0, 0, 0, 0, 0, 0, 0, 0, 0, 0, 0, 0, 0, 0, 0, 0, 0, 0, 0, 0, 0, 0, 0, 0]) ([0, 0, 0, 0, 0, 0, 0, 0, 0, 0, 0, 0, 0, 0, 0, 0, 0, 0, 0, 0, 0, 0, 0, 0, 0, 0, 0, 0, 0, 0, 0, 0]) ([0, 0, 0, 0, 0, 0, 0, 0, 0, 0, 0, 0, 0, 0, 0, 0, 0, 0, 0, 0, 0, 0, 0, 0, 0, 0, 0, 0, 0, 0, 0, 0]) (some true) [] ([0, 0, 0, 0, 0, 0, 0, 0, 0, 0, 0, 0, 0, 0, 0, 0, 0, 0, 0, 0, 0, 0, 0, 0, 0, 0, 0, 0, 0, 0, 0, 0]) ([0, 0, 0, 0, 0, 0, 0, 0, 0, 0, 0, 0, 0, 0, 0, 0, 0, 0, 0, 0, 0, 0, 0, 0, 0, 0, 0, 0, 0, 0, 0, 0, 0, 0, 0, 0, 0, 0, 0, 0, 0, 0, 0, 0, 0, 0, 0, 0, 0, 0, 0, 0, 0, 0, 0, 0, 0, 0, 0, 0, 0, 0, 0, 0]) ([0, 0, 0, 0, 0, 0, 0, 0, 0, 0, 0, 0, 0, 0, 0, 0, 0, 0, 0, 0, 0, 0, 0, 0, 0, 0, 0, 0, 0, 0, 0, 0, 0, 0, 0, 0, 0, 0, 0, 0, 0, 0, 0, 0, 0, 0, 0, 0, 0, 0, 0, 0, 0, 0, 0, 0, 0, 0, 0, 0, 0, 0, 0, 0]) ([0, 0, 0, 0, 0, 0, 0, 0, 0, 0, 0, 0, 0, 0, 0, 0, 0, 0, 0, 0, 0, 0, 0, 0, 0, 0, 0, 0, 0, 0, 0, 0]) ([0, 0, 0, 0, 0, 0, 0, 0, 0, 0, 0, 0, 0, 0, 0, 0, 0, 0, 0, 0, 0, 0, 0, 0, 0, 0, 0, 0, 0, 0, 0, 0]) (some true) [] ([0, 0, 0, 0, 0, 0, 0, 0, 0, 0, 0, 0, 0, 0, 0, 0, 0, 0, 0, 0, 0, 0, 0, 0, 0, 0, 0, 0, 0, 0, 0, 0]) ([0, 0, 0, 0, 0, 0, 0, 0, 0, 0, 0, 0, 0, 0, 0, 0, 0, 0, 0, 0, 0, 0, 0, 0, 0, 0, 0, 0, 0, 0, 0, 0, 0, 0, 0, 0, 0, 0, 0, 0, 0, 0, 0, 0, 0, 0, 0, 0, 0, 0, 0, 0, 0, 0, 0, 0, 0, 0, 0, 0, 0, 0, 0, 0]) x20 a21 a22 a23 a24
              (fun _v_c15 v_1_c16 v_2_c17 => cond (!v_2_c8.beq 0)
               (kr0 true)
               (cond (!v_2_c11.beq 0)
                (kr0 true)
                (cond (!v_2_c14.beq 0)
                 (kr0 true)
                 (cond (!v_2_c17.beq 0)
                  (kr0 true)
                  (cond (x4 == 2)
                   (cond ((toStr v_1_c7 == toStr v_1_c10) == eqVal [AV.ints IntKind.u8 32 a21, AV.int IntKind.i64 a22, AV.ints IntKind.u8 32 a23, AV.ints IntKind.u8 32 a24] [AV.ints IntKind.u8 32 b25, AV.int IntKind.i64 b26, AV.ints IntKind.u8 32 b27, AV.ints IntKind.u8 32 b28])
                    (cond (!toStr v_1_c7 == toStr v_1_c13)
                     (cond ((toStr v_1_c7 == toStr v_1_c16) == (x5 == 3))
                      (cond (decide (14 ≤ (↑v_1_c7.length : Int)))
                       (mcommits23 R
                        (kr0 (!toStr (List.drop 0 (List.take 14 v_1_c7)) == [UInt8.ofNat (Int.toNat 5), UInt8.ofNat (Int.toNat 0), UInt8.ofNat (Int.toNat 0), UInt8.ofNat (Int.toNat 0), UInt8.ofNat (Int.toNat 6), UInt8.ofNat (Int.toNat 99), UInt8.ofNat (Int.toNat 111), UInt8.ofNat (Int.toNat 109), UInt8.ofNat (Int.toNat 109), UInt8.ofNat (Int.toNat 105), UInt8.ofNat (Int.toNat 116), UInt8.ofNat (Int.toNat 0), UInt8.ofNat (Int.toNat 0), UInt8.ofNat (Int.toNat 0)])))
                       none)
                      (kr0 false))
                     (kr0 false))
                    (kr0 false))
                   (cond ((toStr v_1_c7 == toStr v_1_c10) == eqVal [AV.ints IntKind.u8 32 a21, AV.int IntKind.i64 a22, AV.ints IntKind.u8 32 a23, AV.ints IntKind.u8 32 a24] [AV.ints IntKind.u8 32 b25, AV.int IntKind.i64 b26, AV.ints IntKind.u8 32 b27, AV.ints IntKind.u8 32 b28])
                    (cond (!toStr v_1_c7 == toStr v_1_c13)
                     (cond ((toStr v_1_c7 == toStr v_1_c16) == false)
                      (cond (decide (14 ≤ (↑v_1_c7.length : Int)))
                       (mcommits23 R
                        (kr0 (!toStr (List.drop 0 (List.take 14 v_1_c7)) == [UInt8.ofNat (Int.toNat 5), UInt8.ofNat (Int.toNat 0), UInt8.ofNat (Int.toNat 0), UInt8.ofNat (Int.toNat 0), UInt8.ofNat (Int.toNat 6), UInt8.ofNat (Int.toNat 99), UInt8.ofNat (Int.toNat 111), UInt8.ofNat (Int.toNat 109), UInt8.ofNat (Int.toNat 109), UInt8.ofNat (Int.toNat 105), UInt8.ofNat (Int.toNat 116), UInt8.ofNat (Int.toNat 0), UInt8.ofNat (Int.toNat 0), UInt8.ofNat (Int.toNat 0)])))
                       none)
                      (kr0 false))
                     (kr0 false))
                    (kr0 false))))))))))))))))))
theorem tree (malive23 : alive23.Ty) (mbigLeaf23 : bigLeaf23.Ty) (mrecOffer : recOffer.Ty) (mcommits23 : commits23.Ty) {R : Type} (N : Nat) (κ : AV → List Blk → Option R) (x1 : List Int) (x2 : Int) (x3 : Int) (x4 : Int) (x5 : Int) (x6 : List Int) (x7 : List Int) (x8 : List Int) (xN9 : Option Bool) (x10 : List Int) (x11 : List Int) (x12 : List Int) (x13 : List Int) (x14 : List Int) (x15 : List Int) (xN16 : Option Bool) (x17 : List Int) (x18 : List Int) (x19 : List Int) (x20 : List Int) (a21 : List Int) (a22 : Int) (a23 : List Int) (a24 : List Int) (b25 : List Int) (b26 : Int) (b27 : List Int) (b28 : List Int) : evF (g malive23 mbigLeaf23 mrecOffer mcommits23) an N Tryd.f4 [AV.agg [AV.ints IntKind.u8 32 x1, AV.int IntKind.i64 x2, AV.int IntKind.i64 x3, AV.agg [AV.int IntKind.i64 x4, AV.int IntKind.i64 x5, AV.agg [AV.ints IntKind.u8 32 x6, AV.agg [AV.ints IntKind.u8 32 x7, AV.ints IntKind.u8 32 x8, AV.isl IntKind.u8 xN9 x10, AV.ints IntKind.u8 32 x11, AV.ints IntKind.u8 64 x12], AV.ints IntKind.u8 64 x13], AV.agg [AV.ints IntKind.u8 32 x14, AV.ints IntKind.u8 32 x15, AV.isl IntKind.u8 xN16 x17, AV.ints IntKind.u8 32 x18, AV.ints IntKind.u8 64 x19]], AV.ints IntKind.u8 64 x20], AV.agg [AV.ints IntKind.u8 32 a21, AV.int IntKind.i64 a22, AV.ints IntKind.u8 32 a23, AV.ints IntKind.u8 32 a24], AV.agg [AV.ints IntKind.u8 32 b25, AV.int IntKind.i64 b26, AV.ints IntKind.u8 32 b27, AV.ints IntKind.u8 32 b28]] [] κ =
  malive23 R
   (fun v_c3 => cond (!v_c3)
    (κ (AV.bool false) [])
    (mbigLeaf23 R x14 x15 xN16 x17 x18 x19
     (fun v_c4 => cond v_c4
      (κ (AV.bool true) [])
      (mbigLeaf23 R x7 x8 xN9 x10 x11 x12
       (fun v_c5 => cond v_c5
        (κ (AV.bool true) [])
        (cond (decide (x3 < 0))
         (κ (AV.bool true) [])
         (cond (decide (x3 > 14))
          (κ (AV.bool true) [])
          (mrecOffer R x1 x2 x3 x4 x5 x6 x7 x8 xN9 x10 x11 x12 x13 x14 x15 xN16 x17 x18 x19 x20 a21 a22 a23 a24
           (fun _v_c6 v_1_c7 v_2_c8 => mrecOffer R x1 x2 x3 x4 x5 x6 x7 x8 xN9 x10 x11 x12 x13 x14 x15 xN16 x17 x18 x19 x20 b25 b26 b27 b28
            (fun _v_c9 v_1_c10 v_2_c11 => mrecOffer R x1 x2 (IntKind.i64.wrap (x3 + 1)) x4 x5 x6 x7 x8 xN9 x10 x11 x12 x13 x14 x15 xN16 x17 x18 x19 x20 a21 a22 a23 a24
             (fun _v_c12 v_1_c13 v_2_c14 => mrecOffer R x1 x2 x3 2 3 ([0, 0, 0, 0, 0, 0, 0, 0, 0, 0, 0, 0, 0, 0, 0, 0, 0, 0, 0, 0, 0, 0, 0, 0, 0, 0, 0, 0, 0, 0, 0, 0]) ([0, 0, 0, 0, 0, 0, 0, 0, 0, 0, 0, 0, 0, 0, 0, 0, 0, 0, 0, 0, 0, 0, 0, 0, 0, 0, 0, 0, 0, 0, 0, 0]) ([0, 0, 0, 0, 0, 0, 0, 0, 0, 0, 0, 0, 0, 0, 0, 0, 0, 0, 0, 0, 0, 0, 0, 0, 0, 0, 0, 0, 0, 0, 0, 0]) (some true) [] ([0, 0, 0, 0, 0, 0, 0, 0, 0, 0, 0, 0, 0, 0, 0, 0, 0, 0, 0, 0, 0, 0, 0, 0, 0, 0, 0, 0, 0, 0, 0, 0]) ([0, 0, 0, 0, 0, 0, 0, 0, 0, 0, 0, 0, 0, 0, 0, 0, 0, 0, 0, 0, 0, 0, 0, 0, 0, 0, 0, 0, 0, 0, 0, 0, 0, 0, 0, 0, 0, 0, 0, 0, 0, 0, 0, 0, 0, 0, 0, 0, 0, 0, 0, 0, 0, 0, 0, 0, 0, 0, 0, 0, 0, 0, 0, 0]) ([0, 0, 0, 0, 0, 0, 0, 0, 0, 0, 0, 0, 0, 0, 0, 0, 0, 0, 0, 0, 0, 0, 0, 0, 0, 0, 0, 0, 0, 0, 0, 0, 0, 0, 0, 0, 0, 0, 0, 0, 0, 0, 0, 0, 0, 0, 0, 0, 0, 0, 0, 0, 0, 0, 0, 0, 0, 0, 0, 0, 0, 0, 0, 0]) ([0, 0, 0, 0, 0, 0, 0, 0, 0, 0, 0, 0, 0, 0, 0, 0, 0, 0, 0, 0, 0, 0, 0, 0, 0, 0, 0, 0, 0, 0, 0, 0]) ([0, 0, 0, 0, 0, 0, 0, 0, 0, 0, 0, 0, 0, 0, 0, 0, 0, 0, 0, 0, 0, 0, 0, 0, 0, 0, 0, 0, 0, 0, 0, 0]) (some true) [] ([0, 0, 0, 0, 0, 0, 0, 0, 0, 0, 0, 0, 0, 0, 0, 0, 0, 0, 0, 0, 0, 0, 0, 0, 0, 0, 0, 0, 0, 0, 0, 0]) ([0, 0, 0, 0, 0, 0, 0, 0, 0, 0, 0, 0, 0, 0, 0, 0, 0, 0, 0, 0, 0, 0, 0, 0, 0, 0, 0, 0, 0, 0, 0, 0, 0, 0, 0, 0, 0, 0, 0, 0, 0, 0, 0, 0, 0, 0, 0, 0, 0, 0, 0, 0, 0, 0, 0, 0, 0, 0, 0, 0, 0, 0, 0, 0]) x20 a21 a22 a23 a24
              (fun _v_c15 v_1_c16 v_2_c17 => cond (!v_2_c8.beq 0)
               (κ (AV.bool true) [])
               (cond (!v_2_c11.beq 0)
                (κ (AV.bool true) [])
                (cond (!v_2_c14.beq 0)
                 (κ (AV.bool true) [])
                 (cond (!v_2_c17.beq 0)
                  (κ (AV.bool true) [])
                  (cond (x4 == 2)
                   (cond ((toStr v_1_c7 == toStr v_1_c10) == eqVal [AV.ints IntKind.u8 32 a21, AV.int IntKind.i64 a22, AV.ints IntKind.u8 32 a23, AV.ints IntKind.u8 32 a24] [AV.ints IntKind.u8 32 b25, AV.int IntKind.i64 b26, AV.ints IntKind.u8 32 b27, AV.ints IntKind.u8 32 b28])
                    (cond (!toStr v_1_c7 == toStr v_1_c13)
                     (cond ((toStr v_1_c7 == toStr v_1_c16) == (x5 == 3))
                      (cond (decide (14 ≤ (↑v_1_c7.length : Int)))
                       (mcommits23 R
                        (κ (AV.bool !toStr (List.drop 0 (List.take 14 v_1_c7)) == [UInt8.ofNat (Int.toNat 5), UInt8.ofNat (Int.toNat 0), UInt8.ofNat (Int.toNat 0), UInt8.ofNat (Int.toNat 0), UInt8.ofNat (Int.toNat 6), UInt8.ofNat (Int.toNat 99), UInt8.ofNat (Int.toNat 111), UInt8.ofNat (Int.toNat 109), UInt8.ofNat (Int.toNat 109), UInt8.ofNat (Int.toNat 105), UInt8.ofNat (Int.toNat 116), UInt8.ofNat (Int.toNat 0), UInt8.ofNat (Int.toNat 0), UInt8.ofNat (Int.toNat 0)]) []))
                       none)
                      (κ (AV.bool false) []))
                     (κ (AV.bool false) []))
                    (κ (AV.bool false) []))
                   (cond ((toStr v_1_c7 == toStr v_1_c10) == eqVal [AV.ints IntKind.u8 32 a21, AV.int IntKind.i64 a22, AV.ints IntKind.u8 32 a23, AV.ints IntKind.u8 32 a24] [AV.ints IntKind.u8 32 b25, AV.int IntKind.i64 b26, AV.ints IntKind.u8 32 b27, AV.ints IntKind.u8 32 b28])
                    (cond (!toStr v_1_c7 == toStr v_1_c13)
                     (cond ((toStr v_1_c7 == toStr v_1_c16) == false)
                      (cond (decide (14 ≤ (↑v_1_c7.length : Int)))
                       (mcommits23 R
                        (κ (AV.bool !toStr (List.drop 0 (List.take 14 v_1_c7)) == [UInt8.ofNat (Int.toNat 5), UInt8.ofNat (Int.toNat 0), UInt8.ofNat (Int.toNat 0), UInt8.ofNat (Int.toNat 0), UInt8.ofNat (Int.toNat 6), UInt8.ofNat (Int.toNat 99), UInt8.ofNat (Int.toNat 111), UInt8.ofNat (Int.toNat 109), UInt8.ofNat (Int.toNat 109), UInt8.ofNat (Int.toNat 105), UInt8.ofNat (Int.toNat 116), UInt8.ofNat (Int.toNat 0), UInt8.ofNat (Int.toNat 0), UInt8.ofNat (Int.toNat 0)]) []))
                       none)
                      (κ (AV.bool false) []))
                     (κ (AV.bool false) []))
                    (κ (AV.bool false) [])))))))))))))))))) := by kernel_rfl
theorem eq (malive23 : alive23.Ty) (mbigLeaf23 : bigLeaf23.Ty) (mrecOffer : recOffer.Ty) (mcommits23 : commits23.Ty) {R : Type} (N : Nat) (κ : AV → List Blk → Option R) (x1 : List Int) (x2 : Int) (x3 : Int) (x4 : Int) (x5 : Int) (x6 : List Int) (x7 : List Int) (x8 : List Int) (xN9 : Option Bool) (x10 : List Int) (x11 : List Int) (x12 : List Int) (x13 : List Int) (x14 : List Int) (x15 : List Int) (xN16 : Option Bool) (x17 : List Int) (x18 : List Int) (x19 : List Int) (x20 : List Int) (a21 : List Int) (a22 : Int) (a23 : List Int) (a24 : List Int) (b25 : List Int) (b26 : Int) (b27 : List Int) (b28 : List Int) : evF (g malive23 mbigLeaf23 mrecOffer mcommits23) an N Tryd.f4 [AV.agg [AV.ints IntKind.u8 32 x1, AV.int IntKind.i64 x2, AV.int IntKind.i64 x3, AV.agg [AV.int IntKind.i64 x4, AV.int IntKind.i64 x5, AV.agg [AV.ints IntKind.u8 32 x6, AV.agg [AV.ints IntKind.u8 32 x7, AV.ints IntKind.u8 32 x8, AV.isl IntKind.u8 xN9 x10, AV.ints IntKind.u8 32 x11, AV.ints IntKind.u8 64 x12], AV.ints IntKind.u8 64 x13], AV.agg [AV.ints IntKind.u8 32 x14, AV.ints IntKind.u8 32 x15, AV.isl IntKind.u8 xN16 x17, AV.ints IntKind.u8 32 x18, AV.ints IntKind.u8 64 x19]], AV.ints IntKind.u8 64 x20], AV.agg [AV.ints IntKind.u8 32 a21, AV.int IntKind.i64 a22, AV.ints IntKind.u8 32 a23, AV.ints IntKind.u8 32 a24], AV.agg [AV.ints IntKind.u8 32 b25, AV.int IntKind.i64 b26, AV.ints IntKind.u8 32 b27, AV.ints IntKind.u8 32 b28]] [] κ =
  m malive23 mbigLeaf23 mrecOffer mcommits23 N x1 x2 x3 x4 x5 x6 x7 x8 xN9 x10 x11 x12 x13 x14 x15 xN16 x17 x18 x19 x20 a21 a22 a23 a24 b25 b26 b27 b28 (fun v => κ (AV.bool v) []) := by
  rw [tree]
  kernel_rfl
abbrev Ty : Type 1 := ∀ R : Type, (List Int) → Int → Int → Int → Int → (List Int) → (List Int) → (List Int) → (Option Bool) → (List Int) → (List Int) → (List Int) → (List Int) → (List Int) → (List Int) → (Option Bool) → (List Int) → (List Int) → (List Int) → (List Int) → (List Int) → Int → (List Int) → (List Int) → (List Int) → Int → (List Int) → (List Int) → (Bool → Option R) → Option R
def con (f : Ty) : Con := fun R args bs κ => match args, bs with
  | [AV.agg [AV.ints IntKind.u8 32 x1, AV.int IntKind.i64 x2, AV.int IntKind.i64 x3, AV.agg [AV.int IntKind.i64 x4, AV.int IntKind.i64 x5, AV.agg [AV.ints IntKind.u8 32 x6, AV.agg [AV.ints IntKind.u8 32 x7, AV.ints IntKind.u8 32 x8, AV.isl IntKind.u8 xN9 x10, AV.ints IntKind.u8 32 x11, AV.ints IntKind.u8 64 x12], AV.ints IntKind.u8 64 x13], AV.agg [AV.ints IntKind.u8 32 x14, AV.ints IntKind.u8 32 x15, AV.isl IntKind.u8 xN16 x17, AV.ints IntKind.u8 32 x18, AV.ints IntKind.u8 64 x19]], AV.ints IntKind.u8 64 x20], AV.agg [AV.ints IntKind.u8 32 a21, AV.int IntKind.i64 a22, AV.ints IntKind.u8 32 a23, AV.ints IntKind.u8 32 a24], AV.agg [AV.ints IntKind.u8 32 b25, AV.int IntKind.i64 b26, AV.ints IntKind.u8 32 b27, AV.ints IntKind.u8 32 b28]], [] => f R x1 x2 x3 x4 x5 x6 x7 x8 xN9 x10 x11 x12 x13 x14 x15 xN16 x17 x18 x19 x20 a21 a22 a23 a24 b25 b26 b27 b28 (fun v => κ (AV.bool v) [])
  | _, _ => none
theorem con_eq (f : Ty) (R : Type) (κ : AV → List Blk → Option R) (x1 : List Int) (x2 : Int) (x3 : Int) (x4 : Int) (x5 : Int) (x6 : List Int) (x7 : List Int) (x8 : List Int) (xN9 : Option Bool) (x10 : List Int) (x11 : List Int) (x12 : List Int) (x13 : List Int) (x14 : List Int) (x15 : List Int) (xN16 : Option Bool) (x17 : List Int) (x18 : List Int) (x19 : List Int) (x20 : List Int) (a21 : List Int) (a22 : Int) (a23 : List Int) (a24 : List Int) (b25 : List Int) (b26 : Int) (b27 : List Int) (b28 : List Int) : con f R [AV.agg [AV.ints IntKind.u8 32 x1, AV.int IntKind.i64 x2, AV.int IntKind.i64 x3, AV.agg [AV.int IntKind.i64 x4, AV.int IntKind.i64 x5, AV.agg [AV.ints IntKind.u8 32 x6, AV.agg [AV.ints IntKind.u8 32 x7, AV.ints IntKind.u8 32 x8, AV.isl IntKind.u8 xN9 x10, AV.ints IntKind.u8 32 x11, AV.ints IntKind.u8 64 x12], AV.ints IntKind.u8 64 x13], AV.agg [AV.ints IntKind.u8 32 x14, AV.ints IntKind.u8 32 x15, AV.isl IntKind.u8 xN16 x17, AV.ints IntKind.u8 32 x18, AV.ints IntKind.u8 64 x19]], AV.ints IntKind.u8 64 x20], AV.agg [AV.ints IntKind.u8 32 a21, AV.int IntKind.i64 a22, AV.ints IntKind.u8 32 a23, AV.ints IntKind.u8 32 a24], AV.agg [AV.ints IntKind.u8 32 b25, AV.int IntKind.i64 b26, AV.ints IntKind.u8 32 b27, AV.ints IntKind.u8 32 b28]] [] κ = f R x1 x2 x3 x4 x5 x6 x7 x8 xN9 x10 x11 x12 x13 x14 x15 xN16 x17 x18 x19 x20 a21 a22 a23 a24 b25 b26 b27 b28 (fun v => κ (AV.bool v) []) := rfl
noncomputable def M (N : Nat) : Ty := fun R x1 x2 x3 x4 x5 x6 x7 x8 xN9 x10 x11 x12 x13 x14 x15 xN16 x17 x18 x19 x20 a21 a22 a23 a24 b25 b26 b27 b28 kr0 => m (alive23.M N) (bigLeaf23.M N) (recOffer.M N) (commits23.M N) (R := R) N x1 x2 x3 x4 x5 x6 x7 x8 xN9 x10 x11 x12 x13 x14 x15 xN16 x17 x18 x19 x20 a21 a22 a23 a24 b25 b26 b27 b28 kr0
def gts : List (Nat × AV) := [(0, .err 1), (2, .err 3), (3, .err 4), (19, .ints .u32 64 K256)]
theorem gok (N : Nat) : GOk (g (alive23.M N) (bigLeaf23.M N) (recOffer.M N) (commits23.M N)) := giD_ok hm (by intro p hp; cases hp) (gtL_ok (by decide)) (ovL_ok (by
    intro p hp
    simp only [List.mem_cons, List.not_mem_nil, or_false] at hp
    rcases hp with rfl | rfl | rfl | rfl
    · exact ⟨(alive23.ok N).gt (gtL_sub (by repeat (first | exact subG_nil _ | refine subG_cons (by kernel_rfl) ?_))) (gtL_ok (by decide)), _, Tryd.func15, by kernel_rfl, by kernel_rfl⟩
    · exact ⟨(bigLeaf23.ok N).gt (gtL_sub (by repeat (first | exact subG_nil _ | refine subG_cons (by kernel_rfl) ?_))) (gtL_ok (by decide)), _, Tryd.func16, by kernel_rfl, by kernel_rfl⟩
    · exact ⟨(recOffer.ok N).gt (gtL_sub (by repeat (first | exact subG_nil _ | refine subG_cons (by kernel_rfl) ?_))) (gtL_ok (by decide)), _, Tryd.func17, by kernel_rfl, by kernel_rfl⟩
    · exact ⟨(commits23.ok N).gt (gtL_sub (by repeat (first | exact subG_nil _ | refine subG_cons (by kernel_rfl) ?_))) (gtL_ok (by decide)), _, Tryd.func18, by kernel_rfl, by kernel_rfl⟩
)) 1
theorem ok (N : Nat) : SoundC Tryd.prog (gtL gts) 4 (con (M N)) := by
  refine SoundC.mono (evF_ok (gok N) hm an N Tryd.func4) fun R args bs κ r h => ?_
  unfold con at h
  split at h
  · exact (eq (alive23.M N) (bigLeaf23.M N) (recOffer.M N) (commits23.M N) N κ _ _ _ _ _ _ _ _ _ _ _ _ _ _ _ _ _ _ _ _ _ _ _ _ _ _ _ _).trans h
  · cases h
end RecordUnlike

end Go.Proofs.YthajoenmfppenaaDoor.fn
