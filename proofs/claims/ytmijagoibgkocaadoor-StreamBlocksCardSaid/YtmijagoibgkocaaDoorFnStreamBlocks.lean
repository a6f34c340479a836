/- What a law of the stream computes, with the proof; printed by a program. -/
import Derived.Test.YtmijagoibgkocaaDoorProg
import Derived.Test.YtmijagoibgkocaaDoorEv4
import Derived.Test.YtmijagoibgkocaaDoorFnStreamR
import Derived.Test.YtmijagoibgkocaaDoorFnNum
namespace Go.Proofs.YtmijagoibgkocaaDoor.fn
open Go Go.Proofs Go.Ev

/-! ### Tryd.f7: alive06 -/
namespace alive06
def an : Anns := ⟨fun i => findA i [], fun i => findA i [], false, fun _ => none, []⟩
noncomputable def g (mQuarter : Quarter.Ty) : Gi := giD Tryd.prog (gtL []) (fun _ => an) 0 [] (ovL [(8, Quarter.con mQuarter)]) 1
noncomputable def m (mQuarter : Quarter.Ty) {R : Type} (_N : Nat) (kr0 : Bool → Option R) : Option R :=
  mQuarter R 286331153 16909060 2609737539 19088743
   (fun v_c4 v_1_c5 v_2_c6 v_3_c7 => cond (v_c4 == 3928658676)
    (cond (v_1_c5 == 3407673550)
     (cond (v_2_c6 == 1166100270)
      (kr0 (v_3_c7 == 1484899515))
      (kr0 false))
     (kr0 false))
    (kr0 false))
theorem tree (mQuarter : Quarter.Ty) {R : Type} (N : Nat) (κ : AV → List Blk → Option R) : evF (g mQuarter) an N Tryd.f7 [] [] κ =
  mQuarter R 286331153 16909060 2609737539 19088743
   (fun v_c4 v_1_c5 v_2_c6 v_3_c7 => cond (v_c4 == 3928658676)
    (cond (v_1_c5 == 3407673550)
     (cond (v_2_c6 == 1166100270)
      (κ (AV.bool (v_3_c7 == 1484899515)) [])
      (κ (AV.bool false) []))
     (κ (AV.bool false) []))
    (κ (AV.bool false) [])) := by kernel_rfl
theorem eq (mQuarter : Quarter.Ty) {R : Type} (N : Nat) (κ : AV → List Blk → Option R) : evF (g mQuarter) an N Tryd.f7 [] [] κ =
  m mQuarter N (fun v => κ (AV.bool v) []) := by
  rw [tree]
  kernel_rfl
abbrev Ty : Type 1 := ∀ R : Type, (Bool → Option R) → Option R
def con (f : Ty) : Con := fun R args bs κ => match args, bs with
  | [], [] => f R (fun v => κ (AV.bool v) [])
  | _, _ => none
theorem con_eq (f : Ty) (R : Type) (κ : AV → List Blk → Option R) : con f R [] [] κ = f R (fun v => κ (AV.bool v) []) := rfl
noncomputable def M (N : Nat) : Ty := fun R kr0 => m (Quarter.M N) (R := R) N kr0
def gts : List (Nat × AV) := []
theorem gok (N : Nat) : GOk (g (Quarter.M N)) := giD_ok hm (by intro p hp; cases hp) (gtL_ok (by decide)) (ovL_ok (by
    intro p hp
    simp only [List.mem_cons, List.not_mem_nil, or_false] at hp
    rcases hp with rfl
    · exact ⟨(Quarter.ok N).gt (gtL_sub (by repeat (first | exact subG_nil _ | refine subG_cons (by kernel_rfl) ?_))) (gtL_ok (by decide)), _, Tryd.func8, by kernel_rfl, by kernel_rfl⟩
)) 1
theorem ok (N : Nat) : SoundC Tryd.prog (gtL gts) 7 (con (M N)) := by
  refine SoundC.mono (evF_ok (gok N) hm an N Tryd.func7) fun R args bs κ r h => ?_
  unfold con at h
  split at h
  · exact (eq (Quarter.M N) N κ).trans h
  · cases h
end alive06


/-! ### Tryd.f3: StreamBlocks -/
namespace StreamBlocks
def an : Anns := ⟨fun i => findA i [], fun i => findA i [], false, fun _ => none, []⟩
noncomputable def g (malive06 : alive06.Ty) (mQuarter : Quarter.Ty) (mrQuarter : rQuarter.Ty) (mBlock : Block.Ty) (mNum : Num.Ty) (mrBlock : rBlock.Ty) : Gi := giW [9] (giD Tryd.prog (gtL [(0, .err 4), (1, .err 1), (2, .err 2), (3, .err 3), (4, .err 5), (5, .err 6), (6, .err 7), (7, .err 8), (8, .err 9), (9, .err 10), (10, .err 11), (11, .err 12), (12, .err 13), (13, .err 14), (14, .err 15), (15, .err 16), (16, .err 17), (17, .err 18), (18, .err 19)]) (fun _ => an) 0 [] (ovL [(7, alive06.con malive06), (8, Quarter.con mQuarter), (9, rQuarter.con mrQuarter), (10, Block.con mBlock), (11, Num.con mNum), (12, rBlock.con mrBlock)]) 1)
noncomputable def m (malive06 : alive06.Ty) (mQuarter : Quarter.Ty) (mrQuarter : rQuarter.Ty) (mBlock : Block.Ty) (mNum : Num.Ty) (mrBlock : rBlock.Ty) {R : Type} (_N : Nat) (w1 : List Int) (key2 : List Int) (nonceN3 : Option Bool) (nonce4 : List Int) (kr0 : Bool → Option R) : Option R :=
  malive06 R
   (fun v_c2 => cond (!v_c2)
    (kr0 false)
    (cond (decide ((↑nonce4.length : Int) > 50))
     (kr0 true)
     (mQuarter R (w1.getD 0 0) (w1.getD 1 0) (w1.getD 2 0) (w1.getD 3 0)
      (fun v_c3 v_1_c4 v_2_c5 v_3_c6 => mrQuarter R 0 none false ([w1.getD 0 0, w1.getD 1 0, w1.getD 2 0, w1.getD 3 0]) 0 1 2 3
       (fun b_c7 b_1_c8 => cond (true && false == b_c7 && b_1_c8.length.beq 4 && true && true)
        (cond (decide (0 < (↑(olen none b_1_c8.length 0) : Int)))
         (cond (v_c3 != b_1_c8.getD 0 0)
          (kr0 false)
          (cond (decide (1 < (↑(olen none b_1_c8.length 0) : Int)))
           (cond (v_1_c4 != b_1_c8.getD 1 0)
            (kr0 false)
            (cond (decide (2 < (↑(olen none b_1_c8.length 0) : Int)))
             (cond (v_2_c5 != b_1_c8.getD 2 0)
              (kr0 false)
              (cond (decide (3 < (↑(olen none b_1_c8.length 0) : Int)))
               (cond (v_3_c6 != b_1_c8.getD 3 0)
                (kr0 false)
                (mBlock R key2 (w1.getD 0 0) nonceN3 nonce4
                 (cond ((↑nonce4.length : Int) != 12)
                  (mNum R 4
                   (fun v_c9 => kr0 (v_c9 == 4)))
                  (kr0 false))
                 (fun _b_c10 b_1_c11 => cond ((↑nonce4.length : Int) != 12)
                  (cond ((↑(olen none b_1_c11.length 0) : Int) == 0)
                   (mNum R 0
                    (fun v_c12 => kr0 (v_c12 == 4)))
                   (kr0 false))
                  (mrBlock R key2 (w1.getD 0 0) nonceN3 nonce4
                   (fun v_c13 => kr0 (toStr b_1_c11 == toStr v_c13))))))
               (none)))
             (none)))
           (none)))
         (none))
        (none))))))
theorem tree (malive06 : alive06.Ty) (mQuarter : Quarter.Ty) (mrQuarter : rQuarter.Ty) (mBlock : Block.Ty) (mNum : Num.Ty) (mrBlock : rBlock.Ty) {R : Type} (N : Nat) (κ : AV → List Blk → Option R) (w1 : List Int) (key2 : List Int) (nonceN3 : Option Bool) (nonce4 : List Int) : evF (g malive06 mQuarter mrQuarter mBlock mNum mrBlock) an N Tryd.f3 [AV.ints IntKind.u32 4 w1, AV.ints IntKind.u8 32 key2, AV.isl IntKind.u8 nonceN3 nonce4] [] κ =
  malive06 R
   (fun v_c2 => cond (!v_c2)
    (κ (AV.bool false) [])
    (cond (decide ((↑nonce4.length : Int) > 50))
     (κ (AV.bool true) [])
     (mQuarter R (w1.getD 0 0) (w1.getD 1 0) (w1.getD 2 0) (w1.getD 3 0)
      (fun v_c3 v_1_c4 v_2_c5 v_3_c6 => mrQuarter R 0 none false ([w1.getD 0 0, w1.getD 1 0, w1.getD 2 0, w1.getD 3 0]) 0 1 2 3
       (fun b_c7 b_1_c8 => cond (true && false == b_c7 && b_1_c8.length.beq 4 && true && true)
        (cond (decide (0 < (↑(olen none b_1_c8.length 0) : Int)))
         (cond (v_c3 != b_1_c8.getD 0 0)
          (κ (AV.bool false) [])
          (cond (decide (1 < (↑(olen none b_1_c8.length 0) : Int)))
           (cond (v_1_c4 != b_1_c8.getD 1 0)
            (κ (AV.bool false) [])
            (cond (decide (2 < (↑(olen none b_1_c8.length 0) : Int)))
             (cond (v_2_c5 != b_1_c8.getD 2 0)
              (κ (AV.bool false) [])
              (cond (decide (3 < (↑(olen none b_1_c8.length 0) : Int)))
               (cond (v_3_c6 != b_1_c8.getD 3 0)
                (κ (AV.bool false) [])
                (mBlock R key2 (w1.getD 0 0) nonceN3 nonce4
                 (cond ((↑nonce4.length : Int) != 12)
                  (mNum R 4
                   (fun v_c9 => κ (AV.bool (v_c9 == 4)) []))
                  (κ (AV.bool false) []))
                 (fun _b_c10 b_1_c11 => cond ((↑nonce4.length : Int) != 12)
                  (cond ((↑(olen none b_1_c11.length 0) : Int) == 0)
                   (mNum R 0
                    (fun v_c12 => κ (AV.bool (v_c12 == 4)) []))
                   (κ (AV.bool false) []))
                  (mrBlock R key2 (w1.getD 0 0) nonceN3 nonce4
                   (fun v_c13 => κ (AV.bool (toStr b_1_c11 == toStr v_c13)) [])))))
               (none)))
             (none)))
           (none)))
         (none))
        (none)))))) := by kernel_rfl
theorem eq (malive06 : alive06.Ty) (mQuarter : Quarter.Ty) (mrQuarter : rQuarter.Ty) (mBlock : Block.Ty) (mNum : Num.Ty) (mrBlock : rBlock.Ty) {R : Type} (N : Nat) (κ : AV → List Blk → Option R) (w1 : List Int) (key2 : List Int) (nonceN3 : Option Bool) (nonce4 : List Int) : evF (g malive06 mQuarter mrQuarter mBlock mNum mrBlock) an N Tryd.f3 [AV.ints IntKind.u32 4 w1, AV.ints IntKind.u8 32 key2, AV.isl IntKind.u8 nonceN3 nonce4] [] κ =
  m malive06 mQuarter mrQuarter mBlock mNum mrBlock N w1 key2 nonceN3 nonce4 (fun v => κ (AV.bool v) []) := by
  rw [tree]
  kernel_rfl
abbrev Ty : Type 1 := ∀ R : Type, (List Int) → (List Int) → (Option Bool) → (List Int) → (Bool → Option R) → Option R
def con (f : Ty) : Con := fun R args bs κ => match args, bs with
  | [AV.ints IntKind.u32 4 w1, AV.ints IntKind.u8 32 key2, AV.isl IntKind.u8 nonceN3 nonce4], [] => f R w1 key2 nonceN3 nonce4 (fun v => κ (AV.bool v) [])
  | _, _ => none
theorem con_eq (f : Ty) (R : Type) (κ : AV → List Blk → Option R) (w1 : List Int) (key2 : List Int) (nonceN3 : Option Bool) (nonce4 : List Int) : con f R [AV.ints IntKind.u32 4 w1, AV.ints IntKind.u8 32 key2, AV.isl IntKind.u8 nonceN3 nonce4] [] κ = f R w1 key2 nonceN3 nonce4 (fun v => κ (AV.bool v) []) := rfl
noncomputable def M (N : Nat) : Ty := fun R w1 key2 nonceN3 nonce4 kr0 => m (alive06.M N) (Quarter.M N) (rQuarter.M N) (Block.M N) (Num.M N) (rBlock.M N) (R := R) N w1 key2 nonceN3 nonce4 kr0
def gts : List (Nat × AV) := [(0, .err 4), (1, .err 1), (2, .err 2), (3, .err 3), (4, .err 5), (5, .err 6), (6, .err 7), (7, .err 8), (8, .err 9), (9, .err 10), (10, .err 11), (11, .err 12), (12, .err 13), (13, .err 14), (14, .err 15), (15, .err 16), (16, .err 17), (17, .err 18), (18, .err 19)]
theorem gok (N : Nat) : GOk (g (alive06.M N) (Quarter.M N) (rQuarter.M N) (Block.M N) (Num.M N) (rBlock.M N)) := giW_ok (giD_ok hm (by intro p hp; cases hp) (gtL_ok (by decide)) (ovL_ok (by
    intro p hp
    simp only [List.mem_cons, List.not_mem_nil, or_false] at hp
    rcases hp with rfl | rfl | rfl | rfl | rfl | rfl
    · exact ⟨(alive06.ok N).gt (gtL_sub (by repeat (first | exact subG_nil _ | refine subG_cons (by kernel_rfl) ?_))) (gtL_ok (by decide)), _, Tryd.func7, by kernel_rfl, by kernel_rfl⟩
    · exact ⟨(Quarter.ok N).gt (gtL_sub (by repeat (first | exact subG_nil _ | refine subG_cons (by kernel_rfl) ?_))) (gtL_ok (by decide)), _, Tryd.func8, by kernel_rfl, by kernel_rfl⟩
    · exact ⟨(rQuarter.ok N).gt (gtL_sub (by repeat (first | exact subG_nil _ | refine subG_cons (by kernel_rfl) ?_))) (gtL_ok (by decide)), _, Tryd.func9, by kernel_rfl, by kernel_rfl⟩
    · exact ⟨(Block.ok N).gt (gtL_sub (by repeat (first | exact subG_nil _ | refine subG_cons (by kernel_rfl) ?_))) (gtL_ok (by decide)), _, Tryd.func10, by kernel_rfl, by kernel_rfl⟩
    · exact ⟨(Num.ok N).gt (gtL_sub (by repeat (first | exact subG_nil _ | refine subG_cons (by kernel_rfl) ?_))) (gtL_ok (by decide)), _, Tryd.func11, by kernel_rfl, by kernel_rfl⟩
    · exact ⟨(rBlock.ok N).gt (gtL_sub (by repeat (first | exact subG_nil _ | refine subG_cons (by kernel_rfl) ?_))) (gtL_ok (by decide)), _, Tryd.func12, by kernel_rfl, by kernel_rfl⟩
)) 1)
theorem ok (N : Nat) : SoundC Tryd.prog (gtL gts) 3 (con (M N)) := by
  refine SoundC.mono (evF_ok (gok N) hm an N Tryd.func3) fun R args bs κ r h => ?_
  unfold con at h
  split at h
  · exact (eq (alive06.M N) (Quarter.M N) (rQuarter.M N) (Block.M N) (Num.M N) (rBlock.M N) N κ _ _ _ _).trans h
  · cases h
end StreamBlocks

end Go.Proofs.YtmijagoibgkocaaDoor.fn
