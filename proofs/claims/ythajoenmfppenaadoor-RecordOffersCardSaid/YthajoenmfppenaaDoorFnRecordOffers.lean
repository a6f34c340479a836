/- What a law of records computes, with the proof; printed by a program. -/
import Derived.Test.YthajoenmfppenaaDoorProg
import Derived.Test.YthajoenmfppenaaDoorEv4
import Derived.Test.YthajoenmfppenaaDoorFnL23
import Derived.Test.YthajoenmfppenaaDoorFnRec
import Derived.Test.YthajoenmfppenaaDoorFnRecR
import Derived.Test.YthajoenmfppenaaDoorFnFormsO
import Derived.Test.YthajoenmfppenaaDoorFnShaR
namespace Go.Proofs.YthajoenmfppenaaDoor.fn
open Go Go.Proofs Go.Ev

/-! ### Tryd.f22: recRef -/
namespace recRef
def an : Anns := ⟨fun i => findA i [], fun i => findA i [], false, fun _ => none, []⟩
noncomputable def g (mfOffer : fOffer.Ty) (msSum : sSum.Ty) : Gi := giD Tryd.prog (gtL [(0, .err 1), (2, .err 3), (3, .err 4), (19, .ints .u32 64 K256)]) (fun _ => an) 0 [] (ovL [(61, fOffer.con mfOffer), (50, sSum.con msSum)]) 1
noncomputable def m (mfOffer : fOffer.Ty) (msSum : sSum.Ty) {R : Type} (_N : Nat) (x1 : List Int) (x2 : Int) (x3 : Int) (x4 : Int) (x5 : Int) (x6 : List Int) (x7 : List Int) (x8 : List Int) (xN9 : Option Bool) (x10 : List Int) (x11 : List Int) (x12 : List Int) (x13 : List Int) (x14 : List Int) (x15 : List Int) (xN16 : Option Bool) (x17 : List Int) (x18 : List Int) (x19 : List Int) (x20 : List Int) (kr0 : (List Int) → Nat → Option R) : Option R :=
  mfOffer R x1 x2 x3 x4 x5 x6 x7 x8 xN9 x10 x11 x12 x13 x14 x15 xN16 x17 x18 x19 x20
   (fun _v_c7 v_1_c8 v_2_c9 => cond (!v_2_c9.beq 0)
    (kr0 ([0, 0, 0, 0, 0, 0, 0, 0, 0, 0, 0, 0, 0, 0, 0, 0, 0, 0, 0, 0, 0, 0, 0, 0, 0, 0, 0, 0, 0, 0, 0, 0]) v_2_c9)
    (msSum R ([v_1_c8])
     (fun v_c10 => kr0 v_c10 0)))
theorem tree (mfOffer : fOffer.Ty) (msSum : sSum.Ty) {R : Type} (N : Nat) (κ : AV → List Blk → Option R) (x1 : List Int) (x2 : Int) (x3 : Int) (x4 : Int) (x5 : Int) (x6 : List Int) (x7 : List Int) (x8 : List Int) (xN9 : Option Bool) (x10 : List Int) (x11 : List Int) (x12 : List Int) (x13 : List Int) (x14 : List Int) (x15 : List Int) (xN16 : Option Bool) (x17 : List Int) (x18 : List Int) (x19 : List Int) (x20 : List Int) : evF (g mfOffer msSum) an N Tryd.f22 [AV.agg [AV.ints IntKind.u8 32 x1, AV.int IntKind.i64 x2, AV.int IntKind.i64 x3, AV.agg [AV.int IntKind.i64 x4, AV.int IntKind.i64 x5, AV.agg [AV.ints IntKind.u8 32 x6, AV.agg [AV.ints IntKind.u8 32 x7, AV.ints IntKind.u8 32 x8, AV.isl IntKind.u8 xN9 x10, AV.ints IntKind.u8 32 x11, AV.ints IntKind.u8 64 x12], AV.ints IntKind.u8 64 x13], AV.agg [AV.ints IntKind.u8 32 x14, AV.ints IntKind.u8 32 x15, AV.isl IntKind.u8 xN16 x17, AV.ints IntKind.u8 32 x18, AV.ints IntKind.u8 64 x19]], AV.ints IntKind.u8 64 x20]] [] κ =
  mfOffer R x1 x2 x3 x4 x5 x6 x7 x8 xN9 x10 x11 x12 x13 x14 x15 xN16 x17 x18 x19 x20
   (fun _v_c7 v_1_c8 v_2_c9 => cond (!v_2_c9.beq 0)
    (κ (AV.tup [AV.ints IntKind.u8 32 [0, 0, 0, 0, 0, 0, 0, 0, 0, 0, 0, 0, 0, 0, 0, 0, 0, 0, 0, 0, 0, 0, 0, 0, 0, 0, 0, 0, 0, 0, 0, 0], AV.err v_2_c9]) [])
    (msSum R ([v_1_c8])
     (fun v_c10 => κ (AV.tup [AV.ints IntKind.u8 32 v_c10, AV.err 0]) []))) := by kernel_rfl
theorem eq (mfOffer : fOffer.Ty) (msSum : sSum.Ty) {R : Type} (N : Nat) (κ : AV → List Blk → Option R) (x1 : List Int) (x2 : Int) (x3 : Int) (x4 : Int) (x5 : Int) (x6 : List Int) (x7 : List Int) (x8 : List Int) (xN9 : Option Bool) (x10 : List Int) (x11 : List Int) (x12 : List Int) (x13 : List Int) (x14 : List Int) (x15 : List Int) (xN16 : Option Bool) (x17 : List Int) (x18 : List Int) (x19 : List Int) (x20 : List Int) : evF (g mfOffer msSum) an N Tryd.f22 [AV.agg [AV.ints IntKind.u8 32 x1, AV.int IntKind.i64 x2, AV.int IntKind.i64 x3, AV.agg [AV.int IntKind.i64 x4, AV.int IntKind.i64 x5, AV.agg [AV.ints IntKind.u8 32 x6, AV.agg [AV.ints IntKind.u8 32 x7, AV.ints IntKind.u8 32 x8, AV.isl IntKind.u8 xN9 x10, AV.ints IntKind.u8 32 x11, AV.ints IntKind.u8 64 x12], AV.ints IntKind.u8 64 x13], AV.agg [AV.ints IntKind.u8 32 x14, AV.ints IntKind.u8 32 x15, AV.isl IntKind.u8 xN16 x17, AV.ints IntKind.u8 32 x18, AV.ints IntKind.u8 64 x19]], AV.ints IntKind.u8 64 x20]] [] κ =
  m mfOffer msSum N x1 x2 x3 x4 x5 x6 x7 x8 xN9 x10 x11 x12 x13 x14 x15 xN16 x17 x18 x19 x20 (fun v v_1 => κ (AV.tup [AV.ints IntKind.u8 32 v, AV.err v_1]) []) := by
  rw [tree]
  kernel_rfl
abbrev Ty : Type 1 := ∀ R : Type, (List Int) → Int → Int → Int → Int → (List Int) → (List Int) → (List Int) → (Option Bool) → (List Int) → (List Int) → (List Int) → (List Int) → (List Int) → (List Int) → (Option Bool) → (List Int) → (List Int) → (List Int) → (List Int) → ((List Int) → Nat → Option R) → Option R
def con (f : Ty) : Con := fun R args bs κ => match args, bs with
  | [AV.agg [AV.ints IntKind.u8 32 x1, AV.int IntKind.i64 x2, AV.int IntKind.i64 x3, AV.agg [AV.int IntKind.i64 x4, AV.int IntKind.i64 x5, AV.agg [AV.ints IntKind.u8 32 x6, AV.agg [AV.ints IntKind.u8 32 x7, AV.ints IntKind.u8 32 x8, AV.isl IntKind.u8 xN9 x10, AV.ints IntKind.u8 32 x11, AV.ints IntKind.u8 64 x12], AV.ints IntKind.u8 64 x13], AV.agg [AV.ints IntKind.u8 32 x14, AV.ints IntKind.u8 32 x15, AV.isl IntKind.u8 xN16 x17, AV.ints IntKind.u8 32 x18, AV.ints IntKind.u8 64 x19]], AV.ints IntKind.u8 64 x20]], [] => f R x1 x2 x3 x4 x5 x6 x7 x8 xN9 x10 x11 x12 x13 x14 x15 xN16 x17 x18 x19 x20 (fun v v_1 => κ (AV.tup [AV.ints IntKind.u8 32 v, AV.err v_1]) [])
  | _, _ => none
theorem con_eq (f : Ty) (R : Type) (κ : AV → List Blk → Option R) (x1 : List Int) (x2 : Int) (x3 : Int) (x4 : Int) (x5 : Int) (x6 : List Int) (x7 : List Int) (x8 : List Int) (xN9 : Option Bool) (x10 : List Int) (x11 : List Int) (x12 : List Int) (x13 : List Int) (x14 : List Int) (x15 : List Int) (xN16 : Option Bool) (x17 : List Int) (x18 : List Int) (x19 : List Int) (x20 : List Int) : con f R [AV.agg [AV.ints IntKind.u8 32 x1, AV.int IntKind.i64 x2, AV.int IntKind.i64 x3, AV.agg [AV.int IntKind.i64 x4, AV.int IntKind.i64 x5, AV.agg [AV.ints IntKind.u8 32 x6, AV.agg [AV.ints IntKind.u8 32 x7, AV.ints IntKind.u8 32 x8, AV.isl IntKind.u8 xN9 x10, AV.ints IntKind.u8 32 x11, AV.ints IntKind.u8 64 x12], AV.ints IntKind.u8 64 x13], AV.agg [AV.ints IntKind.u8 32 x14, AV.ints IntKind.u8 32 x15, AV.isl IntKind.u8 xN16 x17, AV.ints IntKind.u8 32 x18, AV.ints IntKind.u8 64 x19]], AV.ints IntKind.u8 64 x20]] [] κ = f R x1 x2 x3 x4 x5 x6 x7 x8 xN9 x10 x11 x12 x13 x14 x15 xN16 x17 x18 x19 x20 (fun v v_1 => κ (AV.tup [AV.ints IntKind.u8 32 v, AV.err v_1]) []) := rfl
noncomputable def M (N : Nat) : Ty := fun R x1 x2 x3 x4 x5 x6 x7 x8 xN9 x10 x11 x12 x13 x14 x15 xN16 x17 x18 x19 x20 kr0 => m (fOffer.M N) (sSum.M N) (R := R) N x1 x2 x3 x4 x5 x6 x7 x8 xN9 x10 x11 x12 x13 x14 x15 xN16 x17 x18 x19 x20 kr0
def gts : List (Nat × AV) := [(0, .err 1), (2, .err 3), (3, .err 4), (19, .ints .u32 64 K256)]
theorem gok (N : Nat) : GOk (g (fOffer.M N) (sSum.M N)) := giD_ok hm (by intro p hp; cases hp) (gtL_ok (by decide)) (ovL_ok (by
    intro p hp
    simp only [List.mem_cons, List.not_mem_nil, or_false] at hp
    rcases hp with rfl | rfl
    · exact ⟨(fOffer.ok N).gt (gtL_sub (by repeat (first | exact subG_nil _ | refine subG_cons (by kernel_rfl) ?_))) (gtL_ok (by decide)), _, Tryd.func61, by kernel_rfl, by kernel_rfl⟩
    · exact ⟨(sSum.ok N).gt (gtL_sub (by repeat (first | exact subG_nil _ | refine subG_cons (by kernel_rfl) ?_))) (gtL_ok (by decide)), _, Tryd.func50, by kernel_rfl, by kernel_rfl⟩
)) 1
theorem ok (N : Nat) : SoundC Tryd.prog (gtL gts) 22 (con (M N)) := by
  refine SoundC.mono (evF_ok (gok N) hm an N Tryd.func22) fun R args bs κ r h => ?_
  unfold con at h
  split at h
  · exact (eq (fOffer.M N) (sSum.M N) N κ _ _ _ _ _ _ _ _ _ _ _ _ _ _ _ _ _ _ _ _).trans h
  · cases h
end recRef


/-! ### Tryd.f23: r23Ref -/
namespace r23Ref
def an : Anns := ⟨fun i => findA i [], fun i => findA i [], false, fun _ => none, []⟩
noncomputable def g (mr18Offer : r18Offer.Ty) (mrSum : rSum.Ty) : Gi := giD Tryd.prog (gtL []) (fun _ => an) 0 [] (ovL [(62, r18Offer.con mr18Offer), (63, rSum.con mrSum)]) 1
noncomputable def m (mr18Offer : r18Offer.Ty) (mrSum : rSum.Ty) {R : Type} (_N : Nat) (x1 : List Int) (x2 : Int) (x3 : Int) (x4 : Int) (x5 : Int) (x6 : List Int) (x7 : List Int) (x8 : List Int) (xN9 : Option Bool) (x10 : List Int) (x11 : List Int) (x12 : List Int) (x13 : List Int) (x14 : List Int) (x15 : List Int) (xN16 : Option Bool) (x17 : List Int) (x18 : List Int) (x19 : List Int) (x20 : List Int) (kr0 : (List Int) → Bool → Option R) : Option R :=
  mr18Offer R x1 x2 x3 x4 x5 x6 x7 x8 xN9 x10 x11 x12 x13 x14 x15 xN16 x17 x18 x19 x20
   (fun v_c7 v_1_c8 v_2_c9 => cond (!v_2_c9)
    (kr0 ([0, 0, 0, 0, 0, 0, 0, 0, 0, 0, 0, 0, 0, 0, 0, 0, 0, 0, 0, 0, 0, 0, 0, 0, 0, 0, 0, 0, 0, 0, 0, 0]) false)
    (mrSum R v_c7 v_1_c8
     (fun v_c10 => kr0 v_c10 true)))
theorem tree (mr18Offer : r18Offer.Ty) (mrSum : rSum.Ty) {R : Type} (N : Nat) (κ : AV → List Blk → Option R) (x1 : List Int) (x2 : Int) (x3 : Int) (x4 : Int) (x5 : Int) (x6 : List Int) (x7 : List Int) (x8 : List Int) (xN9 : Option Bool) (x10 : List Int) (x11 : List Int) (x12 : List Int) (x13 : List Int) (x14 : List Int) (x15 : List Int) (xN16 : Option Bool) (x17 : List Int) (x18 : List Int) (x19 : List Int) (x20 : List Int) : evF (g mr18Offer mrSum) an N Tryd.f23 [AV.agg [AV.ints IntKind.u8 32 x1, AV.int IntKind.i64 x2, AV.int IntKind.i64 x3, AV.agg [AV.int IntKind.i64 x4, AV.int IntKind.i64 x5, AV.agg [AV.ints IntKind.u8 32 x6, AV.agg [AV.ints IntKind.u8 32 x7, AV.ints IntKind.u8 32 x8, AV.isl IntKind.u8 xN9 x10, AV.ints IntKind.u8 32 x11, AV.ints IntKind.u8 64 x12], AV.ints IntKind.u8 64 x13], AV.agg [AV.ints IntKind.u8 32 x14, AV.ints IntKind.u8 32 x15, AV.isl IntKind.u8 xN16 x17, AV.ints IntKind.u8 32 x18, AV.ints IntKind.u8 64 x19]], AV.ints IntKind.u8 64 x20]] [] κ =
  mr18Offer R x1 x2 x3 x4 x5 x6 x7 x8 xN9 x10 x11 x12 x13 x14 x15 xN16 x17 x18 x19 x20
   (fun v_c7 v_1_c8 v_2_c9 => cond (!v_2_c9)
    (κ (AV.tup [AV.ints IntKind.u8 32 [0, 0, 0, 0, 0, 0, 0, 0, 0, 0, 0, 0, 0, 0, 0, 0, 0, 0, 0, 0, 0, 0, 0, 0, 0, 0, 0, 0, 0, 0, 0, 0], AV.bool false]) [])
    (mrSum R v_c7 v_1_c8
     (fun v_c10 => κ (AV.tup [AV.ints IntKind.u8 32 v_c10, AV.bool true]) []))) := by kernel_rfl
theorem eq (mr18Offer : r18Offer.Ty) (mrSum : rSum.Ty) {R : Type} (N : Nat) (κ : AV → List Blk → Option R) (x1 : List Int) (x2 : Int) (x3 : Int) (x4 : Int) (x5 : Int) (x6 : List Int) (x7 : List Int) (x8 : List Int) (xN9 : Option Bool) (x10 : List Int) (x11 : List Int) (x12 : List Int) (x13 : List Int) (x14 : List Int) (x15 : List Int) (xN16 : Option Bool) (x17 : List Int) (x18 : List Int) (x19 : List Int) (x20 : List Int) : evF (g mr18Offer mrSum) an N Tryd.f23 [AV.agg [AV.ints IntKind.u8 32 x1, AV.int IntKind.i64 x2, AV.int IntKind.i64 x3, AV.agg [AV.int IntKind.i64 x4, AV.int IntKind.i64 x5, AV.agg [AV.ints IntKind.u8 32 x6, AV.agg [AV.ints IntKind.u8 32 x7, AV.ints IntKind.u8 32 x8, AV.isl IntKind.u8 xN9 x10, AV.ints IntKind.u8 32 x11, AV.ints IntKind.u8 64 x12], AV.ints IntKind.u8 64 x13], AV.agg [AV.ints IntKind.u8 32 x14, AV.ints IntKind.u8 32 x15, AV.isl IntKind.u8 xN16 x17, AV.ints IntKind.u8 32 x18, AV.ints IntKind.u8 64 x19]], AV.ints IntKind.u8 64 x20]] [] κ =
  m mr18Offer mrSum N x1 x2 x3 x4 x5 x6 x7 x8 xN9 x10 x11 x12 x13 x14 x15 xN16 x17 x18 x19 x20 (fun v v_1 => κ (AV.tup [AV.ints IntKind.u8 32 v, AV.bool v_1]) []) := by
  rw [tree]
  kernel_rfl
abbrev Ty : Type 1 := ∀ R : Type, (List Int) → Int → Int → Int → Int → (List Int) → (List Int) → (List Int) → (Option Bool) → (List Int) → (List Int) → (List Int) → (List Int) → (List Int) → (List Int) → (Option Bool) → (List Int) → (List Int) → (List Int) → (List Int) → ((List Int) → Bool → Option R) → Option R
def con (f : Ty) : Con := fun R args bs κ => match args, bs with
  | [AV.agg [AV.ints IntKind.u8 32 x1, AV.int IntKind.i64 x2, AV.int IntKind.i64 x3, AV.agg [AV.int IntKind.i64 x4, AV.int IntKind.i64 x5, AV.agg [AV.ints IntKind.u8 32 x6, AV.agg [AV.ints IntKind.u8 32 x7, AV.ints IntKind.u8 32 x8, AV.isl IntKind.u8 xN9 x10, AV.ints IntKind.u8 32 x11, AV.ints IntKind.u8 64 x12], AV.ints IntKind.u8 64 x13], AV.agg [AV.ints IntKind.u8 32 x14, AV.ints IntKind.u8 32 x15, AV.isl IntKind.u8 xN16 x17, AV.ints IntKind.u8 32 x18, AV.ints IntKind.u8 64 x19]], AV.ints IntKind.u8 64 x20]], [] => f R x1 x2 x3 x4 x5 x6 x7 x8 xN9 x10 x11 x12 x13 x14 x15 xN16 x17 x18 x19 x20 (fun v v_1 => κ (AV.tup [AV.ints IntKind.u8 32 v, AV.bool v_1]) [])
  | _, _ => none
theorem con_eq (f : Ty) (R : Type) (κ : AV → List Blk → Option R) (x1 : List Int) (x2 : Int) (x3 : Int) (x4 : Int) (x5 : Int) (x6 : List Int) (x7 : List Int) (x8 : List Int) (xN9 : Option Bool) (x10 : List Int) (x11 : List Int) (x12 : List Int) (x13 : List Int) (x14 : List Int) (x15 : List Int) (xN16 : Option Bool) (x17 : List Int) (x18 : List Int) (x19 : List Int) (x20 : List Int) : con f R [AV.agg [AV.ints IntKind.u8 32 x1, AV.int IntKind.i64 x2, AV.int IntKind.i64 x3, AV.agg [AV.int IntKind.i64 x4, AV.int IntKind.i64 x5, AV.agg [AV.ints IntKind.u8 32 x6, AV.agg [AV.ints IntKind.u8 32 x7, AV.ints IntKind.u8 32 x8, AV.isl IntKind.u8 xN9 x10, AV.ints IntKind.u8 32 x11, AV.ints IntKind.u8 64 x12], AV.ints IntKind.u8 64 x13], AV.agg [AV.ints IntKind.u8 32 x14, AV.ints IntKind.u8 32 x15, AV.isl IntKind.u8 xN16 x17, AV.ints IntKind.u8 32 x18, AV.ints IntKind.u8 64 x19]], AV.ints IntKind.u8 64 x20]] [] κ = f R x1 x2 x3 x4 x5 x6 x7 x8 xN9 x10 x11 x12 x13 x14 x15 xN16 x17 x18 x19 x20 (fun v v_1 => κ (AV.tup [AV.ints IntKind.u8 32 v, AV.bool v_1]) []) := rfl
noncomputable def M (N : Nat) : Ty := fun R x1 x2 x3 x4 x5 x6 x7 x8 xN9 x10 x11 x12 x13 x14 x15 xN16 x17 x18 x19 x20 kr0 => m (r18Offer.M N) (rSum.M N) (R := R) N x1 x2 x3 x4 x5 x6 x7 x8 xN9 x10 x11 x12 x13 x14 x15 xN16 x17 x18 x19 x20 kr0
def gts : List (Nat × AV) := []
theorem gok (N : Nat) : GOk (g (r18Offer.M N) (rSum.M N)) := giD_ok hm (by intro p hp; cases hp) (gtL_ok (by decide)) (ovL_ok (by
    intro p hp
    simp only [List.mem_cons, List.not_mem_nil, or_false] at hp
    rcases hp with rfl | rfl
    · exact ⟨(r18Offer.ok N).gt (gtL_sub (by repeat (first | exact subG_nil _ | refine subG_cons (by kernel_rfl) ?_))) (gtL_ok (by decide)), _, Tryd.func62, by kernel_rfl, by kernel_rfl⟩
    · exact ⟨(rSum.ok N).gt (gtL_sub (by repeat (first | exact subG_nil _ | refine subG_cons (by kernel_rfl) ?_))) (gtL_ok (by decide)), _, Tryd.func63, by kernel_rfl, by kernel_rfl⟩
)) 1
theorem ok (N : Nat) : SoundC Tryd.prog (gtL gts) 23 (con (M N)) := by
  refine SoundC.mono (evF_ok (gok N) hm an N Tryd.func23) fun R args bs κ r h => ?_
  unfold con at h
  split at h
  · exact (eq (r18Offer.M N) (rSum.M N) N κ _ _ _ _ _ _ _ _ _ _ _ _ _ _ _ _ _ _ _ _).trans h
  · cases h
end r23Ref


/-! ### Tryd.f5: RecordOffers -/
namespace RecordOffers
def an : Anns := ⟨fun i => findA i [], fun i => findA i [], false, fun _ => none, []⟩
noncomputable def g (malive23 : alive23.Ty) (mbigLeaf23 : bigLeaf23.Ty) (mrecOffer : recOffer.Ty) (mr23Offer : r23Offer.Ty) (mrecPackage : recPackage.Ty) (mr23Package : r23Package.Ty) (mrecRef : recRef.Ty) (mr23Ref : r23Ref.Ty) (mtold23 : told23.Ty) (mNum : Num.Ty) : Gi := giF (giD Tryd.prog (gtL [(0, .err 1), (1, .err 2), (2, .err 3), (3, .err 4), (4, .err 5), (5, .err 6), (6, .err 7), (7, .err 8), (8, .err 9), (9, .err 10), (10, .err 11), (11, .err 12), (12, .err 13), (13, .err 14), (14, .err 15), (15, .err 16), (16, .err 17), (17, .err 18), (18, .err 19), (19, .ints .u32 64 K256)]) (fun _ => an) 0 [] (ovL [(15, alive23.con malive23), (16, bigLeaf23.con mbigLeaf23), (17, recOffer.con mrecOffer), (19, r23Offer.con mr23Offer), (20, recPackage.con mrecPackage), (21, r23Package.con mr23Package), (22, recRef.con mrecRef), (23, r23Ref.con mr23Ref), (24, told23.con mtold23), (14, Num.con mNum)]) 1)
noncomputable def m (malive23 : alive23.Ty) (mbigLeaf23 : bigLeaf23.Ty) (mrecOffer : recOffer.Ty) (mr23Offer : r23Offer.Ty) (mrecPackage : recPackage.Ty) (mr23Package : r23Package.Ty) (mrecRef : recRef.Ty) (mr23Ref : r23Ref.Ty) (mtold23 : told23.Ty) (mNum : Num.Ty) {R : Type} (_N : Nat) (x1 : List Int) (x2 : Int) (x3 : Int) (x4 : Int) (x5 : Int) (x6 : List Int) (x7 : List Int) (x8 : List Int) (_xN9 : Option Bool) (x10 : List Int) (x11 : List Int) (x12 : List Int) (x13 : List Int) (x14 : List Int) (x15 : List Int) (_xN16 : Option Bool) (x17 : List Int) (x18 : List Int) (x19 : List Int) (x20 : List Int) (c21 : List Int) (c22 : Int) (c23 : List Int) (c24 : List Int) (kr0 : Bool → Option R) : Option R :=
  malive23 R
   (fun v_c3 => cond (!v_c3)
    (kr0 false)
    (mbigLeaf23 R x14 x15 none x17 x18 x19
     (fun v_c4 => cond v_c4
      (kr0 true)
      (mbigLeaf23 R x7 x8 none x10 x11 x12
       (fun v_c5 => cond v_c5
        (kr0 true)
        (mrecOffer R x1 x2 x3 x4 x5 x6 x7 x8 none x10 x11 x12 x13 x14 x15 none x17 x18 x19 x20 c21 c22 c23 c24
         (fun v_c6 v_1_c7 v_2_c8 => mr23Offer R x1 x2 x3 x4 x5 x6 x7 x8 none x10 x11 x12 x13 x14 x15 none x17 x18 x19 x20 c21 c22 c23 c24
          (fun v_c9 v_1_c10 v_2_c11 => mrecPackage R x6 x7 x8 none x10 x11 x12 x13
           (fun v_c12 v_1_c13 v_2_c14 => mr23Package R x6 x7 x8 none x10 x11 x12 x13
            (fun v_c15 v_1_c16 v_2_c17 => mrecRef R x1 x2 x3 x4 x5 x6 x7 x8 none x10 x11 x12 x13 x14 x15 none x17 x18 x19 x20
             (fun v_c18 v_1_c19 => mr23Ref R x1 x2 x3 x4 x5 x6 x7 x8 none x10 x11 x12 x13 x14 x15 none x17 x18 x19 x20
              (fun v_c20 v_1_c21 => mtold23 R v_c6 v_1_c7 v_2_c8 v_c9 v_1_c10 v_2_c11
               (fun v_c22 => cond v_c22
                (mtold23 R v_c12 v_1_c13 v_2_c14 v_c15 v_1_c16 v_2_c17
                 (fun v_c23 => cond v_c23
                  (cond (v_c18 == v_c20)
                   (cond (v_1_c19.beq 0 == v_1_c21)
                    (cond v_1_c21
                     (kr0 true)
                     (mNum R v_1_c19
                      (fun v_c24 => kr0 (v_c24 == 4))))
                    (kr0 false))
                   (kr0 false))
                  (kr0 false)))
                (kr0 false))))))))))))))
theorem tree (malive23 : alive23.Ty) (mbigLeaf23 : bigLeaf23.Ty) (mrecOffer : recOffer.Ty) (mr23Offer : r23Offer.Ty) (mrecPackage : recPackage.Ty) (mr23Package : r23Package.Ty) (mrecRef : recRef.Ty) (mr23Ref : r23Ref.Ty) (mtold23 : told23.Ty) (mNum : Num.Ty) {R : Type} (N : Nat) (κ : AV → List Blk → Option R) (x1 : List Int) (x2 : Int) (x3 : Int) (x4 : Int) (x5 : Int) (x6 : List Int) (x7 : List Int) (x8 : List Int) (xN9 : Option Bool) (x10 : List Int) (x11 : List Int) (x12 : List Int) (x13 : List Int) (x14 : List Int) (x15 : List Int) (xN16 : Option Bool) (x17 : List Int) (x18 : List Int) (x19 : List Int) (x20 : List Int) (c21 : List Int) (c22 : Int) (c23 : List Int) (c24 : List Int) : evF (g malive23 mbigLeaf23 mrecOffer mr23Offer mrecPackage mr23Package mrecRef mr23Ref mtold23 mNum) an N Tryd.f5 [AV.agg [AV.ints IntKind.u8 32 x1, AV.int IntKind.i64 x2, AV.int IntKind.i64 x3, AV.agg [AV.int IntKind.i64 x4, AV.int IntKind.i64 x5, AV.agg [AV.ints IntKind.u8 32 x6, AV.agg [AV.ints IntKind.u8 32 x7, AV.ints IntKind.u8 32 x8, AV.isl IntKind.u8 xN9 x10, AV.ints IntKind.u8 32 x11, AV.ints IntKind.u8 64 x12], AV.ints IntKind.u8 64 x13], AV.agg [AV.ints IntKind.u8 32 x14, AV.ints IntKind.u8 32 x15, AV.isl IntKind.u8 xN16 x17, AV.ints IntKind.u8 32 x18, AV.ints IntKind.u8 64 x19]], AV.ints IntKind.u8 64 x20], AV.agg [AV.ints IntKind.u8 32 c21, AV.int IntKind.i64 c22, AV.ints IntKind.u8 32 c23, AV.ints IntKind.u8 32 c24]] [] κ =
  malive23 R
   (fun v_c3 => cond (!v_c3)
    (κ (AV.bool false) [])
    (mbigLeaf23 R x14 x15 none x17 x18 x19
     (fun v_c4 => cond v_c4
      (κ (AV.bool true) [])
      (mbigLeaf23 R x7 x8 none x10 x11 x12
       (fun v_c5 => cond v_c5
        (κ (AV.bool true) [])
        (mrecOffer R x1 x2 x3 x4 x5 x6 x7 x8 none x10 x11 x12 x13 x14 x15 none x17 x18 x19 x20 c21 c22 c23 c24
         (fun v_c6 v_1_c7 v_2_c8 => mr23Offer R x1 x2 x3 x4 x5 x6 x7 x8 none x10 x11 x12 x13 x14 x15 none x17 x18 x19 x20 c21 c22 c23 c24
          (fun v_c9 v_1_c10 v_2_c11 => mrecPackage R x6 x7 x8 none x10 x11 x12 x13
           (fun v_c12 v_1_c13 v_2_c14 => mr23Package R x6 x7 x8 none x10 x11 x12 x13
            (fun v_c15 v_1_c16 v_2_c17 => mrecRef R x1 x2 x3 x4 x5 x6 x7 x8 none x10 x11 x12 x13 x14 x15 none x17 x18 x19 x20
             (fun v_c18 v_1_c19 => mr23Ref R x1 x2 x3 x4 x5 x6 x7 x8 none x10 x11 x12 x13 x14 x15 none x17 x18 x19 x20
              (fun v_c20 v_1_c21 => mtold23 R v_c6 v_1_c7 v_2_c8 v_c9 v_1_c10 v_2_c11
               (fun v_c22 => cond v_c22
                (mtold23 R v_c12 v_1_c13 v_2_c14 v_c15 v_1_c16 v_2_c17
                 (fun v_c23 => cond v_c23
                  (cond (v_c18 == v_c20)
                   (cond (v_1_c19.beq 0 == v_1_c21)
                    (cond v_1_c21
                     (κ (AV.bool true) [])
                     (mNum R v_1_c19
                      (fun v_c24 => κ (AV.bool (v_c24 == 4)) [])))
                    (κ (AV.bool false) []))
                   (κ (AV.bool false) []))
                  (κ (AV.bool false) [])))
                (κ (AV.bool false) [])))))))))))))) := by kernel_rfl
theorem eq (malive23 : alive23.Ty) (mbigLeaf23 : bigLeaf23.Ty) (mrecOffer : recOffer.Ty) (mr23Offer : r23Offer.Ty) (mrecPackage : recPackage.Ty) (mr23Package : r23Package.Ty) (mrecRef : recRef.Ty) (mr23Ref : r23Ref.Ty) (mtold23 : told23.Ty) (mNum : Num.Ty) {R : Type} (N : Nat) (κ : AV → List Blk → Option R) (x1 : List Int) (x2 : Int) (x3 : Int) (x4 : Int) (x5 : Int) (x6 : List Int) (x7 : List Int) (x8 : List Int) (xN9 : Option Bool) (x10 : List Int) (x11 : List Int) (x12 : List Int) (x13 : List Int) (x14 : List Int) (x15 : List Int) (xN16 : Option Bool) (x17 : List Int) (x18 : List Int) (x19 : List Int) (x20 : List Int) (c21 : List Int) (c22 : Int) (c23 : List Int) (c24 : List Int) : evF (g malive23 mbigLeaf23 mrecOffer mr23Offer mrecPackage mr23Package mrecRef mr23Ref mtold23 mNum) an N Tryd.f5 [AV.agg [AV.ints IntKind.u8 32 x1, AV.int IntKind.i64 x2, AV.int IntKind.i64 x3, AV.agg [AV.int IntKind.i64 x4, AV.int IntKind.i64 x5, AV.agg [AV.ints IntKind.u8 32 x6, AV.agg [AV.ints IntKind.u8 32 x7, AV.ints IntKind.u8 32 x8, AV.isl IntKind.u8 xN9 x10, AV.ints IntKind.u8 32 x11, AV.ints IntKind.u8 64 x12], AV.ints IntKind.u8 64 x13], AV.agg [AV.ints IntKind.u8 32 x14, AV.ints IntKind.u8 32 x15, AV.isl IntKind.u8 xN16 x17, AV.ints IntKind.u8 32 x18, AV.ints IntKind.u8 64 x19]], AV.ints IntKind.u8 64 x20], AV.agg [AV.ints IntKind.u8 32 c21, AV.int IntKind.i64 c22, AV.ints IntKind.u8 32 c23, AV.ints IntKind.u8 32 c24]] [] κ =
  m malive23 mbigLeaf23 mrecOffer mr23Offer mrecPackage mr23Package mrecRef mr23Ref mtold23 mNum N x1 x2 x3 x4 x5 x6 x7 x8 xN9 x10 x11 x12 x13 x14 x15 xN16 x17 x18 x19 x20 c21 c22 c23 c24 (fun v => κ (AV.bool v) []) := by
  rw [tree]
  kernel_rfl
abbrev Ty : Type 1 := ∀ R : Type, (List Int) → Int → Int → Int → Int → (List Int) → (List Int) → (List Int) → (Option Bool) → (List Int) → (List Int) → (List Int) → (List Int) → (List Int) → (List Int) → (Option Bool) → (List Int) → (List Int) → (List Int) → (List Int) → (List Int) → Int → (List Int) → (List Int) → (Bool → Option R) → Option R
def con (f : Ty) : Con := fun R args bs κ => match args, bs with
  | [AV.agg [AV.ints IntKind.u8 32 x1, AV.int IntKind.i64 x2, AV.int IntKind.i64 x3, AV.agg [AV.int IntKind.i64 x4, AV.int IntKind.i64 x5, AV.agg [AV.ints IntKind.u8 32 x6, AV.agg [AV.ints IntKind.u8 32 x7, AV.ints IntKind.u8 32 x8, AV.isl IntKind.u8 xN9 x10, AV.ints IntKind.u8 32 x11, AV.ints IntKind.u8 64 x12], AV.ints IntKind.u8 64 x13], AV.agg [AV.ints IntKind.u8 32 x14, AV.ints IntKind.u8 32 x15, AV.isl IntKind.u8 xN16 x17, AV.ints IntKind.u8 32 x18, AV.ints IntKind.u8 64 x19]], AV.ints IntKind.u8 64 x20], AV.agg [AV.ints IntKind.u8 32 c21, AV.int IntKind.i64 c22, AV.ints IntKind.u8 32 c23, AV.ints IntKind.u8 32 c24]], [] => f R x1 x2 x3 x4 x5 x6 x7 x8 xN9 x10 x11 x12 x13 x14 x15 xN16 x17 x18 x19 x20 c21 c22 c23 c24 (fun v => κ (AV.bool v) [])
  | _, _ => none
theorem con_eq (f : Ty) (R : Type) (κ : AV → List Blk → Option R) (x1 : List Int) (x2 : Int) (x3 : Int) (x4 : Int) (x5 : Int) (x6 : List Int) (x7 : List Int) (x8 : List Int) (xN9 : Option Bool) (x10 : List Int) (x11 : List Int) (x12 : List Int) (x13 : List Int) (x14 : List Int) (x15 : List Int) (xN16 : Option Bool) (x17 : List Int) (x18 : List Int) (x19 : List Int) (x20 : List Int) (c21 : List Int) (c22 : Int) (c23 : List Int) (c24 : List Int) : con f R [AV.agg [AV.ints IntKind.u8 32 x1, AV.int IntKind.i64 x2, AV.int IntKind.i64 x3, AV.agg [AV.int IntKind.i64 x4, AV.int IntKind.i64 x5, AV.agg [AV.ints IntKind.u8 32 x6, AV.agg [AV.ints IntKind.u8 32 x7, AV.ints IntKind.u8 32 x8, AV.isl IntKind.u8 xN9 x10, AV.ints IntKind.u8 32 x11, AV.ints IntKind.u8 64 x12], AV.ints IntKind.u8 64 x13], AV.agg [AV.ints IntKind.u8 32 x14, AV.ints IntKind.u8 32 x15, AV.isl IntKind.u8 xN16 x17, AV.ints IntKind.u8 32 x18, AV.ints IntKind.u8 64 x19]], AV.ints IntKind.u8 64 x20], AV.agg [AV.ints IntKind.u8 32 c21, AV.int IntKind.i64 c22, AV.ints IntKind.u8 32 c23, AV.ints IntKind.u8 32 c24]] [] κ = f R x1 x2 x3 x4 x5 x6 x7 x8 xN9 x10 x11 x12 x13 x14 x15 xN16 x17 x18 x19 x20 c21 c22 c23 c24 (fun v => κ (AV.bool v) []) := rfl
noncomputable def M (N : Nat) : Ty := fun R x1 x2 x3 x4 x5 x6 x7 x8 xN9 x10 x11 x12 x13 x14 x15 xN16 x17 x18 x19 x20 c21 c22 c23 c24 kr0 => m (alive23.M N) (bigLeaf23.M N) (recOffer.M N) (r23Offer.M N) (recPackage.M N) (r23Package.M N) (recRef.M N) (r23Ref.M N) (told23.M N) (Num.M N) (R := R) N x1 x2 x3 x4 x5 x6 x7 x8 xN9 x10 x11 x12 x13 x14 x15 xN16 x17 x18 x19 x20 c21 c22 c23 c24 kr0
def gts : List (Nat × AV) := [(0, .err 1), (1, .err 2), (2, .err 3), (3, .err 4), (4, .err 5), (5, .err 6), (6, .err 7), (7, .err 8), (8, .err 9), (9, .err 10), (10, .err 11), (11, .err 12), (12, .err 13), (13, .err 14), (14, .err 15), (15, .err 16), (16, .err 17), (17, .err 18), (18, .err 19), (19, .ints .u32 64 K256)]
theorem gok (N : Nat) : GOk (g (alive23.M N) (bigLeaf23.M N) (recOffer.M N) (r23Offer.M N) (recPackage.M N) (r23Package.M N) (recRef.M N) (r23Ref.M N) (told23.M N) (Num.M N)) := giF_ok (giD_ok hm (by intro p hp; cases hp) (gtL_ok (by decide)) (ovL_ok (by
    intro p hp
    simp only [List.mem_cons, List.not_mem_nil, or_false] at hp
    rcases hp with rfl | rfl | rfl | rfl | rfl | rfl | rfl | rfl | rfl | rfl
    · exact ⟨(alive23.ok N).gt (gtL_sub (by repeat (first | exact subG_nil _ | refine subG_cons (by kernel_rfl) ?_))) (gtL_ok (by decide)), _, Tryd.func15, by kernel_rfl, by kernel_rfl⟩
    · exact ⟨(bigLeaf23.ok N).gt (gtL_sub (by repeat (first | exact subG_nil _ | refine subG_cons (by kernel_rfl) ?_))) (gtL_ok (by decide)), _, Tryd.func16, by kernel_rfl, by kernel_rfl⟩
    · exact ⟨(recOffer.ok N).gt (gtL_sub (by repeat (first | exact subG_nil _ | refine subG_cons (by kernel_rfl) ?_))) (gtL_ok (by decide)), _, Tryd.func17, by kernel_rfl, by kernel_rfl⟩
    · exact ⟨(r23Offer.ok N).gt (gtL_sub (by repeat (first | exact subG_nil _ | refine subG_cons (by kernel_rfl) ?_))) (gtL_ok (by decide)), _, Tryd.func19, by kernel_rfl, by kernel_rfl⟩
    · exact ⟨(recPackage.ok N).gt (gtL_sub (by repeat (first | exact subG_nil _ | refine subG_cons (by kernel_rfl) ?_))) (gtL_ok (by decide)), _, Tryd.func20, by kernel_rfl, by kernel_rfl⟩
    · exact ⟨(r23Package.ok N).gt (gtL_sub (by repeat (first | exact subG_nil _ | refine subG_cons (by kernel_rfl) ?_))) (gtL_ok (by decide)), _, Tryd.func21, by kernel_rfl, by kernel_rfl⟩
    · exact ⟨(recRef.ok N).gt (gtL_sub (by repeat (first | exact subG_nil _ | refine subG_cons (by kernel_rfl) ?_))) (gtL_ok (by decide)), _, Tryd.func22, by kernel_rfl, by kernel_rfl⟩
    · exact ⟨(r23Ref.ok N).gt (gtL_sub (by repeat (first | exact subG_nil _ | refine subG_cons (by kernel_rfl) ?_))) (gtL_ok (by decide)), _, Tryd.func23, by kernel_rfl, by kernel_rfl⟩
    · exact ⟨(told23.ok N).gt (gtL_sub (by repeat (first | exact subG_nil _ | refine subG_cons (by kernel_rfl) ?_))) (gtL_ok (by decide)), _, Tryd.func24, by kernel_rfl, by kernel_rfl⟩
    · exact ⟨(Num.ok N).gt (gtL_sub (by repeat (first | exact subG_nil _ | refine subG_cons (by kernel_rfl) ?_))) (gtL_ok (by decide)), _, Tryd.func14, by kernel_rfl, by kernel_rfl⟩
)) 1)
theorem ok (N : Nat) : SoundC Tryd.prog (gtL gts) 5 (con (M N)) := by
  refine SoundC.mono (evF_ok (gok N) hm an N Tryd.func5) fun R args bs κ r h => ?_
  unfold con at h
  split at h
  · exact (eq (alive23.M N) (bigLeaf23.M N) (recOffer.M N) (r23Offer.M N) (recPackage.M N) (r23Package.M N) (recRef.M N) (r23Ref.M N) (told23.M N) (Num.M N) N κ _ _ _ _ _ _ _ _ _ _ _ _ _ _ _ _ _ _ _ _ _ _ _ _).trans h
  · cases h
end RecordOffers

end Go.Proofs.YthajoenmfppenaaDoor.fn
