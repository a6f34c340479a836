/- What the references of records are, with the proof; printed by a program. -/
import Derived.Test.YthajoenmfppenaaDoorProg
import Derived.Test.YthajoenmfppenaaDoorEv4
import Derived.Test.YthajoenmfppenaaDoorFnFormsR
namespace Go.Proofs.YthajoenmfppenaaDoor.fn
open Go Go.Proofs Go.Ev

/-! ### Tryd.f58: r23row -/
namespace r23row
def an : Anns := ⟨fun i => findA i [], fun i => findA i [], false, fun _ => none, []⟩
noncomputable def g (mrBytes : rBytes.Ty) : Gi := giD Tryd.prog (gtL []) (fun _ => an) 0 [] (ovL [(86, rBytes.con mrBytes)]) 1
noncomputable def m (mrBytes : rBytes.Ty) {R : Type} (_N : Nat) (l1 : List (List Int)) (kr0 : (Option Bool) → (List Int) → Option R) : Option R :=
  mrBytes R l1
   (fun v_c2 v_1_c3 => kr0 v_c2 v_1_c3)
theorem tree (mrBytes : rBytes.Ty) {R : Type} (N : Nat) (κ : AV → List Blk → Option R) (l1 : List (List Int)) : evF (g mrBytes) an N Tryd.f58 [AV.rsl IntKind.u8 l1] [] κ =
  mrBytes R l1
   (fun v_c2 v_1_c3 => κ (AV.isl IntKind.u8 v_c2 v_1_c3) []) := by kernel_rfl
theorem eq (mrBytes : rBytes.Ty) {R : Type} (N : Nat) (κ : AV → List Blk → Option R) (l1 : List (List Int)) : evF (g mrBytes) an N Tryd.f58 [AV.rsl IntKind.u8 l1] [] κ =
  m mrBytes N l1 (fun v v_1 => κ (AV.isl IntKind.u8 v v_1) []) := by
  rw [tree]
  kernel_rfl
abbrev Ty : Type 1 := ∀ R : Type, (List (List Int)) → ((Option Bool) → (List Int) → Option R) → Option R
def con (f : Ty) : Con := fun R args bs κ => match args, bs with
  | [AV.rsl IntKind.u8 l1], [] => f R l1 (fun v v_1 => κ (AV.isl IntKind.u8 v v_1) [])
  | _, _ => none
theorem con_eq (f : Ty) (R : Type) (κ : AV → List Blk → Option R) (l1 : List (List Int)) : con f R [AV.rsl IntKind.u8 l1] [] κ = f R l1 (fun v v_1 => κ (AV.isl IntKind.u8 v v_1) []) := rfl
noncomputable def M (N : Nat) : Ty := fun R l1 kr0 => m (rBytes.M N) (R := R) N l1 kr0
def gts : List (Nat × AV) := []
theorem gok (N : Nat) : GOk (g (rBytes.M N)) := giD_ok hm (by intro p hp; cases hp) (gtL_ok (by decide)) (ovL_ok (by
    intro p hp
    simp only [List.mem_cons, List.not_mem_nil, or_false] at hp
    rcases hp with rfl
    · exact ⟨(rBytes.ok N).gt (gtL_sub (by repeat (first | exact subG_nil _ | refine subG_cons (by kernel_rfl) ?_))) (gtL_ok (by decide)), _, Tryd.func86, by kernel_rfl, by kernel_rfl⟩
)) 1
theorem ok (N : Nat) : SoundC Tryd.prog (gtL gts) 58 (con (M N)) := by
  refine SoundC.mono (evF_ok (gok N) hm an N Tryd.func58) fun R args bs κ r h => ?_
  unfold con at h
  split at h
  · exact (eq (rBytes.M N) N κ _).trans h
  · cases h
end r23row


/-! ### Tryd.f59: r23num -/
namespace r23num
def an : Anns := ⟨fun i => findA i [], fun i => findA i [], false, fun _ => none, []⟩
noncomputable def g (mrNum : rNum.Ty) : Gi := giD Tryd.prog (gtL []) (fun _ => an) 0 [] (ovL [(87, rNum.con mrNum)]) 1
noncomputable def m (mrNum : rNum.Ty) {R : Type} (_N : Nat) (n1 : Int) (kr0 : (List Int) → Option R) : Option R :=
  mrNum R n1
   (fun v_c1 => kr0 v_c1)
theorem tree (mrNum : rNum.Ty) {R : Type} (N : Nat) (κ : AV → List Blk → Option R) (n1 : Int) : evF (g mrNum) an N Tryd.f59 [AV.int IntKind.i64 n1] [] κ =
  mrNum R n1
   (fun v_c1 => κ (AV.isl IntKind.u8 none v_c1) []) := by kernel_rfl
theorem eq (mrNum : rNum.Ty) {R : Type} (N : Nat) (κ : AV → List Blk → Option R) (n1 : Int) : evF (g mrNum) an N Tryd.f59 [AV.int IntKind.i64 n1] [] κ =
  m mrNum N n1 (fun v => κ (AV.isl IntKind.u8 none v) []) := by
  rw [tree]
  kernel_rfl
abbrev Ty : Type 1 := ∀ R : Type, Int → ((List Int) → Option R) → Option R
def con (f : Ty) : Con := fun R args bs κ => match args, bs with
  | [AV.int IntKind.i64 n1], [] => f R n1 (fun v => κ (AV.isl IntKind.u8 none v) [])
  | _, _ => none
theorem con_eq (f : Ty) (R : Type) (κ : AV → List Blk → Option R) (n1 : Int) : con f R [AV.int IntKind.i64 n1] [] κ = f R n1 (fun v => κ (AV.isl IntKind.u8 none v) []) := rfl
noncomputable def M (N : Nat) : Ty := fun R n1 kr0 => m (rNum.M N) (R := R) N n1 kr0
def gts : List (Nat × AV) := []
theorem gok (N : Nat) : GOk (g (rNum.M N)) := giD_ok hm (by intro p hp; cases hp) (gtL_ok (by decide)) (ovL_ok (by
    intro p hp
    simp only [List.mem_cons, List.not_mem_nil, or_false] at hp
    rcases hp with rfl
    · exact ⟨(rNum.ok N).gt (gtL_sub (by repeat (first | exact subG_nil _ | refine subG_cons (by kernel_rfl) ?_))) (gtL_ok (by decide)), _, Tryd.func87, by kernel_rfl, by kernel_rfl⟩
)) 1
theorem ok (N : Nat) : SoundC Tryd.prog (gtL gts) 59 (con (M N)) := by
  refine SoundC.mono (evF_ok (gok N) hm an N Tryd.func59) fun R args bs κ r h => ?_
  unfold con at h
  split at h
  · exact (eq (rNum.M N) N κ _).trans h
  · cases h
end r23num


/-! ### Tryd.f19: r23Offer -/
namespace r23Offer
def an : Anns := ⟨fun i => findA i [], fun i => findA i [], false, fun _ => none, []⟩
noncomputable def g (mr18Context : r18Context.Ty) (mr18Proposal : r18Proposal.Ty) (mr23num : r23num.Ty) (mr23row : r23row.Ty) : Gi := giL (giF (giD Tryd.prog (gtL []) (fun _ => an) 0 [] (ovL [(56, r18Context.con mr18Context), (57, r18Proposal.con mr18Proposal), (59, r23num.con mr23num), (58, r23row.con mr23row)]) 1))
noncomputable def m (mr18Context : r18Context.Ty) (mr18Proposal : r18Proposal.Ty) (mr23num : r23num.Ty) (mr23row : r23row.Ty) {R : Type} (_N : Nat) (x1 : List Int) (x2 : Int) (x3 : Int) (x4 : Int) (x5 : Int) (x6 : List Int) (x7 : List Int) (x8 : List Int) (_xN9 : Option Bool) (x10 : List Int) (x11 : List Int) (x12 : List Int) (x13 : List Int) (x14 : List Int) (x15 : List Int) (_xN16 : Option Bool) (x17 : List Int) (x18 : List Int) (x19 : List Int) (x20 : List Int) (c21 : List Int) (c22 : Int) (c23 : List Int) (c24 : List Int) (kr0 : (Option Bool) → (List Int) → Bool → Option R) : Option R :=
  mr18Context R c21 c22 c23 c24
   (fun _v_c9 v_1_c10 v_2_c11 => mr18Proposal R x4 x5 x6 x7 x8 none x10 x11 x12 x13 x14 x15 none x17 x18 x19
    (fun _v_c12 v_1_c13 v_2_c14 => mr23num R x3
     (fun v_c15 => mr23row R ([[111, 102, 102, 101, 114], v_1_c10, v_c15, v_1_c13])
      (fun v_c16 v_1_c17 => cond v_2_c11
       (kr0 v_c16 v_1_c17 v_2_c14)
       (kr0 v_c16 v_1_c17 false)))))
theorem tree (mr18Context : r18Context.Ty) (mr18Proposal : r18Proposal.Ty) (mr23num : r23num.Ty) (mr23row : r23row.Ty) {R : Type} (N : Nat) (κ : AV → List Blk → Option R) (x1 : List Int) (x2 : Int) (x3 : Int) (x4 : Int) (x5 : Int) (x6 : List Int) (x7 : List Int) (x8 : List Int) (xN9 : Option Bool) (x10 : List Int) (x11 : List Int) (x12 : List Int) (x13 : List Int) (x14 : List Int) (x15 : List Int) (xN16 : Option Bool) (x17 : List Int) (x18 : List Int) (x19 : List Int) (x20 : List Int) (c21 : List Int) (c22 : Int) (c23 : List Int) (c24 : List Int) : evF (g mr18Context mr18Proposal mr23num mr23row) an N Tryd.f19 [AV.agg [AV.ints IntKind.u8 32 x1, AV.int IntKind.i64 x2, AV.int IntKind.i64 x3, AV.agg [AV.int IntKind.i64 x4, AV.int IntKind.i64 x5, AV.agg [AV.ints IntKind.u8 32 x6, AV.agg [AV.ints IntKind.u8 32 x7, AV.ints IntKind.u8 32 x8, AV.isl IntKind.u8 xN9 x10, AV.ints IntKind.u8 32 x11, AV.ints IntKind.u8 64 x12], AV.ints IntKind.u8 64 x13], AV.agg [AV.ints IntKind.u8 32 x14, AV.ints IntKind.u8 32 x15, AV.isl IntKind.u8 xN16 x17, AV.ints IntKind.u8 32 x18, AV.ints IntKind.u8 64 x19]], AV.ints IntKind.u8 64 x20], AV.agg [AV.ints IntKind.u8 32 c21, AV.int IntKind.i64 c22, AV.ints IntKind.u8 32 c23, AV.ints IntKind.u8 32 c24]] [] κ =
  mr18Context R c21 c22 c23 c24
   (fun _v_c9 v_1_c10 v_2_c11 => mr18Proposal R x4 x5 x6 x7 x8 none x10 x11 x12 x13 x14 x15 none x17 x18 x19
    (fun _v_c12 v_1_c13 v_2_c14 => mr23num R x3
     (fun v_c15 => mr23row R ([[111, 102, 102, 101, 114], v_1_c10, v_c15, v_1_c13])
      (fun v_c16 v_1_c17 => cond v_2_c11
       (κ (AV.tup [AV.isl IntKind.u8 v_c16 v_1_c17, AV.bool v_2_c14]) [])
       (κ (AV.tup [AV.isl IntKind.u8 v_c16 v_1_c17, AV.bool false]) []))))) := by kernel_rfl
theorem eq (mr18Context : r18Context.Ty) (mr18Proposal : r18Proposal.Ty) (mr23num : r23num.Ty) (mr23row : r23row.Ty) {R : Type} (N : Nat) (κ : AV → List Blk → Option R) (x1 : List Int) (x2 : Int) (x3 : Int) (x4 : Int) (x5 : Int) (x6 : List Int) (x7 : List Int) (x8 : List Int) (xN9 : Option Bool) (x10 : List Int) (x11 : List Int) (x12 : List Int) (x13 : List Int) (x14 : List Int) (x15 : List Int) (xN16 : Option Bool) (x17 : List Int) (x18 : List Int) (x19 : List Int) (x20 : List Int) (c21 : List Int) (c22 : Int) (c23 : List Int) (c24 : List Int) : evF (g mr18Context mr18Proposal mr23num mr23row) an N Tryd.f19 [AV.agg [AV.ints IntKind.u8 32 x1, AV.int IntKind.i64 x2, AV.int IntKind.i64 x3, AV.agg [AV.int IntKind.i64 x4, AV.int IntKind.i64 x5, AV.agg [AV.ints IntKind.u8 32 x6, AV.agg [AV.ints IntKind.u8 32 x7, AV.ints IntKind.u8 32 x8, AV.isl IntKind.u8 xN9 x10, AV.ints IntKind.u8 32 x11, AV.ints IntKind.u8 64 x12], AV.ints IntKind.u8 64 x13], AV.agg [AV.ints IntKind.u8 32 x14, AV.ints IntKind.u8 32 x15, AV.isl IntKind.u8 xN16 x17, AV.ints IntKind.u8 32 x18, AV.ints IntKind.u8 64 x19]], AV.ints IntKind.u8 64 x20], AV.agg [AV.ints IntKind.u8 32 c21, AV.int IntKind.i64 c22, AV.ints IntKind.u8 32 c23, AV.ints IntKind.u8 32 c24]] [] κ =
  m mr18Context mr18Proposal mr23num mr23row N x1 x2 x3 x4 x5 x6 x7 x8 xN9 x10 x11 x12 x13 x14 x15 xN16 x17 x18 x19 x20 c21 c22 c23 c24 (fun v v_1 v_2 => κ (AV.tup [AV.isl IntKind.u8 v v_1, AV.bool v_2]) []) := by
  rw [tree]
  kernel_rfl
abbrev Ty : Type 1 := ∀ R : Type, (List Int) → Int → Int → Int → Int → (List Int) → (List Int) → (List Int) → (Option Bool) → (List Int) → (List Int) → (List Int) → (List Int) → (List Int) → (List Int) → (Option Bool) → (List Int) → (List Int) → (List Int) → (List Int) → (List Int) → Int → (List Int) → (List Int) → ((Option Bool) → (List Int) → Bool → Option R) → Option R
def con (f : Ty) : Con := fun R args bs κ => match args, bs with
  | [AV.agg [AV.ints IntKind.u8 32 x1, AV.int IntKind.i64 x2, AV.int IntKind.i64 x3, AV.agg [AV.int IntKind.i64 x4, AV.int IntKind.i64 x5, AV.agg [AV.ints IntKind.u8 32 x6, AV.agg [AV.ints IntKind.u8 32 x7, AV.ints IntKind.u8 32 x8, AV.isl IntKind.u8 xN9 x10, AV.ints IntKind.u8 32 x11, AV.ints IntKind.u8 64 x12], AV.ints IntKind.u8 64 x13], AV.agg [AV.ints IntKind.u8 32 x14, AV.ints IntKind.u8 32 x15, AV.isl IntKind.u8 xN16 x17, AV.ints IntKind.u8 32 x18, AV.ints IntKind.u8 64 x19]], AV.ints IntKind.u8 64 x20], AV.agg [AV.ints IntKind.u8 32 c21, AV.int IntKind.i64 c22, AV.ints IntKind.u8 32 c23, AV.ints IntKind.u8 32 c24]], [] => f R x1 x2 x3 x4 x5 x6 x7 x8 xN9 x10 x11 x12 x13 x14 x15 xN16 x17 x18 x19 x20 c21 c22 c23 c24 (fun v v_1 v_2 => κ (AV.tup [AV.isl IntKind.u8 v v_1, AV.bool v_2]) [])
  | _, _ => none
theorem con_eq (f : Ty) (R : Type) (κ : AV → List Blk → Option R) (x1 : List Int) (x2 : Int) (x3 : Int) (x4 : Int) (x5 : Int) (x6 : List Int) (x7 : List Int) (x8 : List Int) (xN9 : Option Bool) (x10 : List Int) (x11 : List Int) (x12 : List Int) (x13 : List Int) (x14 : List Int) (x15 : List Int) (xN16 : Option Bool) (x17 : List Int) (x18 : List Int) (x19 : List Int) (x20 : List Int) (c21 : List Int) (c22 : Int) (c23 : List Int) (c24 : List Int) : con f R [AV.agg [AV.ints IntKind.u8 32 x1, AV.int IntKind.i64 x2, AV.int IntKind.i64 x3, AV.agg [AV.int IntKind.i64 x4, AV.int IntKind.i64 x5, AV.agg [AV.ints IntKind.u8 32 x6, AV.agg [AV.ints IntKind.u8 32 x7, AV.ints IntKind.u8 32 x8, AV.isl IntKind.u8 xN9 x10, AV.ints IntKind.u8 32 x11, AV.ints IntKind.u8 64 x12], AV.ints IntKind.u8 64 x13], AV.agg [AV.ints IntKind.u8 32 x14, AV.ints IntKind.u8 32 x15, AV.isl IntKind.u8 xN16 x17, AV.ints IntKind.u8 32 x18, AV.ints IntKind.u8 64 x19]], AV.ints IntKind.u8 64 x20], AV.agg [AV.ints IntKind.u8 32 c21, AV.int IntKind.i64 c22, AV.ints IntKind.u8 32 c23, AV.ints IntKind.u8 32 c24]] [] κ = f R x1 x2 x3 x4 x5 x6 x7 x8 xN9 x10 x11 x12 x13 x14 x15 xN16 x17 x18 x19 x20 c21 c22 c23 c24 (fun v v_1 v_2 => κ (AV.tup [AV.isl IntKind.u8 v v_1, AV.bool v_2]) []) := rfl
noncomputable def M (N : Nat) : Ty := fun R x1 x2 x3 x4 x5 x6 x7 x8 xN9 x10 x11 x12 x13 x14 x15 xN16 x17 x18 x19 x20 c21 c22 c23 c24 kr0 => m (r18Context.M N) (r18Proposal.M N) (r23num.M N) (r23row.M N) (R := R) N x1 x2 x3 x4 x5 x6 x7 x8 xN9 x10 x11 x12 x13 x14 x15 xN16 x17 x18 x19 x20 c21 c22 c23 c24 kr0
def gts : List (Nat × AV) := []
theorem gok (N : Nat) : GOk (g (r18Context.M N) (r18Proposal.M N) (r23num.M N) (r23row.M N)) := giL_ok (giF_ok (giD_ok hm (by intro p hp; cases hp) (gtL_ok (by decide)) (ovL_ok (by
    intro p hp
    simp only [List.mem_cons, List.not_mem_nil, or_false] at hp
    rcases hp with rfl | rfl | rfl | rfl
    · exact ⟨(r18Context.ok N).gt (gtL_sub (by repeat (first | exact subG_nil _ | refine subG_cons (by kernel_rfl) ?_))) (gtL_ok (by decide)), _, Tryd.func56, by kernel_rfl, by kernel_rfl⟩
    · exact ⟨(r18Proposal.ok N).gt (gtL_sub (by repeat (first | exact subG_nil _ | refine subG_cons (by kernel_rfl) ?_))) (gtL_ok (by decide)), _, Tryd.func57, by kernel_rfl, by kernel_rfl⟩
    · exact ⟨(r23num.ok N).gt (gtL_sub (by repeat (first | exact subG_nil _ | refine subG_cons (by kernel_rfl) ?_))) (gtL_ok (by decide)), _, Tryd.func59, by kernel_rfl, by kernel_rfl⟩
    · exact ⟨(r23row.ok N).gt (gtL_sub (by repeat (first | exact subG_nil _ | refine subG_cons (by kernel_rfl) ?_))) (gtL_ok (by decide)), _, Tryd.func58, by kernel_rfl, by kernel_rfl⟩
)) 1))
theorem ok (N : Nat) : SoundC Tryd.prog (gtL gts) 19 (con (M N)) := by
  refine SoundC.mono (evF_ok (gok N) hm an N Tryd.func19) fun R args bs κ r h => ?_
  unfold con at h
  split at h
  · exact (eq (r18Context.M N) (r18Proposal.M N) (r23num.M N) (r23row.M N) N κ _ _ _ _ _ _ _ _ _ _ _ _ _ _ _ _ _ _ _ _ _ _ _ _).trans h
  · cases h
end r23Offer


/-! ### Tryd.f21: r23Package -/
namespace r23Package
def an : Anns := ⟨fun i => findA i [], fun i => findA i [], false, fun _ => none, []⟩
noncomputable def g (mr18Leaf : r18Leaf.Ty) (mr23row : r23row.Ty) : Gi := giL (giF (giD Tryd.prog (gtL []) (fun _ => an) 0 [] (ovL [(60, r18Leaf.con mr18Leaf), (58, r23row.con mr23row)]) 1))
noncomputable def m (mr18Leaf : r18Leaf.Ty) (mr23row : r23row.Ty) {R : Type} (_N : Nat) (x1 : List Int) (x2 : List Int) (x3 : List Int) (_xN4 : Option Bool) (x5 : List Int) (x6 : List Int) (x7 : List Int) (x8 : List Int) (kr0 : (Option Bool) → (List Int) → Bool → Option R) : Option R :=
  mr18Leaf R x2 x3 none x5 x6 x7
   (fun _v_c5 v_1_c6 v_2_c7 => mr23row R ([[112, 97, 99, 107, 97, 103, 101], List.drop 0 (List.take 32 x1), v_1_c6])
    (fun v_c8 v_1_c9 => kr0 v_c8 v_1_c9 v_2_c7))
theorem tree (mr18Leaf : r18Leaf.Ty) (mr23row : r23row.Ty) {R : Type} (N : Nat) (κ : AV → List Blk → Option R) (x1 : List Int) (x2 : List Int) (x3 : List Int) (xN4 : Option Bool) (x5 : List Int) (x6 : List Int) (x7 : List Int) (x8 : List Int) : evF (g mr18Leaf mr23row) an N Tryd.f21 [AV.agg [AV.ints IntKind.u8 32 x1, AV.agg [AV.ints IntKind.u8 32 x2, AV.ints IntKind.u8 32 x3, AV.isl IntKind.u8 xN4 x5, AV.ints IntKind.u8 32 x6, AV.ints IntKind.u8 64 x7], AV.ints IntKind.u8 64 x8]] [] κ =
  mr18Leaf R x2 x3 none x5 x6 x7
   (fun _v_c5 v_1_c6 v_2_c7 => mr23row R ([[112, 97, 99, 107, 97, 103, 101], List.drop 0 (List.take 32 x1), v_1_c6])
    (fun v_c8 v_1_c9 => κ (AV.tup [AV.isl IntKind.u8 v_c8 v_1_c9, AV.bool v_2_c7]) [])) := by kernel_rfl
theorem eq (mr18Leaf : r18Leaf.Ty) (mr23row : r23row.Ty) {R : Type} (N : Nat) (κ : AV → List Blk → Option R) (x1 : List Int) (x2 : List Int) (x3 : List Int) (xN4 : Option Bool) (x5 : List Int) (x6 : List Int) (x7 : List Int) (x8 : List Int) : evF (g mr18Leaf mr23row) an N Tryd.f21 [AV.agg [AV.ints IntKind.u8 32 x1, AV.agg [AV.ints IntKind.u8 32 x2, AV.ints IntKind.u8 32 x3, AV.isl IntKind.u8 xN4 x5, AV.ints IntKind.u8 32 x6, AV.ints IntKind.u8 64 x7], AV.ints IntKind.u8 64 x8]] [] κ =
  m mr18Leaf mr23row N x1 x2 x3 xN4 x5 x6 x7 x8 (fun v v_1 v_2 => κ (AV.tup [AV.isl IntKind.u8 v v_1, AV.bool v_2]) []) := by
  rw [tree]
  kernel_rfl
abbrev Ty : Type 1 := ∀ R : Type, (List Int) → (List Int) → (List Int) → (Option Bool) → (List Int) → (List Int) → (List Int) → (List Int) → ((Option Bool) → (List Int) → Bool → Option R) → Option R
def con (f : Ty) : Con := fun R args bs κ => match args, bs with
  | [AV.agg [AV.ints IntKind.u8 32 x1, AV.agg [AV.ints IntKind.u8 32 x2, AV.ints IntKind.u8 32 x3, AV.isl IntKind.u8 xN4 x5, AV.ints IntKind.u8 32 x6, AV.ints IntKind.u8 64 x7], AV.ints IntKind.u8 64 x8]], [] => f R x1 x2 x3 xN4 x5 x6 x7 x8 (fun v v_1 v_2 => κ (AV.tup [AV.isl IntKind.u8 v v_1, AV.bool v_2]) [])
  | _, _ => none
theorem con_eq (f : Ty) (R : Type) (κ : AV → List Blk → Option R) (x1 : List Int) (x2 : List Int) (x3 : List Int) (xN4 : Option Bool) (x5 : List Int) (x6 : List Int) (x7 : List Int) (x8 : List Int) : con f R [AV.agg [AV.ints IntKind.u8 32 x1, AV.agg [AV.ints IntKind.u8 32 x2, AV.ints IntKind.u8 32 x3, AV.isl IntKind.u8 xN4 x5, AV.ints IntKind.u8 32 x6, AV.ints IntKind.u8 64 x7], AV.ints IntKind.u8 64 x8]] [] κ = f R x1 x2 x3 xN4 x5 x6 x7 x8 (fun v v_1 v_2 => κ (AV.tup [AV.isl IntKind.u8 v v_1, AV.bool v_2]) []) := rfl
noncomputable def M (N : Nat) : Ty := fun R x1 x2 x3 xN4 x5 x6 x7 x8 kr0 => m (r18Leaf.M N) (r23row.M N) (R := R) N x1 x2 x3 xN4 x5 x6 x7 x8 kr0
def gts : List (Nat × AV) := []
theorem gok (N : Nat) : GOk (g (r18Leaf.M N) (r23row.M N)) := giL_ok (giF_ok (giD_ok hm (by intro p hp; cases hp) (gtL_ok (by decide)) (ovL_ok (by
    intro p hp
    simp only [List.mem_cons, List.not_mem_nil, or_false] at hp
    rcases hp with rfl | rfl
    · exact ⟨(r18Leaf.ok N).gt (gtL_sub (by repeat (first | exact subG_nil _ | refine subG_cons (by kernel_rfl) ?_))) (gtL_ok (by decide)), _, Tryd.func60, by kernel_rfl, by kernel_rfl⟩
    · exact ⟨(r23row.ok N).gt (gtL_sub (by repeat (first | exact subG_nil _ | refine subG_cons (by kernel_rfl) ?_))) (gtL_ok (by decide)), _, Tryd.func58, by kernel_rfl, by kernel_rfl⟩
)) 1))
theorem ok (N : Nat) : SoundC Tryd.prog (gtL gts) 21 (con (M N)) := by
  refine SoundC.mono (evF_ok (gok N) hm an N Tryd.func21) fun R args bs κ r h => ?_
  unfold con at h
  split at h
  · exact (eq (r18Leaf.M N) (r23row.M N) N κ _ _ _ _ _ _ _ _).trans h
  · cases h
end r23Package

end Go.Proofs.YthajoenmfppenaaDoor.fn
