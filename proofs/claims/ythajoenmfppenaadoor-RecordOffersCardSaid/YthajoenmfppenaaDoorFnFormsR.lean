/- What the references of the forms are, with the proof; printed by a program. -/
import Derived.Test.YthajoenmfppenaaDoorProg
import Derived.Test.YthajoenmfppenaaDoorEv4
import Derived.Test.YthajoenmfppenaaDoorFnWireR
namespace Go.Proofs.YthajoenmfppenaaDoor.fn
open Go Go.Proofs Go.Ev

/-! ### Tryd.f82: r18row -/
namespace r18row
def an : Anns := ⟨fun i => findA i [], fun i => findA i [], false, fun _ => none, []⟩
noncomputable def g (mrBytes : rBytes.Ty) : Gi := giD Tryd.prog (gtL []) (fun _ => an) 0 [] (ovL [(86, rBytes.con mrBytes)]) 1
noncomputable def m (mrBytes : rBytes.Ty) {R : Type} (_N : Nat) (l1 : List (List Int)) (kr0 : (Option Bool) → (List Int) → Option R) : Option R :=
  mrBytes R l1
   (fun v_c2 v_1_c3 => kr0 v_c2 v_1_c3)
theorem tree (mrBytes : rBytes.Ty) {R : Type} (N : Nat) (κ : AV → List Blk → Option R) (l1 : List (List Int)) : evF (g mrBytes) an N Tryd.f82 [AV.rsl IntKind.u8 l1] [] κ =
  mrBytes R l1
   (fun v_c2 v_1_c3 => κ (AV.isl IntKind.u8 v_c2 v_1_c3) []) := by kernel_rfl
theorem eq (mrBytes : rBytes.Ty) {R : Type} (N : Nat) (κ : AV → List Blk → Option R) (l1 : List (List Int)) : evF (g mrBytes) an N Tryd.f82 [AV.rsl IntKind.u8 l1] [] κ =
  m mrBytes N l1 (fun v v_1 => κ (AV.isl IntKind.u8 v v_1) []) := by
  rw [tree]
  kernel_rfl
abbrev Ty : Type 1 := ∀ R : Type, (List (List Int)) → ((Option Bool) → (List Int) → Option R) → Option R
def con (f : Ty) : Con := fun R args bs κ => match args, bs with
  | [AV.rsl IntKind.u8 l1], [] => f R l1 (fun v v_1 => κ (AV.isl IntKind.u8 v v_1) [])
  | _, _ => none
theorem con_eq (f : Ty) (R : Type) (κ : AV → List Blk → Option R) (l1 : List (List Int)) : con f R [AV.rsl IntKind.u8 l1] [] κ = f R l1 (fun v v_1 => κ (AV.isl IntKind.u8 v v_1) []) := rfl
noncomputable def M (N : Nat) : Ty := fun R l1 kr0 => m (rBytes.M N) (R := R) N l1 kr0
def gts : List (Nat × AV) := []
theorem gok (N : Nat) : GOk (g (rBytes.M N)) := giD_ok hm (by intro p hp; cases hp) (gtL_ok (by decide)) (ovL_ok (by
    intro p hp
    simp only [List.mem_cons, List.not_mem_nil, or_false] at hp
    rcases hp with rfl
    · exact ⟨(rBytes.ok N).gt (gtL_sub (by repeat (first | exact subG_nil _ | refine subG_cons (by kernel_rfl) ?_))) (gtL_ok (by decide)), _, Tryd.func86, by kernel_rfl, by kernel_rfl⟩
)) 1
theorem ok (N : Nat) : SoundC Tryd.prog (gtL gts) 82 (con (M N)) := by
  refine SoundC.mono (evF_ok (gok N) hm an N Tryd.func82) fun R args bs κ r h => ?_
  unfold con at h
  split at h
  · exact (eq (rBytes.M N) N κ _).trans h
  · cases h
end r18row


/-! ### Tryd.f83: r18num -/
namespace r18num
def an : Anns := ⟨fun i => findA i [], fun i => findA i [], false, fun _ => none, []⟩
noncomputable def g (mrNum : rNum.Ty) : Gi := giD Tryd.prog (gtL []) (fun _ => an) 0 [] (ovL [(87, rNum.con mrNum)]) 1
noncomputable def m (mrNum : rNum.Ty) {R : Type} (_N : Nat) (n1 : Int) (kr0 : (List Int) → Option R) : Option R :=
  mrNum R n1
   (fun v_c1 => kr0 v_c1)
theorem tree (mrNum : rNum.Ty) {R : Type} (N : Nat) (κ : AV → List Blk → Option R) (n1 : Int) : evF (g mrNum) an N Tryd.f83 [AV.int IntKind.i64 n1] [] κ =
  mrNum R n1
   (fun v_c1 => κ (AV.isl IntKind.u8 none v_c1) []) := by kernel_rfl
theorem eq (mrNum : rNum.Ty) {R : Type} (N : Nat) (κ : AV → List Blk → Option R) (n1 : Int) : evF (g mrNum) an N Tryd.f83 [AV.int IntKind.i64 n1] [] κ =
  m mrNum N n1 (fun v => κ (AV.isl IntKind.u8 none v) []) := by
  rw [tree]
  kernel_rfl
abbrev Ty : Type 1 := ∀ R : Type, Int → ((List Int) → Option R) → Option R
def con (f : Ty) : Con := fun R args bs κ => match args, bs with
  | [AV.int IntKind.i64 n1], [] => f R n1 (fun v => κ (AV.isl IntKind.u8 none v) [])
  | _, _ => none
theorem con_eq (f : Ty) (R : Type) (κ : AV → List Blk → Option R) (n1 : Int) : con f R [AV.int IntKind.i64 n1] [] κ = f R n1 (fun v => κ (AV.isl IntKind.u8 none v) []) := rfl
noncomputable def M (N : Nat) : Ty := fun R n1 kr0 => m (rNum.M N) (R := R) N n1 kr0
def gts : List (Nat × AV) := []
theorem gok (N : Nat) : GOk (g (rNum.M N)) := giD_ok hm (by intro p hp; cases hp) (gtL_ok (by decide)) (ovL_ok (by
    intro p hp
    simp only [List.mem_cons, List.not_mem_nil, or_false] at hp
    rcases hp with rfl
    · exact ⟨(rNum.ok N).gt (gtL_sub (by repeat (first | exact subG_nil _ | refine subG_cons (by kernel_rfl) ?_))) (gtL_ok (by decide)), _, Tryd.func87, by kernel_rfl, by kernel_rfl⟩
)) 1
theorem ok (N : Nat) : SoundC Tryd.prog (gtL gts) 83 (con (M N)) := by
  refine SoundC.mono (evF_ok (gok N) hm an N Tryd.func83) fun R args bs κ r h => ?_
  unfold con at h
  split at h
  · exact (eq (rNum.M N) N κ _).trans h
  · cases h
end r18num


/-! ### Tryd.f84: r18epoch -/
namespace r18epoch
def an : Anns := ⟨fun i => findA i [], fun i => findA i [], false, fun _ => none, []⟩
noncomputable def g : Gi := giD Tryd.prog (gtL []) (fun _ => an) 0 [] (ovL []) 1
noncomputable def m {R : Type} (_N : Nat) (n1 : Int) (kr0 : Bool → Option R) : Option R :=
  cond (decide (n1 ≥ 0))
   (kr0 (decide (n1 ≤ 1099511627776)))
   (kr0 false)
theorem tree {R : Type} (N : Nat) (κ : AV → List Blk → Option R) (n1 : Int) : evF g an N Tryd.f84 [AV.int IntKind.i64 n1] [] κ =
  cond (decide (n1 ≥ 0))
   (κ (AV.bool (decide (n1 ≤ 1099511627776))) [])
   (κ (AV.bool false) []) := by kernel_rfl
theorem eq {R : Type} (N : Nat) (κ : AV → List Blk → Option R) (n1 : Int) : evF g an N Tryd.f84 [AV.int IntKind.i64 n1] [] κ =
  m N n1 (fun v => κ (AV.bool v) []) := by
  rw [tree]
  kernel_rfl
abbrev Ty : Type 1 := ∀ R : Type, Int → (Bool → Option R) → Option R
def con (f : Ty) : Con := fun R args bs κ => match args, bs with
  | [AV.int IntKind.i64 n1], [] => f R n1 (fun v => κ (AV.bool v) [])
  | _, _ => none
theorem con_eq (f : Ty) (R : Type) (κ : AV → List Blk → Option R) (n1 : Int) : con f R [AV.int IntKind.i64 n1] [] κ = f R n1 (fun v => κ (AV.bool v) []) := rfl
noncomputable def M (N : Nat) : Ty := fun R n1 kr0 => m (R := R) N n1 kr0
def gts : List (Nat × AV) := []
theorem gok (_N : Nat) : GOk g := giD_ok hm (by intro p hp; cases hp) (gtL_ok (by decide)) (ovL_ok (by intro p hp; cases hp)) 1
theorem ok (N : Nat) : SoundC Tryd.prog (gtL gts) 84 (con (M N)) := by
  refine SoundC.mono (evF_ok (gok N) hm an N Tryd.func84) fun R args bs κ r h => ?_
  unfold con at h
  split at h
  · exact (eq N κ _).trans h
  · cases h
end r18epoch


/-! ### Tryd.f88: r18sender -/
namespace r18sender
def an : Anns := ⟨fun i => findA i [], fun i => findA i [], false, fun _ => none, []⟩
noncomputable def g : Gi := giD Tryd.prog (gtL []) (fun _ => an) 0 [] (ovL []) 1
noncomputable def m {R : Type} (_N : Nat) (n1 : Int) (kr0 : Bool → Option R) : Option R :=
  cond (decide (n1 ≥ 0))
   (kr0 (decide (n1 ≤ 15)))
   (kr0 false)
theorem tree {R : Type} (N : Nat) (κ : AV → List Blk → Option R) (n1 : Int) : evF g an N Tryd.f88 [AV.int IntKind.i64 n1] [] κ =
  cond (decide (n1 ≥ 0))
   (κ (AV.bool (decide (n1 ≤ 15))) [])
   (κ (AV.bool false) []) := by kernel_rfl
theorem eq {R : Type} (N : Nat) (κ : AV → List Blk → Option R) (n1 : Int) : evF g an N Tryd.f88 [AV.int IntKind.i64 n1] [] κ =
  m N n1 (fun v => κ (AV.bool v) []) := by
  rw [tree]
  kernel_rfl
abbrev Ty : Type 1 := ∀ R : Type, Int → (Bool → Option R) → Option R
def con (f : Ty) : Con := fun R args bs κ => match args, bs with
  | [AV.int IntKind.i64 n1], [] => f R n1 (fun v => κ (AV.bool v) [])
  | _, _ => none
theorem con_eq (f : Ty) (R : Type) (κ : AV → List Blk → Option R) (n1 : Int) : con f R [AV.int IntKind.i64 n1] [] κ = f R n1 (fun v => κ (AV.bool v) []) := rfl
noncomputable def M (N : Nat) : Ty := fun R n1 kr0 => m (R := R) N n1 kr0
def gts : List (Nat × AV) := []
theorem gok (_N : Nat) : GOk g := giD_ok hm (by intro p hp; cases hp) (gtL_ok (by decide)) (ovL_ok (by intro p hp; cases hp)) 1
theorem ok (N : Nat) : SoundC Tryd.prog (gtL gts) 88 (con (M N)) := by
  refine SoundC.mono (evF_ok (gok N) hm an N Tryd.func88) fun R args bs κ r h => ?_
  unfold con at h
  split at h
  · exact (eq N κ _).trans h
  · cases h
end r18sender


/-! ### Tryd.f60: r18Leaf -/
namespace r18Leaf
def an : Anns := ⟨fun i => findA i [], fun i => findA i [], false, fun _ => none, []⟩
noncomputable def g (mr18row : r18row.Ty) : Gi := giF (giD Tryd.prog (gtL []) (fun _ => an) 0 [] (ovL [(82, r18row.con mr18row)]) 1)
noncomputable def m (mr18row : r18row.Ty) {R : Type} (_N : Nat) (x1 : List Int) (x2 : List Int) (_xN3 : Option Bool) (x4 : List Int) (x5 : List Int) (x6 : List Int) (kr0 : (Option Bool) → (List Int) → Bool → Option R) : Option R :=
  mr18row R ([List.drop 0 (List.take 32 x1), List.drop 0 (List.take 32 x2), x4, List.drop 0 (List.take 32 x5), List.drop 0 (List.take 64 x6)])
   (fun v_c2 v_1_c3 => cond (decide ((↑x4.length : Int) ≥ 1))
    (kr0 v_c2 v_1_c3 (decide ((↑x4.length : Int) ≤ 32)))
    (kr0 v_c2 v_1_c3 false))
theorem tree (mr18row : r18row.Ty) {R : Type} (N : Nat) (κ : AV → List Blk → Option R) (x1 : List Int) (x2 : List Int) (xN3 : Option Bool) (x4 : List Int) (x5 : List Int) (x6 : List Int) : evF (g mr18row) an N Tryd.f60 [AV.agg [AV.ints IntKind.u8 32 x1, AV.ints IntKind.u8 32 x2, AV.isl IntKind.u8 xN3 x4, AV.ints IntKind.u8 32 x5, AV.ints IntKind.u8 64 x6]] [] κ =
  mr18row R ([List.drop 0 (List.take 32 x1), List.drop 0 (List.take 32 x2), x4, List.drop 0 (List.take 32 x5), List.drop 0 (List.take 64 x6)])
   (fun v_c2 v_1_c3 => cond (decide ((↑x4.length : Int) ≥ 1))
    (κ (AV.tup [AV.isl IntKind.u8 v_c2 v_1_c3, AV.bool (decide ((↑x4.length : Int) ≤ 32))]) [])
    (κ (AV.tup [AV.isl IntKind.u8 v_c2 v_1_c3, AV.bool false]) [])) := by kernel_rfl
theorem eq (mr18row : r18row.Ty) {R : Type} (N : Nat) (κ : AV → List Blk → Option R) (x1 : List Int) (x2 : List Int) (xN3 : Option Bool) (x4 : List Int) (x5 : List Int) (x6 : List Int) : evF (g mr18row) an N Tryd.f60 [AV.agg [AV.ints IntKind.u8 32 x1, AV.ints IntKind.u8 32 x2, AV.isl IntKind.u8 xN3 x4, AV.ints IntKind.u8 32 x5, AV.ints IntKind.u8 64 x6]] [] κ =
  m mr18row N x1 x2 xN3 x4 x5 x6 (fun v v_1 v_2 => κ (AV.tup [AV.isl IntKind.u8 v v_1, AV.bool v_2]) []) := by
  rw [tree]
  kernel_rfl
abbrev Ty : Type 1 := ∀ R : Type, (List Int) → (List Int) → (Option Bool) → (List Int) → (List Int) → (List Int) → ((Option Bool) → (List Int) → Bool → Option R) → Option R
def con (f : Ty) : Con := fun R args bs κ => match args, bs with
  | [AV.agg [AV.ints IntKind.u8 32 x1, AV.ints IntKind.u8 32 x2, AV.isl IntKind.u8 xN3 x4, AV.ints IntKind.u8 32 x5, AV.ints IntKind.u8 64 x6]], [] => f R x1 x2 xN3 x4 x5 x6 (fun v v_1 v_2 => κ (AV.tup [AV.isl IntKind.u8 v v_1, AV.bool v_2]) [])
  | _, _ => none
theorem con_eq (f : Ty) (R : Type) (κ : AV → List Blk → Option R) (x1 : List Int) (x2 : List Int) (xN3 : Option Bool) (x4 : List Int) (x5 : List Int) (x6 : List Int) : con f R [AV.agg [AV.ints IntKind.u8 32 x1, AV.ints IntKind.u8 32 x2, AV.isl IntKind.u8 xN3 x4, AV.ints IntKind.u8 32 x5, AV.ints IntKind.u8 64 x6]] [] κ = f R x1 x2 xN3 x4 x5 x6 (fun v v_1 v_2 => κ (AV.tup [AV.isl IntKind.u8 v v_1, AV.bool v_2]) []) := rfl
noncomputable def M (N : Nat) : Ty := fun R x1 x2 xN3 x4 x5 x6 kr0 => m (r18row.M N) (R := R) N x1 x2 xN3 x4 x5 x6 kr0
def gts : List (Nat × AV) := []
theorem gok (N : Nat) : GOk (g (r18row.M N)) := giF_ok (giD_ok hm (by intro p hp; cases hp) (gtL_ok (by decide)) (ovL_ok (by
    intro p hp
    simp only [List.mem_cons, List.not_mem_nil, or_false] at hp
    rcases hp with rfl
    · exact ⟨(r18row.ok N).gt (gtL_sub (by repeat (first | exact subG_nil _ | refine subG_cons (by kernel_rfl) ?_))) (gtL_ok (by decide)), _, Tryd.func82, by kernel_rfl, by kernel_rfl⟩
)) 1)
theorem ok (N : Nat) : SoundC Tryd.prog (gtL gts) 60 (con (M N)) := by
  refine SoundC.mono (evF_ok (gok N) hm an N Tryd.func60) fun R args bs κ r h => ?_
  unfold con at h
  split at h
  · exact (eq (r18row.M N) N κ _ _ _ _ _ _).trans h
  · cases h
end r18Leaf


/-! ### Tryd.f85: r18Package -/
namespace r18Package
def an : Anns := ⟨fun i => findA i [], fun i => findA i [], false, fun _ => none, []⟩
noncomputable def g (mr18Leaf : r18Leaf.Ty) (mr18row : r18row.Ty) : Gi := giF (giD Tryd.prog (gtL []) (fun _ => an) 0 [] (ovL [(60, r18Leaf.con mr18Leaf), (82, r18row.con mr18row)]) 1)
noncomputable def m (mr18Leaf : r18Leaf.Ty) (mr18row : r18row.Ty) {R : Type} (_N : Nat) (x1 : List Int) (x2 : List Int) (x3 : List Int) (_xN4 : Option Bool) (x5 : List Int) (x6 : List Int) (x7 : List Int) (x8 : List Int) (kr0 : (Option Bool) → (List Int) → Bool → Option R) : Option R :=
  mr18Leaf R x2 x3 none x5 x6 x7
   (fun _v_c5 v_1_c6 v_2_c7 => mr18row R ([List.drop 0 (List.take 32 x1), v_1_c6, List.drop 0 (List.take 64 x8)])
    (fun v_c8 v_1_c9 => kr0 v_c8 v_1_c9 v_2_c7))
theorem tree (mr18Leaf : r18Leaf.Ty) (mr18row : r18row.Ty) {R : Type} (N : Nat) (κ : AV → List Blk → Option R) (x1 : List Int) (x2 : List Int) (x3 : List Int) (xN4 : Option Bool) (x5 : List Int) (x6 : List Int) (x7 : List Int) (x8 : List Int) : evF (g mr18Leaf mr18row) an N Tryd.f85 [AV.agg [AV.ints IntKind.u8 32 x1, AV.agg [AV.ints IntKind.u8 32 x2, AV.ints IntKind.u8 32 x3, AV.isl IntKind.u8 xN4 x5, AV.ints IntKind.u8 32 x6, AV.ints IntKind.u8 64 x7], AV.ints IntKind.u8 64 x8]] [] κ =
  mr18Leaf R x2 x3 none x5 x6 x7
   (fun _v_c5 v_1_c6 v_2_c7 => mr18row R ([List.drop 0 (List.take 32 x1), v_1_c6, List.drop 0 (List.take 64 x8)])
    (fun v_c8 v_1_c9 => κ (AV.tup [AV.isl IntKind.u8 v_c8 v_1_c9, AV.bool v_2_c7]) [])) := by kernel_rfl
theorem eq (mr18Leaf : r18Leaf.Ty) (mr18row : r18row.Ty) {R : Type} (N : Nat) (κ : AV → List Blk → Option R) (x1 : List Int) (x2 : List Int) (x3 : List Int) (xN4 : Option Bool) (x5 : List Int) (x6 : List Int) (x7 : List Int) (x8 : List Int) : evF (g mr18Leaf mr18row) an N Tryd.f85 [AV.agg [AV.ints IntKind.u8 32 x1, AV.agg [AV.ints IntKind.u8 32 x2, AV.ints IntKind.u8 32 x3, AV.isl IntKind.u8 xN4 x5, AV.ints IntKind.u8 32 x6, AV.ints IntKind.u8 64 x7], AV.ints IntKind.u8 64 x8]] [] κ =
  m mr18Leaf mr18row N x1 x2 x3 xN4 x5 x6 x7 x8 (fun v v_1 v_2 => κ (AV.tup [AV.isl IntKind.u8 v v_1, AV.bool v_2]) []) := by
  rw [tree]
  kernel_rfl
abbrev Ty : Type 1 := ∀ R : Type, (List Int) → (List Int) → (List Int) → (Option Bool) → (List Int) → (List Int) → (List Int) → (List Int) → ((Option Bool) → (List Int) → Bool → Option R) → Option R
def con (f : Ty) : Con := fun R args bs κ => match args, bs with
  | [AV.agg [AV.ints IntKind.u8 32 x1, AV.agg [AV.ints IntKind.u8 32 x2, AV.ints IntKind.u8 32 x3, AV.isl IntKind.u8 xN4 x5, AV.ints IntKind.u8 32 x6, AV.ints IntKind.u8 64 x7], AV.ints IntKind.u8 64 x8]], [] => f R x1 x2 x3 xN4 x5 x6 x7 x8 (fun v v_1 v_2 => κ (AV.tup [AV.isl IntKind.u8 v v_1, AV.bool v_2]) [])
  | _, _ => none
theorem con_eq (f : Ty) (R : Type) (κ : AV → List Blk → Option R) (x1 : List Int) (x2 : List Int) (x3 : List Int) (xN4 : Option Bool) (x5 : List Int) (x6 : List Int) (x7 : List Int) (x8 : List Int) : con f R [AV.agg [AV.ints IntKind.u8 32 x1, AV.agg [AV.ints IntKind.u8 32 x2, AV.ints IntKind.u8 32 x3, AV.isl IntKind.u8 xN4 x5, AV.ints IntKind.u8 32 x6, AV.ints IntKind.u8 64 x7], AV.ints IntKind.u8 64 x8]] [] κ = f R x1 x2 x3 xN4 x5 x6 x7 x8 (fun v v_1 v_2 => κ (AV.tup [AV.isl IntKind.u8 v v_1, AV.bool v_2]) []) := rfl
noncomputable def M (N : Nat) : Ty := fun R x1 x2 x3 xN4 x5 x6 x7 x8 kr0 => m (r18Leaf.M N) (r18row.M N) (R := R) N x1 x2 x3 xN4 x5 x6 x7 x8 kr0
def gts : List (Nat × AV) := []
theorem gok (N : Nat) : GOk (g (r18Leaf.M N) (r18row.M N)) := giF_ok (giD_ok hm (by intro p hp; cases hp) (gtL_ok (by decide)) (ovL_ok (by
    intro p hp
    simp only [List.mem_cons, List.not_mem_nil, or_false] at hp
    rcases hp with rfl | rfl
    · exact ⟨(r18Leaf.ok N).gt (gtL_sub (by repeat (first | exact subG_nil _ | refine subG_cons (by kernel_rfl) ?_))) (gtL_ok (by decide)), _, Tryd.func60, by kernel_rfl, by kernel_rfl⟩
    · exact ⟨(r18row.ok N).gt (gtL_sub (by repeat (first | exact subG_nil _ | refine subG_cons (by kernel_rfl) ?_))) (gtL_ok (by decide)), _, Tryd.func82, by kernel_rfl, by kernel_rfl⟩
)) 1)
theorem ok (N : Nat) : SoundC Tryd.prog (gtL gts) 85 (con (M N)) := by
  refine SoundC.mono (evF_ok (gok N) hm an N Tryd.func85) fun R args bs κ r h => ?_
  unfold con at h
  split at h
  · exact (eq (r18Leaf.M N) (r18row.M N) N κ _ _ _ _ _ _ _ _).trans h
  · cases h
end r18Package


/-! ### Tryd.f57: r18Proposal -/
namespace r18Proposal
def an : Anns := ⟨fun i => findA i [], fun i => findA i [], false, fun _ => none, []⟩
noncomputable def g (mr18Package : r18Package.Ty) (mr18num : r18num.Ty) (mr18row : r18row.Ty) (mr18Leaf : r18Leaf.Ty) : Gi := giF (giD Tryd.prog (gtL []) (fun _ => an) 0 [] (ovL [(85, r18Package.con mr18Package), (83, r18num.con mr18num), (82, r18row.con mr18row), (60, r18Leaf.con mr18Leaf)]) 1)
noncomputable def m (mr18Package : r18Package.Ty) (mr18num : r18num.Ty) (mr18row : r18row.Ty) (mr18Leaf : r18Leaf.Ty) {R : Type} (_N : Nat) (x1 : Int) (x2 : Int) (x3 : List Int) (x4 : List Int) (x5 : List Int) (_xN6 : Option Bool) (x7 : List Int) (x8 : List Int) (x9 : List Int) (x10 : List Int) (x11 : List Int) (x12 : List Int) (_xN13 : Option Bool) (x14 : List Int) (x15 : List Int) (x16 : List Int) (kr0 : (Option Bool) → (List Int) → Bool → Option R) : Option R :=
  cond (x1 == 1)
   (mr18Package R x3 x4 x5 none x7 x8 x9 x10
    (fun _v_c6 v_1_c7 v_2_c8 => mr18num R 1
     (fun v_c9 => mr18row R ([v_c9, v_1_c7])
      (fun v_c10 v_1_c11 => kr0 v_c10 v_1_c11 v_2_c8))))
   (cond (x1 == 2)
    (mr18num R 2
     (fun v_c12 => mr18num R x2
      (fun v_c13 => mr18row R ([v_c12, v_c13])
       (fun v_c14 v_1_c15 => cond (decide (x2 ≥ 0))
        (kr0 v_c14 v_1_c15 (decide (x2 ≤ 15)))
        (kr0 v_c14 v_1_c15 false)))))
    (cond (x1 == 3)
     (mr18Leaf R x11 x12 none x14 x15 x16
      (fun _v_c16 v_1_c17 v_2_c18 => mr18num R 3
       (fun v_c19 => mr18row R ([v_c19, v_1_c17])
        (fun v_c20 v_1_c21 => kr0 v_c20 v_1_c21 v_2_c18))))
     (kr0 (some true) [] false)))
theorem tree (mr18Package : r18Package.Ty) (mr18num : r18num.Ty) (mr18row : r18row.Ty) (mr18Leaf : r18Leaf.Ty) {R : Type} (N : Nat) (κ : AV → List Blk → Option R) (x1 : Int) (x2 : Int) (x3 : List Int) (x4 : List Int) (x5 : List Int) (xN6 : Option Bool) (x7 : List Int) (x8 : List Int) (x9 : List Int) (x10 : List Int) (x11 : List Int) (x12 : List Int) (xN13 : Option Bool) (x14 : List Int) (x15 : List Int) (x16 : List Int) : evF (g mr18Package mr18num mr18row mr18Leaf) an N Tryd.f57 [AV.agg [AV.int IntKind.i64 x1, AV.int IntKind.i64 x2, AV.agg [AV.ints IntKind.u8 32 x3, AV.agg [AV.ints IntKind.u8 32 x4, AV.ints IntKind.u8 32 x5, AV.isl IntKind.u8 xN6 x7, AV.ints IntKind.u8 32 x8, AV.ints IntKind.u8 64 x9], AV.ints IntKind.u8 64 x10], AV.agg [AV.ints IntKind.u8 32 x11, AV.ints IntKind.u8 32 x12, AV.isl IntKind.u8 xN13 x14, AV.ints IntKind.u8 32 x15, AV.ints IntKind.u8 64 x16]]] [] κ =
  cond (x1 == 1)
   (mr18Package R x3 x4 x5 none x7 x8 x9 x10
    (fun _v_c6 v_1_c7 v_2_c8 => mr18num R 1
     (fun v_c9 => mr18row R ([v_c9, v_1_c7])
      (fun v_c10 v_1_c11 => κ (AV.tup [AV.isl IntKind.u8 v_c10 v_1_c11, AV.bool v_2_c8]) []))))
   (cond (x1 == 2)
    (mr18num R 2
     (fun v_c12 => mr18num R x2
      (fun v_c13 => mr18row R ([v_c12, v_c13])
       (fun v_c14 v_1_c15 => cond (decide (x2 ≥ 0))
        (κ (AV.tup [AV.isl IntKind.u8 v_c14 v_1_c15, AV.bool (decide (x2 ≤ 15))]) [])
        (κ (AV.tup [AV.isl IntKind.u8 v_c14 v_1_c15, AV.bool false]) [])))))
    (cond (x1 == 3)
     (mr18Leaf R x11 x12 none x14 x15 x16
      (fun _v_c16 v_1_c17 v_2_c18 => mr18num R 3
       (fun v_c19 => mr18row R ([v_c19, v_1_c17])
        (fun v_c20 v_1_c21 => κ (AV.tup [AV.isl IntKind.u8 v_c20 v_1_c21, AV.bool v_2_c18]) []))))
     (κ (AV.tup [AV.isl IntKind.u8 (some true) [], AV.bool false]) []))) := by kernel_rfl
theorem eq (mr18Package : r18Package.Ty) (mr18num : r18num.Ty) (mr18row : r18row.Ty) (mr18Leaf : r18Leaf.Ty) {R : Type} (N : Nat) (κ : AV → List Blk → Option R) (x1 : Int) (x2 : Int) (x3 : List Int) (x4 : List Int) (x5 : List Int) (xN6 : Option Bool) (x7 : List Int) (x8 : List Int) (x9 : List Int) (x10 : List Int) (x11 : List Int) (x12 : List Int) (xN13 : Option Bool) (x14 : List Int) (x15 : List Int) (x16 : List Int) : evF (g mr18Package mr18num mr18row mr18Leaf) an N Tryd.f57 [AV.agg [AV.int IntKind.i64 x1, AV.int IntKind.i64 x2, AV.agg [AV.ints IntKind.u8 32 x3, AV.agg [AV.ints IntKind.u8 32 x4, AV.ints IntKind.u8 32 x5, AV.isl IntKind.u8 xN6 x7, AV.ints IntKind.u8 32 x8, AV.ints IntKind.u8 64 x9], AV.ints IntKind.u8 64 x10], AV.agg [AV.ints IntKind.u8 32 x11, AV.ints IntKind.u8 32 x12, AV.isl IntKind.u8 xN13 x14, AV.ints IntKind.u8 32 x15, AV.ints IntKind.u8 64 x16]]] [] κ =
  m mr18Package mr18num mr18row mr18Leaf N x1 x2 x3 x4 x5 xN6 x7 x8 x9 x10 x11 x12 xN13 x14 x15 x16 (fun v v_1 v_2 => κ (AV.tup [AV.isl IntKind.u8 v v_1, AV.bool v_2]) []) := by
  rw [tree]
  kernel_rfl
abbrev Ty : Type 1 := ∀ R : Type, Int → Int → (List Int) → (List Int) → (List Int) → (Option Bool) → (List Int) → (List Int) → (List Int) → (List Int) → (List Int) → (List Int) → (Option Bool) → (List Int) → (List Int) → (List Int) → ((Option Bool) → (List Int) → Bool → Option R) → Option R
def con (f : Ty) : Con := fun R args bs κ => match args, bs with
  | [AV.agg [AV.int IntKind.i64 x1, AV.int IntKind.i64 x2, AV.agg [AV.ints IntKind.u8 32 x3, AV.agg [AV.ints IntKind.u8 32 x4, AV.ints IntKind.u8 32 x5, AV.isl IntKind.u8 xN6 x7, AV.ints IntKind.u8 32 x8, AV.ints IntKind.u8 64 x9], AV.ints IntKind.u8 64 x10], AV.agg [AV.ints IntKind.u8 32 x11, AV.ints IntKind.u8 32 x12, AV.isl IntKind.u8 xN13 x14, AV.ints IntKind.u8 32 x15, AV.ints IntKind.u8 64 x16]]], [] => f R x1 x2 x3 x4 x5 xN6 x7 x8 x9 x10 x11 x12 xN13 x14 x15 x16 (fun v v_1 v_2 => κ (AV.tup [AV.isl IntKind.u8 v v_1, AV.bool v_2]) [])
  | _, _ => none
theorem con_eq (f : Ty) (R : Type) (κ : AV → List Blk → Option R) (x1 : Int) (x2 : Int) (x3 : List Int) (x4 : List Int) (x5 : List Int) (xN6 : Option Bool) (x7 : List Int) (x8 : List Int) (x9 : List Int) (x10 : List Int) (x11 : List Int) (x12 : List Int) (xN13 : Option Bool) (x14 : List Int) (x15 : List Int) (x16 : List Int) : con f R [AV.agg [AV.int IntKind.i64 x1, AV.int IntKind.i64 x2, AV.agg [AV.ints IntKind.u8 32 x3, AV.agg [AV.ints IntKind.u8 32 x4, AV.ints IntKind.u8 32 x5, AV.isl IntKind.u8 xN6 x7, AV.ints IntKind.u8 32 x8, AV.ints IntKind.u8 64 x9], AV.ints IntKind.u8 64 x10], AV.agg [AV.ints IntKind.u8 32 x11, AV.ints IntKind.u8 32 x12, AV.isl IntKind.u8 xN13 x14, AV.ints IntKind.u8 32 x15, AV.ints IntKind.u8 64 x16]]] [] κ = f R x1 x2 x3 x4 x5 xN6 x7 x8 x9 x10 x11 x12 xN13 x14 x15 x16 (fun v v_1 v_2 => κ (AV.tup [AV.isl IntKind.u8 v v_1, AV.bool v_2]) []) := rfl
noncomputable def M (N : Nat) : Ty := fun R x1 x2 x3 x4 x5 xN6 x7 x8 x9 x10 x11 x12 xN13 x14 x15 x16 kr0 => m (r18Package.M N) (r18num.M N) (r18row.M N) (r18Leaf.M N) (R := R) N x1 x2 x3 x4 x5 xN6 x7 x8 x9 x10 x11 x12 xN13 x14 x15 x16 kr0
def gts : List (Nat × AV) := []
theorem gok (N : Nat) : GOk (g (r18Package.M N) (r18num.M N) (r18row.M N) (r18Leaf.M N)) := giF_ok (giD_ok hm (by intro p hp; cases hp) (gtL_ok (by decide)) (ovL_ok (by
    intro p hp
    simp only [List.mem_cons, List.not_mem_nil, or_false] at hp
    rcases hp with rfl | rfl | rfl | rfl
    · exact ⟨(r18Package.ok N).gt (gtL_sub (by repeat (first | exact subG_nil _ | refine subG_cons (by kernel_rfl) ?_))) (gtL_ok (by decide)), _, Tryd.func85, by kernel_rfl, by kernel_rfl⟩
    · exact ⟨(r18num.ok N).gt (gtL_sub (by repeat (first | exact subG_nil _ | refine subG_cons (by kernel_rfl) ?_))) (gtL_ok (by decide)), _, Tryd.func83, by kernel_rfl, by kernel_rfl⟩
    · exact ⟨(r18row.ok N).gt (gtL_sub (by repeat (first | exact subG_nil _ | refine subG_cons (by kernel_rfl) ?_))) (gtL_ok (by decide)), _, Tryd.func82, by kernel_rfl, by kernel_rfl⟩
    · exact ⟨(r18Leaf.ok N).gt (gtL_sub (by repeat (first | exact subG_nil _ | refine subG_cons (by kernel_rfl) ?_))) (gtL_ok (by decide)), _, Tryd.func60, by kernel_rfl, by kernel_rfl⟩
)) 1)
theorem ok (N : Nat) : SoundC Tryd.prog (gtL gts) 57 (con (M N)) := by
  refine SoundC.mono (evF_ok (gok N) hm an N Tryd.func57) fun R args bs κ r h => ?_
  unfold con at h
  split at h
  · exact (eq (r18Package.M N) (r18num.M N) (r18row.M N) (r18Leaf.M N) N κ _ _ _ _ _ _ _ _ _ _ _ _ _ _ _ _).trans h
  · cases h
end r18Proposal


/-! ### Tryd.f56: r18Context -/
namespace r18Context
def an : Anns := ⟨fun i => findA i [], fun i => findA i [], false, fun _ => none, []⟩
noncomputable def g (mr18num : r18num.Ty) (mr18row : r18row.Ty) (mr18epoch : r18epoch.Ty) : Gi := giF (giD Tryd.prog (gtL []) (fun _ => an) 0 [] (ovL [(83, r18num.con mr18num), (82, r18row.con mr18row), (84, r18epoch.con mr18epoch)]) 1)
noncomputable def m (mr18num : r18num.Ty) (mr18row : r18row.Ty) (mr18epoch : r18epoch.Ty) {R : Type} (_N : Nat) (x1 : List Int) (x2 : Int) (x3 : List Int) (x4 : List Int) (kr0 : (Option Bool) → (List Int) → Bool → Option R) : Option R :=
  mr18num R x2
   (fun v_c4 => mr18row R ([List.drop 0 (List.take 32 x1), v_c4, List.drop 0 (List.take 32 x3), List.drop 0 (List.take 32 x4)])
    (fun v_c5 v_1_c6 => mr18epoch R x2
     (fun v_c7 => kr0 v_c5 v_1_c6 v_c7)))
theorem tree (mr18num : r18num.Ty) (mr18row : r18row.Ty) (mr18epoch : r18epoch.Ty) {R : Type} (N : Nat) (κ : AV → List Blk → Option R) (x1 : List Int) (x2 : Int) (x3 : List Int) (x4 : List Int) : evF (g mr18num mr18row mr18epoch) an N Tryd.f56 [AV.agg [AV.ints IntKind.u8 32 x1, AV.int IntKind.i64 x2, AV.ints IntKind.u8 32 x3, AV.ints IntKind.u8 32 x4]] [] κ =
  mr18num R x2
   (fun v_c4 => mr18row R ([List.drop 0 (List.take 32 x1), v_c4, List.drop 0 (List.take 32 x3), List.drop 0 (List.take 32 x4)])
    (fun v_c5 v_1_c6 => mr18epoch R x2
     (fun v_c7 => κ (AV.tup [AV.isl IntKind.u8 v_c5 v_1_c6, AV.bool v_c7]) []))) := by kernel_rfl
theorem eq (mr18num : r18num.Ty) (mr18row : r18row.Ty) (mr18epoch : r18epoch.Ty) {R : Type} (N : Nat) (κ : AV → List Blk → Option R) (x1 : List Int) (x2 : Int) (x3 : List Int) (x4 : List Int) : evF (g mr18num mr18row mr18epoch) an N Tryd.f56 [AV.agg [AV.ints IntKind.u8 32 x1, AV.int IntKind.i64 x2, AV.ints IntKind.u8 32 x3, AV.ints IntKind.u8 32 x4]] [] κ =
  m mr18num mr18row mr18epoch N x1 x2 x3 x4 (fun v v_1 v_2 => κ (AV.tup [AV.isl IntKind.u8 v v_1, AV.bool v_2]) []) := by
  rw [tree]
  kernel_rfl
abbrev Ty : Type 1 := ∀ R : Type, (List Int) → Int → (List Int) → (List Int) → ((Option Bool) → (List Int) → Bool → Option R) → Option R
def con (f : Ty) : Con := fun R args bs κ => match args, bs with
  | [AV.agg [AV.ints IntKind.u8 32 x1, AV.int IntKind.i64 x2, AV.ints IntKind.u8 32 x3, AV.ints IntKind.u8 32 x4]], [] => f R x1 x2 x3 x4 (fun v v_1 v_2 => κ (AV.tup [AV.isl IntKind.u8 v v_1, AV.bool v_2]) [])
  | _, _ => none
theorem con_eq (f : Ty) (R : Type) (κ : AV → List Blk → Option R) (x1 : List Int) (x2 : Int) (x3 : List Int) (x4 : List Int) : con f R [AV.agg [AV.ints IntKind.u8 32 x1, AV.int IntKind.i64 x2, AV.ints IntKind.u8 32 x3, AV.ints IntKind.u8 32 x4]] [] κ = f R x1 x2 x3 x4 (fun v v_1 v_2 => κ (AV.tup [AV.isl IntKind.u8 v v_1, AV.bool v_2]) []) := rfl
noncomputable def M (N : Nat) : Ty := fun R x1 x2 x3 x4 kr0 => m (r18num.M N) (r18row.M N) (r18epoch.M N) (R := R) N x1 x2 x3 x4 kr0
def gts : List (Nat × AV) := []
theorem gok (N : Nat) : GOk (g (r18num.M N) (r18row.M N) (r18epoch.M N)) := giF_ok (giD_ok hm (by intro p hp; cases hp) (gtL_ok (by decide)) (ovL_ok (by
    intro p hp
    simp only [List.mem_cons, List.not_mem_nil, or_false] at hp
    rcases hp with rfl | rfl | rfl
    · exact ⟨(r18num.ok N).gt (gtL_sub (by repeat (first | exact subG_nil _ | refine subG_cons (by kernel_rfl) ?_))) (gtL_ok (by decide)), _, Tryd.func83, by kernel_rfl, by kernel_rfl⟩
    · exact ⟨(r18row.ok N).gt (gtL_sub (by repeat (first | exact subG_nil _ | refine subG_cons (by kernel_rfl) ?_))) (gtL_ok (by decide)), _, Tryd.func82, by kernel_rfl, by kernel_rfl⟩
    · exact ⟨(r18epoch.ok N).gt (gtL_sub (by repeat (first | exact subG_nil _ | refine subG_cons (by kernel_rfl) ?_))) (gtL_ok (by decide)), _, Tryd.func84, by kernel_rfl, by kernel_rfl⟩
)) 1)
theorem ok (N : Nat) : SoundC Tryd.prog (gtL gts) 56 (con (M N)) := by
  refine SoundC.mono (evF_ok (gok N) hm an N Tryd.func56) fun R args bs κ r h => ?_
  unfold con at h
  split at h
  · exact (eq (r18num.M N) (r18row.M N) (r18epoch.M N) N κ _ _ _ _).trans h
  · cases h
end r18Context


/-! ### Tryd.f62: r18Offer -/
namespace r18Offer
def an : Anns := ⟨fun i => findA i [], fun i => findA i [], false, fun _ => none, []⟩
noncomputable def g (mr18Proposal : r18Proposal.Ty) (mr18num : r18num.Ty) (mr18row : r18row.Ty) (mr18epoch : r18epoch.Ty) (mr18sender : r18sender.Ty) : Gi := giF (giD Tryd.prog (gtL []) (fun _ => an) 0 [] (ovL [(57, r18Proposal.con mr18Proposal), (83, r18num.con mr18num), (82, r18row.con mr18row), (84, r18epoch.con mr18epoch), (88, r18sender.con mr18sender)]) 1)
noncomputable def m (mr18Proposal : r18Proposal.Ty) (mr18num : r18num.Ty) (mr18row : r18row.Ty) (mr18epoch : r18epoch.Ty) (mr18sender : r18sender.Ty) {R : Type} (_N : Nat) (x1 : List Int) (x2 : Int) (x3 : Int) (x4 : Int) (x5 : Int) (x6 : List Int) (x7 : List Int) (x8 : List Int) (_xN9 : Option Bool) (x10 : List Int) (x11 : List Int) (x12 : List Int) (x13 : List Int) (x14 : List Int) (x15 : List Int) (_xN16 : Option Bool) (x17 : List Int) (x18 : List Int) (x19 : List Int) (x20 : List Int) (kr0 : (Option Bool) → (List Int) → Bool → Option R) : Option R :=
  mr18Proposal R x4 x5 x6 x7 x8 none x10 x11 x12 x13 x14 x15 none x17 x18 x19
   (fun _v_c9 v_1_c10 v_2_c11 => mr18num R x2
    (fun v_c12 => mr18num R x3
     (fun v_c13 => mr18row R ([List.drop 0 (List.take 32 x1), v_c12, v_c13, v_1_c10, List.drop 0 (List.take 64 x20)])
      (fun v_c14 v_1_c15 => cond v_2_c11
       (mr18epoch R x2
        (fun v_c16 => cond v_c16
         (mr18sender R x3
          (fun v_c17 => kr0 v_c14 v_1_c15 v_c17))
         (kr0 v_c14 v_1_c15 false)))
       (kr0 v_c14 v_1_c15 false)))))
theorem tree (mr18Proposal : r18Proposal.Ty) (mr18num : r18num.Ty) (mr18row : r18row.Ty) (mr18epoch : r18epoch.Ty) (mr18sender : r18sender.Ty) {R : Type} (N : Nat) (κ : AV → List Blk → Option R) (x1 : List Int) (x2 : Int) (x3 : Int) (x4 : Int) (x5 : Int) (x6 : List Int) (x7 : List Int) (x8 : List Int) (xN9 : Option Bool) (x10 : List Int) (x11 : List Int) (x12 : List Int) (x13 : List Int) (x14 : List Int) (x15 : List Int) (xN16 : Option Bool) (x17 : List Int) (x18 : List Int) (x19 : List Int) (x20 : List Int) : evF (g mr18Proposal mr18num mr18row mr18epoch mr18sender) an N Tryd.f62 [AV.agg [AV.ints IntKind.u8 32 x1, AV.int IntKind.i64 x2, AV.int IntKind.i64 x3, AV.agg [AV.int IntKind.i64 x4, AV.int IntKind.i64 x5, AV.agg [AV.ints IntKind.u8 32 x6, AV.agg [AV.ints IntKind.u8 32 x7, AV.ints IntKind.u8 32 x8, AV.isl IntKind.u8 xN9 x10, AV.ints IntKind.u8 32 x11, AV.ints IntKind.u8 64 x12], AV.ints IntKind.u8 64 x13], AV.agg [AV.ints IntKind.u8 32 x14, AV.ints IntKind.u8 32 x15, AV.isl IntKind.u8 xN16 x17, AV.ints IntKind.u8 32 x18, AV.ints IntKind.u8 64 x19]], AV.ints IntKind.u8 64 x20]] [] κ =
  mr18Proposal R x4 x5 x6 x7 x8 none x10 x11 x12 x13 x14 x15 none x17 x18 x19
   (fun _v_c9 v_1_c10 v_2_c11 => mr18num R x2
    (fun v_c12 => mr18num R x3
     (fun v_c13 => mr18row R ([List.drop 0 (List.take 32 x1), v_c12, v_c13, v_1_c10, List.drop 0 (List.take 64 x20)])
      (fun v_c14 v_1_c15 => cond v_2_c11
       (mr18epoch R x2
        (fun v_c16 => cond v_c16
         (mr18sender R x3
          (fun v_c17 => κ (AV.tup [AV.isl IntKind.u8 v_c14 v_1_c15, AV.bool v_c17]) []))
         (κ (AV.tup [AV.isl IntKind.u8 v_c14 v_1_c15, AV.bool false]) [])))
       (κ (AV.tup [AV.isl IntKind.u8 v_c14 v_1_c15, AV.bool false]) []))))) := by kernel_rfl
theorem eq (mr18Proposal : r18Proposal.Ty) (mr18num : r18num.Ty) (mr18row : r18row.Ty) (mr18epoch : r18epoch.Ty) (mr18sender : r18sender.Ty) {R : Type} (N : Nat) (κ : AV → List Blk → Option R) (x1 : List Int) (x2 : Int) (x3 : Int) (x4 : Int) (x5 : Int) (x6 : List Int) (x7 : List Int) (x8 : List Int) (xN9 : Option Bool) (x10 : List Int) (x11 : List Int) (x12 : List Int) (x13 : List Int) (x14 : List Int) (x15 : List Int) (xN16 : Option Bool) (x17 : List Int) (x18 : List Int) (x19 : List Int) (x20 : List Int) : evF (g mr18Proposal mr18num mr18row mr18epoch mr18sender) an N Tryd.f62 [AV.agg [AV.ints IntKind.u8 32 x1, AV.int IntKind.i64 x2, AV.int IntKind.i64 x3, AV.agg [AV.int IntKind.i64 x4, AV.int IntKind.i64 x5, AV.agg [AV.ints IntKind.u8 32 x6, AV.agg [AV.ints IntKind.u8 32 x7, AV.ints IntKind.u8 32 x8, AV.isl IntKind.u8 xN9 x10, AV.ints IntKind.u8 32 x11, AV.ints IntKind.u8 64 x12], AV.ints IntKind.u8 64 x13], AV.agg [AV.ints IntKind.u8 32 x14, AV.ints IntKind.u8 32 x15, AV.isl IntKind.u8 xN16 x17, AV.ints IntKind.u8 32 x18, AV.ints IntKind.u8 64 x19]], AV.ints IntKind.u8 64 x20]] [] κ =
  m mr18Proposal mr18num mr18row mr18epoch mr18sender N x1 x2 x3 x4 x5 x6 x7 x8 xN9 x10 x11 x12 x13 x14 x15 xN16 x17 x18 x19 x20 (fun v v_1 v_2 => κ (AV.tup [AV.isl IntKind.u8 v v_1, AV.bool v_2]) []) := by
  rw [tree]
  kernel_rfl
abbrev Ty : Type 1 := ∀ R : Type, (List Int) → Int → Int → Int → Int → (List Int) → (List Int) → (List Int) → (Option Bool) → (List Int) → (List Int) → (List Int) → (List Int) → (List Int) → (List Int) → (Option Bool) → (List Int) → (List Int) → (List Int) → (List Int) → ((Option Bool) → (List Int) → Bool → Option R) → Option R
def con (f : Ty) : Con := fun R args bs κ => match args, bs with
  | [AV.agg [AV.ints IntKind.u8 32 x1, AV.int IntKind.i64 x2, AV.int IntKind.i64 x3, AV.agg [AV.int IntKind.i64 x4, AV.int IntKind.i64 x5, AV.agg [AV.ints IntKind.u8 32 x6, AV.agg [AV.ints IntKind.u8 32 x7, AV.ints IntKind.u8 32 x8, AV.isl IntKind.u8 xN9 x10, AV.ints IntKind.u8 32 x11, AV.ints IntKind.u8 64 x12], AV.ints IntKind.u8 64 x13], AV.agg [AV.ints IntKind.u8 32 x14, AV.ints IntKind.u8 32 x15, AV.isl IntKind.u8 xN16 x17, AV.ints IntKind.u8 32 x18, AV.ints IntKind.u8 64 x19]], AV.ints IntKind.u8 64 x20]], [] => f R x1 x2 x3 x4 x5 x6 x7 x8 xN9 x10 x11 x12 x13 x14 x15 xN16 x17 x18 x19 x20 (fun v v_1 v_2 => κ (AV.tup [AV.isl IntKind.u8 v v_1, AV.bool v_2]) [])
  | _, _ => none
theorem con_eq (f : Ty) (R : Type) (κ : AV → List Blk → Option R) (x1 : List Int) (x2 : Int) (x3 : Int) (x4 : Int) (x5 : Int) (x6 : List Int) (x7 : List Int) (x8 : List Int) (xN9 : Option Bool) (x10 : List Int) (x11 : List Int) (x12 : List Int) (x13 : List Int) (x14 : List Int) (x15 : List Int) (xN16 : Option Bool) (x17 : List Int) (x18 : List Int) (x19 : List Int) (x20 : List Int) : con f R [AV.agg [AV.ints IntKind.u8 32 x1, AV.int IntKind.i64 x2, AV.int IntKind.i64 x3, AV.agg [AV.int IntKind.i64 x4, AV.int IntKind.i64 x5, AV.agg [AV.ints IntKind.u8 32 x6, AV.agg [AV.ints IntKind.u8 32 x7, AV.ints IntKind.u8 32 x8, AV.isl IntKind.u8 xN9 x10, AV.ints IntKind.u8 32 x11, AV.ints IntKind.u8 64 x12], AV.ints IntKind.u8 64 x13], AV.agg [AV.ints IntKind.u8 32 x14, AV.ints IntKind.u8 32 x15, AV.isl IntKind.u8 xN16 x17, AV.ints IntKind.u8 32 x18, AV.ints IntKind.u8 64 x19]], AV.ints IntKind.u8 64 x20]] [] κ = f R x1 x2 x3 x4 x5 x6 x7 x8 xN9 x10 x11 x12 x13 x14 x15 xN16 x17 x18 x19 x20 (fun v v_1 v_2 => κ (AV.tup [AV.isl IntKind.u8 v v_1, AV.bool v_2]) []) := rfl
noncomputable def M (N : Nat) : Ty := fun R x1 x2 x3 x4 x5 x6 x7 x8 xN9 x10 x11 x12 x13 x14 x15 xN16 x17 x18 x19 x20 kr0 => m (r18Proposal.M N) (r18num.M N) (r18row.M N) (r18epoch.M N) (r18sender.M N) (R := R) N x1 x2 x3 x4 x5 x6 x7 x8 xN9 x10 x11 x12 x13 x14 x15 xN16 x17 x18 x19 x20 kr0
def gts : List (Nat × AV) := []
theorem gok (N : Nat) : GOk (g (r18Proposal.M N) (r18num.M N) (r18row.M N) (r18epoch.M N) (r18sender.M N)) := giF_ok (giD_ok hm (by intro p hp; cases hp) (gtL_ok (by decide)) (ovL_ok (by
    intro p hp
    simp only [List.mem_cons, List.not_mem_nil, or_false] at hp
    rcases hp with rfl | rfl | rfl | rfl | rfl
    · exact ⟨(r18Proposal.ok N).gt (gtL_sub (by repeat (first | exact subG_nil _ | refine subG_cons (by kernel_rfl) ?_))) (gtL_ok (by decide)), _, Tryd.func57, by kernel_rfl, by kernel_rfl⟩
    · exact ⟨(r18num.ok N).gt (gtL_sub (by repeat (first | exact subG_nil _ | refine subG_cons (by kernel_rfl) ?_))) (gtL_ok (by decide)), _, Tryd.func83, by kernel_rfl, by kernel_rfl⟩
    · exact ⟨(r18row.ok N).gt (gtL_sub (by repeat (first | exact subG_nil _ | refine subG_cons (by kernel_rfl) ?_))) (gtL_ok (by decide)), _, Tryd.func82, by kernel_rfl, by kernel_rfl⟩
    · exact ⟨(r18epoch.ok N).gt (gtL_sub (by repeat (first | exact subG_nil _ | refine subG_cons (by kernel_rfl) ?_))) (gtL_ok (by decide)), _, Tryd.func84, by kernel_rfl, by kernel_rfl⟩
    · exact ⟨(r18sender.ok N).gt (gtL_sub (by repeat (first | exact subG_nil _ | refine subG_cons (by kernel_rfl) ?_))) (gtL_ok (by decide)), _, Tryd.func88, by kernel_rfl, by kernel_rfl⟩
)) 1)
theorem ok (N : Nat) : SoundC Tryd.prog (gtL gts) 62 (con (M N)) := by
  refine SoundC.mono (evF_ok (gok N) hm an N Tryd.func62) fun R args bs κ r h => ?_
  unfold con at h
  split at h
  · exact (eq (r18Proposal.M N) (r18num.M N) (r18row.M N) (r18epoch.M N) (r18sender.M N) N κ _ _ _ _ _ _ _ _ _ _ _ _ _ _ _ _ _ _ _ _).trans h
  · cases h
end r18Offer

end Go.Proofs.YthajoenmfppenaaDoor.fn
