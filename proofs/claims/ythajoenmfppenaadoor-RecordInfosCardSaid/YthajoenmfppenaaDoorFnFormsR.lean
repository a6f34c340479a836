/- What the references of the forms are, with the proof; printed by a program. -/
import Derived.Test.YthajoenmfppenaaDoorProg
import Derived.Test.YthajoenmfppenaaDoorEv4
import Derived.Test.YthajoenmfppenaaDoorFnWireR
namespace Go.Proofs.YthajoenmfppenaaDoor.fn
open Go Go.Proofs Go.Ev
/-! ### Tryd.f82: r18row -/
namespace r18row
def an : Anns := ⟨fun i => findA i [], fun i => findA i [], false, fun _ => none, []⟩
noncomputable def g (mrBytes : rBytes.Ty) : Gi := giD Tryd.prog (gtL []) (fun _ => an) 0 [] (ovL [(86, rBytes.con mrBytes)]) 1
noncomputable def m (mrBytes : rBytes.Ty) {R : Type} (_N : Nat) (l1 : List (List Int)) (kr0 : (Option Bool) → (List Int) → Option R) : Option R :=
  mrBytes R l1
   (fun v_c2 v_1_c3 => kr0 v_c2 v_1_c3)
theorem tree (mrBytes : rBytes.Ty) {R : Type} (N : Nat) (κ : AV → List Blk → Option R) (l1 : List (List Int)) : evF (g mrBytes) an N Tryd.f82 [AV.rsl IntKind.u8 l1] [] κ =
  mrBytes R l1
   (fun v_c2 v_1_c3 => κ (AV.isl IntKind.u8 v_c2 v_1_c3) []) := by kernel_rfl
theorem eq (mrBytes : rBytes.Ty) {R : Type} (N : Nat) (κ : AV → List Blk → Option R) (l1 : List (List Int)) : evF (g mrBytes) an N Tryd.f82 [AV.rsl IntKind.u8 l1] [] κ =
  m mrBytes N l1 (fun v v_1 => κ (AV.isl IntKind.u8 v v_1) []) := by
  rw [tree]
  kernel_rfl
abbrev Ty : Type 1 := ∀ R : Type, (List (List Int)) → ((Option Bool) → (List Int) → Option R) → Option R
def con (f : Ty) : Con := fun R args bs κ => match args, bs with
  | [AV.rsl IntKind.u8 l1], [] => f R l1 (fun v v_1 => κ (AV.isl IntKind.u8 v v_1) [])
  | _, _ => none
theorem con_eq (f : Ty) (R : Type) (κ : AV → List Blk → Option R) (l1 : List (List Int)) : con f R [AV.rsl IntKind.u8 l1] [] κ = f R l1 (fun v v_1 => κ (AV.isl IntKind.u8 v v_1) []) := rfl
noncomputable def M (N : Nat) : Ty := fun R l1 kr0 => m (rBytes.M N) (R := R) N l1 kr0
def gts : List (Nat × AV) := []
theorem gok (N : Nat) : GOk (g (rBytes.M N)) := giD_ok hm (by intro p hp; cases hp) (gtL_ok (by decide)) (ovL_ok (by
    intro p hp
    simp only [List.mem_cons, List.not_mem_nil, or_false] at hp
    rcases hp with rfl
    · exact ⟨(rBytes.ok N).gt (gtL_sub (by repeat (first | exact subG_nil _ | refine subG_cons (by kernel_rfl) ?_))) (gtL_ok (by decide)), _, Tryd.func86, by kernel_rfl, by kernel_rfl⟩
)) 1
theorem ok (N : Nat) : SoundC Tryd.prog (gtL gts) 82 (con (M N)) := by
  refine SoundC.mono (evF_ok (gok N) hm an N Tryd.func82) fun R args bs κ r h => ?_
  unfold con at h
  split at h
  · exact (eq (rBytes.M N) N κ _).trans h
  · cases h
end r18row

/-! ### Tryd.f83: r18num -/
namespace r18num
def an : Anns := ⟨fun i => findA i [], fun i => findA i [], false, fun _ => none, []⟩
noncomputable def g (mrNum : rNum.Ty) : Gi := giD Tryd.prog (gtL []) (fun _ => an) 0 [] (ovL [(87, rNum.con mrNum)]) 1
noncomputable def m (mrNum : rNum.Ty) {R : Type} (_N : Nat) (n1 : Int) (kr0 : (List Int) → Option R) : Option R :=
  mrNum R n1
   (fun v_c1 => kr0 v_c1)
theorem tree (mrNum : rNum.Ty) {R : Type} (N : Nat) (κ : AV → List Blk → Option R) (n1 : Int) : evF (g mrNum) an N Tryd.f83 [AV.int IntKind.i64 n1] [] κ =
  mrNum R n1
   (fun v_c1 => κ (AV.isl IntKind.u8 none v_c1) []) := by kernel_rfl
theorem eq (mrNum : rNum.Ty) {R : Type} (N : Nat) (κ : AV → List Blk → Option R) (n1 : Int) : evF (g mrNum) an N Tryd.f83 [AV.int IntKind.i64 n1] [] κ =
  m mrNum N n1 (fun v => κ (AV.isl IntKind.u8 none v) []) := by
  rw [tree]
  kernel_rfl
abbrev Ty : Type 1 := ∀ R : Type, Int → ((List Int) → Option R) → Option R
def con (f : Ty) : Con := fun R args bs κ => match args, bs with
  | [AV.int IntKind.i64 n1], [] => f R n1 (fun v => κ (AV.isl IntKind.u8 none v) [])
  | _, _ => none
theorem con_eq (f : Ty) (R : Type) (κ : AV → List Blk → Option R) (n1 : Int) : con f R [AV.int IntKind.i64 n1] [] κ = f R n1 (fun v => κ (AV.isl IntKind.u8 none v) []) := rfl
noncomputable def M (N : Nat) : Ty := fun R n1 kr0 => m (rNum.M N) (R := R) N n1 kr0
def gts : List (Nat × AV) := []
theorem gok (N : Nat) : GOk (g (rNum.M N)) := giD_ok hm (by intro p hp; cases hp) (gtL_ok (by decide)) (ovL_ok (by
    intro p hp
    simp only [List.mem_cons, List.not_mem_nil, or_false] at hp
    rcases hp with rfl
    · exact ⟨(rNum.ok N).gt (gtL_sub (by repeat (first | exact subG_nil _ | refine subG_cons (by kernel_rfl) ?_))) (gtL_ok (by decide)), _, Tryd.func87, by kernel_rfl, by kernel_rfl⟩
)) 1
theorem ok (N : Nat) : SoundC Tryd.prog (gtL gts) 83 (con (M N)) := by
  refine SoundC.mono (evF_ok (gok N) hm an N Tryd.func83) fun R args bs κ r h => ?_
  unfold con at h
  split at h
  · exact (eq (rNum.M N) N κ _).trans h
  · cases h
end r18num

/-! ### Tryd.f84: r18epoch -/
namespace r18epoch
def an : Anns := ⟨fun i => findA i [], fun i => findA i [], false, fun _ => none, []⟩
noncomputable def g : Gi := giD Tryd.prog (gtL []) (fun _ => an) 0 [] (ovL []) 1
noncomputable def m {R : Type} (_N : Nat) (n1 : Int) (kr0 : Bool → Option R) : Option R :=
  cond (decide (n1 ≥ 0))
   (kr0 (decide (n1 ≤ 1099511627776)))
   (kr0 false)
theorem tree {R : Type} (N : Nat) (κ : AV → List Blk → Option R) (n1 : Int) : evF g an N Tryd.f84 [AV.int IntKind.i64 n1] [] κ =
  cond (decide (n1 ≥ 0))
   (κ (AV.bool (decide (n1 ≤ 1099511627776))) [])
   (κ (AV.bool false) []) := by kernel_rfl
theorem eq {R : Type} (N : Nat) (κ : AV → List Blk → Option R) (n1 : Int) : evF g an N Tryd.f84 [AV.int IntKind.i64 n1] [] κ =
  m N n1 (fun v => κ (AV.bool v) []) := by
  rw [tree]
  kernel_rfl
abbrev Ty : Type 1 := ∀ R : Type, Int → (Bool → Option R) → Option R
def con (f : Ty) : Con := fun R args bs κ => match args, bs with
  | [AV.int IntKind.i64 n1], [] => f R n1 (fun v => κ (AV.bool v) [])
  | _, _ => none
theorem con_eq (f : Ty) (R : Type) (κ : AV → List Blk → Option R) (n1 : Int) : con f R [AV.int IntKind.i64 n1] [] κ = f R n1 (fun v => κ (AV.bool v) []) := rfl
noncomputable def M (N : Nat) : Ty := fun R n1 kr0 => m (R := R) N n1 kr0
def gts : List (Nat × AV) := []
theorem gok (_N : Nat) : GOk g := giD_ok hm (by intro p hp; cases hp) (gtL_ok (by decide)) (ovL_ok (by intro p hp; cases hp)) 1
theorem ok (N : Nat) : SoundC Tryd.prog (gtL gts) 84 (con (M N)) := by
  refine SoundC.mono (evF_ok (gok N) hm an N Tryd.func84) fun R args bs κ r h => ?_
  unfold con at h
  split at h
  · exact (eq N κ _).trans h
  · cases h
end r18epoch

/-! ### Tryd.f60: r18Leaf -/
namespace r18Leaf
def an : Anns := ⟨fun i => findA i [], fun i => findA i [], false, fun _ => none, []⟩
noncomputable def g (mr18row : r18row.Ty) : Gi := giF (giD Tryd.prog (gtL []) (fun _ => an) 0 [] (ovL [(82, r18row.con mr18row)]) 1)
noncomputable def m (mr18row : r18row.Ty) {R : Type} (_N : Nat) (x1 : List Int) (x2 : List Int) (_xN3 : Option Bool) (x4 : List Int) (x5 : List Int) (x6 : List Int) (kr0 : (Option Bool) → (List Int) → Bool → Option R) : Option R :=
  mr18row R ([List.drop 0 (List.take 32 x1), List.drop 0 (List.take 32 x2), x4, List.drop 0 (List.take 32 x5), List.drop 0 (List.take 64 x6)])
   (fun v_c2 v_1_c3 => cond (decide ((↑x4.length : Int) ≥ 1))
    (kr0 v_c2 v_1_c3 (decide ((↑x4.length : Int) ≤ 32)))
    (kr0 v_c2 v_1_c3 false))
theorem tree (mr18row : r18row.Ty) {R : Type} (N : Nat) (κ : AV → List Blk → Option R) (x1 : List Int) (x2 : List Int) (xN3 : Option Bool) (x4 : List Int) (x5 : List Int) (x6 : List Int) : evF (g mr18row) an N Tryd.f60 [AV.agg [AV.ints IntKind.u8 32 x1, AV.ints IntKind.u8 32 x2, AV.isl IntKind.u8 xN3 x4, AV.ints IntKind.u8 32 x5, AV.ints IntKind.u8 64 x6]] [] κ =
  mr18row R ([List.drop 0 (List.take 32 x1), List.drop 0 (List.take 32 x2), x4, List.drop 0 (List.take 32 x5), List.drop 0 (List.take 64 x6)])
   (fun v_c2 v_1_c3 => cond (decide ((↑x4.length : Int) ≥ 1))
    (κ (AV.tup [AV.isl IntKind.u8 v_c2 v_1_c3, AV.bool (decide ((↑x4.length : Int) ≤ 32))]) [])
    (κ (AV.tup [AV.isl IntKind.u8 v_c2 v_1_c3, AV.bool false]) [])) := by kernel_rfl
theorem eq (mr18row : r18row.Ty) {R : Type} (N : Nat) (κ : AV → List Blk → Option R) (x1 : List Int) (x2 : List Int) (xN3 : Option Bool) (x4 : List Int) (x5 : List Int) (x6 : List Int) : evF (g mr18row) an N Tryd.f60 [AV.agg [AV.ints IntKind.u8 32 x1, AV.ints IntKind.u8 32 x2, AV.isl IntKind.u8 xN3 x4, AV.ints IntKind.u8 32 x5, AV.ints IntKind.u8 64 x6]] [] κ =
  m mr18row N x1 x2 xN3 x4 x5 x6 (fun v v_1 v_2 => κ (AV.tup [AV.isl IntKind.u8 v v_1, AV.bool v_2]) []) := by
  rw [tree]
  kernel_rfl
abbrev Ty : Type 1 := ∀ R : Type, (List Int) → (List Int) → (Option Bool) → (List Int) → (List Int) → (List Int) → ((Option Bool) → (List Int) → Bool → Option R) → Option R
def con (f : Ty) : Con := fun R args bs κ => match args, bs with
  | [AV.agg [AV.ints IntKind.u8 32 x1, AV.ints IntKind.u8 32 x2, AV.isl IntKind.u8 xN3 x4, AV.ints IntKind.u8 32 x5, AV.ints IntKind.u8 64 x6]], [] => f R x1 x2 xN3 x4 x5 x6 (fun v v_1 v_2 => κ (AV.tup [AV.isl IntKind.u8 v v_1, AV.bool v_2]) [])
  | _, _ => none
theorem con_eq (f : Ty) (R : Type) (κ : AV → List Blk → Option R) (x1 : List Int) (x2 : List Int) (xN3 : Option Bool) (x4 : List Int) (x5 : List Int) (x6 : List Int) : con f R [AV.agg [AV.ints IntKind.u8 32 x1, AV.ints IntKind.u8 32 x2, AV.isl IntKind.u8 xN3 x4, AV.ints IntKind.u8 32 x5, AV.ints IntKind.u8 64 x6]] [] κ = f R x1 x2 xN3 x4 x5 x6 (fun v v_1 v_2 => κ (AV.tup [AV.isl IntKind.u8 v v_1, AV.bool v_2]) []) := rfl
noncomputable def M (N : Nat) : Ty := fun R x1 x2 xN3 x4 x5 x6 kr0 => m (r18row.M N) (R := R) N x1 x2 xN3 x4 x5 x6 kr0
def gts : List (Nat × AV) := []
theorem gok (N : Nat) : GOk (g (r18row.M N)) := giF_ok (giD_ok hm (by intro p hp; cases hp) (gtL_ok (by decide)) (ovL_ok (by
    intro p hp
    simp only [List.mem_cons, List.not_mem_nil, or_false] at hp
    rcases hp with rfl
    · exact ⟨(r18row.ok N).gt (gtL_sub (by repeat (first | exact subG_nil _ | refine subG_cons (by kernel_rfl) ?_))) (gtL_ok (by decide)), _, Tryd.func82, by kernel_rfl, by kernel_rfl⟩
)) 1)
theorem ok (N : Nat) : SoundC Tryd.prog (gtL gts) 60 (con (M N)) := by
  refine SoundC.mono (evF_ok (gok N) hm an N Tryd.func60) fun R args bs κ r h => ?_
  unfold con at h
  split at h
  · exact (eq (r18row.M N) N κ _ _ _ _ _ _).trans h
  · cases h
end r18Leaf

/-! ### Tryd.f56: r18Context -/
namespace r18Context
def an : Anns := ⟨fun i => findA i [], fun i => findA i [], false, fun _ => none, []⟩
noncomputable def g (mr18num : r18num.Ty) (mr18row : r18row.Ty) (mr18epoch : r18epoch.Ty) : Gi := giF (giD Tryd.prog (gtL []) (fun _ => an) 0 [] (ovL [(83, r18num.con mr18num), (82, r18row.con mr18row), (84, r18epoch.con mr18epoch)]) 1)
noncomputable def m (mr18num : r18num.Ty) (mr18row : r18row.Ty) (mr18epoch : r18epoch.Ty) {R : Type} (_N : Nat) (x1 : List Int) (x2 : Int) (x3 : List Int) (x4 : List Int) (kr0 : (Option Bool) → (List Int) → Bool → Option R) : Option R :=
  mr18num R x2
   (fun v_c4 => mr18row R ([List.drop 0 (List.take 32 x1), v_c4, List.drop 0 (List.take 32 x3), List.drop 0 (List.take 32 x4)])
    (fun v_c5 v_1_c6 => mr18epoch R x2
     (fun v_c7 => kr0 v_c5 v_1_c6 v_c7)))
theorem tree (mr18num : r18num.Ty) (mr18row : r18row.Ty) (mr18epoch : r18epoch.Ty) {R : Type} (N : Nat) (κ : AV → List Blk → Option R) (x1 : List Int) (x2 : Int) (x3 : List Int) (x4 : List Int) : evF (g mr18num mr18row mr18epoch) an N Tryd.f56 [AV.agg [AV.ints IntKind.u8 32 x1, AV.int IntKind.i64 x2, AV.ints IntKind.u8 32 x3, AV.ints IntKind.u8 32 x4]] [] κ =
  mr18num R x2
   (fun v_c4 => mr18row R ([List.drop 0 (List.take 32 x1), v_c4, List.drop 0 (List.take 32 x3), List.drop 0 (List.take 32 x4)])
    (fun v_c5 v_1_c6 => mr18epoch R x2
     (fun v_c7 => κ (AV.tup [AV.isl IntKind.u8 v_c5 v_1_c6, AV.bool v_c7]) []))) := by kernel_rfl
theorem eq (mr18num : r18num.Ty) (mr18row : r18row.Ty) (mr18epoch : r18epoch.Ty) {R : Type} (N : Nat) (κ : AV → List Blk → Option R) (x1 : List Int) (x2 : Int) (x3 : List Int) (x4 : List Int) : evF (g mr18num mr18row mr18epoch) an N Tryd.f56 [AV.agg [AV.ints IntKind.u8 32 x1, AV.int IntKind.i64 x2, AV.ints IntKind.u8 32 x3, AV.ints IntKind.u8 32 x4]] [] κ =
  m mr18num mr18row mr18epoch N x1 x2 x3 x4 (fun v v_1 v_2 => κ (AV.tup [AV.isl IntKind.u8 v v_1, AV.bool v_2]) []) := by
  rw [tree]
  kernel_rfl
abbrev Ty : Type 1 := ∀ R : Type, (List Int) → Int → (List Int) → (List Int) → ((Option Bool) → (List Int) → Bool → Option R) → Option R
def con (f : Ty) : Con := fun R args bs κ => match args, bs with
  | [AV.agg [AV.ints IntKind.u8 32 x1, AV.int IntKind.i64 x2, AV.ints IntKind.u8 32 x3, AV.ints IntKind.u8 32 x4]], [] => f R x1 x2 x3 x4 (fun v v_1 v_2 => κ (AV.tup [AV.isl IntKind.u8 v v_1, AV.bool v_2]) [])
  | _, _ => none
theorem con_eq (f : Ty) (R : Type) (κ : AV → List Blk → Option R) (x1 : List Int) (x2 : Int) (x3 : List Int) (x4 : List Int) : con f R [AV.agg [AV.ints IntKind.u8 32 x1, AV.int IntKind.i64 x2, AV.ints IntKind.u8 32 x3, AV.ints IntKind.u8 32 x4]] [] κ = f R x1 x2 x3 x4 (fun v v_1 v_2 => κ (AV.tup [AV.isl IntKind.u8 v v_1, AV.bool v_2]) []) := rfl
noncomputable def M (N : Nat) : Ty := fun R x1 x2 x3 x4 kr0 => m (r18num.M N) (r18row.M N) (r18epoch.M N) (R := R) N x1 x2 x3 x4 kr0
def gts : List (Nat × AV) := []
theorem gok (N : Nat) : GOk (g (r18num.M N) (r18row.M N) (r18epoch.M N)) := giF_ok (giD_ok hm (by intro p hp; cases hp) (gtL_ok (by decide)) (ovL_ok (by
    intro p hp
    simp only [List.mem_cons, List.not_mem_nil, or_false] at hp
    rcases hp with rfl | rfl | rfl
    · exact ⟨(r18num.ok N).gt (gtL_sub (by repeat (first | exact subG_nil _ | refine subG_cons (by kernel_rfl) ?_))) (gtL_ok (by decide)), _, Tryd.func83, by kernel_rfl, by kernel_rfl⟩
    · exact ⟨(r18row.ok N).gt (gtL_sub (by repeat (first | exact subG_nil _ | refine subG_cons (by kernel_rfl) ?_))) (gtL_ok (by decide)), _, Tryd.func82, by kernel_rfl, by kernel_rfl⟩
    · exact ⟨(r18epoch.ok N).gt (gtL_sub (by repeat (first | exact subG_nil _ | refine subG_cons (by kernel_rfl) ?_))) (gtL_ok (by decide)), _, Tryd.func84, by kernel_rfl, by kernel_rfl⟩
)) 1)
theorem ok (N : Nat) : SoundC Tryd.prog (gtL gts) 56 (con (M N)) := by
  refine SoundC.mono (evF_ok (gok N) hm an N Tryd.func56) fun R args bs κ r h => ?_
  unfold con at h
  split at h
  · exact (eq (r18num.M N) (r18row.M N) (r18epoch.M N) N κ _ _ _ _).trans h
  · cases h
end r18Context

end Go.Proofs.YthajoenmfppenaaDoor.fn
