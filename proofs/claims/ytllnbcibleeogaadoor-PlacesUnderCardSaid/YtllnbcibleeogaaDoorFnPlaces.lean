/- What the places' functions compute, with the proof; printed by a program. -/
import Derived.Test.YtllnbcibleeogaaDoorProg
import Derived.Test.YtllnbcibleeogaaDoorEv4
import Derived.Test.YtllnbcibleeogaaDoorFnWords
namespace Go.Proofs.YtllnbcibleeogaaDoor.fn
open Go Go.Proofs Go.Ev

/-! ### Tryd.f50: pRight -/
namespace pRight
def an : Anns := ⟨fun i => findA i [], fun i => findA i [], false⟩
noncomputable def g : Gi := giD Tryd.prog (gtL []) (fun _ => an) 0 [] (ovL []) 1
noncomputable def m {R : Type} (N : Nat) (leaves1 : Int) (r0 : Bool → Option R) : Option R :=
  cond (decide (leaves1 ≥ 1))
   (cond (decide (leaves1 ≤ 16))
    (r0 (iand IntKind.i64 leaves1 (IntKind.i64.wrap (leaves1 - 1)) == 0))
    (r0 false))
   (r0 false)
theorem tree {R : Type} (N : Nat) (κ : AV → List Blk → Option R) (leaves1 : Int) : evF (g) an N Tryd.f50 [AV.int IntKind.i64 leaves1] [] κ =
  cond (decide (leaves1 ≥ 1))
   (cond (decide (leaves1 ≤ 16))
    (κ (AV.bool (iand IntKind.i64 leaves1 (IntKind.i64.wrap (leaves1 - 1)) == 0)) [])
    (κ (AV.bool false) []))
   (κ (AV.bool false) []) := by kernel_rfl
theorem eq {R : Type} (N : Nat) (κ : AV → List Blk → Option R) (leaves1 : Int) : evF (g) an N Tryd.f50 [AV.int IntKind.i64 leaves1] [] κ =
  m N leaves1 (fun v => κ (AV.bool v) []) := by
  rw [tree]
  kernel_rfl
abbrev Ty : Type 1 := ∀ R : Type, Int → (Bool → Option R) → Option R
def con (f : Ty) : Con := fun R args bs κ => match args, bs with
  | [AV.int IntKind.i64 leaves1], [] => f R leaves1 (fun v => κ (AV.bool v) [])
  | _, _ => none
theorem con_eq (f : Ty) (R : Type) (κ : AV → List Blk → Option R) (leaves1 : Int) : con f R [AV.int IntKind.i64 leaves1] [] κ = f R leaves1 (fun v => κ (AV.bool v) []) := rfl
noncomputable def M (N : Nat) : Ty := fun R leaves1 r0 => m (R := R) N leaves1 r0
def gts : List (Nat × AV) := []
theorem gok (N : Nat) : GOk (g) := giD_ok hm (by intro p hp; cases hp) (gtL_ok (by decide)) (ovL_ok (by intro p hp; cases hp)) 1
theorem ok (N : Nat) : SoundC Tryd.prog (gtL gts) 50 (con (M N)) := by
  refine SoundC.mono (evF_ok (gok N) hm an N Tryd.func50) fun R args bs κ r h => ?_
  unfold con at h
  split at h
  · exact (eq N κ _).trans h
  · cases h
end pRight


/-! ### Tryd.f39: Root -/
namespace Root
def an : Anns := ⟨fun i => findA i [], fun i => findA i [], false⟩
noncomputable def g (mpRight : pRight.Ty) : Gi := giD Tryd.prog (gtL []) (fun _ => an) 0 [] (ovL [(50, pRight.con mpRight)]) 1
noncomputable def m (mpRight : pRight.Ty) {R : Type} (N : Nat) (leaves1 : Int) (r0 : Int → Option R) : Option R :=
  mpRight R leaves1
   (fun v_c2 => cond (!v_c2)
    (r0 0)
    (r0 (IntKind.i64.wrap (leaves1 - 1))))
theorem tree (mpRight : pRight.Ty) {R : Type} (N : Nat) (κ : AV → List Blk → Option R) (leaves1 : Int) : evF (g mpRight) an N Tryd.f39 [AV.int IntKind.i64 leaves1] [] κ =
  mpRight R leaves1
   (fun v_c2 => cond (!v_c2)
    (κ (AV.int IntKind.i64 0) [])
    (κ (AV.int IntKind.i64 (IntKind.i64.wrap (leaves1 - 1))) [])) := by kernel_rfl
theorem eq (mpRight : pRight.Ty) {R : Type} (N : Nat) (κ : AV → List Blk → Option R) (leaves1 : Int) : evF (g mpRight) an N Tryd.f39 [AV.int IntKind.i64 leaves1] [] κ =
  m mpRight N leaves1 (fun v => κ (AV.int IntKind.i64 v) []) := by
  rw [tree]
  kernel_rfl
abbrev Ty : Type 1 := ∀ R : Type, Int → (Int → Option R) → Option R
def con (f : Ty) : Con := fun R args bs κ => match args, bs with
  | [AV.int IntKind.i64 leaves1], [] => f R leaves1 (fun v => κ (AV.int IntKind.i64 v) [])
  | _, _ => none
theorem con_eq (f : Ty) (R : Type) (κ : AV → List Blk → Option R) (leaves1 : Int) : con f R [AV.int IntKind.i64 leaves1] [] κ = f R leaves1 (fun v => κ (AV.int IntKind.i64 v) []) := rfl
noncomputable def M (N : Nat) : Ty := fun R leaves1 r0 => m (pRight.M N) (R := R) N leaves1 r0
def gts : List (Nat × AV) := []
theorem gok (N : Nat) : GOk (g (pRight.M N)) := giD_ok hm (by intro p hp; cases hp) (gtL_ok (by decide)) (ovL_ok (by
    intro p hp
    simp only [List.mem_cons, List.not_mem_nil, or_false] at hp
    rcases hp with rfl
    · exact ⟨(pRight.ok N).gt (gtL_sub (by repeat (first | exact subG_nil _ | refine subG_cons (by kernel_rfl) ?_))) (gtL_ok (by decide)), _, Tryd.func50, by kernel_rfl, by kernel_rfl⟩
)) 1
theorem ok (N : Nat) : SoundC Tryd.prog (gtL gts) 39 (con (M N)) := by
  refine SoundC.mono (evF_ok (gok N) hm an N Tryd.func39) fun R args bs κ r h => ?_
  unfold con at h
  split at h
  · exact (eq (pRight.M N) N κ _).trans h
  · cases h
end Root


/-! ### Tryd.f38: Level -/
namespace Level
def an : Anns := ⟨fun i => findA i [], fun i => findA i [(0, ⟨[0, 3], [], 0⟩)], false⟩
noncomputable def g : Gi := giD Tryd.prog (gtL []) (fun _ => an) 0 [] (ovL []) 1
noncomputable def c_S1 : Code := scopeOf Tryd.f38 0
def s_J1_0 (x0 : Int) (k3 : Int) : St := ⟨[AV.int IntKind.i64 x0, AV.dead, AV.dead, AV.int IntKind.i64 k3] ++ List.replicate 10 .dead, []⟩
def x_S1_0 (x0 : Int) (k3 : Int) : St := ⟨[AV.int IntKind.i64 x0, AV.dead, AV.int IntKind.i64 k3, AV.int IntKind.i64 k3, AV.dead, AV.dead, AV.int IntKind.i64 x0, AV.int IntKind.i64 (iand IntKind.i64 x0 1), AV.bool (iand IntKind.i64 x0 1 == 1)] ++ List.replicate 4 .dead ++ [AV.int IntKind.i64 k3], []⟩
noncomputable def J1_0 {R : Type} (N : Nat) (e0 : Int → Int → Option R) : Nat → Int → Int → Option R
  | 0, _, _ => none
  | m + 1, x0, k3 =>
    cond (iand IntKind.i64 x0 1 == 1)
     (J1_0 N e0 m (ishr IntKind.i64 x0 1) (IntKind.i64.wrap (k3 + 1)))
     (e0 x0 k3)
theorem round_J1_0 {R : Type} (N : Nat) (J : Nat → St → Option R) (k : K R) (x0 : Int) (k3 : Int) : evC (g) an 0 N c_S1 (some 0) { k with gto := gotoK (hasL c_S1) (fun l => nmOf 0 (an.label l)) k J } (s_J1_0 x0 k3) =
  cond (iand IntKind.i64 x0 1 == 1)
   (J 0 (s_J1_0 (ishr IntKind.i64 x0 1) (IntKind.i64.wrap (k3 + 1))))
   (k.ret (x_S1_0 x0 k3)) := by kernel_rfl
theorem run_S1 {R : Type} (N : Nat) (k : K R) : ∀ (m : Nat), (∀ (x0 : Int) (k3 : Int), jumpN (fun l => evC (g) an 0 N c_S1 (some l)) (hasL c_S1) k (fun l => nmOf 0 (an.label l)) m 0 (s_J1_0 x0 k3) =
    J1_0 N (fun x0 k3 => (k).ret (x_S1_0 x0 k3)) m x0 k3) := by
  intro m
  induction m with
  | zero => exact by intros; rfl
  | succ m ih =>
    · intros; rw [jumpN_succ, round_J1_0]
      simp only [ih]
      kernel_rfl
theorem run_J1_0 {R : Type} (N : Nat) (k : K R) (m : Nat) : (∀ (x0 : Int) (k3 : Int), jumpN (fun l => evC (g) an 0 N c_S1 (some l)) (hasL c_S1) k (fun l => nmOf 0 (an.label l)) m 0 (s_J1_0 x0 k3) =
    J1_0 N (fun x0 k3 => (k).ret (x_S1_0 x0 k3)) m x0 k3) := (run_S1 N k m)
noncomputable def m {R : Type} (N : Nat) (x1 : Int) (r0 : Int → Option R) : Option R :=
  cond (decide (x1 < 0))
   (r0 0)
   (cond (iand IntKind.i64 x1 1 == 1)
    (J1_0 N
     (fun x0_c2 k3_c3 => r0 k3_c3) N (ishr IntKind.i64 x1 1) 1)
    (r0 0))
theorem tree {R : Type} (N : Nat) (κ : AV → List Blk → Option R) (x1 : Int) : evF (g) an N Tryd.f38 [AV.int IntKind.i64 x1] [] κ =
  cond (decide (x1 < 0))
   (κ (AV.int IntKind.i64 0) [])
   (cond (iand IntKind.i64 x1 1 == 1)
    (jumpN (fun l => evC (g) an 0 N c_S1 (some l)) (hasL c_S1) (ctx (g) an 0 N (bodyOf Tryd.f38) [1] (endK (g) an Tryd.f38 [] κ)) (fun l => nmOf 0 (an.label l)) N 0 (s_J1_0 (ishr IntKind.i64 x1 1) 1))
    (κ (AV.int IntKind.i64 0) [])) := by kernel_rfl
theorem tree_e0 {R : Type} (N : Nat) (κ : AV → List Blk → Option R) (x1 : Int) (x0_c2 : Int) (k3_c3 : Int) : (ctx (g) an 0 N (bodyOf Tryd.f38) [1] (endK (g) an Tryd.f38 [] κ)).ret (x_S1_0 x0_c2 k3_c3) =
  κ (AV.int IntKind.i64 k3_c3) [] := by kernel_rfl
theorem eq {R : Type} (N : Nat) (κ : AV → List Blk → Option R) (x1 : Int) : evF (g) an N Tryd.f38 [AV.int IntKind.i64 x1] [] κ =
  m N x1 (fun v => κ (AV.int IntKind.i64 v) []) := by
  rw [tree]
  simp only [run_J1_0, tree_e0]
  kernel_rfl
abbrev Ty : Type 1 := ∀ R : Type, Int → (Int → Option R) → Option R
def con (f : Ty) : Con := fun R args bs κ => match args, bs with
  | [AV.int IntKind.i64 x1], [] => f R x1 (fun v => κ (AV.int IntKind.i64 v) [])
  | _, _ => none
theorem con_eq (f : Ty) (R : Type) (κ : AV → List Blk → Option R) (x1 : Int) : con f R [AV.int IntKind.i64 x1] [] κ = f R x1 (fun v => κ (AV.int IntKind.i64 v) []) := rfl
noncomputable def M (N : Nat) : Ty := fun R x1 r0 => m (R := R) N x1 r0
def gts : List (Nat × AV) := []
theorem gok (N : Nat) : GOk (g) := giD_ok hm (by intro p hp; cases hp) (gtL_ok (by decide)) (ovL_ok (by intro p hp; cases hp)) 1
theorem ok (N : Nat) : SoundC Tryd.prog (gtL gts) 38 (con (M N)) := by
  refine SoundC.mono (evF_ok (gok N) hm an N Tryd.func38) fun R args bs κ r h => ?_
  unfold con at h
  split at h
  · exact (eq N κ _).trans h
  · cases h
end Level


/-! ### Tryd.f62: has -/
namespace has
def an : Anns := ⟨fun i => findA i [], fun i => findA i [], false⟩
noncomputable def g (mpRight : pRight.Ty) : Gi := giD Tryd.prog (gtL []) (fun _ => an) 0 [] (ovL [(50, pRight.con mpRight)]) 1
noncomputable def m (mpRight : pRight.Ty) {R : Type} (N : Nat) (x1 : Int) (leaves2 : Int) (r0 : Bool → Option R) : Option R :=
  mpRight R leaves2
   (fun v_c1 => cond v_c1
    (cond (decide (x1 ≥ 0))
     (r0 (decide (x1 ≤ IntKind.i64.wrap (2 * IntKind.i64.wrap (leaves2 - 1)))))
     (r0 false))
    (r0 false))
theorem tree (mpRight : pRight.Ty) {R : Type} (N : Nat) (κ : AV → List Blk → Option R) (x1 : Int) (leaves2 : Int) : evF (g mpRight) an N Tryd.f62 [AV.int IntKind.i64 x1, AV.int IntKind.i64 leaves2] [] κ =
  mpRight R leaves2
   (fun v_c1 => cond v_c1
    (cond (decide (x1 ≥ 0))
     (κ (AV.bool (decide (x1 ≤ IntKind.i64.wrap (2 * IntKind.i64.wrap (leaves2 - 1))))) [])
     (κ (AV.bool false) []))
    (κ (AV.bool false) [])) := by kernel_rfl
theorem eq (mpRight : pRight.Ty) {R : Type} (N : Nat) (κ : AV → List Blk → Option R) (x1 : Int) (leaves2 : Int) : evF (g mpRight) an N Tryd.f62 [AV.int IntKind.i64 x1, AV.int IntKind.i64 leaves2] [] κ =
  m mpRight N x1 leaves2 (fun v => κ (AV.bool v) []) := by
  rw [tree]
  kernel_rfl
abbrev Ty : Type 1 := ∀ R : Type, Int → Int → (Bool → Option R) → Option R
def con (f : Ty) : Con := fun R args bs κ => match args, bs with
  | [AV.int IntKind.i64 x1, AV.int IntKind.i64 leaves2], [] => f R x1 leaves2 (fun v => κ (AV.bool v) [])
  | _, _ => none
theorem con_eq (f : Ty) (R : Type) (κ : AV → List Blk → Option R) (x1 : Int) (leaves2 : Int) : con f R [AV.int IntKind.i64 x1, AV.int IntKind.i64 leaves2] [] κ = f R x1 leaves2 (fun v => κ (AV.bool v) []) := rfl
noncomputable def M (N : Nat) : Ty := fun R x1 leaves2 r0 => m (pRight.M N) (R := R) N x1 leaves2 r0
def gts : List (Nat × AV) := []
theorem gok (N : Nat) : GOk (g (pRight.M N)) := giD_ok hm (by intro p hp; cases hp) (gtL_ok (by decide)) (ovL_ok (by
    intro p hp
    simp only [List.mem_cons, List.not_mem_nil, or_false] at hp
    rcases hp with rfl
    · exact ⟨(pRight.ok N).gt (gtL_sub (by repeat (first | exact subG_nil _ | refine subG_cons (by kernel_rfl) ?_))) (gtL_ok (by decide)), _, Tryd.func50, by kernel_rfl, by kernel_rfl⟩
)) 1
theorem ok (N : Nat) : SoundC Tryd.prog (gtL gts) 62 (con (M N)) := by
  refine SoundC.mono (evF_ok (gok N) hm an N Tryd.func62) fun R args bs κ r h => ?_
  unfold con at h
  split at h
  · exact (eq (pRight.M N) N κ _ _).trans h
  · cases h
end has


/-! ### Tryd.f61: isP -/
namespace isP
def an : Anns := ⟨fun i => findA i [], fun i => findA i [], false⟩
noncomputable def g : Gi := giD Tryd.prog (gtL []) (fun _ => an) 0 [] (ovL []) 1
noncomputable def m {R : Type} (N : Nat) (x1 : Int) (r0 : Bool → Option R) : Option R :=
  cond (decide (x1 ≥ 0))
   (r0 (decide (x1 ≤ 30)))
   (r0 false)
theorem tree {R : Type} (N : Nat) (κ : AV → List Blk → Option R) (x1 : Int) : evF (g) an N Tryd.f61 [AV.int IntKind.i64 x1] [] κ =
  cond (decide (x1 ≥ 0))
   (κ (AV.bool (decide (x1 ≤ 30))) [])
   (κ (AV.bool false) []) := by kernel_rfl
theorem eq {R : Type} (N : Nat) (κ : AV → List Blk → Option R) (x1 : Int) : evF (g) an N Tryd.f61 [AV.int IntKind.i64 x1] [] κ =
  m N x1 (fun v => κ (AV.bool v) []) := by
  rw [tree]
  kernel_rfl
abbrev Ty : Type 1 := ∀ R : Type, Int → (Bool → Option R) → Option R
def con (f : Ty) : Con := fun R args bs κ => match args, bs with
  | [AV.int IntKind.i64 x1], [] => f R x1 (fun v => κ (AV.bool v) [])
  | _, _ => none
theorem con_eq (f : Ty) (R : Type) (κ : AV → List Blk → Option R) (x1 : Int) : con f R [AV.int IntKind.i64 x1] [] κ = f R x1 (fun v => κ (AV.bool v) []) := rfl
noncomputable def M (N : Nat) : Ty := fun R x1 r0 => m (R := R) N x1 r0
def gts : List (Nat × AV) := []
theorem gok (N : Nat) : GOk (g) := giD_ok hm (by intro p hp; cases hp) (gtL_ok (by decide)) (ovL_ok (by intro p hp; cases hp)) 1
theorem ok (N : Nat) : SoundC Tryd.prog (gtL gts) 61 (con (M N)) := by
  refine SoundC.mono (evF_ok (gok N) hm an N Tryd.func61) fun R args bs κ r h => ?_
  unfold con at h
  split at h
  · exact (eq N κ _).trans h
  · cases h
end isP


/-! ### Tryd.f51: Below -/
namespace Below
def an : Anns := ⟨fun i => findA i [], fun i => findA i [], false⟩
noncomputable def g (mLevel : Level.Ty) (misP : isP.Ty) : Gi := giD Tryd.prog (gtL [(1, .err 1), (10, .err 11)]) (fun _ => an) 0 [] (ovL [(38, Level.con mLevel), (61, isP.con misP)]) 1
noncomputable def m (mLevel : Level.Ty) (misP : isP.Ty) {R : Type} (N : Nat) (x1 : Int) (r0 : Int → Int → Nat → Option R) : Option R :=
  mLevel R x1
   (fun v_c6 => misP R x1
    (fun v_c7 => cond (!v_c7)
     (r0 0 0 1)
     (cond (v_c6 == 0)
      (r0 0 0 11)
      (cond (true && decide (IntKind.i64.wrap (v_c6 - 1) < 0))
       (none)
       (r0 (IntKind.i64.wrap (x1 - ishl IntKind.i64 1 (IntKind.i64.wrap (v_c6 - 1)))) (IntKind.i64.wrap (x1 + ishl IntKind.i64 1 (IntKind.i64.wrap (v_c6 - 1)))) 0)))))
theorem tree (mLevel : Level.Ty) (misP : isP.Ty) {R : Type} (N : Nat) (κ : AV → List Blk → Option R) (x1 : Int) : evF (g mLevel misP) an N Tryd.f51 [AV.int IntKind.i64 x1] [] κ =
  mLevel R x1
   (fun v_c6 => misP R x1
    (fun v_c7 => cond (!v_c7)
     (κ (AV.tup [AV.int IntKind.i64 0, AV.int IntKind.i64 0, AV.err 1]) [])
     (cond (v_c6 == 0)
      (κ (AV.tup [AV.int IntKind.i64 0, AV.int IntKind.i64 0, AV.err 11]) [])
      (cond (true && decide (IntKind.i64.wrap (v_c6 - 1) < 0))
       (none)
       (κ (AV.tup [AV.int IntKind.i64 (IntKind.i64.wrap (x1 - ishl IntKind.i64 1 (IntKind.i64.wrap (v_c6 - 1)))), AV.int IntKind.i64 (IntKind.i64.wrap (x1 + ishl IntKind.i64 1 (IntKind.i64.wrap (v_c6 - 1)))), AV.err 0]) []))))) := by kernel_rfl
theorem eq (mLevel : Level.Ty) (misP : isP.Ty) {R : Type} (N : Nat) (κ : AV → List Blk → Option R) (x1 : Int) : evF (g mLevel misP) an N Tryd.f51 [AV.int IntKind.i64 x1] [] κ =
  m mLevel misP N x1 (fun v v_1 v_2 => κ (AV.tup [AV.int IntKind.i64 v, AV.int IntKind.i64 v_1, AV.err v_2]) []) := by
  rw [tree]
  kernel_rfl
abbrev Ty : Type 1 := ∀ R : Type, Int → (Int → Int → Nat → Option R) → Option R
def con (f : Ty) : Con := fun R args bs κ => match args, bs with
  | [AV.int IntKind.i64 x1], [] => f R x1 (fun v v_1 v_2 => κ (AV.tup [AV.int IntKind.i64 v, AV.int IntKind.i64 v_1, AV.err v_2]) [])
  | _, _ => none
theorem con_eq (f : Ty) (R : Type) (κ : AV → List Blk → Option R) (x1 : Int) : con f R [AV.int IntKind.i64 x1] [] κ = f R x1 (fun v v_1 v_2 => κ (AV.tup [AV.int IntKind.i64 v, AV.int IntKind.i64 v_1, AV.err v_2]) []) := rfl
noncomputable def M (N : Nat) : Ty := fun R x1 r0 => m (Level.M N) (isP.M N) (R := R) N x1 r0
def gts : List (Nat × AV) := [(1, .err 1), (10, .err 11)]
theorem gok (N : Nat) : GOk (g (Level.M N) (isP.M N)) := giD_ok hm (by intro p hp; cases hp) (gtL_ok (by decide)) (ovL_ok (by
    intro p hp
    simp only [List.mem_cons, List.not_mem_nil, or_false] at hp
    rcases hp with rfl | rfl
    · exact ⟨(Level.ok N).gt (gtL_sub (by repeat (first | exact subG_nil _ | refine subG_cons (by kernel_rfl) ?_))) (gtL_ok (by decide)), _, Tryd.func38, by kernel_rfl, by kernel_rfl⟩
    · exact ⟨(isP.ok N).gt (gtL_sub (by repeat (first | exact subG_nil _ | refine subG_cons (by kernel_rfl) ?_))) (gtL_ok (by decide)), _, Tryd.func61, by kernel_rfl, by kernel_rfl⟩
)) 1
theorem ok (N : Nat) : SoundC Tryd.prog (gtL gts) 51 (con (M N)) := by
  refine SoundC.mono (evF_ok (gok N) hm an N Tryd.func51) fun R args bs κ r h => ?_
  unfold con at h
  split at h
  · exact (eq (Level.M N) (isP.M N) N κ _).trans h
  · cases h
end Below


/-! ### Tryd.f41: Above -/
namespace Above
def an : Anns := ⟨fun i => findA i [], fun i => findA i [], false⟩
noncomputable def g (mhas : has.Ty) (mRoot : Root.Ty) (mLevel : Level.Ty) : Gi := giD Tryd.prog (gtL [(1, .err 1), (14, .err 15)]) (fun _ => an) 0 [] (ovL [(62, has.con mhas), (39, Root.con mRoot), (38, Level.con mLevel)]) 1
noncomputable def m (mhas : has.Ty) (mRoot : Root.Ty) (mLevel : Level.Ty) {R : Type} (N : Nat) (x1 : Int) (leaves2 : Int) (r0 : Int → Nat → Option R) : Option R :=
  mhas R x1 leaves2
   (fun v_c6 => cond (!v_c6)
    (r0 0 1)
    (mRoot R leaves2
     (fun v_c7 => cond (x1 == v_c7)
      (r0 0 15)
      (mLevel R x1
       (fun v_c8 => cond (true && decide (v_c8 < 0))
        (none)
        (r0 (iandn IntKind.i64 (ior IntKind.i64 x1 (ishl IntKind.i64 1 v_c8)) (ishl IntKind.i64 (ishl IntKind.i64 1 v_c8) 1)) 0))))))
theorem tree (mhas : has.Ty) (mRoot : Root.Ty) (mLevel : Level.Ty) {R : Type} (N : Nat) (κ : AV → List Blk → Option R) (x1 : Int) (leaves2 : Int) : evF (g mhas mRoot mLevel) an N Tryd.f41 [AV.int IntKind.i64 x1, AV.int IntKind.i64 leaves2] [] κ =
  mhas R x1 leaves2
   (fun v_c6 => cond (!v_c6)
    (κ (AV.tup [AV.int IntKind.i64 0, AV.err 1]) [])
    (mRoot R leaves2
     (fun v_c7 => cond (x1 == v_c7)
      (κ (AV.tup [AV.int IntKind.i64 0, AV.err 15]) [])
      (mLevel R x1
       (fun v_c8 => cond (true && decide (v_c8 < 0))
        (none)
        (κ (AV.tup [AV.int IntKind.i64 (iandn IntKind.i64 (ior IntKind.i64 x1 (ishl IntKind.i64 1 v_c8)) (ishl IntKind.i64 (ishl IntKind.i64 1 v_c8) 1)), AV.err 0]) [])))))) := by kernel_rfl
theorem eq (mhas : has.Ty) (mRoot : Root.Ty) (mLevel : Level.Ty) {R : Type} (N : Nat) (κ : AV → List Blk → Option R) (x1 : Int) (leaves2 : Int) : evF (g mhas mRoot mLevel) an N Tryd.f41 [AV.int IntKind.i64 x1, AV.int IntKind.i64 leaves2] [] κ =
  m mhas mRoot mLevel N x1 leaves2 (fun v v_1 => κ (AV.tup [AV.int IntKind.i64 v, AV.err v_1]) []) := by
  rw [tree]
  kernel_rfl
abbrev Ty : Type 1 := ∀ R : Type, Int → Int → (Int → Nat → Option R) → Option R
def con (f : Ty) : Con := fun R args bs κ => match args, bs with
  | [AV.int IntKind.i64 x1, AV.int IntKind.i64 leaves2], [] => f R x1 leaves2 (fun v v_1 => κ (AV.tup [AV.int IntKind.i64 v, AV.err v_1]) [])
  | _, _ => none
theorem con_eq (f : Ty) (R : Type) (κ : AV → List Blk → Option R) (x1 : Int) (leaves2 : Int) : con f R [AV.int IntKind.i64 x1, AV.int IntKind.i64 leaves2] [] κ = f R x1 leaves2 (fun v v_1 => κ (AV.tup [AV.int IntKind.i64 v, AV.err v_1]) []) := rfl
noncomputable def M (N : Nat) : Ty := fun R x1 leaves2 r0 => m (has.M N) (Root.M N) (Level.M N) (R := R) N x1 leaves2 r0
def gts : List (Nat × AV) := [(1, .err 1), (14, .err 15)]
theorem gok (N : Nat) : GOk (g (has.M N) (Root.M N) (Level.M N)) := giD_ok hm (by intro p hp; cases hp) (gtL_ok (by decide)) (ovL_ok (by
    intro p hp
    simp only [List.mem_cons, List.not_mem_nil, or_false] at hp
    rcases hp with rfl | rfl | rfl
    · exact ⟨(has.ok N).gt (gtL_sub (by repeat (first | exact subG_nil _ | refine subG_cons (by kernel_rfl) ?_))) (gtL_ok (by decide)), _, Tryd.func62, by kernel_rfl, by kernel_rfl⟩
    · exact ⟨(Root.ok N).gt (gtL_sub (by repeat (first | exact subG_nil _ | refine subG_cons (by kernel_rfl) ?_))) (gtL_ok (by decide)), _, Tryd.func39, by kernel_rfl, by kernel_rfl⟩
    · exact ⟨(Level.ok N).gt (gtL_sub (by repeat (first | exact subG_nil _ | refine subG_cons (by kernel_rfl) ?_))) (gtL_ok (by decide)), _, Tryd.func38, by kernel_rfl, by kernel_rfl⟩
)) 1
theorem ok (N : Nat) : SoundC Tryd.prog (gtL gts) 41 (con (M N)) := by
  refine SoundC.mono (evF_ok (gok N) hm an N Tryd.func41) fun R args bs κ r h => ?_
  unfold con at h
  split at h
  · exact (eq (has.M N) (Root.M N) (Level.M N) N κ _ _).trans h
  · cases h
end Above


/-! ### Tryd.f42: Beside -/
namespace Beside
def an : Anns := ⟨fun i => findA i [], fun i => findA i [], false⟩
noncomputable def g (mAbove : Above.Ty) (mBelow : Below.Ty) : Gi := giD Tryd.prog (gtL [(1, .err 1), (10, .err 11), (14, .err 15)]) (fun _ => an) 0 [] (ovL [(41, Above.con mAbove), (51, Below.con mBelow)]) 1
noncomputable def m (mAbove : Above.Ty) (mBelow : Below.Ty) {R : Type} (N : Nat) (x1 : Int) (leaves2 : Int) (r0 : Int → Nat → Option R) : Option R :=
  mAbove R x1 leaves2
   (fun v_c7 v_1_c8 => cond (!v_1_c8.beq 0)
    (r0 0 v_1_c8)
    (mBelow R v_c7
     (fun v_c9 v_1_c10 v_2_c11 => cond (v_c9 == x1)
      (r0 v_1_c10 v_2_c11)
      (r0 v_c9 v_2_c11))))
theorem tree (mAbove : Above.Ty) (mBelow : Below.Ty) {R : Type} (N : Nat) (κ : AV → List Blk → Option R) (x1 : Int) (leaves2 : Int) : evF (g mAbove mBelow) an N Tryd.f42 [AV.int IntKind.i64 x1, AV.int IntKind.i64 leaves2] [] κ =
  mAbove R x1 leaves2
   (fun v_c7 v_1_c8 => cond (!v_1_c8.beq 0)
    (κ (AV.tup [AV.int IntKind.i64 0, AV.err v_1_c8]) [])
    (mBelow R v_c7
     (fun v_c9 v_1_c10 v_2_c11 => cond (v_c9 == x1)
      (κ (AV.tup [AV.int IntKind.i64 v_1_c10, AV.err v_2_c11]) [])
      (κ (AV.tup [AV.int IntKind.i64 v_c9, AV.err v_2_c11]) [])))) := by kernel_rfl
theorem eq (mAbove : Above.Ty) (mBelow : Below.Ty) {R : Type} (N : Nat) (κ : AV → List Blk → Option R) (x1 : Int) (leaves2 : Int) : evF (g mAbove mBelow) an N Tryd.f42 [AV.int IntKind.i64 x1, AV.int IntKind.i64 leaves2] [] κ =
  m mAbove mBelow N x1 leaves2 (fun v v_1 => κ (AV.tup [AV.int IntKind.i64 v, AV.err v_1]) []) := by
  rw [tree]
  kernel_rfl
abbrev Ty : Type 1 := ∀ R : Type, Int → Int → (Int → Nat → Option R) → Option R
def con (f : Ty) : Con := fun R args bs κ => match args, bs with
  | [AV.int IntKind.i64 x1, AV.int IntKind.i64 leaves2], [] => f R x1 leaves2 (fun v v_1 => κ (AV.tup [AV.int IntKind.i64 v, AV.err v_1]) [])
  | _, _ => none
theorem con_eq (f : Ty) (R : Type) (κ : AV → List Blk → Option R) (x1 : Int) (leaves2 : Int) : con f R [AV.int IntKind.i64 x1, AV.int IntKind.i64 leaves2] [] κ = f R x1 leaves2 (fun v v_1 => κ (AV.tup [AV.int IntKind.i64 v, AV.err v_1]) []) := rfl
noncomputable def M (N : Nat) : Ty := fun R x1 leaves2 r0 => m (Above.M N) (Below.M N) (R := R) N x1 leaves2 r0
def gts : List (Nat × AV) := [(1, .err 1), (10, .err 11), (14, .err 15)]
theorem gok (N : Nat) : GOk (g (Above.M N) (Below.M N)) := giD_ok hm (by intro p hp; cases hp) (gtL_ok (by decide)) (ovL_ok (by
    intro p hp
    simp only [List.mem_cons, List.not_mem_nil, or_false] at hp
    rcases hp with rfl | rfl
    · exact ⟨(Above.ok N).gt (gtL_sub (by repeat (first | exact subG_nil _ | refine subG_cons (by kernel_rfl) ?_))) (gtL_ok (by decide)), _, Tryd.func41, by kernel_rfl, by kernel_rfl⟩
    · exact ⟨(Below.ok N).gt (gtL_sub (by repeat (first | exact subG_nil _ | refine subG_cons (by kernel_rfl) ?_))) (gtL_ok (by decide)), _, Tryd.func51, by kernel_rfl, by kernel_rfl⟩
)) 1
theorem ok (N : Nat) : SoundC Tryd.prog (gtL gts) 42 (con (M N)) := by
  refine SoundC.mono (evF_ok (gok N) hm an N Tryd.func42) fun R args bs κ r h => ?_
  unfold con at h
  split at h
  · exact (eq (Above.M N) (Below.M N) N κ _ _).trans h
  · cases h
end Beside


/-! ### Tryd.f37: Way -/
namespace Way
def an : Anns := ⟨fun i => findA i [(3, ⟨[1, 5, 6, 7], [⟨5, 0, .i64⟩], 1⟩)], fun i => findA i [], false⟩
noncomputable def g (mAbove : Above.Ty) : Gi := giD Tryd.prog (gtL [(1, .err 1), (14, .err 15)]) (fun _ => an) 0 [] (ovL [(41, Above.con mAbove)]) 1
noncomputable def c_L3 : Code := loopOf Tryd.f37 0
def s_L3 (leaves1 : Int) (up6 : Int) (err7 : Nat) (h0 : Bool) (h0_4 : List Int) : St := ⟨[AV.dead, AV.int IntKind.i64 leaves1, AV.dead, AV.dead, AV.dead, AV.own 0 [] 0 none, AV.int IntKind.i64 up6, AV.err err7] ++ List.replicate 19 .dead, [Blk.row IntKind.i64 h0 h0_4]⟩
def x_L3_0 (leaves1 : Int) (up6 : Int) (err7 : Nat) (h0 : Bool) (h0_4 : List Int) : St := ⟨[AV.dead, AV.int IntKind.i64 leaves1, AV.dead, AV.dead, AV.dead, AV.own 0 [] 0 none, AV.int IntKind.i64 up6, AV.err err7] ++ List.replicate 6 .dead ++ [AV.err err7, AV.bool (err7.beq 0)] ++ List.replicate 11 .dead, [Blk.row IntKind.i64 h0 h0_4]⟩
noncomputable def L3 (mAbove : Above.Ty) {R : Type} (N : Nat) (e0 : Int → Int → Nat → Bool → (List Int) → Option R) : Nat → Int → Int → Nat → Bool → (List Int) → Option R
  | 0, _, _, _, _, _ => none
  | m + 1, leaves1, up6, err7, h0, h0_4 =>
    cond (err7.beq 0)
     (cond (decide ((h0_4.length + 1) * 8 ≤ 140737488355328))
      (cond (decide (h0_4.length + 1 ≤ 140737488355328))
       (mAbove R up6 leaves1
        (fun v_c19 v_1_c20 => L3 mAbove N e0 m leaves1 v_c19 v_1_c20 false (h0_4 ++ [up6])))
       (none))
      (none))
     (e0 leaves1 up6 err7 h0 h0_4)
theorem round_L3 (mAbove : Above.Ty) {R : Type} (N : Nat) (Rn : St → Option R) (k : K R) (leaves1 : Int) (up6 : Int) (err7 : Nat) (h0 : Bool) (h0_4 : List Int) : evC (g mAbove) an 0 N c_L3 none (roundK (nmOf 0 (an.loop 3)) Rn k) (s_L3 leaves1 up6 err7 h0 h0_4) =
  cond (err7.beq 0)
   (cond (decide ((h0_4.length + 1) * 8 ≤ 140737488355328))
    (cond (decide (h0_4.length + 1 ≤ 140737488355328))
     (mAbove R up6 leaves1
      (fun v_c19 v_1_c20 => Rn (s_L3 leaves1 v_c19 v_1_c20 false (h0_4 ++ [up6]))))
     (none))
    (none))
   (k.ext 0 (x_L3_0 leaves1 up6 err7 h0 h0_4)) := by kernel_rfl
theorem run_L3 (mAbove : Above.Ty) {R : Type} (N : Nat) (k : K R) : ∀ (m : Nat) (leaves1 : Int) (up6 : Int) (err7 : Nat) (h0 : Bool) (h0_4 : List Int), loopN (evC (g mAbove) an 0 N c_L3 none) k (nmOf 0 (an.loop 3)) m (s_L3 leaves1 up6 err7 h0 h0_4) =
    L3 mAbove N (fun leaves1 up6 err7 h0 h0_4 => (k).ext 0 (x_L3_0 leaves1 up6 err7 h0 h0_4)) m leaves1 up6 err7 h0 h0_4 := by
  intro m
  induction m with
  | zero => intros; rfl
  | succ m ih =>
    intros
    rw [loopN_succ, round_L3]
    simp only [ih]
    kernel_rfl
noncomputable def m (mAbove : Above.Ty) {R : Type} (N : Nat) (x1 : Int) (leaves2 : Int) (r0 : (List Int) → Option R) : Option R :=
  mAbove R x1 leaves2
   (fun v_c17 v_1_c18 => L3 mAbove N
    (fun leaves1_c21 up6_c22 err7_c23 h0_c24 h0_4_c25 => r0 h0_4_c25) N leaves2 v_c17 v_1_c18 true [])
theorem tree (mAbove : Above.Ty) {R : Type} (N : Nat) (κ : AV → List Blk → Option R) (x1 : Int) (leaves2 : Int) : evF (g mAbove) an N Tryd.f37 [AV.int IntKind.i64 x1, AV.int IntKind.i64 leaves2] [] κ =
  mAbove R x1 leaves2
   (fun v_c17 v_1_c18 => loopN (evC (g mAbove) an 0 N c_L3 none) (ctx (g mAbove) an 0 N (bodyOf Tryd.f37) [1, 1, 0, 1, 0] (endK (g mAbove) an Tryd.f37 [] κ)) (nmOf 0 (an.loop 3)) N (s_L3 leaves2 v_c17 v_1_c18 true [])) := by kernel_rfl
theorem tree_e0 (mAbove : Above.Ty) {R : Type} (N : Nat) (κ : AV → List Blk → Option R) (x1 : Int) (leaves2 : Int) (leaves1_c21 : Int) (up6_c22 : Int) (err7_c23 : Nat) (h0_c24 : Bool) (h0_4_c25 : List Int) : (ctx (g mAbove) an 0 N (bodyOf Tryd.f37) [1, 1, 0, 1, 0] (endK (g mAbove) an Tryd.f37 [] κ)).ext 0 (x_L3_0 leaves1_c21 up6_c22 err7_c23 h0_c24 h0_4_c25) =
  κ (AV.isl IntKind.i64 none h0_4_c25) [] := by kernel_rfl
theorem eq (mAbove : Above.Ty) {R : Type} (N : Nat) (κ : AV → List Blk → Option R) (x1 : Int) (leaves2 : Int) : evF (g mAbove) an N Tryd.f37 [AV.int IntKind.i64 x1, AV.int IntKind.i64 leaves2] [] κ =
  m mAbove N x1 leaves2 (fun v => κ (AV.isl IntKind.i64 none v) []) := by
  rw [tree]
  simp only [run_L3, tree_e0]
  kernel_rfl
abbrev Ty : Type 1 := ∀ R : Type, Int → Int → ((List Int) → Option R) → Option R
def con (f : Ty) : Con := fun R args bs κ => match args, bs with
  | [AV.int IntKind.i64 x1, AV.int IntKind.i64 leaves2], [] => f R x1 leaves2 (fun v => κ (AV.isl IntKind.i64 none v) [])
  | _, _ => none
theorem con_eq (f : Ty) (R : Type) (κ : AV → List Blk → Option R) (x1 : Int) (leaves2 : Int) : con f R [AV.int IntKind.i64 x1, AV.int IntKind.i64 leaves2] [] κ = f R x1 leaves2 (fun v => κ (AV.isl IntKind.i64 none v) []) := rfl
noncomputable def M (N : Nat) : Ty := fun R x1 leaves2 r0 => m (Above.M N) (R := R) N x1 leaves2 r0
def gts : List (Nat × AV) := [(1, .err 1), (14, .err 15)]
theorem gok (N : Nat) : GOk (g (Above.M N)) := giD_ok hm (by intro p hp; cases hp) (gtL_ok (by decide)) (ovL_ok (by
    intro p hp
    simp only [List.mem_cons, List.not_mem_nil, or_false] at hp
    rcases hp with rfl
    · exact ⟨(Above.ok N).gt (gtL_sub (by repeat (first | exact subG_nil _ | refine subG_cons (by kernel_rfl) ?_))) (gtL_ok (by decide)), _, Tryd.func41, by kernel_rfl, by kernel_rfl⟩
)) 1
theorem ok (N : Nat) : SoundC Tryd.prog (gtL gts) 37 (con (M N)) := by
  refine SoundC.mono (evF_ok (gok N) hm an N Tryd.func37) fun R args bs κ r h => ?_
  unfold con at h
  split at h
  · exact (eq (Above.M N) N κ _ _).trans h
  · cases h
end Way


/-! ### Tryd.f35: Coway -/
namespace Coway
def an : Anns := ⟨fun i => findA i [(3, ⟨[1, 5, 15, 16, 17], [⟨15, 0, .i64⟩, ⟨5, 1, .i64⟩], 2⟩)], fun i => findA i [], false⟩
noncomputable def g (mWay : Way.Ty) (mBeside : Beside.Ty) : Gi := giD Tryd.prog (gtL [(1, .err 1), (10, .err 11), (14, .err 15)]) (fun _ => an) 0 [] (ovL [(37, Way.con mWay), (42, Beside.con mBeside)]) 1
noncomputable def c_L3 : Code := loopOf Tryd.f35 0
def s_L3 (leaves1 : Int) (t16 : Int) (t17 : Int) (h0 : Bool) (h0_4 : List Int) (h1 : Bool) (h1_6 : List Int) : St := ⟨[AV.dead, AV.int IntKind.i64 leaves1, AV.dead, AV.dead, AV.dead, AV.own 1 [] 0 none] ++ List.replicate 9 .dead ++ [AV.own 0 [] 0 none, AV.int IntKind.i64 t16, AV.int IntKind.i64 t17] ++ List.replicate 17 .dead, [Blk.row IntKind.i64 h0 h0_4, Blk.row IntKind.i64 h1 h1_6]⟩
def x_L3_0 (leaves1 : Int) (t16 : Int) (t17 : Int) (h0 : Bool) (h0_4 : List Int) (h1 : Bool) (h1_6 : List Int) : St := ⟨[AV.dead, AV.int IntKind.i64 leaves1, AV.dead, AV.dead, AV.dead, AV.own 1 [] 0 none] ++ List.replicate 9 .dead ++ [AV.own 0 [] 0 none, AV.int IntKind.i64 t16, AV.int IntKind.i64 t17, AV.bool (decide (t17 < t16))] ++ List.replicate 16 .dead, [Blk.row IntKind.i64 h0 h0_4, Blk.row IntKind.i64 h1 h1_6]⟩
noncomputable def L3 (mWay : Way.Ty) (mBeside : Beside.Ty) {R : Type} (N : Nat) (e0 : Int → Int → Int → Bool → (List Int) → Bool → (List Int) → Option R) : Nat → Int → Int → Int → Bool → (List Int) → Bool → (List Int) → Option R
  | 0, _, _, _, _, _, _, _ => none
  | m + 1, leaves1, t16, t17, h0, h0_4, h1, h1_6 =>
    cond (decide (t17 < t16))
     (cond (decide (0 ≤ t17))
      (cond (decide (t17 < (↑(olen none h0_4.length 0) : Int)))
       (mBeside R (h0_4.getD (0 + t17.toNat) 0) leaves1
        (fun v_c17 v_1_c18 => cond (v_1_c18.beq 0)
         (cond (decide ((h1_6.length + 1) * 8 ≤ 140737488355328))
          (cond (decide (h1_6.length + 1 ≤ 140737488355328))
           (L3 mWay mBeside N e0 m leaves1 t16 (IntKind.i64.wrap (t17 + 1)) h0 h0_4 false (h1_6 ++ [v_c17]))
           (none))
          (none))
         (L3 mWay mBeside N e0 m leaves1 t16 (IntKind.i64.wrap (t17 + 1)) h0 h0_4 h1 h1_6)))
       (none))
      (none))
     (e0 leaves1 t16 t17 h0 h0_4 h1 h1_6)
theorem round_L3 (mWay : Way.Ty) (mBeside : Beside.Ty) {R : Type} (N : Nat) (Rn : St → Option R) (k : K R) (leaves1 : Int) (t16 : Int) (t17 : Int) (h0 : Bool) (h0_4 : List Int) (h1 : Bool) (h1_6 : List Int) : evC (g mWay mBeside) an 0 N c_L3 none (roundK (nmOf 0 (an.loop 3)) Rn k) (s_L3 leaves1 t16 t17 h0 h0_4 h1 h1_6) =
  cond (decide (t17 < t16))
   (cond (decide (0 ≤ t17))
    (cond (decide (t17 < (↑(olen none h0_4.length 0) : Int)))
     (mBeside R (h0_4.getD (0 + t17.toNat) 0) leaves1
      (fun v_c17 v_1_c18 => cond (v_1_c18.beq 0)
       (cond (decide ((h1_6.length + 1) * 8 ≤ 140737488355328))
        (cond (decide (h1_6.length + 1 ≤ 140737488355328))
         (Rn (s_L3 leaves1 t16 (IntKind.i64.wrap (t17 + 1)) h0 h0_4 false (h1_6 ++ [v_c17])))
         (none))
        (none))
       (Rn (s_L3 leaves1 t16 (IntKind.i64.wrap (t17 + 1)) h0 h0_4 h1 h1_6))))
     (none))
    (none))
   (k.ext 0 (x_L3_0 leaves1 t16 t17 h0 h0_4 h1 h1_6)) := by kernel_rfl
theorem run_L3 (mWay : Way.Ty) (mBeside : Beside.Ty) {R : Type} (N : Nat) (k : K R) : ∀ (m : Nat) (leaves1 : Int) (t16 : Int) (t17 : Int) (h0 : Bool) (h0_4 : List Int) (h1 : Bool) (h1_6 : List Int), loopN (evC (g mWay mBeside) an 0 N c_L3 none) k (nmOf 0 (an.loop 3)) m (s_L3 leaves1 t16 t17 h0 h0_4 h1 h1_6) =
    L3 mWay mBeside N (fun leaves1 t16 t17 h0 h0_4 h1 h1_6 => (k).ext 0 (x_L3_0 leaves1 t16 t17 h0 h0_4 h1 h1_6)) m leaves1 t16 t17 h0 h0_4 h1 h1_6 := by
  intro m
  induction m with
  | zero => intros; rfl
  | succ m ih =>
    intros
    rw [loopN_succ, round_L3]
    simp only [ih]
    kernel_rfl
noncomputable def m (mWay : Way.Ty) (mBeside : Beside.Ty) {R : Type} (N : Nat) (x1 : Int) (leaves2 : Int) (r0 : (List Int) → Option R) : Option R :=
  mWay R x1 leaves2
   (fun v_c16 => cond (decide ((1 + v_c16.length) * 8 ≤ 140737488355328))
    (cond (decide (1 + v_c16.length ≤ 140737488355328))
     (L3 mWay mBeside N
      (fun leaves1_c19 t16_c20 t17_c21 h0_c22 h0_4_c23 h1_c24 h1_6_c25 => r0 h1_6_c25) N leaves2 ((↑(olen none ([x1] ++ v_c16).length 0) : Int)) 0 (v_c16.isEmpty && false) ([x1] ++ v_c16) true [])
     (none))
    (none))
theorem tree (mWay : Way.Ty) (mBeside : Beside.Ty) {R : Type} (N : Nat) (κ : AV → List Blk → Option R) (x1 : Int) (leaves2 : Int) : evF (g mWay mBeside) an N Tryd.f35 [AV.int IntKind.i64 x1, AV.int IntKind.i64 leaves2] [] κ =
  mWay R x1 leaves2
   (fun v_c16 => cond (decide ((1 + v_c16.length) * 8 ≤ 140737488355328))
    (cond (decide (1 + v_c16.length ≤ 140737488355328))
     (loopN (evC (g mWay mBeside) an 0 N c_L3 none) (ctx (g mWay mBeside) an 0 N (bodyOf Tryd.f35) [1, 1, 0, 1, 0] (endK (g mWay mBeside) an Tryd.f35 [] κ)) (nmOf 0 (an.loop 3)) N (s_L3 leaves2 ((↑(olen none ([x1] ++ v_c16).length 0) : Int)) 0 (v_c16.isEmpty && false) ([x1] ++ v_c16) true []))
     (none))
    (none)) := by kernel_rfl
theorem tree_e0 (mWay : Way.Ty) (mBeside : Beside.Ty) {R : Type} (N : Nat) (κ : AV → List Blk → Option R) (x1 : Int) (leaves2 : Int) (leaves1_c19 : Int) (t16_c20 : Int) (t17_c21 : Int) (h0_c22 : Bool) (h0_4_c23 : List Int) (h1_c24 : Bool) (h1_6_c25 : List Int) : (ctx (g mWay mBeside) an 0 N (bodyOf Tryd.f35) [1, 1, 0, 1, 0] (endK (g mWay mBeside) an Tryd.f35 [] κ)).ext 0 (x_L3_0 leaves1_c19 t16_c20 t17_c21 h0_c22 h0_4_c23 h1_c24 h1_6_c25) =
  κ (AV.isl IntKind.i64 none h1_6_c25) [] := by kernel_rfl
theorem eq (mWay : Way.Ty) (mBeside : Beside.Ty) {R : Type} (N : Nat) (κ : AV → List Blk → Option R) (x1 : Int) (leaves2 : Int) : evF (g mWay mBeside) an N Tryd.f35 [AV.int IntKind.i64 x1, AV.int IntKind.i64 leaves2] [] κ =
  m mWay mBeside N x1 leaves2 (fun v => κ (AV.isl IntKind.i64 none v) []) := by
  rw [tree]
  simp only [run_L3, tree_e0]
  kernel_rfl
abbrev Ty : Type 1 := ∀ R : Type, Int → Int → ((List Int) → Option R) → Option R
def con (f : Ty) : Con := fun R args bs κ => match args, bs with
  | [AV.int IntKind.i64 x1, AV.int IntKind.i64 leaves2], [] => f R x1 leaves2 (fun v => κ (AV.isl IntKind.i64 none v) [])
  | _, _ => none
theorem con_eq (f : Ty) (R : Type) (κ : AV → List Blk → Option R) (x1 : Int) (leaves2 : Int) : con f R [AV.int IntKind.i64 x1, AV.int IntKind.i64 leaves2] [] κ = f R x1 leaves2 (fun v => κ (AV.isl IntKind.i64 none v) []) := rfl
noncomputable def M (N : Nat) : Ty := fun R x1 leaves2 r0 => m (Way.M N) (Beside.M N) (R := R) N x1 leaves2 r0
def gts : List (Nat × AV) := [(1, .err 1), (10, .err 11), (14, .err 15)]
theorem gok (N : Nat) : GOk (g (Way.M N) (Beside.M N)) := giD_ok hm (by intro p hp; cases hp) (gtL_ok (by decide)) (ovL_ok (by
    intro p hp
    simp only [List.mem_cons, List.not_mem_nil, or_false] at hp
    rcases hp with rfl | rfl
    · exact ⟨(Way.ok N).gt (gtL_sub (by repeat (first | exact subG_nil _ | refine subG_cons (by kernel_rfl) ?_))) (gtL_ok (by decide)), _, Tryd.func37, by kernel_rfl, by kernel_rfl⟩
    · exact ⟨(Beside.ok N).gt (gtL_sub (by repeat (first | exact subG_nil _ | refine subG_cons (by kernel_rfl) ?_))) (gtL_ok (by decide)), _, Tryd.func42, by kernel_rfl, by kernel_rfl⟩
)) 1
theorem ok (N : Nat) : SoundC Tryd.prog (gtL gts) 35 (con (M N)) := by
  refine SoundC.mono (evF_ok (gok N) hm an N Tryd.func35) fun R args bs κ r h => ?_
  unfold con at h
  split at h
  · exact (eq (Way.M N) (Beside.M N) N κ _ _).trans h
  · cases h
end Coway


/-! ### Tryd.f40: Under -/
namespace Under
def an : Anns := ⟨fun i => findA i [], fun i => findA i [], false⟩
noncomputable def g (misP : isP.Ty) (mLevel : Level.Ty) : Gi := giD Tryd.prog (gtL []) (fun _ => an) 0 [] (ovL [(61, isP.con misP), (38, Level.con mLevel)]) 1
noncomputable def m (misP : isP.Ty) (mLevel : Level.Ty) {R : Type} (N : Nat) (x1 : Int) (y2 : Int) (r0 : Bool → Option R) : Option R :=
  misP R x1
   (fun v_c6 => cond (!v_c6)
    (r0 false)
    (misP R y2
     (fun v_c7 => cond (!v_c7)
      (r0 false)
      (mLevel R x1
       (fun v_c8 => cond (true && decide (v_c8 < 0))
        (none)
        (mLevel R y2
         (fun v_c9 => mLevel R x1
          (fun v_c10 => cond (decide (v_c9 ≤ v_c10))
           (cond (decide (y2 ≥ IntKind.i64.wrap (x1 - IntKind.i64.wrap (ishl IntKind.i64 1 v_c8 - 1))))
            (r0 (decide (y2 ≤ IntKind.i64.wrap (x1 + IntKind.i64.wrap (ishl IntKind.i64 1 v_c8 - 1)))))
            (r0 false))
           (r0 false)))))))))
theorem tree (misP : isP.Ty) (mLevel : Level.Ty) {R : Type} (N : Nat) (κ : AV → List Blk → Option R) (x1 : Int) (y2 : Int) : evF (g misP mLevel) an N Tryd.f40 [AV.int IntKind.i64 x1, AV.int IntKind.i64 y2] [] κ =
  misP R x1
   (fun v_c6 => cond (!v_c6)
    (κ (AV.bool false) [])
    (misP R y2
     (fun v_c7 => cond (!v_c7)
      (κ (AV.bool false) [])
      (mLevel R x1
       (fun v_c8 => cond (true && decide (v_c8 < 0))
        (none)
        (mLevel R y2
         (fun v_c9 => mLevel R x1
          (fun v_c10 => cond (decide (v_c9 ≤ v_c10))
           (cond (decide (y2 ≥ IntKind.i64.wrap (x1 - IntKind.i64.wrap (ishl IntKind.i64 1 v_c8 - 1))))
            (κ (AV.bool (decide (y2 ≤ IntKind.i64.wrap (x1 + IntKind.i64.wrap (ishl IntKind.i64 1 v_c8 - 1))))) [])
            (κ (AV.bool false) []))
           (κ (AV.bool false) []))))))))) := by kernel_rfl
theorem eq (misP : isP.Ty) (mLevel : Level.Ty) {R : Type} (N : Nat) (κ : AV → List Blk → Option R) (x1 : Int) (y2 : Int) : evF (g misP mLevel) an N Tryd.f40 [AV.int IntKind.i64 x1, AV.int IntKind.i64 y2] [] κ =
  m misP mLevel N x1 y2 (fun v => κ (AV.bool v) []) := by
  rw [tree]
  kernel_rfl
abbrev Ty : Type 1 := ∀ R : Type, Int → Int → (Bool → Option R) → Option R
def con (f : Ty) : Con := fun R args bs κ => match args, bs with
  | [AV.int IntKind.i64 x1, AV.int IntKind.i64 y2], [] => f R x1 y2 (fun v => κ (AV.bool v) [])
  | _, _ => none
theorem con_eq (f : Ty) (R : Type) (κ : AV → List Blk → Option R) (x1 : Int) (y2 : Int) : con f R [AV.int IntKind.i64 x1, AV.int IntKind.i64 y2] [] κ = f R x1 y2 (fun v => κ (AV.bool v) []) := rfl
noncomputable def M (N : Nat) : Ty := fun R x1 y2 r0 => m (isP.M N) (Level.M N) (R := R) N x1 y2 r0
def gts : List (Nat × AV) := []
theorem gok (N : Nat) : GOk (g (isP.M N) (Level.M N)) := giD_ok hm (by intro p hp; cases hp) (gtL_ok (by decide)) (ovL_ok (by
    intro p hp
    simp only [List.mem_cons, List.not_mem_nil, or_false] at hp
    rcases hp with rfl | rfl
    · exact ⟨(isP.ok N).gt (gtL_sub (by repeat (first | exact subG_nil _ | refine subG_cons (by kernel_rfl) ?_))) (gtL_ok (by decide)), _, Tryd.func61, by kernel_rfl, by kernel_rfl⟩
    · exact ⟨(Level.ok N).gt (gtL_sub (by repeat (first | exact subG_nil _ | refine subG_cons (by kernel_rfl) ?_))) (gtL_ok (by decide)), _, Tryd.func38, by kernel_rfl, by kernel_rfl⟩
)) 1
theorem ok (N : Nat) : SoundC Tryd.prog (gtL gts) 40 (con (M N)) := by
  refine SoundC.mono (evF_ok (gok N) hm an N Tryd.func40) fun R args bs κ r h => ?_
  unfold con at h
  split at h
  · exact (eq (isP.M N) (Level.M N) N κ _ _).trans h
  · cases h
end Under


/-! ### Tryd.f36: Leaves -/
namespace Leaves
def an : Anns := ⟨fun i => findA i [(6, ⟨[0, 3, 4, 5], [⟨3, 0, .i64⟩], 1⟩)], fun i => findA i [], false⟩
noncomputable def g (misP : isP.Ty) (mLevel : Level.Ty) : Gi := giD Tryd.prog (gtL []) (fun _ => an) 0 [] (ovL [(61, isP.con misP), (38, Level.con mLevel)]) 1
noncomputable def c_L6 : Code := loopOf Tryd.f36 0
def s_L6 (x0 : Int) (half4 : Int) (at5 : Int) (h0 : Bool) (h0_4 : List Int) : St := ⟨[AV.int IntKind.i64 x0, AV.dead, AV.dead, AV.own 0 [] 0 none, AV.int IntKind.i64 half4, AV.int IntKind.i64 at5] ++ List.replicate 23 .dead, [Blk.row IntKind.i64 h0 h0_4]⟩
def x_L6_0 (x0 : Int) (half4 : Int) (at5 : Int) (h0 : Bool) (h0_4 : List Int) : St := ⟨[AV.int IntKind.i64 x0, AV.dead, AV.dead, AV.own 0 [] 0 none, AV.int IntKind.i64 half4, AV.int IntKind.i64 at5] ++ List.replicate 10 .dead ++ [AV.int IntKind.i64 at5, AV.int IntKind.i64 x0, AV.int IntKind.i64 half4, AV.int IntKind.i64 (IntKind.i64.wrap (x0 + half4)), AV.bool (decide (at5 ≤ IntKind.i64.wrap (x0 + half4)))] ++ List.replicate 8 .dead, [Blk.row IntKind.i64 h0 h0_4]⟩
noncomputable def L6 (misP : isP.Ty) (mLevel : Level.Ty) {R : Type} (N : Nat) (e0 : Int → Int → Int → Bool → (List Int) → Option R) : Nat → Int → Int → Int → Bool → (List Int) → Option R
  | 0, _, _, _, _, _ => none
  | m + 1, x0, half4, at5, h0, h0_4 =>
    cond (decide (at5 ≤ IntKind.i64.wrap (x0 + half4)))
     (cond (decide ((h0_4.length + 1) * 8 ≤ 140737488355328))
      (cond (decide (h0_4.length + 1 ≤ 140737488355328))
       (L6 misP mLevel N e0 m x0 half4 (IntKind.i64.wrap (at5 + 2)) false (h0_4 ++ [IntKind.i64.wrap (at5.tdiv 2)]))
       (none))
      (none))
     (e0 x0 half4 at5 h0 h0_4)
theorem round_L6 (misP : isP.Ty) (mLevel : Level.Ty) {R : Type} (N : Nat) (Rn : St → Option R) (k : K R) (x0 : Int) (half4 : Int) (at5 : Int) (h0 : Bool) (h0_4 : List Int) : evC (g misP mLevel) an 0 N c_L6 none (roundK (nmOf 0 (an.loop 6)) Rn k) (s_L6 x0 half4 at5 h0 h0_4) =
  cond (decide (at5 ≤ IntKind.i64.wrap (x0 + half4)))
   (cond (decide ((h0_4.length + 1) * 8 ≤ 140737488355328))
    (cond (decide (h0_4.length + 1 ≤ 140737488355328))
     (Rn (s_L6 x0 half4 (IntKind.i64.wrap (at5 + 2)) false (h0_4 ++ [IntKind.i64.wrap (at5.tdiv 2)])))
     (none))
    (none))
   (k.ext 0 (x_L6_0 x0 half4 at5 h0 h0_4)) := by kernel_rfl
theorem run_L6 (misP : isP.Ty) (mLevel : Level.Ty) {R : Type} (N : Nat) (k : K R) : ∀ (m : Nat) (x0 : Int) (half4 : Int) (at5 : Int) (h0 : Bool) (h0_4 : List Int), loopN (evC (g misP mLevel) an 0 N c_L6 none) k (nmOf 0 (an.loop 6)) m (s_L6 x0 half4 at5 h0 h0_4) =
    L6 misP mLevel N (fun x0 half4 at5 h0 h0_4 => (k).ext 0 (x_L6_0 x0 half4 at5 h0 h0_4)) m x0 half4 at5 h0 h0_4 := by
  intro m
  induction m with
  | zero => intros; rfl
  | succ m ih =>
    intros
    rw [loopN_succ, round_L6]
    simp only [ih]
    kernel_rfl
noncomputable def m (misP : isP.Ty) (mLevel : Level.Ty) {R : Type} (N : Nat) (x1 : Int) (r0 : (Option Bool) → (List Int) → Option R) : Option R :=
  misP R x1
   (fun v_c12 => cond (!v_c12)
    (r0 (some true) [])
    (mLevel R x1
     (fun v_c13 => cond (true && decide (v_c13 < 0))
      (none)
      (L6 misP mLevel N
       (fun x0_c14 half4_c15 at5_c16 h0_c17 h0_4_c18 => r0 none h0_4_c18) N x1 (IntKind.i64.wrap (ishl IntKind.i64 1 v_c13 - 1)) (IntKind.i64.wrap (x1 - IntKind.i64.wrap (ishl IntKind.i64 1 v_c13 - 1))) true []))))
theorem tree (misP : isP.Ty) (mLevel : Level.Ty) {R : Type} (N : Nat) (κ : AV → List Blk → Option R) (x1 : Int) : evF (g misP mLevel) an N Tryd.f36 [AV.int IntKind.i64 x1] [] κ =
  misP R x1
   (fun v_c12 => cond (!v_c12)
    (κ (AV.isl IntKind.i64 (some true) []) [])
    (mLevel R x1
     (fun v_c13 => cond (true && decide (v_c13 < 0))
      (none)
      (loopN (evC (g misP mLevel) an 0 N c_L6 none) (ctx (g misP mLevel) an 0 N (bodyOf Tryd.f36) [1, 1, 1, 1, 0, 1, 0] (endK (g misP mLevel) an Tryd.f36 [] κ)) (nmOf 0 (an.loop 6)) N (s_L6 x1 (IntKind.i64.wrap (ishl IntKind.i64 1 v_c13 - 1)) (IntKind.i64.wrap (x1 - IntKind.i64.wrap (ishl IntKind.i64 1 v_c13 - 1))) true []))))) := by kernel_rfl
theorem tree_e0 (misP : isP.Ty) (mLevel : Level.Ty) {R : Type} (N : Nat) (κ : AV → List Blk → Option R) (x1 : Int) (x0_c14 : Int) (half4_c15 : Int) (at5_c16 : Int) (h0_c17 : Bool) (h0_4_c18 : List Int) : (ctx (g misP mLevel) an 0 N (bodyOf Tryd.f36) [1, 1, 1, 1, 0, 1, 0] (endK (g misP mLevel) an Tryd.f36 [] κ)).ext 0 (x_L6_0 x0_c14 half4_c15 at5_c16 h0_c17 h0_4_c18) =
  κ (AV.isl IntKind.i64 none h0_4_c18) [] := by kernel_rfl
theorem eq (misP : isP.Ty) (mLevel : Level.Ty) {R : Type} (N : Nat) (κ : AV → List Blk → Option R) (x1 : Int) : evF (g misP mLevel) an N Tryd.f36 [AV.int IntKind.i64 x1] [] κ =
  m misP mLevel N x1 (fun v v_1 => κ (AV.isl IntKind.i64 v v_1) []) := by
  rw [tree]
  simp only [run_L6, tree_e0]
  kernel_rfl
abbrev Ty : Type 1 := ∀ R : Type, Int → ((Option Bool) → (List Int) → Option R) → Option R
def con (f : Ty) : Con := fun R args bs κ => match args, bs with
  | [AV.int IntKind.i64 x1], [] => f R x1 (fun v v_1 => κ (AV.isl IntKind.i64 v v_1) [])
  | _, _ => none
theorem con_eq (f : Ty) (R : Type) (κ : AV → List Blk → Option R) (x1 : Int) : con f R [AV.int IntKind.i64 x1] [] κ = f R x1 (fun v v_1 => κ (AV.isl IntKind.i64 v v_1) []) := rfl
noncomputable def M (N : Nat) : Ty := fun R x1 r0 => m (isP.M N) (Level.M N) (R := R) N x1 r0
def gts : List (Nat × AV) := []
theorem gok (N : Nat) : GOk (g (isP.M N) (Level.M N)) := giD_ok hm (by intro p hp; cases hp) (gtL_ok (by decide)) (ovL_ok (by
    intro p hp
    simp only [List.mem_cons, List.not_mem_nil, or_false] at hp
    rcases hp with rfl | rfl
    · exact ⟨(isP.ok N).gt (gtL_sub (by repeat (first | exact subG_nil _ | refine subG_cons (by kernel_rfl) ?_))) (gtL_ok (by decide)), _, Tryd.func61, by kernel_rfl, by kernel_rfl⟩
    · exact ⟨(Level.ok N).gt (gtL_sub (by repeat (first | exact subG_nil _ | refine subG_cons (by kernel_rfl) ?_))) (gtL_ok (by decide)), _, Tryd.func38, by kernel_rfl, by kernel_rfl⟩
)) 1
theorem ok (N : Nat) : SoundC Tryd.prog (gtL gts) 36 (con (M N)) := by
  refine SoundC.mono (evF_ok (gok N) hm an N Tryd.func36) fun R args bs κ r h => ?_
  unfold con at h
  split at h
  · exact (eq (isP.M N) (Level.M N) N κ _).trans h
  · cases h
end Leaves


/-! ### Tryd.f46: SameInts -/
namespace SameInts
def an : Anns := ⟨fun i => findA i [(4, ⟨[0, 1, 12, 13], [], 0⟩)], fun i => findA i [], false⟩
noncomputable def g : Gi := giD Tryd.prog (gtL []) (fun _ => an) 0 [] (ovL []) 1
noncomputable def c_L4 : Code := loopOf Tryd.f46 0
def s_L4 (a0 : Option Bool) (a0_1 : List Int) (b1 : Option Bool) (b1_3 : List Int) (t12 : Int) (t13 : Int) : St := ⟨[AV.isl IntKind.i64 a0 a0_1, AV.isl IntKind.i64 b1 b1_3] ++ List.replicate 10 .dead ++ [AV.int IntKind.i64 t12, AV.int IntKind.i64 t13] ++ List.replicate 12 .dead, []⟩
def x_L4_0 (a0 : Option Bool) (a0_1 : List Int) (b1 : Option Bool) (b1_3 : List Int) (t12 : Int) (t13 : Int) : St := ⟨[AV.isl IntKind.i64 a0 a0_1, AV.isl IntKind.i64 b1 b1_3, AV.dead, AV.dead, AV.bool false, AV.int IntKind.i64 t13] ++ List.replicate 6 .dead ++ [AV.int IntKind.i64 t12, AV.int IntKind.i64 t13, AV.bool (decide (t13 < t12)), AV.int IntKind.i64 t13, AV.isl IntKind.i64 a0 a0_1, AV.int IntKind.i64 t13, AV.rpi IntKind.i64 (a0_1.getD t13.toNat 0), AV.int IntKind.i64 (a0_1.getD t13.toNat 0), AV.isl IntKind.i64 b1 b1_3, AV.int IntKind.i64 t13, AV.rpi IntKind.i64 (b1_3.getD t13.toNat 0), AV.int IntKind.i64 (b1_3.getD t13.toNat 0), AV.bool (a0_1.getD t13.toNat 0 != b1_3.getD t13.toNat 0), AV.dead], []⟩
def x_L4_1 (a0 : Option Bool) (a0_1 : List Int) (b1 : Option Bool) (b1_3 : List Int) (t12 : Int) (t13 : Int) : St := ⟨[AV.isl IntKind.i64 a0 a0_1, AV.isl IntKind.i64 b1 b1_3] ++ List.replicate 10 .dead ++ [AV.int IntKind.i64 t12, AV.int IntKind.i64 t13, AV.bool (decide (t13 < t12))] ++ List.replicate 11 .dead, []⟩
noncomputable def L4 {R : Type} (N : Nat) (e0 : (Option Bool) → (List Int) → (Option Bool) → (List Int) → Int → Int → Option R) (e1 : (Option Bool) → (List Int) → (Option Bool) → (List Int) → Int → Int → Option R) : Nat → (Option Bool) → (List Int) → (Option Bool) → (List Int) → Int → Int → Option R
  | 0, _, _, _, _, _, _ => none
  | m + 1, a0, a0_1, b1, b1_3, t12, t13 =>
    cond (decide (t13 < t12))
     (cond (decide (0 ≤ t13))
      (cond (decide (t13 < (↑a0_1.length : Int)))
       (cond (decide (0 ≤ t13))
        (cond (decide (t13 < (↑b1_3.length : Int)))
         (cond (a0_1.getD t13.toNat 0 != b1_3.getD t13.toNat 0)
          (e0 a0 a0_1 b1 b1_3 t12 t13)
          (L4 N e0 e1 m a0 a0_1 b1 b1_3 t12 (IntKind.i64.wrap (t13 + 1))))
         (none))
        (none))
       (none))
      (none))
     (e1 a0 a0_1 b1 b1_3 t12 t13)
theorem round_L4 {R : Type} (N : Nat) (Rn : St → Option R) (k : K R) (a0 : Option Bool) (a0_1 : List Int) (b1 : Option Bool) (b1_3 : List Int) (t12 : Int) (t13 : Int) : evC (g) an 0 N c_L4 none (roundK (nmOf 0 (an.loop 4)) Rn k) (s_L4 a0 a0_1 b1 b1_3 t12 t13) =
  cond (decide (t13 < t12))
   (cond (decide (0 ≤ t13))
    (cond (decide (t13 < (↑a0_1.length : Int)))
     (cond (decide (0 ≤ t13))
      (cond (decide (t13 < (↑b1_3.length : Int)))
       (cond (a0_1.getD t13.toNat 0 != b1_3.getD t13.toNat 0)
        (k.ret (x_L4_0 a0 a0_1 b1 b1_3 t12 t13))
        (Rn (s_L4 a0 a0_1 b1 b1_3 t12 (IntKind.i64.wrap (t13 + 1)))))
       (none))
      (none))
     (none))
    (none))
   (k.ext 0 (x_L4_1 a0 a0_1 b1 b1_3 t12 t13)) := by kernel_rfl
theorem run_L4 {R : Type} (N : Nat) (k : K R) : ∀ (m : Nat) (a0 : Option Bool) (a0_1 : List Int) (b1 : Option Bool) (b1_3 : List Int) (t12 : Int) (t13 : Int), loopN (evC (g) an 0 N c_L4 none) k (nmOf 0 (an.loop 4)) m (s_L4 a0 a0_1 b1 b1_3 t12 t13) =
    L4 N (fun a0 a0_1 b1 b1_3 t12 t13 => (k).ret (x_L4_0 a0 a0_1 b1 b1_3 t12 t13)) (fun a0 a0_1 b1 b1_3 t12 t13 => (k).ext 0 (x_L4_1 a0 a0_1 b1 b1_3 t12 t13)) m a0 a0_1 b1 b1_3 t12 t13 := by
  intro m
  induction m with
  | zero => intros; rfl
  | succ m ih =>
    intros
    rw [loopN_succ, round_L4]
    simp only [ih]
    kernel_rfl
noncomputable def m {R : Type} (N : Nat) (aN1 : Option Bool) (a2 : List Int) (bN3 : Option Bool) (b4 : List Int) (r0 : Bool → Option R) : Option R :=
  cond ((↑a2.length : Int) != (↑b4.length : Int))
   (r0 false)
   (L4 N
    (fun a0_c12 a0_1_c13 b1_c14 b1_3_c15 t12_c16 t13_c17 => r0 false)
    (fun a0_c18 a0_1_c19 b1_c20 b1_3_c21 t12_c22 t13_c23 => r0 true) N aN1 a2 bN3 b4 ((↑a2.length : Int)) 0)
theorem tree {R : Type} (N : Nat) (κ : AV → List Blk → Option R) (aN1 : Option Bool) (a2 : List Int) (bN3 : Option Bool) (b4 : List Int) : evF (g) an N Tryd.f46 [AV.isl IntKind.i64 aN1 a2, AV.isl IntKind.i64 bN3 b4] [] κ =
  cond ((↑a2.length : Int) != (↑b4.length : Int))
   (κ (AV.bool false) [])
   (loopN (evC (g) an 0 N c_L4 none) (ctx (g) an 0 N (bodyOf Tryd.f46) [1, 1, 0, 1, 0] (endK (g) an Tryd.f46 [] κ)) (nmOf 0 (an.loop 4)) N (s_L4 aN1 a2 bN3 b4 ((↑a2.length : Int)) 0)) := by kernel_rfl
theorem tree_e0 {R : Type} (N : Nat) (κ : AV → List Blk → Option R) (aN1 : Option Bool) (a2 : List Int) (bN3 : Option Bool) (b4 : List Int) (a0_c12 : Option Bool) (a0_1_c13 : List Int) (b1_c14 : Option Bool) (b1_3_c15 : List Int) (t12_c16 : Int) (t13_c17 : Int) : (ctx (g) an 0 N (bodyOf Tryd.f46) [1, 1, 0, 1, 0] (endK (g) an Tryd.f46 [] κ)).ret (x_L4_0 a0_c12 a0_1_c13 b1_c14 b1_3_c15 t12_c16 t13_c17) =
  κ (AV.bool false) [] := by kernel_rfl
theorem tree_e1 {R : Type} (N : Nat) (κ : AV → List Blk → Option R) (aN1 : Option Bool) (a2 : List Int) (bN3 : Option Bool) (b4 : List Int) (a0_c18 : Option Bool) (a0_1_c19 : List Int) (b1_c20 : Option Bool) (b1_3_c21 : List Int) (t12_c22 : Int) (t13_c23 : Int) : (ctx (g) an 0 N (bodyOf Tryd.f46) [1, 1, 0, 1, 0] (endK (g) an Tryd.f46 [] κ)).ext 0 (x_L4_1 a0_c18 a0_1_c19 b1_c20 b1_3_c21 t12_c22 t13_c23) =
  κ (AV.bool true) [] := by kernel_rfl
theorem eq {R : Type} (N : Nat) (κ : AV → List Blk → Option R) (aN1 : Option Bool) (a2 : List Int) (bN3 : Option Bool) (b4 : List Int) : evF (g) an N Tryd.f46 [AV.isl IntKind.i64 aN1 a2, AV.isl IntKind.i64 bN3 b4] [] κ =
  m N aN1 a2 bN3 b4 (fun v => κ (AV.bool v) []) := by
  rw [tree]
  simp only [run_L4, tree_e0, tree_e1]
  kernel_rfl
abbrev Ty : Type 1 := ∀ R : Type, (Option Bool) → (List Int) → (Option Bool) → (List Int) → (Bool → Option R) → Option R
def con (f : Ty) : Con := fun R args bs κ => match args, bs with
  | [AV.isl IntKind.i64 aN1 a2, AV.isl IntKind.i64 bN3 b4], [] => f R aN1 a2 bN3 b4 (fun v => κ (AV.bool v) [])
  | _, _ => none
theorem con_eq (f : Ty) (R : Type) (κ : AV → List Blk → Option R) (aN1 : Option Bool) (a2 : List Int) (bN3 : Option Bool) (b4 : List Int) : con f R [AV.isl IntKind.i64 aN1 a2, AV.isl IntKind.i64 bN3 b4] [] κ = f R aN1 a2 bN3 b4 (fun v => κ (AV.bool v) []) := rfl
noncomputable def M (N : Nat) : Ty := fun R aN1 a2 bN3 b4 r0 => m (R := R) N aN1 a2 bN3 b4 r0
def gts : List (Nat × AV) := []
theorem gok (N : Nat) : GOk (g) := giD_ok hm (by intro p hp; cases hp) (gtL_ok (by decide)) (ovL_ok (by intro p hp; cases hp)) 1
theorem ok (N : Nat) : SoundC Tryd.prog (gtL gts) 46 (con (M N)) := by
  refine SoundC.mono (evF_ok (gok N) hm an N Tryd.func46) fun R args bs κ r h => ?_
  unfold con at h
  split at h
  · exact (eq N κ _ _ _ _).trans h
  · cases h
end SameInts


/-! ### Tryd.f34: alive17 -/
namespace alive17
def an : Anns := ⟨fun i => findA i [], fun i => findA i [], false⟩
noncomputable def g (mRoot : Root.Ty) (mWay : Way.Ty) (mSameInts : SameInts.Ty) (mCoway : Coway.Ty) : Gi := giD Tryd.prog (gtL [(1, .err 1), (10, .err 11), (14, .err 15)]) (fun _ => an) 0 [] (ovL [(39, Root.con mRoot), (37, Way.con mWay), (46, SameInts.con mSameInts), (35, Coway.con mCoway)]) 1
noncomputable def m (mRoot : Root.Ty) (mWay : Way.Ty) (mSameInts : SameInts.Ty) (mCoway : Coway.Ty) {R : Type} (N : Nat) (r0 : Bool → Option R) : Option R :=
  mRoot R 4
   (fun v_c5 => cond (v_c5 == 3)
    (mWay R 0 4
     (fun v_c6 => mSameInts R none v_c6 none ([1, 3])
      (fun v_c7 => cond v_c7
       (mCoway R 0 4
        (fun v_c8 => mSameInts R none v_c8 none ([2, 5])
         (fun v_c9 => r0 v_c9)))
       (r0 false))))
    (r0 false))
theorem tree (mRoot : Root.Ty) (mWay : Way.Ty) (mSameInts : SameInts.Ty) (mCoway : Coway.Ty) {R : Type} (N : Nat) (κ : AV → List Blk → Option R) : evF (g mRoot mWay mSameInts mCoway) an N Tryd.f34 [] [] κ =
  mRoot R 4
   (fun v_c5 => cond (v_c5 == 3)
    (mWay R 0 4
     (fun v_c6 => mSameInts R none v_c6 none ([1, 3])
      (fun v_c7 => cond v_c7
       (mCoway R 0 4
        (fun v_c8 => mSameInts R none v_c8 none ([2, 5])
         (fun v_c9 => κ (AV.bool v_c9) [])))
       (κ (AV.bool false) []))))
    (κ (AV.bool false) [])) := by kernel_rfl
theorem eq (mRoot : Root.Ty) (mWay : Way.Ty) (mSameInts : SameInts.Ty) (mCoway : Coway.Ty) {R : Type} (N : Nat) (κ : AV → List Blk → Option R) : evF (g mRoot mWay mSameInts mCoway) an N Tryd.f34 [] [] κ =
  m mRoot mWay mSameInts mCoway N (fun v => κ (AV.bool v) []) := by
  rw [tree]
  kernel_rfl
abbrev Ty : Type 1 := ∀ R : Type, (Bool → Option R) → Option R
def con (f : Ty) : Con := fun R args bs κ => match args, bs with
  | [], [] => f R (fun v => κ (AV.bool v) [])
  | _, _ => none
theorem con_eq (f : Ty) (R : Type) (κ : AV → List Blk → Option R) : con f R [] [] κ = f R (fun v => κ (AV.bool v) []) := rfl
noncomputable def M (N : Nat) : Ty := fun R r0 => m (Root.M N) (Way.M N) (SameInts.M N) (Coway.M N) (R := R) N r0
def gts : List (Nat × AV) := [(1, .err 1), (10, .err 11), (14, .err 15)]
theorem gok (N : Nat) : GOk (g (Root.M N) (Way.M N) (SameInts.M N) (Coway.M N)) := giD_ok hm (by intro p hp; cases hp) (gtL_ok (by decide)) (ovL_ok (by
    intro p hp
    simp only [List.mem_cons, List.not_mem_nil, or_false] at hp
    rcases hp with rfl | rfl | rfl | rfl
    · exact ⟨(Root.ok N).gt (gtL_sub (by repeat (first | exact subG_nil _ | refine subG_cons (by kernel_rfl) ?_))) (gtL_ok (by decide)), _, Tryd.func39, by kernel_rfl, by kernel_rfl⟩
    · exact ⟨(Way.ok N).gt (gtL_sub (by repeat (first | exact subG_nil _ | refine subG_cons (by kernel_rfl) ?_))) (gtL_ok (by decide)), _, Tryd.func37, by kernel_rfl, by kernel_rfl⟩
    · exact ⟨(SameInts.ok N).gt (gtL_sub (by repeat (first | exact subG_nil _ | refine subG_cons (by kernel_rfl) ?_))) (gtL_ok (by decide)), _, Tryd.func46, by kernel_rfl, by kernel_rfl⟩
    · exact ⟨(Coway.ok N).gt (gtL_sub (by repeat (first | exact subG_nil _ | refine subG_cons (by kernel_rfl) ?_))) (gtL_ok (by decide)), _, Tryd.func35, by kernel_rfl, by kernel_rfl⟩
)) 1
theorem ok (N : Nat) : SoundC Tryd.prog (gtL gts) 34 (con (M N)) := by
  refine SoundC.mono (evF_ok (gok N) hm an N Tryd.func34) fun R args bs κ r h => ?_
  unfold con at h
  split at h
  · exact (eq (Root.M N) (Way.M N) (SameInts.M N) (Coway.M N) N κ).trans h
  · cases h
end alive17


/-! ### Tryd.f9: PlacesUnder -/
namespace PlacesUnder
def an : Anns := ⟨fun i => findA i [(9, ⟨[0, 7, 47, 48, 49], [], 0⟩)], fun i => findA i [], false⟩
noncomputable def g (malive17 : alive17.Ty) (mUnder : Under.Ty) (mLeaves : Leaves.Ty) : Gi := giD Tryd.prog (gtL [(1, .err 1), (10, .err 11), (14, .err 15)]) (fun _ => an) 0 [] (ovL [(34, alive17.con malive17), (40, Under.con mUnder), (36, Leaves.con mLeaves)]) 1
noncomputable def c_L9 : Code := loopOf Tryd.f9 0
def s_L9 (x0 : Int) (last7 : Int) (t47 : Option Bool) (t47_3 : List Int) (t48 : Int) (t49 : Int) : St := ⟨[AV.int IntKind.i64 x0] ++ List.replicate 6 .dead ++ [AV.int IntKind.i64 last7] ++ List.replicate 39 .dead ++ [AV.isl IntKind.i64 t47 t47_3, AV.int IntKind.i64 t48, AV.int IntKind.i64 t49] ++ List.replicate 15 .dead, []⟩
def x_L9_0 (x0 : Int) (last7 : Int) (t47 : Option Bool) (t47_3 : List Int) (t48 : Int) (t49 : Int) : St := ⟨[AV.int IntKind.i64 x0] ++ List.replicate 5 .dead ++ [AV.bool false, AV.int IntKind.i64 last7, AV.dead, AV.int IntKind.i64 (t47_3.getD t49.toNat 0)] ++ List.replicate 37 .dead ++ [AV.isl IntKind.i64 t47 t47_3, AV.int IntKind.i64 t48, AV.int IntKind.i64 t49, AV.bool (decide (t49 < t48)), AV.rpi IntKind.i64 (t47_3.getD t49.toNat 0), AV.int IntKind.i64 (t47_3.getD t49.toNat 0), AV.int IntKind.i64 (t47_3.getD t49.toNat 0), AV.int IntKind.i64 last7, AV.bool (decide (t47_3.getD t49.toNat 0 ≤ last7)), AV.bool true] ++ List.replicate 5 und ++ [AV.bool true, AV.dead, AV.dead], [Blk.rsv, Blk.rsv, Blk.rsv, Blk.rsv]⟩
def x_L9_1 (x0 : Int) (last7 : Int) (t47 : Option Bool) (t47_3 : List Int) (t48 : Int) (t49 : Int) (v_c52 : Bool) : St := ⟨[AV.int IntKind.i64 x0] ++ List.replicate 5 .dead ++ [AV.bool false, AV.int IntKind.i64 last7, AV.dead, AV.int IntKind.i64 (t47_3.getD t49.toNat 0)] ++ List.replicate 37 .dead ++ [AV.isl IntKind.i64 t47 t47_3, AV.int IntKind.i64 t48, AV.int IntKind.i64 t49, AV.bool (decide (t49 < t48)), AV.rpi IntKind.i64 (t47_3.getD t49.toNat 0), AV.int IntKind.i64 (t47_3.getD t49.toNat 0), AV.int IntKind.i64 (t47_3.getD t49.toNat 0), AV.int IntKind.i64 last7, AV.bool (decide (t47_3.getD t49.toNat 0 ≤ last7)), AV.bool false, AV.int IntKind.i64 x0, AV.int IntKind.i64 (t47_3.getD t49.toNat 0), AV.int IntKind.i64 (IntKind.i64.wrap (2 * t47_3.getD t49.toNat 0)), AV.bool v_c52, AV.bool !v_c52, AV.bool !v_c52, AV.dead, AV.dead], [Blk.rsv, Blk.rsv, Blk.rsv, Blk.rsv]⟩
def x_L9_2 (x0 : Int) (last7 : Int) (t47 : Option Bool) (t47_3 : List Int) (t48 : Int) (t49 : Int) : St := ⟨[AV.int IntKind.i64 x0] ++ List.replicate 6 .dead ++ [AV.int IntKind.i64 last7] ++ List.replicate 39 .dead ++ [AV.isl IntKind.i64 t47 t47_3, AV.int IntKind.i64 t48, AV.int IntKind.i64 t49, AV.bool (decide (t49 < t48))] ++ List.replicate 14 .dead, []⟩
noncomputable def L9 (malive17 : alive17.Ty) (mUnder : Under.Ty) (mLeaves : Leaves.Ty) {R : Type} (N : Nat) (e0 : Int → Int → (Option Bool) → (List Int) → Int → Int → Option R) (e1 : Int → Int → (Option Bool) → (List Int) → Int → Int → Bool → Option R) (e2 : Int → Int → (Option Bool) → (List Int) → Int → Int → Option R) : Nat → Int → Int → (Option Bool) → (List Int) → Int → Int → Option R
  | 0, _, _, _, _, _, _ => none
  | m + 1, x0, last7, t47, t47_3, t48, t49 =>
    cond (decide (t49 < t48))
     (cond (decide (0 ≤ t49))
      (cond (decide (t49 < (↑t47_3.length : Int)))
       (cond (decide (t47_3.getD t49.toNat 0 ≤ last7))
        (e0 x0 last7 t47 t47_3 t48 t49)
        (mUnder R x0 (IntKind.i64.wrap (2 * t47_3.getD t49.toNat 0))
         (fun v_c52 => cond (!v_c52)
          (e1 x0 last7 t47 t47_3 t48 t49 v_c52)
          (L9 malive17 mUnder mLeaves N e0 e1 e2 m x0 (t47_3.getD t49.toNat 0) t47 t47_3 t48 (IntKind.i64.wrap (t49 + 1))))))
       (none))
      (none))
     (e2 x0 last7 t47 t47_3 t48 t49)
theorem round_L9 (malive17 : alive17.Ty) (mUnder : Under.Ty) (mLeaves : Leaves.Ty) {R : Type} (N : Nat) (Rn : St → Option R) (k : K R) (x0 : Int) (last7 : Int) (t47 : Option Bool) (t47_3 : List Int) (t48 : Int) (t49 : Int) : evC (g malive17 mUnder mLeaves) an 0 N c_L9 none (roundK (nmOf 0 (an.loop 9)) Rn k) (s_L9 x0 last7 t47 t47_3 t48 t49) =
  cond (decide (t49 < t48))
   (cond (decide (0 ≤ t49))
    (cond (decide (t49 < (↑t47_3.length : Int)))
     (cond (decide (t47_3.getD t49.toNat 0 ≤ last7))
      (k.ret (x_L9_0 x0 last7 t47 t47_3 t48 t49))
      (mUnder R x0 (IntKind.i64.wrap (2 * t47_3.getD t49.toNat 0))
       (fun v_c52 => cond (!v_c52)
        (k.ret (x_L9_1 x0 last7 t47 t47_3 t48 t49 v_c52))
        (Rn (s_L9 x0 (t47_3.getD t49.toNat 0) t47 t47_3 t48 (IntKind.i64.wrap (t49 + 1)))))))
     (none))
    (none))
   (k.ext 0 (x_L9_2 x0 last7 t47 t47_3 t48 t49)) := by kernel_rfl
theorem run_L9 (malive17 : alive17.Ty) (mUnder : Under.Ty) (mLeaves : Leaves.Ty) {R : Type} (N : Nat) (k : K R) : ∀ (m : Nat) (x0 : Int) (last7 : Int) (t47 : Option Bool) (t47_3 : List Int) (t48 : Int) (t49 : Int), loopN (evC (g malive17 mUnder mLeaves) an 0 N c_L9 none) k (nmOf 0 (an.loop 9)) m (s_L9 x0 last7 t47 t47_3 t48 t49) =
    L9 malive17 mUnder mLeaves N (fun x0 last7 t47 t47_3 t48 t49 => (k).ret (x_L9_0 x0 last7 t47 t47_3 t48 t49)) (fun x0 last7 t47 t47_3 t48 t49 v_c52 => (k).ret (x_L9_1 x0 last7 t47 t47_3 t48 t49 v_c52)) (fun x0 last7 t47 t47_3 t48 t49 => (k).ext 0 (x_L9_2 x0 last7 t47 t47_3 t48 t49)) m x0 last7 t47 t47_3 t48 t49 := by
  intro m
  induction m with
  | zero => intros; rfl
  | succ m ih =>
    intros
    rw [loopN_succ, round_L9]
    simp only [ih]
    kernel_rfl
noncomputable def m (malive17 : alive17.Ty) (mUnder : Under.Ty) (mLeaves : Leaves.Ty) {R : Type} (N : Nat) (x1 : Int) (y2 : Int) (z3 : Int) (r0 : Bool → Option R) : Option R :=
  malive17 R
   (fun v_c42 => cond (!v_c42)
    (r0 false)
    (mUnder R x1 y2
     (fun v_c43 => cond v_c43
      (mUnder R y2 z3
       (fun v_c44 => cond v_c44
        (mUnder R x1 z3
         (fun v_c45 => cond (!v_c45)
          (r0 false)
          (mUnder R x1 z3
           (fun v_c46 => cond v_c46
            (mUnder R y2 z3
             (fun v_c47 => cond v_c47
              (mUnder R x1 y2
               (fun v_c48 => cond (!v_c48)
                (mUnder R y2 x1
                 (fun v_c49 => cond (!v_c49)
                  (r0 false)
                  (mLeaves R x1
                   (fun v_c50 v_1_c51 => L9 malive17 mUnder mLeaves N
                    (fun x0_c53 last7_c54 t47_c55 t47_3_c56 t48_c57 t49_c58 => r0 false)
                    (fun x0_c59 last7_c60 t47_c61 t47_3_c62 t48_c63 t49_c64 v_c65 => r0 false)
                    (fun x0_c66 last7_c67 t47_c68 t47_3_c69 t48_c70 t49_c71 => r0 true) N x1 (-1) v_c50 v_1_c51 ((↑v_1_c51.length : Int)) 0))))
                (mLeaves R x1
                 (fun v_c72 v_1_c73 => L9 malive17 mUnder mLeaves N
                  (fun x0_c74 last7_c75 t47_c76 t47_3_c77 t48_c78 t49_c79 => r0 false)
                  (fun x0_c80 last7_c81 t47_c82 t47_3_c83 t48_c84 t49_c85 v_c86 => r0 false)
                  (fun x0_c87 last7_c88 t47_c89 t47_3_c90 t48_c91 t49_c92 => r0 true) N x1 (-1) v_c72 v_1_c73 ((↑v_1_c73.length : Int)) 0))))
              (mLeaves R x1
               (fun v_c93 v_1_c94 => L9 malive17 mUnder mLeaves N
                (fun x0_c95 last7_c96 t47_c97 t47_3_c98 t48_c99 t49_c100 => r0 false)
                (fun x0_c101 last7_c102 t47_c103 t47_3_c104 t48_c105 t49_c106 v_c107 => r0 false)
                (fun x0_c108 last7_c109 t47_c110 t47_3_c111 t48_c112 t49_c113 => r0 true) N x1 (-1) v_c93 v_1_c94 ((↑v_1_c94.length : Int)) 0))))
            (mLeaves R x1
             (fun v_c114 v_1_c115 => L9 malive17 mUnder mLeaves N
              (fun x0_c116 last7_c117 t47_c118 t47_3_c119 t48_c120 t49_c121 => r0 false)
              (fun x0_c122 last7_c123 t47_c124 t47_3_c125 t48_c126 t49_c127 v_c128 => r0 false)
              (fun x0_c129 last7_c130 t47_c131 t47_3_c132 t48_c133 t49_c134 => r0 true) N x1 (-1) v_c114 v_1_c115 ((↑v_1_c115.length : Int)) 0))))))
        (mUnder R x1 z3
         (fun v_c135 => cond v_c135
          (mUnder R y2 z3
           (fun v_c136 => cond v_c136
            (mUnder R x1 y2
             (fun v_c137 => cond (!v_c137)
              (mUnder R y2 x1
               (fun v_c138 => cond (!v_c138)
                (r0 false)
                (mLeaves R x1
                 (fun v_c139 v_1_c140 => L9 malive17 mUnder mLeaves N
                  (fun x0_c141 last7_c142 t47_c143 t47_3_c144 t48_c145 t49_c146 => r0 false)
                  (fun x0_c147 last7_c148 t47_c149 t47_3_c150 t48_c151 t49_c152 v_c153 => r0 false)
                  (fun x0_c154 last7_c155 t47_c156 t47_3_c157 t48_c158 t49_c159 => r0 true) N x1 (-1) v_c139 v_1_c140 ((↑v_1_c140.length : Int)) 0))))
              (mLeaves R x1
               (fun v_c160 v_1_c161 => L9 malive17 mUnder mLeaves N
                (fun x0_c162 last7_c163 t47_c164 t47_3_c165 t48_c166 t49_c167 => r0 false)
                (fun x0_c168 last7_c169 t47_c170 t47_3_c171 t48_c172 t49_c173 v_c174 => r0 false)
                (fun x0_c175 last7_c176 t47_c177 t47_3_c178 t48_c179 t49_c180 => r0 true) N x1 (-1) v_c160 v_1_c161 ((↑v_1_c161.length : Int)) 0))))
            (mLeaves R x1
             (fun v_c181 v_1_c182 => L9 malive17 mUnder mLeaves N
              (fun x0_c183 last7_c184 t47_c185 t47_3_c186 t48_c187 t49_c188 => r0 false)
              (fun x0_c189 last7_c190 t47_c191 t47_3_c192 t48_c193 t49_c194 v_c195 => r0 false)
              (fun x0_c196 last7_c197 t47_c198 t47_3_c199 t48_c200 t49_c201 => r0 true) N x1 (-1) v_c181 v_1_c182 ((↑v_1_c182.length : Int)) 0))))
          (mLeaves R x1
           (fun v_c202 v_1_c203 => L9 malive17 mUnder mLeaves N
            (fun x0_c204 last7_c205 t47_c206 t47_3_c207 t48_c208 t49_c209 => r0 false)
            (fun x0_c210 last7_c211 t47_c212 t47_3_c213 t48_c214 t49_c215 v_c216 => r0 false)
            (fun x0_c217 last7_c218 t47_c219 t47_3_c220 t48_c221 t49_c222 => r0 true) N x1 (-1) v_c202 v_1_c203 ((↑v_1_c203.length : Int)) 0))))))
      (mUnder R x1 z3
       (fun v_c223 => cond v_c223
        (mUnder R y2 z3
         (fun v_c224 => cond v_c224
          (mUnder R x1 y2
           (fun v_c225 => cond (!v_c225)
            (mUnder R y2 x1
             (fun v_c226 => cond (!v_c226)
              (r0 false)
              (mLeaves R x1
               (fun v_c227 v_1_c228 => L9 malive17 mUnder mLeaves N
                (fun x0_c229 last7_c230 t47_c231 t47_3_c232 t48_c233 t49_c234 => r0 false)
                (fun x0_c235 last7_c236 t47_c237 t47_3_c238 t48_c239 t49_c240 v_c241 => r0 false)
                (fun x0_c242 last7_c243 t47_c244 t47_3_c245 t48_c246 t49_c247 => r0 true) N x1 (-1) v_c227 v_1_c228 ((↑v_1_c228.length : Int)) 0))))
            (mLeaves R x1
             (fun v_c248 v_1_c249 => L9 malive17 mUnder mLeaves N
              (fun x0_c250 last7_c251 t47_c252 t47_3_c253 t48_c254 t49_c255 => r0 false)
              (fun x0_c256 last7_c257 t47_c258 t47_3_c259 t48_c260 t49_c261 v_c262 => r0 false)
              (fun x0_c263 last7_c264 t47_c265 t47_3_c266 t48_c267 t49_c268 => r0 true) N x1 (-1) v_c248 v_1_c249 ((↑v_1_c249.length : Int)) 0))))
          (mLeaves R x1
           (fun v_c269 v_1_c270 => L9 malive17 mUnder mLeaves N
            (fun x0_c271 last7_c272 t47_c273 t47_3_c274 t48_c275 t49_c276 => r0 false)
            (fun x0_c277 last7_c278 t47_c279 t47_3_c280 t48_c281 t49_c282 v_c283 => r0 false)
            (fun x0_c284 last7_c285 t47_c286 t47_3_c287 t48_c288 t49_c289 => r0 true) N x1 (-1) v_c269 v_1_c270 ((↑v_1_c270.length : Int)) 0))))
        (mLeaves R x1
         (fun v_c290 v_1_c291 => L9 malive17 mUnder mLeaves N
          (fun x0_c292 last7_c293 t47_c294 t47_3_c295 t48_c296 t49_c297 => r0 false)
          (fun x0_c298 last7_c299 t47_c300 t47_3_c301 t48_c302 t49_c303 v_c304 => r0 false)
          (fun x0_c305 last7_c306 t47_c307 t47_3_c308 t48_c309 t49_c310 => r0 true) N x1 (-1) v_c290 v_1_c291 ((↑v_1_c291.length : Int)) 0)))))))
theorem tree (malive17 : alive17.Ty) (mUnder : Under.Ty) (mLeaves : Leaves.Ty) {R : Type} (N : Nat) (κ : AV → List Blk → Option R) (x1 : Int) (y2 : Int) (z3 : Int) : evF (g malive17 mUnder mLeaves) an N Tryd.f9 [AV.int IntKind.i64 x1, AV.int IntKind.i64 y2, AV.int IntKind.i64 z3] [] κ =
  malive17 R
   (fun v_c42 => cond (!v_c42)
    (κ (AV.bool false) [])
    (mUnder R x1 y2
     (fun v_c43 => cond v_c43
      (mUnder R y2 z3
       (fun v_c44 => cond v_c44
        (mUnder R x1 z3
         (fun v_c45 => cond (!v_c45)
          (κ (AV.bool false) [])
          (mUnder R x1 z3
           (fun v_c46 => cond v_c46
            (mUnder R y2 z3
             (fun v_c47 => cond v_c47
              (mUnder R x1 y2
               (fun v_c48 => cond (!v_c48)
                (mUnder R y2 x1
                 (fun v_c49 => cond (!v_c49)
                  (κ (AV.bool false) [])
                  (mLeaves R x1
                   (fun v_c50 v_1_c51 => loopN (evC (g malive17 mUnder mLeaves) an 0 N c_L9 none) (ctx (g malive17 mUnder mLeaves) an 0 N (bodyOf Tryd.f9) [1, 1, 1, 1, 1, 0, 1, 0] (endK (g malive17 mUnder mLeaves) an Tryd.f9 [] κ)) (nmOf 0 (an.loop 9)) N (s_L9 x1 (-1) v_c50 v_1_c51 ((↑v_1_c51.length : Int)) 0)))))
                (mLeaves R x1
                 (fun v_c72 v_1_c73 => loopN (evC (g malive17 mUnder mLeaves) an 0 N c_L9 none) (ctx (g malive17 mUnder mLeaves) an 0 N (bodyOf Tryd.f9) [1, 1, 1, 1, 1, 0, 1, 0] (endK (g malive17 mUnder mLeaves) an Tryd.f9 [] κ)) (nmOf 0 (an.loop 9)) N (s_L9 x1 (-1) v_c72 v_1_c73 ((↑v_1_c73.length : Int)) 0)))))
              (mLeaves R x1
               (fun v_c93 v_1_c94 => loopN (evC (g malive17 mUnder mLeaves) an 0 N c_L9 none) (ctx (g malive17 mUnder mLeaves) an 0 N (bodyOf Tryd.f9) [1, 1, 1, 1, 1, 0, 1, 0] (endK (g malive17 mUnder mLeaves) an Tryd.f9 [] κ)) (nmOf 0 (an.loop 9)) N (s_L9 x1 (-1) v_c93 v_1_c94 ((↑v_1_c94.length : Int)) 0)))))
            (mLeaves R x1
             (fun v_c114 v_1_c115 => loopN (evC (g malive17 mUnder mLeaves) an 0 N c_L9 none) (ctx (g malive17 mUnder mLeaves) an 0 N (bodyOf Tryd.f9) [1, 1, 1, 1, 1, 0, 1, 0] (endK (g malive17 mUnder mLeaves) an Tryd.f9 [] κ)) (nmOf 0 (an.loop 9)) N (s_L9 x1 (-1) v_c114 v_1_c115 ((↑v_1_c115.length : Int)) 0)))))))
        (mUnder R x1 z3
         (fun v_c135 => cond v_c135
          (mUnder R y2 z3
           (fun v_c136 => cond v_c136
            (mUnder R x1 y2
             (fun v_c137 => cond (!v_c137)
              (mUnder R y2 x1
               (fun v_c138 => cond (!v_c138)
                (κ (AV.bool false) [])
                (mLeaves R x1
                 (fun v_c139 v_1_c140 => loopN (evC (g malive17 mUnder mLeaves) an 0 N c_L9 none) (ctx (g malive17 mUnder mLeaves) an 0 N (bodyOf Tryd.f9) [1, 1, 1, 1, 1, 0, 1, 0] (endK (g malive17 mUnder mLeaves) an Tryd.f9 [] κ)) (nmOf 0 (an.loop 9)) N (s_L9 x1 (-1) v_c139 v_1_c140 ((↑v_1_c140.length : Int)) 0)))))
              (mLeaves R x1
               (fun v_c160 v_1_c161 => loopN (evC (g malive17 mUnder mLeaves) an 0 N c_L9 none) (ctx (g malive17 mUnder mLeaves) an 0 N (bodyOf Tryd.f9) [1, 1, 1, 1, 1, 0, 1, 0] (endK (g malive17 mUnder mLeaves) an Tryd.f9 [] κ)) (nmOf 0 (an.loop 9)) N (s_L9 x1 (-1) v_c160 v_1_c161 ((↑v_1_c161.length : Int)) 0)))))
            (mLeaves R x1
             (fun v_c181 v_1_c182 => loopN (evC (g malive17 mUnder mLeaves) an 0 N c_L9 none) (ctx (g malive17 mUnder mLeaves) an 0 N (bodyOf Tryd.f9) [1, 1, 1, 1, 1, 0, 1, 0] (endK (g malive17 mUnder mLeaves) an Tryd.f9 [] κ)) (nmOf 0 (an.loop 9)) N (s_L9 x1 (-1) v_c181 v_1_c182 ((↑v_1_c182.length : Int)) 0)))))
          (mLeaves R x1
           (fun v_c202 v_1_c203 => loopN (evC (g malive17 mUnder mLeaves) an 0 N c_L9 none) (ctx (g malive17 mUnder mLeaves) an 0 N (bodyOf Tryd.f9) [1, 1, 1, 1, 1, 0, 1, 0] (endK (g malive17 mUnder mLeaves) an Tryd.f9 [] κ)) (nmOf 0 (an.loop 9)) N (s_L9 x1 (-1) v_c202 v_1_c203 ((↑v_1_c203.length : Int)) 0)))))))
      (mUnder R x1 z3
       (fun v_c223 => cond v_c223
        (mUnder R y2 z3
         (fun v_c224 => cond v_c224
          (mUnder R x1 y2
           (fun v_c225 => cond (!v_c225)
            (mUnder R y2 x1
             (fun v_c226 => cond (!v_c226)
              (κ (AV.bool false) [])
              (mLeaves R x1
               (fun v_c227 v_1_c228 => loopN (evC (g malive17 mUnder mLeaves) an 0 N c_L9 none) (ctx (g malive17 mUnder mLeaves) an 0 N (bodyOf Tryd.f9) [1, 1, 1, 1, 1, 0, 1, 0] (endK (g malive17 mUnder mLeaves) an Tryd.f9 [] κ)) (nmOf 0 (an.loop 9)) N (s_L9 x1 (-1) v_c227 v_1_c228 ((↑v_1_c228.length : Int)) 0)))))
            (mLeaves R x1
             (fun v_c248 v_1_c249 => loopN (evC (g malive17 mUnder mLeaves) an 0 N c_L9 none) (ctx (g malive17 mUnder mLeaves) an 0 N (bodyOf Tryd.f9) [1, 1, 1, 1, 1, 0, 1, 0] (endK (g malive17 mUnder mLeaves) an Tryd.f9 [] κ)) (nmOf 0 (an.loop 9)) N (s_L9 x1 (-1) v_c248 v_1_c249 ((↑v_1_c249.length : Int)) 0)))))
          (mLeaves R x1
           (fun v_c269 v_1_c270 => loopN (evC (g malive17 mUnder mLeaves) an 0 N c_L9 none) (ctx (g malive17 mUnder mLeaves) an 0 N (bodyOf Tryd.f9) [1, 1, 1, 1, 1, 0, 1, 0] (endK (g malive17 mUnder mLeaves) an Tryd.f9 [] κ)) (nmOf 0 (an.loop 9)) N (s_L9 x1 (-1) v_c269 v_1_c270 ((↑v_1_c270.length : Int)) 0)))))
        (mLeaves R x1
         (fun v_c290 v_1_c291 => loopN (evC (g malive17 mUnder mLeaves) an 0 N c_L9 none) (ctx (g malive17 mUnder mLeaves) an 0 N (bodyOf Tryd.f9) [1, 1, 1, 1, 1, 0, 1, 0] (endK (g malive17 mUnder mLeaves) an Tryd.f9 [] κ)) (nmOf 0 (an.loop 9)) N (s_L9 x1 (-1) v_c290 v_1_c291 ((↑v_1_c291.length : Int)) 0)))))))) := by kernel_rfl
theorem tree_e0 (malive17 : alive17.Ty) (mUnder : Under.Ty) (mLeaves : Leaves.Ty) {R : Type} (N : Nat) (κ : AV → List Blk → Option R) (x1 : Int) (y2 : Int) (z3 : Int) (x0_c53 : Int) (last7_c54 : Int) (t47_c55 : Option Bool) (t47_3_c56 : List Int) (t48_c57 : Int) (t49_c58 : Int) : (ctx (g malive17 mUnder mLeaves) an 0 N (bodyOf Tryd.f9) [1, 1, 1, 1, 1, 0, 1, 0] (endK (g malive17 mUnder mLeaves) an Tryd.f9 [] κ)).ret (x_L9_0 x0_c53 last7_c54 t47_c55 t47_3_c56 t48_c57 t49_c58) =
  κ (AV.bool false) [] := by kernel_rfl
theorem tree_e1 (malive17 : alive17.Ty) (mUnder : Under.Ty) (mLeaves : Leaves.Ty) {R : Type} (N : Nat) (κ : AV → List Blk → Option R) (x1 : Int) (y2 : Int) (z3 : Int) (x0_c59 : Int) (last7_c60 : Int) (t47_c61 : Option Bool) (t47_3_c62 : List Int) (t48_c63 : Int) (t49_c64 : Int) (v_c65 : Bool) : (ctx (g malive17 mUnder mLeaves) an 0 N (bodyOf Tryd.f9) [1, 1, 1, 1, 1, 0, 1, 0] (endK (g malive17 mUnder mLeaves) an Tryd.f9 [] κ)).ret (x_L9_1 x0_c59 last7_c60 t47_c61 t47_3_c62 t48_c63 t49_c64 v_c65) =
  κ (AV.bool false) [] := by kernel_rfl
theorem tree_e2 (malive17 : alive17.Ty) (mUnder : Under.Ty) (mLeaves : Leaves.Ty) {R : Type} (N : Nat) (κ : AV → List Blk → Option R) (x1 : Int) (y2 : Int) (z3 : Int) (x0_c66 : Int) (last7_c67 : Int) (t47_c68 : Option Bool) (t47_3_c69 : List Int) (t48_c70 : Int) (t49_c71 : Int) : (ctx (g malive17 mUnder mLeaves) an 0 N (bodyOf Tryd.f9) [1, 1, 1, 1, 1, 0, 1, 0] (endK (g malive17 mUnder mLeaves) an Tryd.f9 [] κ)).ext 0 (x_L9_2 x0_c66 last7_c67 t47_c68 t47_3_c69 t48_c70 t49_c71) =
  κ (AV.bool true) [] := by kernel_rfl
theorem eq (malive17 : alive17.Ty) (mUnder : Under.Ty) (mLeaves : Leaves.Ty) {R : Type} (N : Nat) (κ : AV → List Blk → Option R) (x1 : Int) (y2 : Int) (z3 : Int) : evF (g malive17 mUnder mLeaves) an N Tryd.f9 [AV.int IntKind.i64 x1, AV.int IntKind.i64 y2, AV.int IntKind.i64 z3] [] κ =
  m malive17 mUnder mLeaves N x1 y2 z3 (fun v => κ (AV.bool v) []) := by
  rw [tree]
  simp only [run_L9, tree_e0, tree_e1, tree_e2]
  kernel_rfl
abbrev Ty : Type 1 := ∀ R : Type, Int → Int → Int → (Bool → Option R) → Option R
def con (f : Ty) : Con := fun R args bs κ => match args, bs with
  | [AV.int IntKind.i64 x1, AV.int IntKind.i64 y2, AV.int IntKind.i64 z3], [] => f R x1 y2 z3 (fun v => κ (AV.bool v) [])
  | _, _ => none
theorem con_eq (f : Ty) (R : Type) (κ : AV → List Blk → Option R) (x1 : Int) (y2 : Int) (z3 : Int) : con f R [AV.int IntKind.i64 x1, AV.int IntKind.i64 y2, AV.int IntKind.i64 z3] [] κ = f R x1 y2 z3 (fun v => κ (AV.bool v) []) := rfl
noncomputable def M (N : Nat) : Ty := fun R x1 y2 z3 r0 => m (alive17.M N) (Under.M N) (Leaves.M N) (R := R) N x1 y2 z3 r0
def gts : List (Nat × AV) := [(1, .err 1), (10, .err 11), (14, .err 15)]
theorem gok (N : Nat) : GOk (g (alive17.M N) (Under.M N) (Leaves.M N)) := giD_ok hm (by intro p hp; cases hp) (gtL_ok (by decide)) (ovL_ok (by
    intro p hp
    simp only [List.mem_cons, List.not_mem_nil, or_false] at hp
    rcases hp with rfl | rfl | rfl
    · exact ⟨(alive17.ok N).gt (gtL_sub (by repeat (first | exact subG_nil _ | refine subG_cons (by kernel_rfl) ?_))) (gtL_ok (by decide)), _, Tryd.func34, by kernel_rfl, by kernel_rfl⟩
    · exact ⟨(Under.ok N).gt (gtL_sub (by repeat (first | exact subG_nil _ | refine subG_cons (by kernel_rfl) ?_))) (gtL_ok (by decide)), _, Tryd.func40, by kernel_rfl, by kernel_rfl⟩
    · exact ⟨(Leaves.ok N).gt (gtL_sub (by repeat (first | exact subG_nil _ | refine subG_cons (by kernel_rfl) ?_))) (gtL_ok (by decide)), _, Tryd.func36, by kernel_rfl, by kernel_rfl⟩
)) 1
theorem ok (N : Nat) : SoundC Tryd.prog (gtL gts) 9 (con (M N)) := by
  refine SoundC.mono (evF_ok (gok N) hm an N Tryd.func9) fun R args bs κ r h => ?_
  unfold con at h
  split at h
  · exact (eq (alive17.M N) (Under.M N) (Leaves.M N) N κ _ _ _).trans h
  · cases h
end PlacesUnder

end Go.Proofs.YtllnbcibleeogaaDoor.fn
