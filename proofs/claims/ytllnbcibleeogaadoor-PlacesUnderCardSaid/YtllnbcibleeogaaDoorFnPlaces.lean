/- What the places' functions compute, with the proof; printed by a program. -/
import Derived.Test.YtllnbcibleeogaaDoorProg
import Derived.Test.YtllnbcibleeogaaDoorEv4
import Derived.Test.YtllnbcibleeogaaDoorFnWords
namespace Go.Proofs.YtllnbcibleeogaaDoor.fn
open Go Go.Proofs Go.Ev

/-! ### Tryd.f50: pRight -/
namespace pRight
def an : Anns := ⟨fun i => findA i [], fun i => findA i [], false⟩
noncomputable def g : Gi := giD Tryd.prog (gtL []) (fun _ => an) 0 [] (ovL []) 1
noncomputable def m {R : Type} (_N : Nat) (leaves1 : Int) (kr0 : Bool → Option R) : Option R :=
  cond (decide (leaves1 ≥ 1))
   (cond (decide (leaves1 ≤ 16))
    (kr0 (iand IntKind.i64 leaves1 (IntKind.i64.wrap (leaves1 - 1)) == 0))
    (kr0 false))
   (kr0 false)
theorem tree {R : Type} (N : Nat) (κ : AV → List Blk → Option R) (leaves1 : Int) : evF (g) an N Tryd.f50 [AV.int IntKind.i64 leaves1] [] κ =
  cond (decide (leaves1 ≥ 1))
   (cond (decide (leaves1 ≤ 16))
    (κ (AV.bool (iand IntKind.i64 leaves1 (IntKind.i64.wrap (leaves1 - 1)) == 0)) [])
    (κ (AV.bool false) []))
   (κ (AV.bool false) []) := by kernel_rfl
theorem eq {R : Type} (N : Nat) (κ : AV → List Blk → Option R) (leaves1 : Int) : evF (g) an N Tryd.f50 [AV.int IntKind.i64 leaves1] [] κ =
  m N leaves1 (fun v => κ (AV.bool v) []) := by
  rw [tree]
  kernel_rfl
abbrev Ty : Type 1 := ∀ R : Type, Int → (Bool → Option R) → Option R
def con (f : Ty) : Con := fun R args bs κ => match args, bs with
  | [AV.int IntKind.i64 leaves1], [] => f R leaves1 (fun v => κ (AV.bool v) [])
  | _, _ => none
theorem con_eq (f : Ty) (R : Type) (κ : AV → List Blk → Option R) (leaves1 : Int) : con f R [AV.int IntKind.i64 leaves1] [] κ = f R leaves1 (fun v => κ (AV.bool v) []) := rfl
noncomputable def M (N : Nat) : Ty := fun R leaves1 kr0 => m (R := R) N leaves1 kr0
def gts : List (Nat × AV) := []
theorem gok (_N : Nat) : GOk (g) := giD_ok hm (by intro p hp; cases hp) (gtL_ok (by decide)) (ovL_ok (by intro p hp; cases hp)) 1
theorem ok (N : Nat) : SoundC Tryd.prog (gtL gts) 50 (con (M N)) := by
  refine SoundC.mono (evF_ok (gok N) hm an N Tryd.func50) fun R args bs κ r h => ?_
  unfold con at h
  split at h
  · exact (eq N κ _).trans h
  · cases h
end pRight


/-! ### Tryd.f39: Root -/
namespace Root
def an : Anns := ⟨fun i => findA i [], fun i => findA i [], false⟩
noncomputable def g (mpRight : pRight.Ty) : Gi := giD Tryd.prog (gtL []) (fun _ => an) 0 [] (ovL [(50, pRight.con mpRight)]) 1
noncomputable def m (mpRight : pRight.Ty) {R : Type} (_N : Nat) (leaves1 : Int) (kr0 : Int → Option R) : Option R :=
  mpRight R leaves1
   (fun v_c2 => cond (!v_c2)
    (kr0 0)
    (kr0 (IntKind.i64.wrap (leaves1 - 1))))
theorem tree (mpRight : pRight.Ty) {R : Type} (N : Nat) (κ : AV → List Blk → Option R) (leaves1 : Int) : evF (g mpRight) an N Tryd.f39 [AV.int IntKind.i64 leaves1] [] κ =
  mpRight R leaves1
   (fun v_c2 => cond (!v_c2)
    (κ (AV.int IntKind.i64 0) [])
    (κ (AV.int IntKind.i64 (IntKind.i64.wrap (leaves1 - 1))) [])) := by kernel_rfl
theorem eq (mpRight : pRight.Ty) {R : Type} (N : Nat) (κ : AV → List Blk → Option R) (leaves1 : Int) : evF (g mpRight) an N Tryd.f39 [AV.int IntKind.i64 leaves1] [] κ =
  m mpRight N leaves1 (fun v => κ (AV.int IntKind.i64 v) []) := by
  rw [tree]
  kernel_rfl
abbrev Ty : Type 1 := ∀ R : Type, Int → (Int → Option R) → Option R
def con (f : Ty) : Con := fun R args bs κ => match args, bs with
  | [AV.int IntKind.i64 leaves1], [] => f R leaves1 (fun v => κ (AV.int IntKind.i64 v) [])
  | _, _ => none
theorem con_eq (f : Ty) (R : Type) (κ : AV → List Blk → Option R) (leaves1 : Int) : con f R [AV.int IntKind.i64 leaves1] [] κ = f R leaves1 (fun v => κ (AV.int IntKind.i64 v) []) := rfl
noncomputable def M (N : Nat) : Ty := fun R leaves1 kr0 => m (pRight.M N) (R := R) N leaves1 kr0
def gts : List (Nat × AV) := []
theorem gok (N : Nat) : GOk (g (pRight.M N)) := giD_ok hm (by intro p hp; cases hp) (gtL_ok (by decide)) (ovL_ok (by
    intro p hp
    simp only [List.mem_cons, List.not_mem_nil, or_false] at hp
    rcases hp with rfl
    · exact ⟨(pRight.ok N).gt (gtL_sub (by repeat (first | exact subG_nil _ | refine subG_cons (by kernel_rfl) ?_))) (gtL_ok (by decide)), _, Tryd.func50, by kernel_rfl, by kernel_rfl⟩
)) 1
theorem ok (N : Nat) : SoundC Tryd.prog (gtL gts) 39 (con (M N)) := by
  refine SoundC.mono (evF_ok (gok N) hm an N Tryd.func39) fun R args bs κ r h => ?_
  unfold con at h
  split at h
  · exact (eq (pRight.M N) N κ _).trans h
  · cases h
end Root


/-! ### Tryd.f38: Level -/
namespace Level
def an : Anns := ⟨fun i => findA i [], fun i => findA i [(0, ⟨[0, 3], [], 0⟩)], false⟩
noncomputable def g : Gi := giD Tryd.prog (gtL []) (fun _ => an) 0 [] (ovL []) 1
noncomputable def c_S1 : Code := scopeOf Tryd.f38 0
def s_J1_0 (x0 : Int) (k3 : Int) : St := ⟨[AV.int IntKind.i64 x0, AV.dead, AV.dead, AV.int IntKind.i64 k3] ++ List.replicate 10 .dead, []⟩
def x_S1_0 (x0 : Int) (k3 : Int) : St := ⟨[AV.int IntKind.i64 x0, AV.dead, AV.int IntKind.i64 k3, AV.int IntKind.i64 k3, AV.dead, AV.dead, AV.int IntKind.i64 x0, AV.int IntKind.i64 (iand IntKind.i64 x0 1), AV.bool (iand IntKind.i64 x0 1 == 1)] ++ List.replicate 4 .dead ++ [AV.int IntKind.i64 k3], []⟩
noncomputable def J1_0 {R : Type} (N : Nat) (ke0 : Int → Int → Option R) : Nat → Int → Int → Option R
  | 0, _, _ => none
  | m + 1, x0, k3 =>
    cond (iand IntKind.i64 x0 1 == 1)
     (J1_0 N ke0 m (ishr IntKind.i64 x0 1) (IntKind.i64.wrap (k3 + 1)))
     (ke0 x0 k3)
theorem round_J1_0 {R : Type} (N : Nat) (J : Nat → St → Option R) (k : K R) (x0 : Int) (k3 : Int) : evC (g) an 0 N c_S1 (some 0) { k with gto := gotoK (hasL c_S1) (fun l => nmOf 0 (an.label l)) k J } (s_J1_0 x0 k3) =
  cond (iand IntKind.i64 x0 1 == 1)
   (J 0 (s_J1_0 (ishr IntKind.i64 x0 1) (IntKind.i64.wrap (k3 + 1))))
   (k.ret (x_S1_0 x0 k3)) := by kernel_rfl
theorem run_S1 {R : Type} (N : Nat) (k : K R) : ∀ (m : Nat), (∀ (x0 : Int) (k3 : Int), jumpN (fun l => evC (g) an 0 N c_S1 (some l)) (hasL c_S1) k (fun l => nmOf 0 (an.label l)) m 0 (s_J1_0 x0 k3) =
    J1_0 N (fun x0 k3 => (k).ret (x_S1_0 x0 k3)) m x0 k3) := by
  intro m
  induction m with
  | zero => exact by intros; rfl
  | succ m ih =>
    · intros; rw [jumpN_succ, round_J1_0]
      simp only [ih]
      kernel_rfl
theorem run_J1_0 {R : Type} (N : Nat) (k : K R) (m : Nat) : (∀ (x0 : Int) (k3 : Int), jumpN (fun l => evC (g) an 0 N c_S1 (some l)) (hasL c_S1) k (fun l => nmOf 0 (an.label l)) m 0 (s_J1_0 x0 k3) =
    J1_0 N (fun x0 k3 => (k).ret (x_S1_0 x0 k3)) m x0 k3) := (run_S1 N k m)
noncomputable def m {R : Type} (N : Nat) (x1 : Int) (kr0 : Int → Option R) : Option R :=
  cond (decide (x1 < 0))
   (kr0 0)
   (cond (iand IntKind.i64 x1 1 == 1)
    (J1_0 N
     (fun _x0_c2 k3_c3 => kr0 k3_c3) N (ishr IntKind.i64 x1 1) 1)
    (kr0 0))
theorem tree {R : Type} (N : Nat) (κ : AV → List Blk → Option R) (x1 : Int) : evF (g) an N Tryd.f38 [AV.int IntKind.i64 x1] [] κ =
  cond (decide (x1 < 0))
   (κ (AV.int IntKind.i64 0) [])
   (cond (iand IntKind.i64 x1 1 == 1)
    (jumpN (fun l => evC (g) an 0 N c_S1 (some l)) (hasL c_S1) (ctx (g) an 0 N (bodyOf Tryd.f38) [1] (endK (g) an Tryd.f38 [] κ)) (fun l => nmOf 0 (an.label l)) N 0 (s_J1_0 (ishr IntKind.i64 x1 1) 1))
    (κ (AV.int IntKind.i64 0) [])) := by kernel_rfl
theorem eq {R : Type} (N : Nat) (κ : AV → List Blk → Option R) (x1 : Int) : evF (g) an N Tryd.f38 [AV.int IntKind.i64 x1] [] κ =
  m N x1 (fun v => κ (AV.int IntKind.i64 v) []) := by
  rw [tree]
  simp only [run_J1_0]
  kernel_rfl
abbrev Ty : Type 1 := ∀ R : Type, Int → (Int → Option R) → Option R
def con (f : Ty) : Con := fun R args bs κ => match args, bs with
  | [AV.int IntKind.i64 x1], [] => f R x1 (fun v => κ (AV.int IntKind.i64 v) [])
  | _, _ => none
theorem con_eq (f : Ty) (R : Type) (κ : AV → List Blk → Option R) (x1 : Int) : con f R [AV.int IntKind.i64 x1] [] κ = f R x1 (fun v => κ (AV.int IntKind.i64 v) []) := rfl
noncomputable def M (N : Nat) : Ty := fun R x1 kr0 => m (R := R) N x1 kr0
def gts : List (Nat × AV) := []
theorem gok (_N : Nat) : GOk (g) := giD_ok hm (by intro p hp; cases hp) (gtL_ok (by decide)) (ovL_ok (by intro p hp; cases hp)) 1
theorem ok (N : Nat) : SoundC Tryd.prog (gtL gts) 38 (con (M N)) := by
  refine SoundC.mono (evF_ok (gok N) hm an N Tryd.func38) fun R args bs κ r h => ?_
  unfold con at h
  split at h
  · exact (eq N κ _).trans h
  · cases h
end Level


/-! ### Tryd.f62: has -/
namespace has
def an : Anns := ⟨fun i => findA i [], fun i => findA i [], false⟩
noncomputable def g (mpRight : pRight.Ty) : Gi := giD Tryd.prog (gtL []) (fun _ => an) 0 [] (ovL [(50, pRight.con mpRight)]) 1
noncomputable def m (mpRight : pRight.Ty) {R : Type} (_N : Nat) (x1 : Int) (leaves2 : Int) (kr0 : Bool → Option R) : Option R :=
  mpRight R leaves2
   (fun v_c1 => cond v_c1
    (cond (decide (x1 ≥ 0))
     (kr0 (decide (x1 ≤ IntKind.i64.wrap (2 * IntKind.i64.wrap (leaves2 - 1)))))
     (kr0 false))
    (kr0 false))
theorem tree (mpRight : pRight.Ty) {R : Type} (N : Nat) (κ : AV → List Blk → Option R) (x1 : Int) (leaves2 : Int) : evF (g mpRight) an N Tryd.f62 [AV.int IntKind.i64 x1, AV.int IntKind.i64 leaves2] [] κ =
  mpRight R leaves2
   (fun v_c1 => cond v_c1
    (cond (decide (x1 ≥ 0))
     (κ (AV.bool (decide (x1 ≤ IntKind.i64.wrap (2 * IntKind.i64.wrap (leaves2 - 1))))) [])
     (κ (AV.bool false) []))
    (κ (AV.bool false) [])) := by kernel_rfl
theorem eq (mpRight : pRight.Ty) {R : Type} (N : Nat) (κ : AV → List Blk → Option R) (x1 : Int) (leaves2 : Int) : evF (g mpRight) an N Tryd.f62 [AV.int IntKind.i64 x1, AV.int IntKind.i64 leaves2] [] κ =
  m mpRight N x1 leaves2 (fun v => κ (AV.bool v) []) := by
  rw [tree]
  kernel_rfl
abbrev Ty : Type 1 := ∀ R : Type, Int → Int → (Bool → Option R) → Option R
def con (f : Ty) : Con := fun R args bs κ => match args, bs with
  | [AV.int IntKind.i64 x1, AV.int IntKind.i64 leaves2], [] => f R x1 leaves2 (fun v => κ (AV.bool v) [])
  | _, _ => none
theorem con_eq (f : Ty) (R : Type) (κ : AV → List Blk → Option R) (x1 : Int) (leaves2 : Int) : con f R [AV.int IntKind.i64 x1, AV.int IntKind.i64 leaves2] [] κ = f R x1 leaves2 (fun v => κ (AV.bool v) []) := rfl
noncomputable def M (N : Nat) : Ty := fun R x1 leaves2 kr0 => m (pRight.M N) (R := R) N x1 leaves2 kr0
def gts : List (Nat × AV) := []
theorem gok (N : Nat) : GOk (g (pRight.M N)) := giD_ok hm (by intro p hp; cases hp) (gtL_ok (by decide)) (ovL_ok (by
    intro p hp
    simp only [List.mem_cons, List.not_mem_nil, or_false] at hp
    rcases hp with rfl
    · exact ⟨(pRight.ok N).gt (gtL_sub (by repeat (first | exact subG_nil _ | refine subG_cons (by kernel_rfl) ?_))) (gtL_ok (by decide)), _, Tryd.func50, by kernel_rfl, by kernel_rfl⟩
)) 1
theorem ok (N : Nat) : SoundC Tryd.prog (gtL gts) 62 (con (M N)) := by
  refine SoundC.mono (evF_ok (gok N) hm an N Tryd.func62) fun R args bs κ r h => ?_
  unfold con at h
  split at h
  · exact (eq (pRight.M N) N κ _ _).trans h
  · cases h
end has


/-! ### Tryd.f61: isP -/
namespace isP
def an : Anns := ⟨fun i => findA i [], fun i => findA i [], false⟩
noncomputable def g : Gi := giD Tryd.prog (gtL []) (fun _ => an) 0 [] (ovL []) 1
noncomputable def m {R : Type} (_N : Nat) (x1 : Int) (kr0 : Bool → Option R) : Option R :=
  cond (decide (x1 ≥ 0))
   (kr0 (decide (x1 ≤ 30)))
   (kr0 false)
theorem tree {R : Type} (N : Nat) (κ : AV → List Blk → Option R) (x1 : Int) : evF (g) an N Tryd.f61 [AV.int IntKind.i64 x1] [] κ =
  cond (decide (x1 ≥ 0))
   (κ (AV.bool (decide (x1 ≤ 30))) [])
   (κ (AV.bool false) []) := by kernel_rfl
theorem eq {R : Type} (N : Nat) (κ : AV → List Blk → Option R) (x1 : Int) : evF (g) an N Tryd.f61 [AV.int IntKind.i64 x1] [] κ =
  m N x1 (fun v => κ (AV.bool v) []) := by
  rw [tree]
  kernel_rfl
abbrev Ty : Type 1 := ∀ R : Type, Int → (Bool → Option R) → Option R
def con (f : Ty) : Con := fun R args bs κ => match args, bs with
  | [AV.int IntKind.i64 x1], [] => f R x1 (fun v => κ (AV.bool v) [])
  | _, _ => none
theorem con_eq (f : Ty) (R : Type) (κ : AV → List Blk → Option R) (x1 : Int) : con f R [AV.int IntKind.i64 x1] [] κ = f R x1 (fun v => κ (AV.bool v) []) := rfl
noncomputable def M (N : Nat) : Ty := fun R x1 kr0 => m (R := R) N x1 kr0
def gts : List (Nat × AV) := []
theorem gok (_N : Nat) : GOk (g) := giD_ok hm (by intro p hp; cases hp) (gtL_ok (by decide)) (ovL_ok (by intro p hp; cases hp)) 1
theorem ok (N : Nat) : SoundC Tryd.prog (gtL gts) 61 (con (M N)) := by
  refine SoundC.mono (evF_ok (gok N) hm an N Tryd.func61) fun R args bs κ r h => ?_
  unfold con at h
  split at h
  · exact (eq N κ _).trans h
  · cases h
end isP


/-! ### Tryd.f51: Below -/
namespace Below
def an : Anns := ⟨fun i => findA i [], fun i => findA i [], false⟩
noncomputable def g (mLevel : Level.Ty) (misP : isP.Ty) : Gi := giD Tryd.prog (gtL [(1, .err 1), (10, .err 11)]) (fun _ => an) 0 [] (ovL [(38, Level.con mLevel), (61, isP.con misP)]) 1
noncomputable def m (mLevel : Level.Ty) (misP : isP.Ty) {R : Type} (_N : Nat) (x1 : Int) (kr0 : Int → Int → Nat → Option R) : Option R :=
  mLevel R x1
   (fun v_c6 => misP R x1
    (fun v_c7 => cond (!v_c7)
     (kr0 0 0 1)
     (cond (v_c6 == 0)
      (kr0 0 0 11)
      (cond (true && decide (IntKind.i64.wrap (v_c6 - 1) < 0))
       (none)
       (kr0 (IntKind.i64.wrap (x1 - ishl IntKind.i64 1 (IntKind.i64.wrap (v_c6 - 1)))) (IntKind.i64.wrap (x1 + ishl IntKind.i64 1 (IntKind.i64.wrap (v_c6 - 1)))) 0)))))
theorem tree (mLevel : Level.Ty) (misP : isP.Ty) {R : Type} (N : Nat) (κ : AV → List Blk → Option R) (x1 : Int) : evF (g mLevel misP) an N Tryd.f51 [AV.int IntKind.i64 x1] [] κ =
  mLevel R x1
   (fun v_c6 => misP R x1
    (fun v_c7 => cond (!v_c7)
     (κ (AV.tup [AV.int IntKind.i64 0, AV.int IntKind.i64 0, AV.err 1]) [])
     (cond (v_c6 == 0)
      (κ (AV.tup [AV.int IntKind.i64 0, AV.int IntKind.i64 0, AV.err 11]) [])
      (cond (true && decide (IntKind.i64.wrap (v_c6 - 1) < 0))
       (none)
       (κ (AV.tup [AV.int IntKind.i64 (IntKind.i64.wrap (x1 - ishl IntKind.i64 1 (IntKind.i64.wrap (v_c6 - 1)))), AV.int IntKind.i64 (IntKind.i64.wrap (x1 + ishl IntKind.i64 1 (IntKind.i64.wrap (v_c6 - 1)))), AV.err 0]) []))))) := by kernel_rfl
theorem eq (mLevel : Level.Ty) (misP : isP.Ty) {R : Type} (N : Nat) (κ : AV → List Blk → Option R) (x1 : Int) : evF (g mLevel misP) an N Tryd.f51 [AV.int IntKind.i64 x1] [] κ =
  m mLevel misP N x1 (fun v v_1 v_2 => κ (AV.tup [AV.int IntKind.i64 v, AV.int IntKind.i64 v_1, AV.err v_2]) []) := by
  rw [tree]
  kernel_rfl
abbrev Ty : Type 1 := ∀ R : Type, Int → (Int → Int → Nat → Option R) → Option R
def con (f : Ty) : Con := fun R args bs κ => match args, bs with
  | [AV.int IntKind.i64 x1], [] => f R x1 (fun v v_1 v_2 => κ (AV.tup [AV.int IntKind.i64 v, AV.int IntKind.i64 v_1, AV.err v_2]) [])
  | _, _ => none
theorem con_eq (f : Ty) (R : Type) (κ : AV → List Blk → Option R) (x1 : Int) : con f R [AV.int IntKind.i64 x1] [] κ = f R x1 (fun v v_1 v_2 => κ (AV.tup [AV.int IntKind.i64 v, AV.int IntKind.i64 v_1, AV.err v_2]) []) := rfl
noncomputable def M (N : Nat) : Ty := fun R x1 kr0 => m (Level.M N) (isP.M N) (R := R) N x1 kr0
def gts : List (Nat × AV) := [(1, .err 1), (10, .err 11)]
theorem gok (N : Nat) : GOk (g (Level.M N) (isP.M N)) := giD_ok hm (by intro p hp; cases hp) (gtL_ok (by decide)) (ovL_ok (by
    intro p hp
    simp only [List.mem_cons, List.not_mem_nil, or_false] at hp
    rcases hp with rfl | rfl
    · exact ⟨(Level.ok N).gt (gtL_sub (by repeat (first | exact subG_nil _ | refine subG_cons (by kernel_rfl) ?_))) (gtL_ok (by decide)), _, Tryd.func38, by kernel_rfl, by kernel_rfl⟩
    · exact ⟨(isP.ok N).gt (gtL_sub (by repeat (first | exact subG_nil _ | refine subG_cons (by kernel_rfl) ?_))) (gtL_ok (by decide)), _, Tryd.func61, by kernel_rfl, by kernel_rfl⟩
)) 1
theorem ok (N : Nat) : SoundC Tryd.prog (gtL gts) 51 (con (M N)) := by
  refine SoundC.mono (evF_ok (gok N) hm an N Tryd.func51) fun R args bs κ r h => ?_
  unfold con at h
  split at h
  · exact (eq (Level.M N) (isP.M N) N κ _).trans h
  · cases h
end Below


/-! ### Tryd.f41: Above -/
namespace Above
def an : Anns := ⟨fun i => findA i [], fun i => findA i [], false⟩
noncomputable def g (mhas : has.Ty) (mRoot : Root.Ty) (mLevel : Level.Ty) : Gi := giD Tryd.prog (gtL [(1, .err 1), (14, .err 15)]) (fun _ => an) 0 [] (ovL [(62, has.con mhas), (39, Root.con mRoot), (38, Level.con mLevel)]) 1
noncomputable def m (mhas : has.Ty) (mRoot : Root.Ty) (mLevel : Level.Ty) {R : Type} (_N : Nat) (x1 : Int) (leaves2 : Int) (kr0 : Int → Nat → Option R) : Option R :=
  mhas R x1 leaves2
   (fun v_c6 => cond (!v_c6)
    (kr0 0 1)
    (mRoot R leaves2
     (fun v_c7 => cond (x1 == v_c7)
      (kr0 0 15)
      (mLevel R x1
       (fun v_c8 => cond (true && decide (v_c8 < 0))
        (none)
        (kr0 (iandn IntKind.i64 (ior IntKind.i64 x1 (ishl IntKind.i64 1 v_c8)) (ishl IntKind.i64 (ishl IntKind.i64 1 v_c8) 1)) 0))))))
theorem tree (mhas : has.Ty) (mRoot : Root.Ty) (mLevel : Level.Ty) {R : Type} (N : Nat) (κ : AV → List Blk → Option R) (x1 : Int) (leaves2 : Int) : evF (g mhas mRoot mLevel) an N Tryd.f41 [AV.int IntKind.i64 x1, AV.int IntKind.i64 leaves2] [] κ =
  mhas R x1 leaves2
   (fun v_c6 => cond (!v_c6)
    (κ (AV.tup [AV.int IntKind.i64 0, AV.err 1]) [])
    (mRoot R leaves2
     (fun v_c7 => cond (x1 == v_c7)
      (κ (AV.tup [AV.int IntKind.i64 0, AV.err 15]) [])
      (mLevel R x1
       (fun v_c8 => cond (true && decide (v_c8 < 0))
        (none)
        (κ (AV.tup [AV.int IntKind.i64 (iandn IntKind.i64 (ior IntKind.i64 x1 (ishl IntKind.i64 1 v_c8)) (ishl IntKind.i64 (ishl IntKind.i64 1 v_c8) 1)), AV.err 0]) [])))))) := by kernel_rfl
theorem eq (mhas : has.Ty) (mRoot : Root.Ty) (mLevel : Level.Ty) {R : Type} (N : Nat) (κ : AV → List Blk → Option R) (x1 : Int) (leaves2 : Int) : evF (g mhas mRoot mLevel) an N Tryd.f41 [AV.int IntKind.i64 x1, AV.int IntKind.i64 leaves2] [] κ =
  m mhas mRoot mLevel N x1 leaves2 (fun v v_1 => κ (AV.tup [AV.int IntKind.i64 v, AV.err v_1]) []) := by
  rw [tree]
  kernel_rfl
abbrev Ty : Type 1 := ∀ R : Type, Int → Int → (Int → Nat → Option R) → Option R
def con (f : Ty) : Con := fun R args bs κ => match args, bs with
  | [AV.int IntKind.i64 x1, AV.int IntKind.i64 leaves2], [] => f R x1 leaves2 (fun v v_1 => κ (AV.tup [AV.int IntKind.i64 v, AV.err v_1]) [])
  | _, _ => none
theorem con_eq (f : Ty) (R : Type) (κ : AV → List Blk → Option R) (x1 : Int) (leaves2 : Int) : con f R [AV.int IntKind.i64 x1, AV.int IntKind.i64 leaves2] [] κ = f R x1 leaves2 (fun v v_1 => κ (AV.tup [AV.int IntKind.i64 v, AV.err v_1]) []) := rfl
noncomputable def M (N : Nat) : Ty := fun R x1 leaves2 kr0 => m (has.M N) (Root.M N) (Level.M N) (R := R) N x1 leaves2 kr0
def gts : List (Nat × AV) := [(1, .err 1), (14, .err 15)]
theorem gok (N : Nat) : GOk (g (has.M N) (Root.M N) (Level.M N)) := giD_ok hm (by intro p hp; cases hp) (gtL_ok (by decide)) (ovL_ok (by
    intro p hp
    simp only [List.mem_cons, List.not_mem_nil, or_false] at hp
    rcases hp with rfl | rfl | rfl
    · exact ⟨(has.ok N).gt (gtL_sub (by repeat (first | exact subG_nil _ | refine subG_cons (by kernel_rfl) ?_))) (gtL_ok (by decide)), _, Tryd.func62, by kernel_rfl, by kernel_rfl⟩
    · exact ⟨(Root.ok N).gt (gtL_sub (by repeat (first | exact subG_nil _ | refine subG_cons (by kernel_rfl) ?_))) (gtL_ok (by decide)), _, Tryd.func39, by kernel_rfl, by kernel_rfl⟩
    · exact ⟨(Level.ok N).gt (gtL_sub (by repeat (first | exact subG_nil _ | refine subG_cons (by kernel_rfl) ?_))) (gtL_ok (by decide)), _, Tryd.func38, by kernel_rfl, by kernel_rfl⟩
)) 1
theorem ok (N : Nat) : SoundC Tryd.prog (gtL gts) 41 (con (M N)) := by
  refine SoundC.mono (evF_ok (gok N) hm an N Tryd.func41) fun R args bs κ r h => ?_
  unfold con at h
  split at h
  · exact (eq (has.M N) (Root.M N) (Level.M N) N κ _ _).trans h
  · cases h
end Above


/-! ### Tryd.f42: Beside -/
namespace Beside
def an : Anns := ⟨fun i => findA i [], fun i => findA i [], false⟩
noncomputable def g (mAbove : Above.Ty) (mBelow : Below.Ty) : Gi := giD Tryd.prog (gtL [(1, .err 1), (10, .err 11), (14, .err 15)]) (fun _ => an) 0 [] (ovL [(41, Above.con mAbove), (51, Below.con mBelow)]) 1
noncomputable def m (mAbove : Above.Ty) (mBelow : Below.Ty) {R : Type} (_N : Nat) (x1 : Int) (leaves2 : Int) (kr0 : Int → Nat → Option R) : Option R :=
  mAbove R x1 leaves2
   (fun v_c7 v_1_c8 => cond (!v_1_c8.beq 0)
    (kr0 0 v_1_c8)
    (mBelow R v_c7
     (fun v_c9 v_1_c10 v_2_c11 => cond (v_c9 == x1)
      (kr0 v_1_c10 v_2_c11)
      (kr0 v_c9 v_2_c11))))
theorem tree (mAbove : Above.Ty) (mBelow : Below.Ty) {R : Type} (N : Nat) (κ : AV → List Blk → Option R) (x1 : Int) (leaves2 : Int) : evF (g mAbove mBelow) an N Tryd.f42 [AV.int IntKind.i64 x1, AV.int IntKind.i64 leaves2] [] κ =
  mAbove R x1 leaves2
   (fun v_c7 v_1_c8 => cond (!v_1_c8.beq 0)
    (κ (AV.tup [AV.int IntKind.i64 0, AV.err v_1_c8]) [])
    (mBelow R v_c7
     (fun v_c9 v_1_c10 v_2_c11 => cond (v_c9 == x1)
      (κ (AV.tup [AV.int IntKind.i64 v_1_c10, AV.err v_2_c11]) [])
      (κ (AV.tup [AV.int IntKind.i64 v_c9, AV.err v_2_c11]) [])))) := by kernel_rfl
theorem eq (mAbove : Above.Ty) (mBelow : Below.Ty) {R : Type} (N : Nat) (κ : AV → List Blk → Option R) (x1 : Int) (leaves2 : Int) : evF (g mAbove mBelow) an N Tryd.f42 [AV.int IntKind.i64 x1, AV.int IntKind.i64 leaves2] [] κ =
  m mAbove mBelow N x1 leaves2 (fun v v_1 => κ (AV.tup [AV.int IntKind.i64 v, AV.err v_1]) []) := by
  rw [tree]
  kernel_rfl
abbrev Ty : Type 1 := ∀ R : Type, Int → Int → (Int → Nat → Option R) → Option R
def con (f : Ty) : Con := fun R args bs κ => match args, bs with
  | [AV.int IntKind.i64 x1, AV.int IntKind.i64 leaves2], [] => f R x1 leaves2 (fun v v_1 => κ (AV.tup [AV.int IntKind.i64 v, AV.err v_1]) [])
  | _, _ => none
theorem con_eq (f : Ty) (R : Type) (κ : AV → List Blk → Option R) (x1 : Int) (leaves2 : Int) : con f R [AV.int IntKind.i64 x1, AV.int IntKind.i64 leaves2] [] κ = f R x1 leaves2 (fun v v_1 => κ (AV.tup [AV.int IntKind.i64 v, AV.err v_1]) []) := rfl
noncomputable def M (N : Nat) : Ty := fun R x1 leaves2 kr0 => m (Above.M N) (Below.M N) (R := R) N x1 leaves2 kr0
def gts : List (Nat × AV) := [(1, .err 1), (10, .err 11), (14, .err 15)]
theorem gok (N : Nat) : GOk (g (Above.M N) (Below.M N)) := giD_ok hm (by intro p hp; cases hp) (gtL_ok (by decide)) (ovL_ok (by
    intro p hp
    simp only [List.mem_cons, List.not_mem_nil, or_false] at hp
    rcases hp with rfl | rfl
    · exact ⟨(Above.ok N).gt (gtL_sub (by repeat (first | exact subG_nil _ | refine subG_cons (by kernel_rfl) ?_))) (gtL_ok (by decide)), _, Tryd.func41, by kernel_rfl, by kernel_rfl⟩
    · exact ⟨(Below.ok N).gt (gtL_sub (by repeat (first | exact subG_nil _ | refine subG_cons (by kernel_rfl) ?_))) (gtL_ok (by decide)), _, Tryd.func51, by kernel_rfl, by kernel_rfl⟩
)) 1
theorem ok (N : Nat) : SoundC Tryd.prog (gtL gts) 42 (con (M N)) := by
  refine SoundC.mono (evF_ok (gok N) hm an N Tryd.func42) fun R args bs κ r h => ?_
  unfold con at h
  split at h
  · exact (eq (Above.M N) (Below.M N) N κ _ _).trans h
  · cases h
end Beside


/-! ### Tryd.f37: Way -/
namespace Way
def an : Anns := ⟨fun i => findA i [(3, ⟨[1, 5, 6, 7], [⟨5, 0, .i64⟩], 1⟩)], fun i => findA i [], false⟩
noncomputable def g (mAbove : Above.Ty) : Gi := giD Tryd.prog (gtL [(1, .err 1), (14, .err 15)]) (fun _ => an) 0 [] (ovL [(41, Above.con mAbove)]) 1
noncomputable def c_L3 : Code := loopOf Tryd.f37 0
def s_L3 (leaves1 : Int) (up6 : Int) (err7 : Nat) (h0 : Bool) (h0_4 : List Int) : St := ⟨[AV.dead, AV.int IntKind.i64 leaves1, AV.dead, AV.dead, AV.dead, AV.own 0 [] 0 none, AV.int IntKind.i64 up6, AV.err err7] ++ List.replicate 19 .dead, [Blk.row IntKind.i64 h0 h0_4]⟩
def x_L3_0 (leaves1 : Int) (up6 : Int) (err7 : Nat) (h0 : Bool) (h0_4 : List Int) : St := ⟨[AV.dead, AV.int IntKind.i64 leaves1, AV.dead, AV.dead, AV.dead, AV.own 0 [] 0 none, AV.int IntKind.i64 up6, AV.err err7] ++ List.replicate 6 .dead ++ [AV.err err7, AV.bool (err7.beq 0)] ++ List.replicate 11 .dead, [Blk.row IntKind.i64 h0 h0_4]⟩
noncomputable def L3 (mAbove : Above.Ty) {R : Type} (N : Nat) (ke0 : Int → Int → Nat → Bool → (List Int) → Option R) : Nat → Int → Int → Nat → Bool → (List Int) → Option R
  | 0, _, _, _, _, _ => none
  | m + 1, leaves1, up6, err7, h0, h0_4 =>
    cond (err7.beq 0)
     (cond (decide ((h0_4.length + 1) * 8 ≤ 140737488355328))
      (cond (decide (h0_4.length + 1 ≤ 140737488355328))
       (mAbove R up6 leaves1
        (fun v_c19 v_1_c20 => L3 mAbove N ke0 m leaves1 v_c19 v_1_c20 false (h0_4 ++ [up6])))
       (none))
      (none))
     (ke0 leaves1 up6 err7 h0 h0_4)
theorem round_L3 (mAbove : Above.Ty) {R : Type} (N : Nat) (Rn : St → Option R) (k : K R) (leaves1 : Int) (up6 : Int) (err7 : Nat) (h0 : Bool) (h0_4 : List Int) : evC (g mAbove) an 0 N c_L3 none (roundK (nmOf 0 (an.loop 3)) Rn k) (s_L3 leaves1 up6 err7 h0 h0_4) =
  cond (err7.beq 0)
   (cond (decide ((h0_4.length + 1) * 8 ≤ 140737488355328))
    (cond (decide (h0_4.length + 1 ≤ 140737488355328))
     (mAbove R up6 leaves1
      (fun v_c19 v_1_c20 => Rn (s_L3 leaves1 v_c19 v_1_c20 false (h0_4 ++ [up6]))))
     (none))
    (none))
   (k.ext 0 (x_L3_0 leaves1 up6 err7 h0 h0_4)) := by kernel_rfl
theorem run_L3 (mAbove : Above.Ty) {R : Type} (N : Nat) (k : K R) : ∀ (m : Nat) (leaves1 : Int) (up6 : Int) (err7 : Nat) (h0 : Bool) (h0_4 : List Int), loopN (evC (g mAbove) an 0 N c_L3 none) k (nmOf 0 (an.loop 3)) m (s_L3 leaves1 up6 err7 h0 h0_4) =
    L3 mAbove N (fun leaves1 up6 err7 h0 h0_4 => (k).ext 0 (x_L3_0 leaves1 up6 err7 h0 h0_4)) m leaves1 up6 err7 h0 h0_4 := by
  intro m
  induction m with
  | zero => intros; rfl
  | succ m ih =>
    intros
    rw [loopN_succ, round_L3]
    simp only [ih]
    kernel_rfl
noncomputable def m (mAbove : Above.Ty) {R : Type} (N : Nat) (x1 : Int) (leaves2 : Int) (kr0 : (List Int) → Option R) : Option R :=
  mAbove R x1 leaves2
   (fun v_c17 v_1_c18 => L3 mAbove N
    (fun _leaves1_c21 _up6_c22 _err7_c23 _h0_c24 h0_4_c25 => kr0 h0_4_c25) N leaves2 v_c17 v_1_c18 true [])
theorem tree (mAbove : Above.Ty) {R : Type} (N : Nat) (κ : AV → List Blk → Option R) (x1 : Int) (leaves2 : Int) : evF (g mAbove) an N Tryd.f37 [AV.int IntKind.i64 x1, AV.int IntKind.i64 leaves2] [] κ =
  mAbove R x1 leaves2
   (fun v_c17 v_1_c18 => loopN (evC (g mAbove) an 0 N c_L3 none) (ctx (g mAbove) an 0 N (bodyOf Tryd.f37) [1, 1, 0, 1, 0] (endK (g mAbove) an Tryd.f37 [] κ)) (nmOf 0 (an.loop 3)) N (s_L3 leaves2 v_c17 v_1_c18 true [])) := by kernel_rfl
theorem eq (mAbove : Above.Ty) {R : Type} (N : Nat) (κ : AV → List Blk → Option R) (x1 : Int) (leaves2 : Int) : evF (g mAbove) an N Tryd.f37 [AV.int IntKind.i64 x1, AV.int IntKind.i64 leaves2] [] κ =
  m mAbove N x1 leaves2 (fun v => κ (AV.isl IntKind.i64 none v) []) := by
  rw [tree]
  simp only [run_L3]
  kernel_rfl
abbrev Ty : Type 1 := ∀ R : Type, Int → Int → ((List Int) → Option R) → Option R
def con (f : Ty) : Con := fun R args bs κ => match args, bs with
  | [AV.int IntKind.i64 x1, AV.int IntKind.i64 leaves2], [] => f R x1 leaves2 (fun v => κ (AV.isl IntKind.i64 none v) [])
  | _, _ => none
theorem con_eq (f : Ty) (R : Type) (κ : AV → List Blk → Option R) (x1 : Int) (leaves2 : Int) : con f R [AV.int IntKind.i64 x1, AV.int IntKind.i64 leaves2] [] κ = f R x1 leaves2 (fun v => κ (AV.isl IntKind.i64 none v) []) := rfl
noncomputable def M (N : Nat) : Ty := fun R x1 leaves2 kr0 => m (Above.M N) (R := R) N x1 leaves2 kr0
def gts : List (Nat × AV) := [(1, .err 1), (14, .err 15)]
theorem gok (N : Nat) : GOk (g (Above.M N)) := giD_ok hm (by intro p hp; cases hp) (gtL_ok (by decide)) (ovL_ok (by
    intro p hp
    simp only [List.mem_cons, List.not_mem_nil, or_false] at hp
    rcases hp with rfl
    · exact ⟨(Above.ok N).gt (gtL_sub (by repeat (first | exact subG_nil _ | refine subG_cons (by kernel_rfl) ?_))) (gtL_ok (by decide)), _, Tryd.func41, by kernel_rfl, by kernel_rfl⟩
)) 1
theorem ok (N : Nat) : SoundC Tryd.prog (gtL gts) 37 (con (M N)) := by
  refine SoundC.mono (evF_ok (gok N) hm an N Tryd.func37) fun R args bs κ r h => ?_
  unfold con at h
  split at h
  · exact (eq (Above.M N) N κ _ _).trans h
  · cases h
end Way


/-! ### Tryd.f35: Coway -/
namespace Coway
def an : Anns := ⟨fun i => findA i [(3, ⟨[1, 5, 15, 16, 17], [⟨15, 0, .i64⟩, ⟨5, 1, .i64⟩], 2⟩)], fun i => findA i [], false⟩
noncomputable def g (mWay : Way.Ty) (mBeside : Beside.Ty) : Gi := giD Tryd.prog (gtL [(1, .err 1), (10, .err 11), (14, .err 15)]) (fun _ => an) 0 [] (ovL [(37, Way.con mWay), (42, Beside.con mBeside)]) 1
noncomputable def c_L3 : Code := loopOf Tryd.f35 0
def s_L3 (leaves1 : Int) (t16 : Int) (t17 : Int) (h0 : Bool) (h0_4 : List Int) (h1 : Bool) (h1_6 : List Int) : St := ⟨[AV.dead, AV.int IntKind.i64 leaves1, AV.dead, AV.dead, AV.dead, AV.own 1 [] 0 none] ++ List.replicate 9 .dead ++ [AV.own 0 [] 0 none, AV.int IntKind.i64 t16, AV.int IntKind.i64 t17] ++ List.replicate 17 .dead, [Blk.row IntKind.i64 h0 h0_4, Blk.row IntKind.i64 h1 h1_6]⟩
def x_L3_0 (leaves1 : Int) (t16 : Int) (t17 : Int) (h0 : Bool) (h0_4 : List Int) (h1 : Bool) (h1_6 : List Int) : St := ⟨[AV.dead, AV.int IntKind.i64 leaves1, AV.dead, AV.dead, AV.dead, AV.own 1 [] 0 none] ++ List.replicate 9 .dead ++ [AV.own 0 [] 0 none, AV.int IntKind.i64 t16, AV.int IntKind.i64 t17, AV.bool (decide (t17 < t16))] ++ List.replicate 16 .dead, [Blk.row IntKind.i64 h0 h0_4, Blk.row IntKind.i64 h1 h1_6]⟩
noncomputable def L3 (mWay : Way.Ty) (mBeside : Beside.Ty) {R : Type} (N : Nat) (ke0 : Int → Int → Int → Bool → (List Int) → Bool → (List Int) → Option R) : Nat → Int → Int → Int → Bool → (List Int) → Bool → (List Int) → Option R
  | 0, _, _, _, _, _, _, _ => none
  | m + 1, leaves1, t16, t17, h0, h0_4, h1, h1_6 =>
    cond (decide (t17 < t16))
     (cond (decide (0 ≤ t17))
      (cond (decide (t17 < (↑(olen none h0_4.length 0) : Int)))
       (mBeside R (h0_4.getD (0 + t17.toNat) 0) leaves1
        (fun v_c17 v_1_c18 => cond (v_1_c18.beq 0)
         (cond (decide ((h1_6.length + 1) * 8 ≤ 140737488355328))
          (cond (decide (h1_6.length + 1 ≤ 140737488355328))
           (L3 mWay mBeside N ke0 m leaves1 t16 (IntKind.i64.wrap (t17 + 1)) h0 h0_4 false (h1_6 ++ [v_c17]))
           (none))
          (none))
         (L3 mWay mBeside N ke0 m leaves1 t16 (IntKind.i64.wrap (t17 + 1)) h0 h0_4 h1 h1_6)))
       (none))
      (none))
     (ke0 leaves1 t16 t17 h0 h0_4 h1 h1_6)
theorem round_L3 (mWay : Way.Ty) (mBeside : Beside.Ty) {R : Type} (N : Nat) (Rn : St → Option R) (k : K R) (leaves1 : Int) (t16 : Int) (t17 : Int) (h0 : Bool) (h0_4 : List Int) (h1 : Bool) (h1_6 : List Int) : evC (g mWay mBeside) an 0 N c_L3 none (roundK (nmOf 0 (an.loop 3)) Rn k) (s_L3 leaves1 t16 t17 h0 h0_4 h1 h1_6) =
  cond (decide (t17 < t16))
   (cond (decide (0 ≤ t17))
    (cond (decide (t17 < (↑(olen none h0_4.length 0) : Int)))
     (mBeside R (h0_4.getD (0 + t17.toNat) 0) leaves1
      (fun v_c17 v_1_c18 => cond (v_1_c18.beq 0)
       (cond (decide ((h1_6.length + 1) * 8 ≤ 140737488355328))
        (cond (decide (h1_6.length + 1 ≤ 140737488355328))
         (Rn (s_L3 leaves1 t16 (IntKind.i64.wrap (t17 + 1)) h0 h0_4 false (h1_6 ++ [v_c17])))
         (none))
        (none))
       (Rn (s_L3 leaves1 t16 (IntKind.i64.wrap (t17 + 1)) h0 h0_4 h1 h1_6))))
     (none))
    (none))
   (k.ext 0 (x_L3_0 leaves1 t16 t17 h0 h0_4 h1 h1_6)) := by kernel_rfl
theorem run_L3 (mWay : Way.Ty) (mBeside : Beside.Ty) {R : Type} (N : Nat) (k : K R) : ∀ (m : Nat) (leaves1 : Int) (t16 : Int) (t17 : Int) (h0 : Bool) (h0_4 : List Int) (h1 : Bool) (h1_6 : List Int), loopN (evC (g mWay mBeside) an 0 N c_L3 none) k (nmOf 0 (an.loop 3)) m (s_L3 leaves1 t16 t17 h0 h0_4 h1 h1_6) =
    L3 mWay mBeside N (fun leaves1 t16 t17 h0 h0_4 h1 h1_6 => (k).ext 0 (x_L3_0 leaves1 t16 t17 h0 h0_4 h1 h1_6)) m leaves1 t16 t17 h0 h0_4 h1 h1_6 := by
  intro m
  induction m with
  | zero => intros; rfl
  | succ m ih =>
    intros
    rw [loopN_succ, round_L3]
    simp only [ih]
    kernel_rfl
noncomputable def m (mWay : Way.Ty) (mBeside : Beside.Ty) {R : Type} (N : Nat) (x1 : Int) (leaves2 : Int) (kr0 : (List Int) → Option R) : Option R :=
  mWay R x1 leaves2
   (fun v_c16 => cond (decide ((1 + v_c16.length) * 8 ≤ 140737488355328))
    (cond (decide (1 + v_c16.length ≤ 140737488355328))
     (L3 mWay mBeside N
      (fun _leaves1_c19 _t16_c20 _t17_c21 _h0_c22 _h0_4_c23 _h1_c24 h1_6_c25 => kr0 h1_6_c25) N leaves2 ((↑(olen none ([x1] ++ v_c16).length 0) : Int)) 0 (v_c16.isEmpty && false) ([x1] ++ v_c16) true [])
     (none))
    (none))
theorem tree (mWay : Way.Ty) (mBeside : Beside.Ty) {R : Type} (N : Nat) (κ : AV → List Blk → Option R) (x1 : Int) (leaves2 : Int) : evF (g mWay mBeside) an N Tryd.f35 [AV.int IntKind.i64 x1, AV.int IntKind.i64 leaves2] [] κ =
  mWay R x1 leaves2
   (fun v_c16 => cond (decide ((1 + v_c16.length) * 8 ≤ 140737488355328))
    (cond (decide (1 + v_c16.length ≤ 140737488355328))
     (loopN (evC (g mWay mBeside) an 0 N c_L3 none) (ctx (g mWay mBeside) an 0 N (bodyOf Tryd.f35) [1, 1, 0, 1, 0] (endK (g mWay mBeside) an Tryd.f35 [] κ)) (nmOf 0 (an.loop 3)) N (s_L3 leaves2 ((↑(olen none ([x1] ++ v_c16).length 0) : Int)) 0 (v_c16.isEmpty && false) ([x1] ++ v_c16) true []))
     (none))
    (none)) := by kernel_rfl
theorem eq (mWay : Way.Ty) (mBeside : Beside.Ty) {R : Type} (N : Nat) (κ : AV → List Blk → Option R) (x1 : Int) (leaves2 : Int) : evF (g mWay mBeside) an N Tryd.f35 [AV.int IntKind.i64 x1, AV.int IntKind.i64 leaves2] [] κ =
  m mWay mBeside N x1 leaves2 (fun v => κ (AV.isl IntKind.i64 none v) []) := by
  rw [tree]
  simp only [run_L3]
  kernel_rfl
abbrev Ty : Type 1 := ∀ R : Type, Int → Int → ((List Int) → Option R) → Option R
def con (f : Ty) : Con := fun R args bs κ => match args, bs with
  | [AV.int IntKind.i64 x1, AV.int IntKind.i64 leaves2], [] => f R x1 leaves2 (fun v => κ (AV.isl IntKind.i64 none v) [])
  | _, _ => none
theorem con_eq (f : Ty) (R : Type) (κ : AV → List Blk → Option R) (x1 : Int) (leaves2 : Int) : con f R [AV.int IntKind.i64 x1, AV.int IntKind.i64 leaves2] [] κ = f R x1 leaves2 (fun v => κ (AV.isl IntKind.i64 none v) []) := rfl
noncomputable def M (N : Nat) : Ty := fun R x1 leaves2 kr0 => m (Way.M N) (Beside.M N) (R := R) N x1 leaves2 kr0
def gts : List (Nat × AV) := [(1, .err 1), (10, .err 11), (14, .err 15)]
theorem gok (N : Nat) : GOk (g (Way.M N) (Beside.M N)) := giD_ok hm (by intro p hp; cases hp) (gtL_ok (by decide)) (ovL_ok (by
    intro p hp
    simp only [List.mem_cons, List.not_mem_nil, or_false] at hp
    rcases hp with rfl | rfl
    · exact ⟨(Way.ok N).gt (gtL_sub (by repeat (first | exact subG_nil _ | refine subG_cons (by kernel_rfl) ?_))) (gtL_ok (by decide)), _, Tryd.func37, by kernel_rfl, by kernel_rfl⟩
    · exact ⟨(Beside.ok N).gt (gtL_sub (by repeat (first | exact subG_nil _ | refine subG_cons (by kernel_rfl) ?_))) (gtL_ok (by decide)), _, Tryd.func42, by kernel_rfl, by kernel_rfl⟩
)) 1
theorem ok (N : Nat) : SoundC Tryd.prog (gtL gts) 35 (con (M N)) := by
  refine SoundC.mono (evF_ok (gok N) hm an N Tryd.func35) fun R args bs κ r h => ?_
  unfold con at h
  split at h
  · exact (eq (Way.M N) (Beside.M N) N κ _ _).trans h
  · cases h
end Coway


/-! ### Tryd.f40: Under -/
namespace Under
def an : Anns := ⟨fun i => findA i [], fun i => findA i [], false⟩
noncomputable def g (misP : isP.Ty) (mLevel : Level.Ty) : Gi := giD Tryd.prog (gtL []) (fun _ => an) 0 [] (ovL [(61, isP.con misP), (38, Level.con mLevel)]) 1
noncomputable def m (misP : isP.Ty) (mLevel : Level.Ty) {R : Type} (_N : Nat) (x1 : Int) (y2 : Int) (kr0 : Bool → Option R) : Option R :=
  misP R x1
   (fun v_c6 => cond (!v_c6)
    (kr0 false)
    (misP R y2
     (fun v_c7 => cond (!v_c7)
      (kr0 false)
      (mLevel R x1
       (fun v_c8 => cond (true && decide (v_c8 < 0))
        (none)
        (mLevel R y2
         (fun v_c9 => mLevel R x1
          (fun v_c10 => cond (decide (v_c9 ≤ v_c10))
           (cond (decide (y2 ≥ IntKind.i64.wrap (x1 - IntKind.i64.wrap (ishl IntKind.i64 1 v_c8 - 1))))
            (kr0 (decide (y2 ≤ IntKind.i64.wrap (x1 + IntKind.i64.wrap (ishl IntKind.i64 1 v_c8 - 1)))))
            (kr0 false))
           (kr0 false)))))))))
theorem tree (misP : isP.Ty) (mLevel : Level.Ty) {R : Type} (N : Nat) (κ : AV → List Blk → Option R) (x1 : Int) (y2 : Int) : evF (g misP mLevel) an N Tryd.f40 [AV.int IntKind.i64 x1, AV.int IntKind.i64 y2] [] κ =
  misP R x1
   (fun v_c6 => cond (!v_c6)
    (κ (AV.bool false) [])
    (misP R y2
     (fun v_c7 => cond (!v_c7)
      (κ (AV.bool false) [])
      (mLevel R x1
       (fun v_c8 => cond (true && decide (v_c8 < 0))
        (none)
        (mLevel R y2
         (fun v_c9 => mLevel R x1
          (fun v_c10 => cond (decide (v_c9 ≤ v_c10))
           (cond (decide (y2 ≥ IntKind.i64.wrap (x1 - IntKind.i64.wrap (ishl IntKind.i64 1 v_c8 - 1))))
            (κ (AV.bool (decide (y2 ≤ IntKind.i64.wrap (x1 + IntKind.i64.wrap (ishl IntKind.i64 1 v_c8 - 1))))) [])
            (κ (AV.bool false) []))
           (κ (AV.bool false) []))))))))) := by kernel_rfl
theorem eq (misP : isP.Ty) (mLevel : Level.Ty) {R : Type} (N : Nat) (κ : AV → List Blk → Option R) (x1 : Int) (y2 : Int) : evF (g misP mLevel) an N Tryd.f40 [AV.int IntKind.i64 x1, AV.int IntKind.i64 y2] [] κ =
  m misP mLevel N x1 y2 (fun v => κ (AV.bool v) []) := by
  rw [tree]
  kernel_rfl
abbrev Ty : Type 1 := ∀ R : Type, Int → Int → (Bool → Option R) → Option R
def con (f : Ty) : Con := fun R args bs κ => match args, bs with
  | [AV.int IntKind.i64 x1, AV.int IntKind.i64 y2], [] => f R x1 y2 (fun v => κ (AV.bool v) [])
  | _, _ => none
theorem con_eq (f : Ty) (R : Type) (κ : AV → List Blk → Option R) (x1 : Int) (y2 : Int) : con f R [AV.int IntKind.i64 x1, AV.int IntKind.i64 y2] [] κ = f R x1 y2 (fun v => κ (AV.bool v) []) := rfl
noncomputable def M (N : Nat) : Ty := fun R x1 y2 kr0 => m (isP.M N) (Level.M N) (R := R) N x1 y2 kr0
def gts : List (Nat × AV) := []
theorem gok (N : Nat) : GOk (g (isP.M N) (Level.M N)) := giD_ok hm (by intro p hp; cases hp) (gtL_ok (by decide)) (ovL_ok (by
    intro p hp
    simp only [List.mem_cons, List.not_mem_nil, or_false] at hp
    rcases hp with rfl | rfl
    · exact ⟨(isP.ok N).gt (gtL_sub (by repeat (first | exact subG_nil _ | refine subG_cons (by kernel_rfl) ?_))) (gtL_ok (by decide)), _, Tryd.func61, by kernel_rfl, by kernel_rfl⟩
    · exact ⟨(Level.ok N).gt (gtL_sub (by repeat (first | exact subG_nil _ | refine subG_cons (by kernel_rfl) ?_))) (gtL_ok (by decide)), _, Tryd.func38, by kernel_rfl, by kernel_rfl⟩
)) 1
theorem ok (N : Nat) : SoundC Tryd.prog (gtL gts) 40 (con (M N)) := by
  refine SoundC.mono (evF_ok (gok N) hm an N Tryd.func40) fun R args bs κ r h => ?_
  unfold con at h
  split at h
  · exact (eq (isP.M N) (Level.M N) N κ _ _).trans h
  · cases h
end Under


/-! ### Tryd.f36: Leaves -/
namespace Leaves
def an : Anns := ⟨fun i => findA i [(6, ⟨[0, 3, 4, 5], [⟨3, 0, .i64⟩], 1⟩)], fun i => findA i [], false⟩
noncomputable def g (misP : isP.Ty) (mLevel : Level.Ty) : Gi := giD Tryd.prog (gtL []) (fun _ => an) 0 [] (ovL [(61, isP.con misP), (38, Level.con mLevel)]) 1
noncomputable def c_L6 : Code := loopOf Tryd.f36 0
def s_L6 (x0 : Int) (half4 : Int) (at5 : Int) (h0 : Bool) (h0_4 : List Int) : St := ⟨[AV.int IntKind.i64 x0, AV.dead, AV.dead, AV.own 0 [] 0 none, AV.int IntKind.i64 half4, AV.int IntKind.i64 at5] ++ List.replicate 23 .dead, [Blk.row IntKind.i64 h0 h0_4]⟩
def x_L6_0 (x0 : Int) (half4 : Int) (at5 : Int) (h0 : Bool) (h0_4 : List Int) : St := ⟨[AV.int IntKind.i64 x0, AV.dead, AV.dead, AV.own 0 [] 0 none, AV.int IntKind.i64 half4, AV.int IntKind.i64 at5] ++ List.replicate 10 .dead ++ [AV.int IntKind.i64 at5, AV.int IntKind.i64 x0, AV.int IntKind.i64 half4, AV.int IntKind.i64 (IntKind.i64.wrap (x0 + half4)), AV.bool (decide (at5 ≤ IntKind.i64.wrap (x0 + half4)))] ++ List.replicate 8 .dead, [Blk.row IntKind.i64 h0 h0_4]⟩
noncomputable def L6 (misP : isP.Ty) (mLevel : Level.Ty) {R : Type} (N : Nat) (ke0 : Int → Int → Int → Bool → (List Int) → Option R) : Nat → Int → Int → Int → Bool → (List Int) → Option R
  | 0, _, _, _, _, _ => none
  | m + 1, x0, half4, at5, h0, h0_4 =>
    cond (decide (at5 ≤ IntKind.i64.wrap (x0 + half4)))
     (cond (decide ((h0_4.length + 1) * 8 ≤ 140737488355328))
      (cond (decide (h0_4.length + 1 ≤ 140737488355328))
       (L6 misP mLevel N ke0 m x0 half4 (IntKind.i64.wrap (at5 + 2)) false (h0_4 ++ [IntKind.i64.wrap (at5.tdiv 2)]))
       (none))
      (none))
     (ke0 x0 half4 at5 h0 h0_4)
theorem round_L6 (misP : isP.Ty) (mLevel : Level.Ty) {R : Type} (N : Nat) (Rn : St → Option R) (k : K R) (x0 : Int) (half4 : Int) (at5 : Int) (h0 : Bool) (h0_4 : List Int) : evC (g misP mLevel) an 0 N c_L6 none (roundK (nmOf 0 (an.loop 6)) Rn k) (s_L6 x0 half4 at5 h0 h0_4) =
  cond (decide (at5 ≤ IntKind.i64.wrap (x0 + half4)))
   (cond (decide ((h0_4.length + 1) * 8 ≤ 140737488355328))
    (cond (decide (h0_4.length + 1 ≤ 140737488355328))
     (Rn (s_L6 x0 half4 (IntKind.i64.wrap (at5 + 2)) false (h0_4 ++ [IntKind.i64.wrap (at5.tdiv 2)])))
     (none))
    (none))
   (k.ext 0 (x_L6_0 x0 half4 at5 h0 h0_4)) := by kernel_rfl
theorem run_L6 (misP : isP.Ty) (mLevel : Level.Ty) {R : Type} (N : Nat) (k : K R) : ∀ (m : Nat) (x0 : Int) (half4 : Int) (at5 : Int) (h0 : Bool) (h0_4 : List Int), loopN (evC (g misP mLevel) an 0 N c_L6 none) k (nmOf 0 (an.loop 6)) m (s_L6 x0 half4 at5 h0 h0_4) =
    L6 misP mLevel N (fun x0 half4 at5 h0 h0_4 => (k).ext 0 (x_L6_0 x0 half4 at5 h0 h0_4)) m x0 half4 at5 h0 h0_4 := by
  intro m
  induction m with
  | zero => intros; rfl
  | succ m ih =>
    intros
    rw [loopN_succ, round_L6]
    simp only [ih]
    kernel_rfl
noncomputable def m (misP : isP.Ty) (mLevel : Level.Ty) {R : Type} (N : Nat) (x1 : Int) (kr0 : (Option Bool) → (List Int) → Option R) : Option R :=
  misP R x1
   (fun v_c12 => cond (!v_c12)
    (kr0 (some true) [])
    (mLevel R x1
     (fun v_c13 => cond (true && decide (v_c13 < 0))
      (none)
      (L6 misP mLevel N
       (fun _x0_c14 _half4_c15 _at5_c16 _h0_c17 h0_4_c18 => kr0 none h0_4_c18) N x1 (IntKind.i64.wrap (ishl IntKind.i64 1 v_c13 - 1)) (IntKind.i64.wrap (x1 - IntKind.i64.wrap (ishl IntKind.i64 1 v_c13 - 1))) true []))))
theorem tree (misP : isP.Ty) (mLevel : Level.Ty) {R : Type} (N : Nat) (κ : AV → List Blk → Option R) (x1 : Int) : evF (g misP mLevel) an N Tryd.f36 [AV.int IntKind.i64 x1] [] κ =
  misP R x1
   (fun v_c12 => cond (!v_c12)
    (κ (AV.isl IntKind.i64 (some true) []) [])
    (mLevel R x1
     (fun v_c13 => cond (true && decide (v_c13 < 0))
      (none)
      (loopN (evC (g misP mLevel) an 0 N c_L6 none) (ctx (g misP mLevel) an 0 N (bodyOf Tryd.f36) [1, 1, 1, 1, 0, 1, 0] (endK (g misP mLevel) an Tryd.f36 [] κ)) (nmOf 0 (an.loop 6)) N (s_L6 x1 (IntKind.i64.wrap (ishl IntKind.i64 1 v_c13 - 1)) (IntKind.i64.wrap (x1 - IntKind.i64.wrap (ishl IntKind.i64 1 v_c13 - 1))) true []))))) := by kernel_rfl
theorem eq (misP : isP.Ty) (mLevel : Level.Ty) {R : Type} (N : Nat) (κ : AV → List Blk → Option R) (x1 : Int) : evF (g misP mLevel) an N Tryd.f36 [AV.int IntKind.i64 x1] [] κ =
  m misP mLevel N x1 (fun v v_1 => κ (AV.isl IntKind.i64 v v_1) []) := by
  rw [tree]
  simp only [run_L6]
  kernel_rfl
abbrev Ty : Type 1 := ∀ R : Type, Int → ((Option Bool) → (List Int) → Option R) → Option R
def con (f : Ty) : Con := fun R args bs κ => match args, bs with
  | [AV.int IntKind.i64 x1], [] => f R x1 (fun v v_1 => κ (AV.isl IntKind.i64 v v_1) [])
  | _, _ => none
theorem con_eq (f : Ty) (R : Type) (κ : AV → List Blk → Option R) (x1 : Int) : con f R [AV.int IntKind.i64 x1] [] κ = f R x1 (fun v v_1 => κ (AV.isl IntKind.i64 v v_1) []) := rfl
noncomputable def M (N : Nat) : Ty := fun R x1 kr0 => m (isP.M N) (Level.M N) (R := R) N x1 kr0
def gts : List (Nat × AV) := []
theorem gok (N : Nat) : GOk (g (isP.M N) (Level.M N)) := giD_ok hm (by intro p hp; cases hp) (gtL_ok (by decide)) (ovL_ok (by
    intro p hp
    simp only [List.mem_cons, List.not_mem_nil, or_false] at hp
    rcases hp with rfl | rfl
    · exact ⟨(isP.ok N).gt (gtL_sub (by repeat (first | exact subG_nil _ | refine subG_cons (by kernel_rfl) ?_))) (gtL_ok (by decide)), _, Tryd.func61, by kernel_rfl, by kernel_rfl⟩
    · exact ⟨(Level.ok N).gt (gtL_sub (by repeat (first | exact subG_nil _ | refine subG_cons (by kernel_rfl) ?_))) (gtL_ok (by decide)), _, Tryd.func38, by kernel_rfl, by kernel_rfl⟩
)) 1
theorem ok (N : Nat) : SoundC Tryd.prog (gtL gts) 36 (con (M N)) := by
  refine SoundC.mono (evF_ok (gok N) hm an N Tryd.func36) fun R args bs κ r h => ?_
  unfold con at h
  split at h
  · exact (eq (isP.M N) (Level.M N) N κ _).trans h
  · cases h
end Leaves


/-! ### Tryd.f46: SameInts -/
namespace SameInts
def an : Anns := ⟨fun i => findA i [(4, ⟨[0, 1, 12, 13], [], 0⟩)], fun i => findA i [], false⟩
noncomputable def g : Gi := giD Tryd.prog (gtL []) (fun _ => an) 0 [] (ovL []) 1
noncomputable def c_L4 : Code := loopOf Tryd.f46 0
def s_L4 (a0 : Option Bool) (a0_1 : List Int) (b1 : Option Bool) (b1_3 : List Int) (t12 : Int) (t13 : Int) : St := ⟨[AV.isl IntKind.i64 a0 a0_1, AV.isl IntKind.i64 b1 b1_3] ++ List.replicate 10 .dead ++ [AV.int IntKind.i64 t12, AV.int IntKind.i64 t13] ++ List.replicate 12 .dead, []⟩
def x_L4_0 (a0 : Option Bool) (a0_1 : List Int) (b1 : Option Bool) (b1_3 : List Int) (t12 : Int) (t13 : Int) : St := ⟨[AV.isl IntKind.i64 a0 a0_1, AV.isl IntKind.i64 b1 b1_3, AV.dead, AV.dead, AV.bool false, AV.int IntKind.i64 t13] ++ List.replicate 6 .dead ++ [AV.int IntKind.i64 t12, AV.int IntKind.i64 t13, AV.bool (decide (t13 < t12)), AV.int IntKind.i64 t13, AV.isl IntKind.i64 a0 a0_1, AV.int IntKind.i64 t13, AV.rpi IntKind.i64 (a0_1.getD t13.toNat 0), AV.int IntKind.i64 (a0_1.getD t13.toNat 0), AV.isl IntKind.i64 b1 b1_3, AV.int IntKind.i64 t13, AV.rpi IntKind.i64 (b1_3.getD t13.toNat 0), AV.int IntKind.i64 (b1_3.getD t13.toNat 0), AV.bool (a0_1.getD t13.toNat 0 != b1_3.getD t13.toNat 0), AV.dead], []⟩
def x_L4_1 (a0 : Option Bool) (a0_1 : List Int) (b1 : Option Bool) (b1_3 : List Int) (t12 : Int) (t13 : Int) : St := ⟨[AV.isl IntKind.i64 a0 a0_1, AV.isl IntKind.i64 b1 b1_3] ++ List.replicate 10 .dead ++ [AV.int IntKind.i64 t12, AV.int IntKind.i64 t13, AV.bool (decide (t13 < t12))] ++ List.replicate 11 .dead, []⟩
noncomputable def L4 {R : Type} (N : Nat) (ke0 : (Option Bool) → (List Int) → (Option Bool) → (List Int) → Int → Int → Option R) (ke1 : (Option Bool) → (List Int) → (Option Bool) → (List Int) → Int → Int → Option R) : Nat → (Option Bool) → (List Int) → (Option Bool) → (List Int) → Int → Int → Option R
  | 0, _, _, _, _, _, _ => none
  | m + 1, a0, a0_1, b1, b1_3, t12, t13 =>
    cond (decide (t13 < t12))
     (cond (decide (0 ≤ t13))
      (cond (decide (t13 < (↑a0_1.length : Int)))
       (cond (decide (0 ≤ t13))
        (cond (decide (t13 < (↑b1_3.length : Int)))
         (cond (a0_1.getD t13.toNat 0 != b1_3.getD t13.toNat 0)
          (ke0 a0 a0_1 b1 b1_3 t12 t13)
          (L4 N ke0 ke1 m a0 a0_1 b1 b1_3 t12 (IntKind.i64.wrap (t13 + 1))))
         (none))
        (none))
       (none))
      (none))
     (ke1 a0 a0_1 b1 b1_3 t12 t13)
theorem round_L4 {R : Type} (N : Nat) (Rn : St → Option R) (k : K R) (a0 : Option Bool) (a0_1 : List Int) (b1 : Option Bool) (b1_3 : List Int) (t12 : Int) (t13 : Int) : evC (g) an 0 N c_L4 none (roundK (nmOf 0 (an.loop 4)) Rn k) (s_L4 a0 a0_1 b1 b1_3 t12 t13) =
  cond (decide (t13 < t12))
   (cond (decide (0 ≤ t13))
    (cond (decide (t13 < (↑a0_1.length : Int)))
     (cond (decide (0 ≤ t13))
      (cond (decide (t13 < (↑b1_3.length : Int)))
       (cond (a0_1.getD t13.toNat 0 != b1_3.getD t13.toNat 0)
        (k.ret (x_L4_0 a0 a0_1 b1 b1_3 t12 t13))
        (Rn (s_L4 a0 a0_1 b1 b1_3 t12 (IntKind.i64.wrap (t13 + 1)))))
       (none))
      (none))
     (none))
    (none))
   (k.ext 0 (x_L4_1 a0 a0_1 b1 b1_3 t12 t13)) := by kernel_rfl
theorem run_L4 {R : Type} (N : Nat) (k : K R) : ∀ (m : Nat) (a0 : Option Bool) (a0_1 : List Int) (b1 : Option Bool) (b1_3 : List Int) (t12 : Int) (t13 : Int), loopN (evC (g) an 0 N c_L4 none) k (nmOf 0 (an.loop 4)) m (s_L4 a0 a0_1 b1 b1_3 t12 t13) =
    L4 N (fun a0 a0_1 b1 b1_3 t12 t13 => (k).ret (x_L4_0 a0 a0_1 b1 b1_3 t12 t13)) (fun a0 a0_1 b1 b1_3 t12 t13 => (k).ext 0 (x_L4_1 a0 a0_1 b1 b1_3 t12 t13)) m a0 a0_1 b1 b1_3 t12 t13 := by
  intro m
  induction m with
  | zero => intros; rfl
  | succ m ih =>
    intros
    rw [loopN_succ, round_L4]
    simp only [ih]
    kernel_rfl
noncomputable def m {R : Type} (N : Nat) (aN1 : Option Bool) (a2 : List Int) (bN3 : Option Bool) (b4 : List Int) (kr0 : Bool → Option R) : Option R :=
  cond ((↑a2.length : Int) != (↑b4.length : Int))
   (kr0 false)
   (L4 N
    (fun _a0_c12 _a0_1_c13 _b1_c14 _b1_3_c15 _t12_c16 _t13_c17 => kr0 false)
    (fun _a0_c18 _a0_1_c19 _b1_c20 _b1_3_c21 _t12_c22 _t13_c23 => kr0 true) N aN1 a2 bN3 b4 ((↑a2.length : Int)) 0)
theorem tree {R : Type} (N : Nat) (κ : AV → List Blk → Option R) (aN1 : Option Bool) (a2 : List Int) (bN3 : Option Bool) (b4 : List Int) : evF (g) an N Tryd.f46 [AV.isl IntKind.i64 aN1 a2, AV.isl IntKind.i64 bN3 b4] [] κ =
  cond ((↑a2.length : Int) != (↑b4.length : Int))
   (κ (AV.bool false) [])
   (loopN (evC (g) an 0 N c_L4 none) (ctx (g) an 0 N (bodyOf Tryd.f46) [1, 1, 0, 1, 0] (endK (g) an Tryd.f46 [] κ)) (nmOf 0 (an.loop 4)) N (s_L4 aN1 a2 bN3 b4 ((↑a2.length : Int)) 0)) := by kernel_rfl
theorem eq {R : Type} (N : Nat) (κ : AV → List Blk → Option R) (aN1 : Option Bool) (a2 : List Int) (bN3 : Option Bool) (b4 : List Int) : evF (g) an N Tryd.f46 [AV.isl IntKind.i64 aN1 a2, AV.isl IntKind.i64 bN3 b4] [] κ =
  m N aN1 a2 bN3 b4 (fun v => κ (AV.bool v) []) := by
  rw [tree]
  simp only [run_L4]
  kernel_rfl
abbrev Ty : Type 1 := ∀ R : Type, (Option Bool) → (List Int) → (Option Bool) → (List Int) → (Bool → Option R) → Option R
def con (f : Ty) : Con := fun R args bs κ => match args, bs with
  | [AV.isl IntKind.i64 aN1 a2, AV.isl IntKind.i64 bN3 b4], [] => f R aN1 a2 bN3 b4 (fun v => κ (AV.bool v) [])
  | _, _ => none
theorem con_eq (f : Ty) (R : Type) (κ : AV → List Blk → Option R) (aN1 : Option Bool) (a2 : List Int) (bN3 : Option Bool) (b4 : List Int) : con f R [AV.isl IntKind.i64 aN1 a2, AV.isl IntKind.i64 bN3 b4] [] κ = f R aN1 a2 bN3 b4 (fun v => κ (AV.bool v) []) := rfl
noncomputable def M (N : Nat) : Ty := fun R aN1 a2 bN3 b4 kr0 => m (R := R) N aN1 a2 bN3 b4 kr0
def gts : List (Nat × AV) := []
theorem gok (_N : Nat) : GOk (g) := giD_ok hm (by intro p hp; cases hp) (gtL_ok (by decide)) (ovL_ok (by intro p hp; cases hp)) 1
theorem ok (N : Nat) : SoundC Tryd.prog (gtL gts) 46 (con (M N)) := by
  refine SoundC.mono (evF_ok (gok N) hm an N Tryd.func46) fun R args bs κ r h => ?_
  unfold con at h
  split at h
  · exact (eq N κ _ _ _ _).trans h
  · cases h
end SameInts


/-! ### Tryd.f34: alive17 -/
namespace alive17
def an : Anns := ⟨fun i => findA i [], fun i => findA i [], false⟩
noncomputable def g (mRoot : Root.Ty) (mWay : Way.Ty) (mSameInts : SameInts.Ty) (mCoway : Coway.Ty) : Gi := giD Tryd.prog (gtL [(1, .err 1), (10, .err 11), (14, .err 15)]) (fun _ => an) 0 [] (ovL [(39, Root.con mRoot), (37, Way.con mWay), (46, SameInts.con mSameInts), (35, Coway.con mCoway)]) 1
noncomputable def m (mRoot : Root.Ty) (mWay : Way.Ty) (mSameInts : SameInts.Ty) (mCoway : Coway.Ty) {R : Type} (_N : Nat) (kr0 : Bool → Option R) : Option R :=
  mRoot R 4
   (fun v_c5 => cond (v_c5 == 3)
    (mWay R 0 4
     (fun v_c6 => mSameInts R none v_c6 none ([1, 3])
      (fun v_c7 => cond v_c7
       (mCoway R 0 4
        (fun v_c8 => mSameInts R none v_c8 none ([2, 5])
         (fun v_c9 => kr0 v_c9)))
       (kr0 false))))
    (kr0 false))
theorem tree (mRoot : Root.Ty) (mWay : Way.Ty) (mSameInts : SameInts.Ty) (mCoway : Coway.Ty) {R : Type} (N : Nat) (κ : AV → List Blk → Option R) : evF (g mRoot mWay mSameInts mCoway) an N Tryd.f34 [] [] κ =
  mRoot R 4
   (fun v_c5 => cond (v_c5 == 3)
    (mWay R 0 4
     (fun v_c6 => mSameInts R none v_c6 none ([1, 3])
      (fun v_c7 => cond v_c7
       (mCoway R 0 4
        (fun v_c8 => mSameInts R none v_c8 none ([2, 5])
         (fun v_c9 => κ (AV.bool v_c9) [])))
       (κ (AV.bool false) []))))
    (κ (AV.bool false) [])) := by kernel_rfl
theorem eq (mRoot : Root.Ty) (mWay : Way.Ty) (mSameInts : SameInts.Ty) (mCoway : Coway.Ty) {R : Type} (N : Nat) (κ : AV → List Blk → Option R) : evF (g mRoot mWay mSameInts mCoway) an N Tryd.f34 [] [] κ =
  m mRoot mWay mSameInts mCoway N (fun v => κ (AV.bool v) []) := by
  rw [tree]
  kernel_rfl
abbrev Ty : Type 1 := ∀ R : Type, (Bool → Option R) → Option R
def con (f : Ty) : Con := fun R args bs κ => match args, bs with
  | [], [] => f R (fun v => κ (AV.bool v) [])
  | _, _ => none
theorem con_eq (f : Ty) (R : Type) (κ : AV → List Blk → Option R) : con f R [] [] κ = f R (fun v => κ (AV.bool v) []) := rfl
noncomputable def M (N : Nat) : Ty := fun R kr0 => m (Root.M N) (Way.M N) (SameInts.M N) (Coway.M N) (R := R) N kr0
def gts : List (Nat × AV) := [(1, .err 1), (10, .err 11), (14, .err 15)]
theorem gok (N : Nat) : GOk (g (Root.M N) (Way.M N) (SameInts.M N) (Coway.M N)) := giD_ok hm (by intro p hp; cases hp) (gtL_ok (by decide)) (ovL_ok (by
    intro p hp
    simp only [List.mem_cons, List.not_mem_nil, or_false] at hp
    rcases hp with rfl | rfl | rfl | rfl
    · exact ⟨(Root.ok N).gt (gtL_sub (by repeat (first | exact subG_nil _ | refine subG_cons (by kernel_rfl) ?_))) (gtL_ok (by decide)), _, Tryd.func39, by kernel_rfl, by kernel_rfl⟩
    · exact ⟨(Way.ok N).gt (gtL_sub (by repeat (first | exact subG_nil _ | refine subG_cons (by kernel_rfl) ?_))) (gtL_ok (by decide)), _, Tryd.func37, by kernel_rfl, by kernel_rfl⟩
    · exact ⟨(SameInts.ok N).gt (gtL_sub (by repeat (first | exact subG_nil _ | refine subG_cons (by kernel_rfl) ?_))) (gtL_ok (by decide)), _, Tryd.func46, by kernel_rfl, by kernel_rfl⟩
    · exact ⟨(Coway.ok N).gt (gtL_sub (by repeat (first | exact subG_nil _ | refine subG_cons (by kernel_rfl) ?_))) (gtL_ok (by decide)), _, Tryd.func35, by kernel_rfl, by kernel_rfl⟩
)) 1
theorem ok (N : Nat) : SoundC Tryd.prog (gtL gts) 34 (con (M N)) := by
  refine SoundC.mono (evF_ok (gok N) hm an N Tryd.func34) fun R args bs κ r h => ?_
  unfold con at h
  split at h
  · exact (eq (Root.M N) (Way.M N) (SameInts.M N) (Coway.M N) N κ).trans h
  · cases h
end alive17


/-! ### Tryd.f9: PlacesUnder -/
namespace PlacesUnder
def an : Anns := ⟨fun i => findA i [(9, ⟨[0, 7, 47, 48, 49], [], 0⟩)], fun i => findA i [], false⟩
noncomputable def g (malive17 : alive17.Ty) (mUnder : Under.Ty) (mLeaves : Leaves.Ty) : Gi := giD Tryd.prog (gtL [(1, .err 1), (10, .err 11), (14, .err 15)]) (fun _ => an) 0 [] (ovL [(34, alive17.con malive17), (40, Under.con mUnder), (36, Leaves.con mLeaves)]) 1
noncomputable def c_L9 : Code := loopOf Tryd.f9 0
def s_L9 (x0 : Int) (last7 : Int) (t47 : Option Bool) (t47_3 : List Int) (t48 : Int) (t49 : Int) : St := ⟨[AV.int IntKind.i64 x0] ++ List.replicate 6 .dead ++ [AV.int IntKind.i64 last7] ++ List.replicate 39 .dead ++ [AV.isl IntKind.i64 t47 t47_3, AV.int IntKind.i64 t48, AV.int IntKind.i64 t49] ++ List.replicate 15 .dead, []⟩
def x_L9_0 (x0 : Int) (last7 : Int) (t47 : Option Bool) (t47_3 : List Int) (t48 : Int) (t49 : Int) : St := ⟨[AV.int IntKind.i64 x0] ++ List.replicate 5 .dead ++ [AV.bool false, AV.int IntKind.i64 last7, AV.dead, AV.int IntKind.i64 (t47_3.getD t49.toNat 0)] ++ List.replicate 37 .dead ++ [AV.isl IntKind.i64 t47 t47_3, AV.int IntKind.i64 t48, AV.int IntKind.i64 t49, AV.bool (decide (t49 < t48)), AV.rpi IntKind.i64 (t47_3.getD t49.toNat 0), AV.int IntKind.i64 (t47_3.getD t49.toNat 0), AV.int IntKind.i64 (t47_3.getD t49.toNat 0), AV.int IntKind.i64 last7, AV.bool (decide (t47_3.getD t49.toNat 0 ≤ last7)), AV.bool true] ++ List.replicate 5 und ++ [AV.bool true, AV.dead, AV.dead], [Blk.rsv, Blk.rsv, Blk.rsv, Blk.rsv]⟩
def x_L9_1 (x0 : Int) (last7 : Int) (t47 : Option Bool) (t47_3 : List Int) (t48 : Int) (t49 : Int) (v_c52 : Bool) : St := ⟨[AV.int IntKind.i64 x0] ++ List.replicate 5 .dead ++ [AV.bool false, AV.int IntKind.i64 last7, AV.dead, AV.int IntKind.i64 (t47_3.getD t49.toNat 0)] ++ List.replicate 37 .dead ++ [AV.isl IntKind.i64 t47 t47_3, AV.int IntKind.i64 t48, AV.int IntKind.i64 t49, AV.bool (decide (t49 < t48)), AV.rpi IntKind.i64 (t47_3.getD t49.toNat 0), AV.int IntKind.i64 (t47_3.getD t49.toNat 0), AV.int IntKind.i64 (t47_3.getD t49.toNat 0), AV.int IntKind.i64 last7, AV.bool (decide (t47_3.getD t49.toNat 0 ≤ last7)), AV.bool false, AV.int IntKind.i64 x0, AV.int IntKind.i64 (t47_3.getD t49.toNat 0), AV.int IntKind.i64 (IntKind.i64.wrap (2 * t47_3.getD t49.toNat 0)), AV.bool v_c52, AV.bool !v_c52, AV.bool !v_c52, AV.dead, AV.dead], [Blk.rsv, Blk.rsv, Blk.rsv, Blk.rsv]⟩
def x_L9_2 (x0 : Int) (last7 : Int) (t47 : Option Bool) (t47_3 : List Int) (t48 : Int) (t49 : Int) : St := ⟨[AV.int IntKind.i64 x0] ++ List.replicate 6 .dead ++ [AV.int IntKind.i64 last7] ++ List.replicate 39 .dead ++ [AV.isl IntKind.i64 t47 t47_3, AV.int IntKind.i64 t48, AV.int IntKind.i64 t49, AV.bool (decide (t49 < t48))] ++ List.replicate 14 .dead, []⟩
noncomputable def L9 (malive17 : alive17.Ty) (mUnder : Under.Ty) (mLeaves : Leaves.Ty) {R : Type} (N : Nat) (ke0 : Int → Int → (Option Bool) → (List Int) → Int → Int → Option R) (ke1 : Int → Int → (Option Bool) → (List Int) → Int → Int → Bool → Option R) (ke2 : Int → Int → (Option Bool) → (List Int) → Int → Int → Option R) : Nat → Int → Int → (Option Bool) → (List Int) → Int → Int → Option R
  | 0, _, _, _, _, _, _ => none
  | m + 1, x0, last7, t47, t47_3, t48, t49 =>
    cond (decide (t49 < t48))
     (cond (decide (0 ≤ t49))
      (cond (decide (t49 < (↑t47_3.length : Int)))
       (cond (decide (t47_3.getD t49.toNat 0 ≤ last7))
        (ke0 x0 last7 t47 t47_3 t48 t49)
        (mUnder R x0 (IntKind.i64.wrap (2 * t47_3.getD t49.toNat 0))
         (fun v_c52 => cond (!v_c52)
          (ke1 x0 last7 t47 t47_3 t48 t49 v_c52)
          (L9 malive17 mUnder mLeaves N ke0 ke1 ke2 m x0 (t47_3.getD t49.toNat 0) t47 t47_3 t48 (IntKind.i64.wrap (t49 + 1))))))
       (none))
      (none))
     (ke2 x0 last7 t47 t47_3 t48 t49)
theorem round_L9 (malive17 : alive17.Ty) (mUnder : Under.Ty) (mLeaves : Leaves.Ty) {R : Type} (N : Nat) (Rn : St → Option R) (k : K R) (x0 : Int) (last7 : Int) (t47 : Option Bool) (t47_3 : List Int) (t48 : Int) (t49 : Int) : evC (g malive17 mUnder mLeaves) an 0 N c_L9 none (roundK (nmOf 0 (an.loop 9)) Rn k) (s_L9 x0 last7 t47 t47_3 t48 t49) =
  cond (decide (t49 < t48))
   (cond (decide (0 ≤ t49))
    (cond (decide (t49 < (↑t47_3.length : Int)))
     (cond (decide (t47_3.getD t49.toNat 0 ≤ last7))
      (k.ret (x_L9_0 x0 last7 t47 t47_3 t48 t49))
      (mUnder R x0 (IntKind.i64.wrap (2 * t47_3.getD t49.toNat 0))
       (fun v_c52 => cond (!v_c52)
        (k.ret (x_L9_1 x0 last7 t47 t47_3 t48 t49 v_c52))
        (Rn (s_L9 x0 (t47_3.getD t49.toNat 0) t47 t47_3 t48 (IntKind.i64.wrap (t49 + 1)))))))
     (none))
    (none))
   (k.ext 0 (x_L9_2 x0 last7 t47 t47_3 t48 t49)) := by kernel_rfl
theorem run_L9 (malive17 : alive17.Ty) (mUnder : Under.Ty) (mLeaves : Leaves.Ty) {R : Type} (N : Nat) (k : K R) : ∀ (m : Nat) (x0 : Int) (last7 : Int) (t47 : Option Bool) (t47_3 : List Int) (t48 : Int) (t49 : Int), loopN (evC (g malive17 mUnder mLeaves) an 0 N c_L9 none) k (nmOf 0 (an.loop 9)) m (s_L9 x0 last7 t47 t47_3 t48 t49) =
    L9 malive17 mUnder mLeaves N (fun x0 last7 t47 t47_3 t48 t49 => (k).ret (x_L9_0 x0 last7 t47 t47_3 t48 t49)) (fun x0 last7 t47 t47_3 t48 t49 v_c52 => (k).ret (x_L9_1 x0 last7 t47 t47_3 t48 t49 v_c52)) (fun x0 last7 t47 t47_3 t48 t49 => (k).ext 0 (x_L9_2 x0 last7 t47 t47_3 t48 t49)) m x0 last7 t47 t47_3 t48 t49 := by
  intro m
  induction m with
  | zero => intros; rfl
  | succ m ih =>
    intros
    rw [loopN_succ, round_L9]
    simp only [ih]
    kernel_rfl
noncomputable def m (malive17 : alive17.Ty) (mUnder : Under.Ty) (mLeaves : Leaves.Ty) {R : Type} (N : Nat) (x1 : Int) (y2 : Int) (z3 : Int) (kr0 : Bool → Option R) : Option R :=
  malive17 R
   (fun v_c42 => cond (!v_c42)
    (kr0 false)
    (mUnder R x1 y2
     (fun v_c43 => cond v_c43
      (mUnder R y2 z3
       (fun v_c44 => cond v_c44
        (mUnder R x1 z3
         (fun v_c45 => cond (!v_c45)
          (kr0 false)
          (mUnder R x1 z3
           (fun v_c46 => cond v_c46
            (mUnder R y2 z3
             (fun v_c47 => cond v_c47
              (mUnder R x1 y2
               (fun v_c48 => cond (!v_c48)
                (mUnder R y2 x1
                 (fun v_c49 => cond (!v_c49)
                  (kr0 false)
                  (mLeaves R x1
                   (fun v_c50 v_1_c51 => L9 malive17 mUnder mLeaves N
                    (fun _x0_c53 _last7_c54 _t47_c55 _t47_3_c56 _t48_c57 _t49_c58 => kr0 false)
                    (fun _x0_c59 _last7_c60 _t47_c61 _t47_3_c62 _t48_c63 _t49_c64 _v_c65 => kr0 false)
                    (fun _x0_c66 _last7_c67 _t47_c68 _t47_3_c69 _t48_c70 _t49_c71 => kr0 true) N x1 (-1) v_c50 v_1_c51 ((↑v_1_c51.length : Int)) 0))))
                (mLeaves R x1
                 (fun v_c72 v_1_c73 => L9 malive17 mUnder mLeaves N
                  (fun _x0_c74 _last7_c75 _t47_c76 _t47_3_c77 _t48_c78 _t49_c79 => kr0 false)
                  (fun _x0_c80 _last7_c81 _t47_c82 _t47_3_c83 _t48_c84 _t49_c85 _v_c86 => kr0 false)
                  (fun _x0_c87 _last7_c88 _t47_c89 _t47_3_c90 _t48_c91 _t49_c92 => kr0 true) N x1 (-1) v_c72 v_1_c73 ((↑v_1_c73.length : Int)) 0))))
              (mLeaves R x1
               (fun v_c93 v_1_c94 => L9 malive17 mUnder mLeaves N
                (fun _x0_c95 _last7_c96 _t47_c97 _t47_3_c98 _t48_c99 _t49_c100 => kr0 false)
                (fun _x0_c101 _last7_c102 _t47_c103 _t47_3_c104 _t48_c105 _t49_c106 _v_c107 => kr0 false)
                (fun _x0_c108 _last7_c109 _t47_c110 _t47_3_c111 _t48_c112 _t49_c113 => kr0 true) N x1 (-1) v_c93 v_1_c94 ((↑v_1_c94.length : Int)) 0))))
            (mLeaves R x1
             (fun v_c114 v_1_c115 => L9 malive17 mUnder mLeaves N
              (fun _x0_c116 _last7_c117 _t47_c118 _t47_3_c119 _t48_c120 _t49_c121 => kr0 false)
              (fun _x0_c122 _last7_c123 _t47_c124 _t47_3_c125 _t48_c126 _t49_c127 _v_c128 => kr0 false)
              (fun _x0_c129 _last7_c130 _t47_c131 _t47_3_c132 _t48_c133 _t49_c134 => kr0 true) N x1 (-1) v_c114 v_1_c115 ((↑v_1_c115.length : Int)) 0))))))
        (mUnder R x1 z3
         (fun v_c135 => cond v_c135
          (mUnder R y2 z3
           (fun v_c136 => cond v_c136
            (mUnder R x1 y2
             (fun v_c137 => cond (!v_c137)
              (mUnder R y2 x1
               (fun v_c138 => cond (!v_c138)
                (kr0 false)
                (mLeaves R x1
                 (fun v_c139 v_1_c140 => L9 malive17 mUnder mLeaves N
                  (fun _x0_c141 _last7_c142 _t47_c143 _t47_3_c144 _t48_c145 _t49_c146 => kr0 false)
                  (fun _x0_c147 _last7_c148 _t47_c149 _t47_3_c150 _t48_c151 _t49_c152 _v_c153 => kr0 false)
                  (fun _x0_c154 _last7_c155 _t47_c156 _t47_3_c157 _t48_c158 _t49_c159 => kr0 true) N x1 (-1) v_c139 v_1_c140 ((↑v_1_c140.length : Int)) 0))))
              (mLeaves R x1
               (fun v_c160 v_1_c161 => L9 malive17 mUnder mLeaves N
                (fun _x0_c162 _last7_c163 _t47_c164 _t47_3_c165 _t48_c166 _t49_c167 => kr0 false)
                (fun _x0_c168 _last7_c169 _t47_c170 _t47_3_c171 _t48_c172 _t49_c173 _v_c174 => kr0 false)
                (fun _x0_c175 _last7_c176 _t47_c177 _t47_3_c178 _t48_c179 _t49_c180 => kr0 true) N x1 (-1) v_c160 v_1_c161 ((↑v_1_c161.length : Int)) 0))))
            (mLeaves R x1
             (fun v_c181 v_1_c182 => L9 malive17 mUnder mLeaves N
              (fun _x0_c183 _last7_c184 _t47_c185 _t47_3_c186 _t48_c187 _t49_c188 => kr0 false)
              (fun _x0_c189 _last7_c190 _t47_c191 _t47_3_c192 _t48_c193 _t49_c194 _v_c195 => kr0 false)
              (fun _x0_c196 _last7_c197 _t47_c198 _t47_3_c199 _t48_c200 _t49_c201 => kr0 true) N x1 (-1) v_c181 v_1_c182 ((↑v_1_c182.length : Int)) 0))))
          (mLeaves R x1
           (fun v_c202 v_1_c203 => L9 malive17 mUnder mLeaves N
            (fun _x0_c204 _last7_c205 _t47_c206 _t47_3_c207 _t48_c208 _t49_c209 => kr0 false)
            (fun _x0_c210 _last7_c211 _t47_c212 _t47_3_c213 _t48_c214 _t49_c215 _v_c216 => kr0 false)
            (fun _x0_c217 _last7_c218 _t47_c219 _t47_3_c220 _t48_c221 _t49_c222 => kr0 true) N x1 (-1) v_c202 v_1_c203 ((↑v_1_c203.length : Int)) 0))))))
      (mUnder R x1 z3
       (fun v_c223 => cond v_c223
        (mUnder R y2 z3
         (fun v_c224 => cond v_c224
          (mUnder R x1 y2
           (fun v_c225 => cond (!v_c225)
            (mUnder R y2 x1
             (fun v_c226 => cond (!v_c226)
              (kr0 false)
              (mLeaves R x1
               (fun v_c227 v_1_c228 => L9 malive17 mUnder mLeaves N
                (fun _x0_c229 _last7_c230 _t47_c231 _t47_3_c232 _t48_c233 _t49_c234 => kr0 false)
                (fun _x0_c235 _last7_c236 _t47_c237 _t47_3_c238 _t48_c239 _t49_c240 _v_c241 => kr0 false)
                (fun _x0_c242 _last7_c243 _t47_c244 _t47_3_c245 _t48_c246 _t49_c247 => kr0 true) N x1 (-1) v_c227 v_1_c228 ((↑v_1_c228.length : Int)) 0))))
            (mLeaves R x1
             (fun v_c248 v_1_c249 => L9 malive17 mUnder mLeaves N
              (fun _x0_c250 _last7_c251 _t47_c252 _t47_3_c253 _t48_c254 _t49_c255 => kr0 false)
              (fun _x0_c256 _last7_c257 _t47_c258 _t47_3_c259 _t48_c260 _t49_c261 _v_c262 => kr0 false)
              (fun _x0_c263 _last7_c264 _t47_c265 _t47_3_c266 _t48_c267 _t49_c268 => kr0 true) N x1 (-1) v_c248 v_1_c249 ((↑v_1_c249.length : Int)) 0))))
          (mLeaves R x1
           (fun v_c269 v_1_c270 => L9 malive17 mUnder mLeaves N
            (fun _x0_c271 _last7_c272 _t47_c273 _t47_3_c274 _t48_c275 _t49_c276 => kr0 false)
            (fun _x0_c277 _last7_c278 _t47_c279 _t47_3_c280 _t48_c281 _t49_c282 _v_c283 => kr0 false)
            (fun _x0_c284 _last7_c285 _t47_c286 _t47_3_c287 _t48_c288 _t49_c289 => kr0 true) N x1 (-1) v_c269 v_1_c270 ((↑v_1_c270.length : Int)) 0))))
        (mLeaves R x1
         (fun v_c290 v_1_c291 => L9 malive17 mUnder mLeaves N
          (fun _x0_c292 _last7_c293 _t47_c294 _t47_3_c295 _t48_c296 _t49_c297 => kr0 false)
          (fun _x0_c298 _last7_c299 _t47_c300 _t47_3_c301 _t48_c302 _t49_c303 _v_c304 => kr0 false)
          (fun _x0_c305 _last7_c306 _t47_c307 _t47_3_c308 _t48_c309 _t49_c310 => kr0 true) N x1 (-1) v_c290 v_1_c291 ((↑v_1_c291.length : Int)) 0)))))))
theorem tree (malive17 : alive17.Ty) (mUnder : Under.Ty) (mLeaves : Leaves.Ty) {R : Type} (N : Nat) (κ : AV → List Blk → Option R) (x1 : Int) (y2 : Int) (z3 : Int) : evF (g malive17 mUnder mLeaves) an N Tryd.f9 [AV.int IntKind.i64 x1, AV.int IntKind.i64 y2, AV.int IntKind.i64 z3] [] κ =
  malive17 R
   (fun v_c42 => cond (!v_c42)
    (κ (AV.bool false) [])
    (mUnder R x1 y2
     (fun v_c43 => cond v_c43
      (mUnder R y2 z3
       (fun v_c44 => cond v_c44
        (mUnder R x1 z3
         (fun v_c45 => cond (!v_c45)
          (κ (AV.bool false) [])
          (mUnder R x1 z3
           (fun v_c46 => cond v_c46
            (mUnder R y2 z3
             (fun v_c47 => cond v_c47
              (mUnder R x1 y2
               (fun v_c48 => cond (!v_c48)
                (mUnder R y2 x1
                 (fun v_c49 => cond (!v_c49)
                  (κ (AV.bool false) [])
                  (mLeaves R x1
                   (fun v_c50 v_1_c51 => loopN (evC (g malive17 mUnder mLeaves) an 0 N c_L9 none) (ctx (g malive17 mUnder mLeaves) an 0 N (bodyOf Tryd.f9) [1, 1, 1, 1, 1, 0, 1, 0] (endK (g malive17 mUnder mLeaves) an Tryd.f9 [] κ)) (nmOf 0 (an.loop 9)) N (s_L9 x1 (-1) v_c50 v_1_c51 ((↑v_1_c51.length : Int)) 0)))))
                (mLeaves R x1
                 (fun v_c72 v_1_c73 => loopN (evC (g malive17 mUnder mLeaves) an 0 N c_L9 none) (ctx (g malive17 mUnder mLeaves) an 0 N (bodyOf Tryd.f9) [1, 1, 1, 1, 1, 0, 1, 0] (endK (g malive17 mUnder mLeaves) an Tryd.f9 [] κ)) (nmOf 0 (an.loop 9)) N (s_L9 x1 (-1) v_c72 v_1_c73 ((↑v_1_c73.length : Int)) 0)))))
              (mLeaves R x1
               (fun v_c93 v_1_c94 => loopN (evC (g malive17 mUnder mLeaves) an 0 N c_L9 none) (ctx (g malive17 mUnder mLeaves) an 0 N (bodyOf Tryd.f9) [1, 1, 1, 1, 1, 0, 1, 0] (endK (g malive17 mUnder mLeaves) an Tryd.f9 [] κ)) (nmOf 0 (an.loop 9)) N (s_L9 x1 (-1) v_c93 v_1_c94 ((↑v_1_c94.length : Int)) 0)))))
            (mLeaves R x1
             (fun v_c114 v_1_c115 => loopN (evC (g malive17 mUnder mLeaves) an 0 N c_L9 none) (ctx (g malive17 mUnder mLeaves) an 0 N (bodyOf Tryd.f9) [1, 1, 1, 1, 1, 0, 1, 0] (endK (g malive17 mUnder mLeaves) an Tryd.f9 [] κ)) (nmOf 0 (an.loop 9)) N (s_L9 x1 (-1) v_c114 v_1_c115 ((↑v_1_c115.length : Int)) 0)))))))
        (mUnder R x1 z3
         (fun v_c135 => cond v_c135
          (mUnder R y2 z3
           (fun v_c136 => cond v_c136
            (mUnder R x1 y2
             (fun v_c137 => cond (!v_c137)
              (mUnder R y2 x1
               (fun v_c138 => cond (!v_c138)
                (κ (AV.bool false) [])
                (mLeaves R x1
                 (fun v_c139 v_1_c140 => loopN (evC (g malive17 mUnder mLeaves) an 0 N c_L9 none) (ctx (g malive17 mUnder mLeaves) an 0 N (bodyOf Tryd.f9) [1, 1, 1, 1, 1, 0, 1, 0] (endK (g malive17 mUnder mLeaves) an Tryd.f9 [] κ)) (nmOf 0 (an.loop 9)) N (s_L9 x1 (-1) v_c139 v_1_c140 ((↑v_1_c140.length : Int)) 0)))))
              (mLeaves R x1
               (fun v_c160 v_1_c161 => loopN (evC (g malive17 mUnder mLeaves) an 0 N c_L9 none) (ctx (g malive17 mUnder mLeaves) an 0 N (bodyOf Tryd.f9) [1, 1, 1, 1, 1, 0, 1, 0] (endK (g malive17 mUnder mLeaves) an Tryd.f9 [] κ)) (nmOf 0 (an.loop 9)) N (s_L9 x1 (-1) v_c160 v_1_c161 ((↑v_1_c161.length : Int)) 0)))))
            (mLeaves R x1
             (fun v_c181 v_1_c182 => loopN (evC (g malive17 mUnder mLeaves) an 0 N c_L9 none) (ctx (g malive17 mUnder mLeaves) an 0 N (bodyOf Tryd.f9) [1, 1, 1, 1, 1, 0, 1, 0] (endK (g malive17 mUnder mLeaves) an Tryd.f9 [] κ)) (nmOf 0 (an.loop 9)) N (s_L9 x1 (-1) v_c181 v_1_c182 ((↑v_1_c182.length : Int)) 0)))))
          (mLeaves R x1
           (fun v_c202 v_1_c203 => loopN (evC (g malive17 mUnder mLeaves) an 0 N c_L9 none) (ctx (g malive17 mUnder mLeaves) an 0 N (bodyOf Tryd.f9) [1, 1, 1, 1, 1, 0, 1, 0] (endK (g malive17 mUnder mLeaves) an Tryd.f9 [] κ)) (nmOf 0 (an.loop 9)) N (s_L9 x1 (-1) v_c202 v_1_c203 ((↑v_1_c203.length : Int)) 0)))))))
      (mUnder R x1 z3
       (fun v_c223 => cond v_c223
        (mUnder R y2 z3
         (fun v_c224 => cond v_c224
          (mUnder R x1 y2
           (fun v_c225 => cond (!v_c225)
            (mUnder R y2 x1
             (fun v_c226 => cond (!v_c226)
              (κ (AV.bool false) [])
              (mLeaves R x1
               (fun v_c227 v_1_c228 => loopN (evC (g malive17 mUnder mLeaves) an 0 N c_L9 none) (ctx (g malive17 mUnder mLeaves) an 0 N (bodyOf Tryd.f9) [1, 1, 1, 1, 1, 0, 1, 0] (endK (g malive17 mUnder mLeaves) an Tryd.f9 [] κ)) (nmOf 0 (an.loop 9)) N (s_L9 x1 (-1) v_c227 v_1_c228 ((↑v_1_c228.length : Int)) 0)))))
            (mLeaves R x1
             (fun v_c248 v_1_c249 => loopN (evC (g malive17 mUnder mLeaves) an 0 N c_L9 none) (ctx (g malive17 mUnder mLeaves) an 0 N (bodyOf Tryd.f9) [1, 1, 1, 1, 1, 0, 1, 0] (endK (g malive17 mUnder mLeaves) an Tryd.f9 [] κ)) (nmOf 0 (an.loop 9)) N (s_L9 x1 (-1) v_c248 v_1_c249 ((↑v_1_c249.length : Int)) 0)))))
          (mLeaves R x1
           (fun v_c269 v_1_c270 => loopN (evC (g malive17 mUnder mLeaves) an 0 N c_L9 none) (ctx (g malive17 mUnder mLeaves) an 0 N (bodyOf Tryd.f9) [1, 1, 1, 1, 1, 0, 1, 0] (endK (g malive17 mUnder mLeaves) an Tryd.f9 [] κ)) (nmOf 0 (an.loop 9)) N (s_L9 x1 (-1) v_c269 v_1_c270 ((↑v_1_c270.length : Int)) 0)))))
        (mLeaves R x1
         (fun v_c290 v_1_c291 => loopN (evC (g malive17 mUnder mLeaves) an 0 N c_L9 none) (ctx (g malive17 mUnder mLeaves) an 0 N (bodyOf Tryd.f9) [1, 1, 1, 1, 1, 0, 1, 0] (endK (g malive17 mUnder mLeaves) an Tryd.f9 [] κ)) (nmOf 0 (an.loop 9)) N (s_L9 x1 (-1) v_c290 v_1_c291 ((↑v_1_c291.length : Int)) 0)))))))) := by kernel_rfl
theorem eq (malive17 : alive17.Ty) (mUnder : Under.Ty) (mLeaves : Leaves.Ty) {R : Type} (N : Nat) (κ : AV → List Blk → Option R) (x1 : Int) (y2 : Int) (z3 : Int) : evF (g malive17 mUnder mLeaves) an N Tryd.f9 [AV.int IntKind.i64 x1, AV.int IntKind.i64 y2, AV.int IntKind.i64 z3] [] κ =
  m malive17 mUnder mLeaves N x1 y2 z3 (fun v => κ (AV.bool v) []) := by
  rw [tree]
  simp only [run_L9]
  kernel_rfl
abbrev Ty : Type 1 := ∀ R : Type, Int → Int → Int → (Bool → Option R) → Option R
def con (f : Ty) : Con := fun R args bs κ => match args, bs with
  | [AV.int IntKind.i64 x1, AV.int IntKind.i64 y2, AV.int IntKind.i64 z3], [] => f R x1 y2 z3 (fun v => κ (AV.bool v) [])
  | _, _ => none
theorem con_eq (f : Ty) (R : Type) (κ : AV → List Blk → Option R) (x1 : Int) (y2 : Int) (z3 : Int) : con f R [AV.int IntKind.i64 x1, AV.int IntKind.i64 y2, AV.int IntKind.i64 z3] [] κ = f R x1 y2 z3 (fun v => κ (AV.bool v) []) := rfl
noncomputable def M (N : Nat) : Ty := fun R x1 y2 z3 kr0 => m (alive17.M N) (Under.M N) (Leaves.M N) (R := R) N x1 y2 z3 kr0
def gts : List (Nat × AV) := [(1, .err 1), (10, .err 11), (14, .err 15)]
theorem gok (N : Nat) : GOk (g (alive17.M N) (Under.M N) (Leaves.M N)) := giD_ok hm (by intro p hp; cases hp) (gtL_ok (by decide)) (ovL_ok (by
    intro p hp
    simp only [List.mem_cons, List.not_mem_nil, or_false] at hp
    rcases hp with rfl | rfl | rfl
    · exact ⟨(alive17.ok N).gt (gtL_sub (by repeat (first | exact subG_nil _ | refine subG_cons (by kernel_rfl) ?_))) (gtL_ok (by decide)), _, Tryd.func34, by kernel_rfl, by kernel_rfl⟩
    · exact ⟨(Under.ok N).gt (gtL_sub (by repeat (first | exact subG_nil _ | refine subG_cons (by kernel_rfl) ?_))) (gtL_ok (by decide)), _, Tryd.func40, by kernel_rfl, by kernel_rfl⟩
    · exact ⟨(Leaves.ok N).gt (gtL_sub (by repeat (first | exact subG_nil _ | refine subG_cons (by kernel_rfl) ?_))) (gtL_ok (by decide)), _, Tryd.func36, by kernel_rfl, by kernel_rfl⟩
)) 1
theorem ok (N : Nat) : SoundC Tryd.prog (gtL gts) 9 (con (M N)) := by
  refine SoundC.mono (evF_ok (gok N) hm an N Tryd.func9) fun R args bs κ r h => ?_
  unfold con at h
  split at h
  · exact (eq (alive17.M N) (Under.M N) (Leaves.M N) N κ _ _ _).trans h
  · cases h
end PlacesUnder

end Go.Proofs.YtllnbcibleeogaaDoor.fn
