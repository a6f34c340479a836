/- What the places' functions compute, with the proof; printed by a program. -/
import Derived.Test.YtbliikcgcgalmaaDoorProg
import Derived.Test.YtbliikcgcgalmaaDoorEv4
import Derived.Test.YtbliikcgcgalmaaDoorFnWords
namespace Go.Proofs.YtbliikcgcgalmaaDoor.fn
open Go Go.Proofs Go.Ev

/-! ### Tryd.f47: pRight -/
namespace pRight
def an : Anns := ⟨fun i => findA i [], fun i => findA i [], false, fun _ => none, []⟩
noncomputable def g : Gi := giD Tryd.prog (gtL []) (fun _ => an) 0 [] (ovL []) 1
noncomputable def m {R : Type} (_N : Nat) (leaves1 : Int) (kr0 : Bool → Option R) : Option R :=
  cond (decide (leaves1 ≥ 1))
   (cond (decide (leaves1 ≤ 16))
    (kr0 (iand IntKind.i64 leaves1 (IntKind.i64.wrap (leaves1 - 1)) == 0))
    (kr0 false))
   (kr0 false)
theorem tree {R : Type} (N : Nat) (κ : AV → List Blk → Option R) (leaves1 : Int) : evF (g) an N Tryd.f47 [AV.int IntKind.i64 leaves1] [] κ =
  cond (decide (leaves1 ≥ 1))
   (cond (decide (leaves1 ≤ 16))
    (κ (AV.bool (iand IntKind.i64 leaves1 (IntKind.i64.wrap (leaves1 - 1)) == 0)) [])
    (κ (AV.bool false) []))
   (κ (AV.bool false) []) := by kernel_rfl
theorem eq {R : Type} (N : Nat) (κ : AV → List Blk → Option R) (leaves1 : Int) : evF (g) an N Tryd.f47 [AV.int IntKind.i64 leaves1] [] κ =
  m N leaves1 (fun v => κ (AV.bool v) []) := by
  rw [tree]
  kernel_rfl
abbrev Ty : Type 1 := ∀ R : Type, Int → (Bool → Option R) → Option R
def con (f : Ty) : Con := fun R args bs κ => match args, bs with
  | [AV.int IntKind.i64 leaves1], [] => f R leaves1 (fun v => κ (AV.bool v) [])
  | _, _ => none
theorem con_eq (f : Ty) (R : Type) (κ : AV → List Blk → Option R) (leaves1 : Int) : con f R [AV.int IntKind.i64 leaves1] [] κ = f R leaves1 (fun v => κ (AV.bool v) []) := rfl
noncomputable def M (N : Nat) : Ty := fun R leaves1 kr0 => m (R := R) N leaves1 kr0
def gts : List (Nat × AV) := []
theorem gok (_N : Nat) : GOk (g) := giD_ok hm (by intro p hp; cases hp) (gtL_ok (by decide)) (ovL_ok (by intro p hp; cases hp)) 1
theorem ok (N : Nat) : SoundC Tryd.prog (gtL gts) 47 (con (M N)) := by
  refine SoundC.mono (evF_ok (gok N) hm an N Tryd.func47) fun R args bs κ r h => ?_
  unfold con at h
  split at h
  · exact (eq N κ _).trans h
  · cases h
end pRight


/-! ### Tryd.f33: Root -/
namespace Root
def an : Anns := ⟨fun i => findA i [], fun i => findA i [], false, fun _ => none, []⟩
noncomputable def g (mpRight : pRight.Ty) : Gi := giD Tryd.prog (gtL []) (fun _ => an) 0 [] (ovL [(47, pRight.con mpRight)]) 1
noncomputable def m (mpRight : pRight.Ty) {R : Type} (_N : Nat) (leaves1 : Int) (kr0 : Int → Option R) : Option R :=
  mpRight R leaves1
   (fun v_c2 => cond (!v_c2)
    (kr0 0)
    (kr0 (IntKind.i64.wrap (leaves1 - 1))))
theorem tree (mpRight : pRight.Ty) {R : Type} (N : Nat) (κ : AV → List Blk → Option R) (leaves1 : Int) : evF (g mpRight) an N Tryd.f33 [AV.int IntKind.i64 leaves1] [] κ =
  mpRight R leaves1
   (fun v_c2 => cond (!v_c2)
    (κ (AV.int IntKind.i64 0) [])
    (κ (AV.int IntKind.i64 (IntKind.i64.wrap (leaves1 - 1))) [])) := by kernel_rfl
theorem eq (mpRight : pRight.Ty) {R : Type} (N : Nat) (κ : AV → List Blk → Option R) (leaves1 : Int) : evF (g mpRight) an N Tryd.f33 [AV.int IntKind.i64 leaves1] [] κ =
  m mpRight N leaves1 (fun v => κ (AV.int IntKind.i64 v) []) := by
  rw [tree]
  kernel_rfl
abbrev Ty : Type 1 := ∀ R : Type, Int → (Int → Option R) → Option R
def con (f : Ty) : Con := fun R args bs κ => match args, bs with
  | [AV.int IntKind.i64 leaves1], [] => f R leaves1 (fun v => κ (AV.int IntKind.i64 v) [])
  | _, _ => none
theorem con_eq (f : Ty) (R : Type) (κ : AV → List Blk → Option R) (leaves1 : Int) : con f R [AV.int IntKind.i64 leaves1] [] κ = f R leaves1 (fun v => κ (AV.int IntKind.i64 v) []) := rfl
noncomputable def M (N : Nat) : Ty := fun R leaves1 kr0 => m (pRight.M N) (R := R) N leaves1 kr0
def gts : List (Nat × AV) := []
theorem gok (N : Nat) : GOk (g (pRight.M N)) := giD_ok hm (by intro p hp; cases hp) (gtL_ok (by decide)) (ovL_ok (by
    intro p hp
    simp only [List.mem_cons, List.not_mem_nil, or_false] at hp
    rcases hp with rfl
    · exact ⟨(pRight.ok N).gt (gtL_sub (by repeat (first | exact subG_nil _ | refine subG_cons (by kernel_rfl) ?_))) (gtL_ok (by decide)), _, Tryd.func47, by kernel_rfl, by kernel_rfl⟩
)) 1
theorem ok (N : Nat) : SoundC Tryd.prog (gtL gts) 33 (con (M N)) := by
  refine SoundC.mono (evF_ok (gok N) hm an N Tryd.func33) fun R args bs κ r h => ?_
  unfold con at h
  split at h
  · exact (eq (pRight.M N) N κ _).trans h
  · cases h
end Root


/-! ### Tryd.f32: Level -/
namespace Level
def an : Anns := ⟨fun i => findA i [], fun i => findA i [(0, ⟨[0, 3], [], 0, []⟩)], false, fun _ => none, []⟩
noncomputable def g : Gi := giD Tryd.prog (gtL []) (fun _ => an) 0 [] (ovL []) 1
noncomputable def c_S1 : Code := scopeOf Tryd.f32 0
def s_J1_0 (x0 : Int) (k3 : Int) : St := ⟨[AV.int IntKind.i64 x0, AV.dead, AV.dead, AV.int IntKind.i64 k3] ++ List.replicate 10 .dead, []⟩
def x_S1_0 (x0 : Int) (k3 : Int) : St := ⟨[AV.int IntKind.i64 x0, AV.dead, AV.int IntKind.i64 k3, AV.int IntKind.i64 k3, AV.dead, AV.dead, AV.int IntKind.i64 x0, AV.int IntKind.i64 (iand IntKind.i64 x0 1), AV.bool (iand IntKind.i64 x0 1 == 1)] ++ List.replicate 4 .dead ++ [AV.int IntKind.i64 k3], []⟩
noncomputable def J1_0 {R : Type} (N : Nat) (ke0 : Int → Int → Option R) : Nat → Int → Int → Option R
  | 0, _, _ => none
  | m + 1, x0, k3 =>
    cond (iand IntKind.i64 x0 1 == 1)
     (J1_0 N ke0 m (ishr IntKind.i64 x0 1) (IntKind.i64.wrap (k3 + 1)))
     (ke0 x0 k3)
theorem round_J1_0 {R : Type} (N : Nat) (J : Nat → St → Option R) (k : K R) (x0 : Int) (k3 : Int) : evC (g) an 0 N c_S1 (some 0) { k with gto := gotoK (hasL c_S1) (fun l => nmOf 0 (an.label l)) k J } (s_J1_0 x0 k3) =
  cond (iand IntKind.i64 x0 1 == 1)
   (J 0 (s_J1_0 (ishr IntKind.i64 x0 1) (IntKind.i64.wrap (k3 + 1))))
   (k.ret (x_S1_0 x0 k3)) := by kernel_rfl
theorem run_S1 {R : Type} (N : Nat) (k : K R) : ∀ (m : Nat), (∀ (x0 : Int) (k3 : Int), jumpN (fun l => evC (g) an 0 N c_S1 (some l)) (hasL c_S1) k (fun l => nmOf 0 (an.label l)) m 0 (s_J1_0 x0 k3) =
    J1_0 N (fun x0 k3 => (k).ret (x_S1_0 x0 k3)) m x0 k3) := by
  intro m
  induction m with
  | zero => exact by intros; rfl
  | succ m ih =>
    · intros; rw [jumpN_succ, round_J1_0]
      try simp only [ih]
      kernel_rfl
theorem run_J1_0 {R : Type} (N : Nat) (k : K R) (m : Nat) : (∀ (x0 : Int) (k3 : Int), jumpN (fun l => evC (g) an 0 N c_S1 (some l)) (hasL c_S1) k (fun l => nmOf 0 (an.label l)) m 0 (s_J1_0 x0 k3) =
    J1_0 N (fun x0 k3 => (k).ret (x_S1_0 x0 k3)) m x0 k3) := (run_S1 N k m)
noncomputable def m {R : Type} (N : Nat) (x1 : Int) (kr0 : Int → Option R) : Option R :=
  cond (decide (x1 < 0))
   (kr0 0)
   (cond (iand IntKind.i64 x1 1 == 1)
    (J1_0 N
     (fun _x0_c2 k3_c3 => kr0 k3_c3) N (ishr IntKind.i64 x1 1) 1)
    (kr0 0))
theorem tree {R : Type} (N : Nat) (κ : AV → List Blk → Option R) (x1 : Int) : evF (g) an N Tryd.f32 [AV.int IntKind.i64 x1] [] κ =
  cond (decide (x1 < 0))
   (κ (AV.int IntKind.i64 0) [])
   (cond (iand IntKind.i64 x1 1 == 1)
    (jumpN (fun l => evC (g) an 0 N c_S1 (some l)) (hasL c_S1) (ctx (g) an 0 N (bodyOf Tryd.f32) [1] (endK (g) an Tryd.f32 [] κ)) (fun l => nmOf 0 (an.label l)) N 0 (s_J1_0 (ishr IntKind.i64 x1 1) 1))
    (κ (AV.int IntKind.i64 0) [])) := by kernel_rfl
theorem eq {R : Type} (N : Nat) (κ : AV → List Blk → Option R) (x1 : Int) : evF (g) an N Tryd.f32 [AV.int IntKind.i64 x1] [] κ =
  m N x1 (fun v => κ (AV.int IntKind.i64 v) []) := by
  rw [tree]
  simp only [run_J1_0]
  kernel_rfl
abbrev Ty : Type 1 := ∀ R : Type, Int → (Int → Option R) → Option R
def con (f : Ty) : Con := fun R args bs κ => match args, bs with
  | [AV.int IntKind.i64 x1], [] => f R x1 (fun v => κ (AV.int IntKind.i64 v) [])
  | _, _ => none
theorem con_eq (f : Ty) (R : Type) (κ : AV → List Blk → Option R) (x1 : Int) : con f R [AV.int IntKind.i64 x1] [] κ = f R x1 (fun v => κ (AV.int IntKind.i64 v) []) := rfl
noncomputable def M (N : Nat) : Ty := fun R x1 kr0 => m (R := R) N x1 kr0
def gts : List (Nat × AV) := []
theorem gok (_N : Nat) : GOk (g) := giD_ok hm (by intro p hp; cases hp) (gtL_ok (by decide)) (ovL_ok (by intro p hp; cases hp)) 1
theorem ok (N : Nat) : SoundC Tryd.prog (gtL gts) 32 (con (M N)) := by
  refine SoundC.mono (evF_ok (gok N) hm an N Tryd.func32) fun R args bs κ r h => ?_
  unfold con at h
  split at h
  · exact (eq N κ _).trans h
  · cases h
end Level


/-! ### Tryd.f50: has -/
namespace has
def an : Anns := ⟨fun i => findA i [], fun i => findA i [], false, fun _ => none, []⟩
noncomputable def g (mpRight : pRight.Ty) : Gi := giD Tryd.prog (gtL []) (fun _ => an) 0 [] (ovL [(47, pRight.con mpRight)]) 1
noncomputable def m (mpRight : pRight.Ty) {R : Type} (_N : Nat) (x1 : Int) (leaves2 : Int) (kr0 : Bool → Option R) : Option R :=
  mpRight R leaves2
   (fun v_c1 => cond v_c1
    (cond (decide (x1 ≥ 0))
     (kr0 (decide (x1 ≤ IntKind.i64.wrap (2 * IntKind.i64.wrap (leaves2 - 1)))))
     (kr0 false))
    (kr0 false))
theorem tree (mpRight : pRight.Ty) {R : Type} (N : Nat) (κ : AV → List Blk → Option R) (x1 : Int) (leaves2 : Int) : evF (g mpRight) an N Tryd.f50 [AV.int IntKind.i64 x1, AV.int IntKind.i64 leaves2] [] κ =
  mpRight R leaves2
   (fun v_c1 => cond v_c1
    (cond (decide (x1 ≥ 0))
     (κ (AV.bool (decide (x1 ≤ IntKind.i64.wrap (2 * IntKind.i64.wrap (leaves2 - 1))))) [])
     (κ (AV.bool false) []))
    (κ (AV.bool false) [])) := by kernel_rfl
theorem eq (mpRight : pRight.Ty) {R : Type} (N : Nat) (κ : AV → List Blk → Option R) (x1 : Int) (leaves2 : Int) : evF (g mpRight) an N Tryd.f50 [AV.int IntKind.i64 x1, AV.int IntKind.i64 leaves2] [] κ =
  m mpRight N x1 leaves2 (fun v => κ (AV.bool v) []) := by
  rw [tree]
  kernel_rfl
abbrev Ty : Type 1 := ∀ R : Type, Int → Int → (Bool → Option R) → Option R
def con (f : Ty) : Con := fun R args bs κ => match args, bs with
  | [AV.int IntKind.i64 x1, AV.int IntKind.i64 leaves2], [] => f R x1 leaves2 (fun v => κ (AV.bool v) [])
  | _, _ => none
theorem con_eq (f : Ty) (R : Type) (κ : AV → List Blk → Option R) (x1 : Int) (leaves2 : Int) : con f R [AV.int IntKind.i64 x1, AV.int IntKind.i64 leaves2] [] κ = f R x1 leaves2 (fun v => κ (AV.bool v) []) := rfl
noncomputable def M (N : Nat) : Ty := fun R x1 leaves2 kr0 => m (pRight.M N) (R := R) N x1 leaves2 kr0
def gts : List (Nat × AV) := []
theorem gok (N : Nat) : GOk (g (pRight.M N)) := giD_ok hm (by intro p hp; cases hp) (gtL_ok (by decide)) (ovL_ok (by
    intro p hp
    simp only [List.mem_cons, List.not_mem_nil, or_false] at hp
    rcases hp with rfl
    · exact ⟨(pRight.ok N).gt (gtL_sub (by repeat (first | exact subG_nil _ | refine subG_cons (by kernel_rfl) ?_))) (gtL_ok (by decide)), _, Tryd.func47, by kernel_rfl, by kernel_rfl⟩
)) 1
theorem ok (N : Nat) : SoundC Tryd.prog (gtL gts) 50 (con (M N)) := by
  refine SoundC.mono (evF_ok (gok N) hm an N Tryd.func50) fun R args bs κ r h => ?_
  unfold con at h
  split at h
  · exact (eq (pRight.M N) N κ _ _).trans h
  · cases h
end has


/-! ### Tryd.f45: isP -/
namespace isP
def an : Anns := ⟨fun i => findA i [], fun i => findA i [], false, fun _ => none, []⟩
noncomputable def g : Gi := giD Tryd.prog (gtL []) (fun _ => an) 0 [] (ovL []) 1
noncomputable def m {R : Type} (_N : Nat) (x1 : Int) (kr0 : Bool → Option R) : Option R :=
  cond (decide (x1 ≥ 0))
   (kr0 (decide (x1 ≤ 30)))
   (kr0 false)
theorem tree {R : Type} (N : Nat) (κ : AV → List Blk → Option R) (x1 : Int) : evF (g) an N Tryd.f45 [AV.int IntKind.i64 x1] [] κ =
  cond (decide (x1 ≥ 0))
   (κ (AV.bool (decide (x1 ≤ 30))) [])
   (κ (AV.bool false) []) := by kernel_rfl
theorem eq {R : Type} (N : Nat) (κ : AV → List Blk → Option R) (x1 : Int) : evF (g) an N Tryd.f45 [AV.int IntKind.i64 x1] [] κ =
  m N x1 (fun v => κ (AV.bool v) []) := by
  rw [tree]
  kernel_rfl
abbrev Ty : Type 1 := ∀ R : Type, Int → (Bool → Option R) → Option R
def con (f : Ty) : Con := fun R args bs κ => match args, bs with
  | [AV.int IntKind.i64 x1], [] => f R x1 (fun v => κ (AV.bool v) [])
  | _, _ => none
theorem con_eq (f : Ty) (R : Type) (κ : AV → List Blk → Option R) (x1 : Int) : con f R [AV.int IntKind.i64 x1] [] κ = f R x1 (fun v => κ (AV.bool v) []) := rfl
noncomputable def M (N : Nat) : Ty := fun R x1 kr0 => m (R := R) N x1 kr0
def gts : List (Nat × AV) := []
theorem gok (_N : Nat) : GOk (g) := giD_ok hm (by intro p hp; cases hp) (gtL_ok (by decide)) (ovL_ok (by intro p hp; cases hp)) 1
theorem ok (N : Nat) : SoundC Tryd.prog (gtL gts) 45 (con (M N)) := by
  refine SoundC.mono (evF_ok (gok N) hm an N Tryd.func45) fun R args bs κ r h => ?_
  unfold con at h
  split at h
  · exact (eq N κ _).trans h
  · cases h
end isP


/-! ### Tryd.f58: Below -/
namespace Below
def an : Anns := ⟨fun i => findA i [], fun i => findA i [], false, fun _ => none, []⟩
noncomputable def g (mLevel : Level.Ty) (misP : isP.Ty) : Gi := giD Tryd.prog (gtL [(3, .err 1), (10, .err 11)]) (fun _ => an) 0 [] (ovL [(32, Level.con mLevel), (45, isP.con misP)]) 1
noncomputable def m (mLevel : Level.Ty) (misP : isP.Ty) {R : Type} (_N : Nat) (x1 : Int) (kr0 : Int → Int → Nat → Option R) : Option R :=
  mLevel R x1
   (fun v_c6 => misP R x1
    (fun v_c7 => cond (!v_c7)
     (kr0 0 0 1)
     (cond (v_c6 == 0)
      (kr0 0 0 11)
      (cond (true && decide (IntKind.i64.wrap (v_c6 - 1) < 0))
       (none)
       (kr0 (IntKind.i64.wrap (x1 - ishl IntKind.i64 1 (IntKind.i64.wrap (v_c6 - 1)))) (IntKind.i64.wrap (x1 + ishl IntKind.i64 1 (IntKind.i64.wrap (v_c6 - 1)))) 0)))))
theorem tree (mLevel : Level.Ty) (misP : isP.Ty) {R : Type} (N : Nat) (κ : AV → List Blk → Option R) (x1 : Int) : evF (g mLevel misP) an N Tryd.f58 [AV.int IntKind.i64 x1] [] κ =
  mLevel R x1
   (fun v_c6 => misP R x1
    (fun v_c7 => cond (!v_c7)
     (κ (AV.tup [AV.int IntKind.i64 0, AV.int IntKind.i64 0, AV.err 1]) [])
     (cond (v_c6 == 0)
      (κ (AV.tup [AV.int IntKind.i64 0, AV.int IntKind.i64 0, AV.err 11]) [])
      (cond (true && decide (IntKind.i64.wrap (v_c6 - 1) < 0))
       (none)
       (κ (AV.tup [AV.int IntKind.i64 (IntKind.i64.wrap (x1 - ishl IntKind.i64 1 (IntKind.i64.wrap (v_c6 - 1)))), AV.int IntKind.i64 (IntKind.i64.wrap (x1 + ishl IntKind.i64 1 (IntKind.i64.wrap (v_c6 - 1)))), AV.err 0]) []))))) := by kernel_rfl
theorem eq (mLevel : Level.Ty) (misP : isP.Ty) {R : Type} (N : Nat) (κ : AV → List Blk → Option R) (x1 : Int) : evF (g mLevel misP) an N Tryd.f58 [AV.int IntKind.i64 x1] [] κ =
  m mLevel misP N x1 (fun v v_1 v_2 => κ (AV.tup [AV.int IntKind.i64 v, AV.int IntKind.i64 v_1, AV.err v_2]) []) := by
  rw [tree]
  kernel_rfl
abbrev Ty : Type 1 := ∀ R : Type, Int → (Int → Int → Nat → Option R) → Option R
def con (f : Ty) : Con := fun R args bs κ => match args, bs with
  | [AV.int IntKind.i64 x1], [] => f R x1 (fun v v_1 v_2 => κ (AV.tup [AV.int IntKind.i64 v, AV.int IntKind.i64 v_1, AV.err v_2]) [])
  | _, _ => none
theorem con_eq (f : Ty) (R : Type) (κ : AV → List Blk → Option R) (x1 : Int) : con f R [AV.int IntKind.i64 x1] [] κ = f R x1 (fun v v_1 v_2 => κ (AV.tup [AV.int IntKind.i64 v, AV.int IntKind.i64 v_1, AV.err v_2]) []) := rfl
noncomputable def M (N : Nat) : Ty := fun R x1 kr0 => m (Level.M N) (isP.M N) (R := R) N x1 kr0
def gts : List (Nat × AV) := [(3, .err 1), (10, .err 11)]
theorem gok (N : Nat) : GOk (g (Level.M N) (isP.M N)) := giD_ok hm (by intro p hp; cases hp) (gtL_ok (by decide)) (ovL_ok (by
    intro p hp
    simp only [List.mem_cons, List.not_mem_nil, or_false] at hp
    rcases hp with rfl | rfl
    · exact ⟨(Level.ok N).gt (gtL_sub (by repeat (first | exact subG_nil _ | refine subG_cons (by kernel_rfl) ?_))) (gtL_ok (by decide)), _, Tryd.func32, by kernel_rfl, by kernel_rfl⟩
    · exact ⟨(isP.ok N).gt (gtL_sub (by repeat (first | exact subG_nil _ | refine subG_cons (by kernel_rfl) ?_))) (gtL_ok (by decide)), _, Tryd.func45, by kernel_rfl, by kernel_rfl⟩
)) 1
theorem ok (N : Nat) : SoundC Tryd.prog (gtL gts) 58 (con (M N)) := by
  refine SoundC.mono (evF_ok (gok N) hm an N Tryd.func58) fun R args bs κ r h => ?_
  unfold con at h
  split at h
  · exact (eq (Level.M N) (isP.M N) N κ _).trans h
  · cases h
end Below


/-! ### Tryd.f46: Above -/
namespace Above
def an : Anns := ⟨fun i => findA i [], fun i => findA i [], false, fun _ => none, []⟩
noncomputable def g (mhas : has.Ty) (mRoot : Root.Ty) (mLevel : Level.Ty) : Gi := giD Tryd.prog (gtL [(3, .err 1), (14, .err 15)]) (fun _ => an) 0 [] (ovL [(50, has.con mhas), (33, Root.con mRoot), (32, Level.con mLevel)]) 1
noncomputable def m (mhas : has.Ty) (mRoot : Root.Ty) (mLevel : Level.Ty) {R : Type} (_N : Nat) (x1 : Int) (leaves2 : Int) (kr0 : Int → Nat → Option R) : Option R :=
  mhas R x1 leaves2
   (fun v_c6 => cond (!v_c6)
    (kr0 0 1)
    (mRoot R leaves2
     (fun v_c7 => cond (x1 == v_c7)
      (kr0 0 15)
      (mLevel R x1
       (fun v_c8 => cond (true && decide (v_c8 < 0))
        (none)
        (kr0 (iandn IntKind.i64 (ior IntKind.i64 x1 (ishl IntKind.i64 1 v_c8)) (ishl IntKind.i64 (ishl IntKind.i64 1 v_c8) 1)) 0))))))
theorem tree (mhas : has.Ty) (mRoot : Root.Ty) (mLevel : Level.Ty) {R : Type} (N : Nat) (κ : AV → List Blk → Option R) (x1 : Int) (leaves2 : Int) : evF (g mhas mRoot mLevel) an N Tryd.f46 [AV.int IntKind.i64 x1, AV.int IntKind.i64 leaves2] [] κ =
  mhas R x1 leaves2
   (fun v_c6 => cond (!v_c6)
    (κ (AV.tup [AV.int IntKind.i64 0, AV.err 1]) [])
    (mRoot R leaves2
     (fun v_c7 => cond (x1 == v_c7)
      (κ (AV.tup [AV.int IntKind.i64 0, AV.err 15]) [])
      (mLevel R x1
       (fun v_c8 => cond (true && decide (v_c8 < 0))
        (none)
        (κ (AV.tup [AV.int IntKind.i64 (iandn IntKind.i64 (ior IntKind.i64 x1 (ishl IntKind.i64 1 v_c8)) (ishl IntKind.i64 (ishl IntKind.i64 1 v_c8) 1)), AV.err 0]) [])))))) := by kernel_rfl
theorem eq (mhas : has.Ty) (mRoot : Root.Ty) (mLevel : Level.Ty) {R : Type} (N : Nat) (κ : AV → List Blk → Option R) (x1 : Int) (leaves2 : Int) : evF (g mhas mRoot mLevel) an N Tryd.f46 [AV.int IntKind.i64 x1, AV.int IntKind.i64 leaves2] [] κ =
  m mhas mRoot mLevel N x1 leaves2 (fun v v_1 => κ (AV.tup [AV.int IntKind.i64 v, AV.err v_1]) []) := by
  rw [tree]
  kernel_rfl
abbrev Ty : Type 1 := ∀ R : Type, Int → Int → (Int → Nat → Option R) → Option R
def con (f : Ty) : Con := fun R args bs κ => match args, bs with
  | [AV.int IntKind.i64 x1, AV.int IntKind.i64 leaves2], [] => f R x1 leaves2 (fun v v_1 => κ (AV.tup [AV.int IntKind.i64 v, AV.err v_1]) [])
  | _, _ => none
theorem con_eq (f : Ty) (R : Type) (κ : AV → List Blk → Option R) (x1 : Int) (leaves2 : Int) : con f R [AV.int IntKind.i64 x1, AV.int IntKind.i64 leaves2] [] κ = f R x1 leaves2 (fun v v_1 => κ (AV.tup [AV.int IntKind.i64 v, AV.err v_1]) []) := rfl
noncomputable def M (N : Nat) : Ty := fun R x1 leaves2 kr0 => m (has.M N) (Root.M N) (Level.M N) (R := R) N x1 leaves2 kr0
def gts : List (Nat × AV) := [(3, .err 1), (14, .err 15)]
theorem gok (N : Nat) : GOk (g (has.M N) (Root.M N) (Level.M N)) := giD_ok hm (by intro p hp; cases hp) (gtL_ok (by decide)) (ovL_ok (by
    intro p hp
    simp only [List.mem_cons, List.not_mem_nil, or_false] at hp
    rcases hp with rfl | rfl | rfl
    · exact ⟨(has.ok N).gt (gtL_sub (by repeat (first | exact subG_nil _ | refine subG_cons (by kernel_rfl) ?_))) (gtL_ok (by decide)), _, Tryd.func50, by kernel_rfl, by kernel_rfl⟩
    · exact ⟨(Root.ok N).gt (gtL_sub (by repeat (first | exact subG_nil _ | refine subG_cons (by kernel_rfl) ?_))) (gtL_ok (by decide)), _, Tryd.func33, by kernel_rfl, by kernel_rfl⟩
    · exact ⟨(Level.ok N).gt (gtL_sub (by repeat (first | exact subG_nil _ | refine subG_cons (by kernel_rfl) ?_))) (gtL_ok (by decide)), _, Tryd.func32, by kernel_rfl, by kernel_rfl⟩
)) 1
theorem ok (N : Nat) : SoundC Tryd.prog (gtL gts) 46 (con (M N)) := by
  refine SoundC.mono (evF_ok (gok N) hm an N Tryd.func46) fun R args bs κ r h => ?_
  unfold con at h
  split at h
  · exact (eq (has.M N) (Root.M N) (Level.M N) N κ _ _).trans h
  · cases h
end Above


/-! ### Tryd.f44: Beside -/
namespace Beside
def an : Anns := ⟨fun i => findA i [], fun i => findA i [], false, fun _ => none, []⟩
noncomputable def g (mAbove : Above.Ty) (mBelow : Below.Ty) : Gi := giD Tryd.prog (gtL [(3, .err 1), (10, .err 11), (14, .err 15)]) (fun _ => an) 0 [] (ovL [(46, Above.con mAbove), (58, Below.con mBelow)]) 1
noncomputable def m (mAbove : Above.Ty) (mBelow : Below.Ty) {R : Type} (_N : Nat) (x1 : Int) (leaves2 : Int) (kr0 : Int → Nat → Option R) : Option R :=
  mAbove R x1 leaves2
   (fun v_c7 v_1_c8 => cond (!v_1_c8.beq 0)
    (kr0 0 v_1_c8)
    (mBelow R v_c7
     (fun v_c9 v_1_c10 v_2_c11 => cond (v_c9 == x1)
      (kr0 v_1_c10 v_2_c11)
      (kr0 v_c9 v_2_c11))))
theorem tree (mAbove : Above.Ty) (mBelow : Below.Ty) {R : Type} (N : Nat) (κ : AV → List Blk → Option R) (x1 : Int) (leaves2 : Int) : evF (g mAbove mBelow) an N Tryd.f44 [AV.int IntKind.i64 x1, AV.int IntKind.i64 leaves2] [] κ =
  mAbove R x1 leaves2
   (fun v_c7 v_1_c8 => cond (!v_1_c8.beq 0)
    (κ (AV.tup [AV.int IntKind.i64 0, AV.err v_1_c8]) [])
    (mBelow R v_c7
     (fun v_c9 v_1_c10 v_2_c11 => cond (v_c9 == x1)
      (κ (AV.tup [AV.int IntKind.i64 v_1_c10, AV.err v_2_c11]) [])
      (κ (AV.tup [AV.int IntKind.i64 v_c9, AV.err v_2_c11]) [])))) := by kernel_rfl
theorem eq (mAbove : Above.Ty) (mBelow : Below.Ty) {R : Type} (N : Nat) (κ : AV → List Blk → Option R) (x1 : Int) (leaves2 : Int) : evF (g mAbove mBelow) an N Tryd.f44 [AV.int IntKind.i64 x1, AV.int IntKind.i64 leaves2] [] κ =
  m mAbove mBelow N x1 leaves2 (fun v v_1 => κ (AV.tup [AV.int IntKind.i64 v, AV.err v_1]) []) := by
  rw [tree]
  kernel_rfl
abbrev Ty : Type 1 := ∀ R : Type, Int → Int → (Int → Nat → Option R) → Option R
def con (f : Ty) : Con := fun R args bs κ => match args, bs with
  | [AV.int IntKind.i64 x1, AV.int IntKind.i64 leaves2], [] => f R x1 leaves2 (fun v v_1 => κ (AV.tup [AV.int IntKind.i64 v, AV.err v_1]) [])
  | _, _ => none
theorem con_eq (f : Ty) (R : Type) (κ : AV → List Blk → Option R) (x1 : Int) (leaves2 : Int) : con f R [AV.int IntKind.i64 x1, AV.int IntKind.i64 leaves2] [] κ = f R x1 leaves2 (fun v v_1 => κ (AV.tup [AV.int IntKind.i64 v, AV.err v_1]) []) := rfl
noncomputable def M (N : Nat) : Ty := fun R x1 leaves2 kr0 => m (Above.M N) (Below.M N) (R := R) N x1 leaves2 kr0
def gts : List (Nat × AV) := [(3, .err 1), (10, .err 11), (14, .err 15)]
theorem gok (N : Nat) : GOk (g (Above.M N) (Below.M N)) := giD_ok hm (by intro p hp; cases hp) (gtL_ok (by decide)) (ovL_ok (by
    intro p hp
    simp only [List.mem_cons, List.not_mem_nil, or_false] at hp
    rcases hp with rfl | rfl
    · exact ⟨(Above.ok N).gt (gtL_sub (by repeat (first | exact subG_nil _ | refine subG_cons (by kernel_rfl) ?_))) (gtL_ok (by decide)), _, Tryd.func46, by kernel_rfl, by kernel_rfl⟩
    · exact ⟨(Below.ok N).gt (gtL_sub (by repeat (first | exact subG_nil _ | refine subG_cons (by kernel_rfl) ?_))) (gtL_ok (by decide)), _, Tryd.func58, by kernel_rfl, by kernel_rfl⟩
)) 1
theorem ok (N : Nat) : SoundC Tryd.prog (gtL gts) 44 (con (M N)) := by
  refine SoundC.mono (evF_ok (gok N) hm an N Tryd.func44) fun R args bs κ r h => ?_
  unfold con at h
  split at h
  · exact (eq (Above.M N) (Below.M N) N κ _ _).trans h
  · cases h
end Beside


/-! ### Tryd.f31: Way -/
namespace Way
def an : Anns := ⟨fun i => findA i [(3, ⟨[1, 5, 6, 7], [⟨5, 0, T.int IntKind.i64, none⟩], 1, []⟩)], fun i => findA i [], false, fun _ => none, []⟩
noncomputable def g (mAbove : Above.Ty) : Gi := giD Tryd.prog (gtL [(3, .err 1), (14, .err 15)]) (fun _ => an) 0 [] (ovL [(46, Above.con mAbove)]) 1
noncomputable def c_L3 : Code := loopOf Tryd.f31 0
def s_L3 (leaves1 : Int) (up6 : Int) (err7 : Nat) (h0 : Bool) (h0_4 : List Int) : St := ⟨[AV.dead, AV.int IntKind.i64 leaves1, AV.dead, AV.dead, AV.dead, AV.own 0 [] 0 none, AV.int IntKind.i64 up6, AV.err err7] ++ List.replicate 19 .dead, [Blk.row IntKind.i64 h0 h0_4]⟩
def x_L3_0 (leaves1 : Int) (up6 : Int) (err7 : Nat) (h0 : Bool) (h0_4 : List Int) : St := ⟨[AV.dead, AV.int IntKind.i64 leaves1, AV.dead, AV.dead, AV.dead, AV.own 0 [] 0 none, AV.int IntKind.i64 up6, AV.err err7] ++ List.replicate 6 .dead ++ [AV.err err7, AV.bool (err7.beq 0)] ++ List.replicate 11 .dead, [Blk.row IntKind.i64 h0 h0_4]⟩
noncomputable def L3 (mAbove : Above.Ty) {R : Type} (N : Nat) (ke0 : Int → Int → Nat → Bool → (List Int) → Option R) : Nat → Int → Int → Nat → Bool → (List Int) → Option R
  | 0, _, _, _, _, _ => none
  | m + 1, leaves1, up6, err7, h0, h0_4 =>
    cond (err7.beq 0)
     (cond (decide ((h0_4.length + 1) * 8 ≤ 140737488355328))
      (cond (decide (h0_4.length + 1 ≤ 140737488355328))
       (mAbove R up6 leaves1
        (fun v_c19 v_1_c20 => L3 mAbove N ke0 m leaves1 v_c19 v_1_c20 false (h0_4 ++ [up6])))
       (none))
      (none))
     (ke0 leaves1 up6 err7 h0 h0_4)
theorem round_L3 (mAbove : Above.Ty) {R : Type} (N : Nat) (Rn : St → Option R) (k : K R) (leaves1 : Int) (up6 : Int) (err7 : Nat) (h0 : Bool) (h0_4 : List Int) : evC (g mAbove) an 0 N c_L3 none (roundK (nmOf 0 (an.loop 3)) Rn k) (s_L3 leaves1 up6 err7 h0 h0_4) =
  cond (err7.beq 0)
   (cond (decide ((h0_4.length + 1) * 8 ≤ 140737488355328))
    (cond (decide (h0_4.length + 1 ≤ 140737488355328))
     (mAbove R up6 leaves1
      (fun v_c19 v_1_c20 => Rn (s_L3 leaves1 v_c19 v_1_c20 false (h0_4 ++ [up6]))))
     (none))
    (none))
   (k.ext 0 (x_L3_0 leaves1 up6 err7 h0 h0_4)) := by kernel_rfl
theorem run_L3 (mAbove : Above.Ty) {R : Type} (N : Nat) (k : K R) : ∀ (m : Nat) (leaves1 : Int) (up6 : Int) (err7 : Nat) (h0 : Bool) (h0_4 : List Int), loopN (evC (g mAbove) an 0 N c_L3 none) k (nmOf 0 (an.loop 3)) m (s_L3 leaves1 up6 err7 h0 h0_4) =
    L3 mAbove N (fun leaves1 up6 err7 h0 h0_4 => (k).ext 0 (x_L3_0 leaves1 up6 err7 h0 h0_4)) m leaves1 up6 err7 h0 h0_4 := by
  intro m
  induction m with
  | zero => intros; rfl
  | succ m ih =>
    intros
    rw [loopN_succ, round_L3]
    simp only [ih]
    kernel_rfl
noncomputable def m (mAbove : Above.Ty) {R : Type} (N : Nat) (x1 : Int) (leaves2 : Int) (kr0 : (List Int) → Option R) : Option R :=
  mAbove R x1 leaves2
   (fun v_c17 v_1_c18 => L3 mAbove N
    (fun _leaves1_c21 _up6_c22 _err7_c23 _h0_c24 h0_4_c25 => kr0 h0_4_c25) N leaves2 v_c17 v_1_c18 true [])
theorem tree (mAbove : Above.Ty) {R : Type} (N : Nat) (κ : AV → List Blk → Option R) (x1 : Int) (leaves2 : Int) : evF (g mAbove) an N Tryd.f31 [AV.int IntKind.i64 x1, AV.int IntKind.i64 leaves2] [] κ =
  mAbove R x1 leaves2
   (fun v_c17 v_1_c18 => loopN (evC (g mAbove) an 0 N c_L3 none) (ctx (g mAbove) an 0 N (bodyOf Tryd.f31) [1, 1, 0, 1, 0] (endK (g mAbove) an Tryd.f31 [] κ)) (nmOf 0 (an.loop 3)) N (s_L3 leaves2 v_c17 v_1_c18 true [])) := by kernel_rfl
theorem eq (mAbove : Above.Ty) {R : Type} (N : Nat) (κ : AV → List Blk → Option R) (x1 : Int) (leaves2 : Int) : evF (g mAbove) an N Tryd.f31 [AV.int IntKind.i64 x1, AV.int IntKind.i64 leaves2] [] κ =
  m mAbove N x1 leaves2 (fun v => κ (AV.isl IntKind.i64 none v) []) := by
  rw [tree]
  simp only [run_L3]
  kernel_rfl
abbrev Ty : Type 1 := ∀ R : Type, Int → Int → ((List Int) → Option R) → Option R
def con (f : Ty) : Con := fun R args bs κ => match args, bs with
  | [AV.int IntKind.i64 x1, AV.int IntKind.i64 leaves2], [] => f R x1 leaves2 (fun v => κ (AV.isl IntKind.i64 none v) [])
  | _, _ => none
theorem con_eq (f : Ty) (R : Type) (κ : AV → List Blk → Option R) (x1 : Int) (leaves2 : Int) : con f R [AV.int IntKind.i64 x1, AV.int IntKind.i64 leaves2] [] κ = f R x1 leaves2 (fun v => κ (AV.isl IntKind.i64 none v) []) := rfl
noncomputable def M (N : Nat) : Ty := fun R x1 leaves2 kr0 => m (Above.M N) (R := R) N x1 leaves2 kr0
def gts : List (Nat × AV) := [(3, .err 1), (14, .err 15)]
theorem gok (N : Nat) : GOk (g (Above.M N)) := giD_ok hm (by intro p hp; cases hp) (gtL_ok (by decide)) (ovL_ok (by
    intro p hp
    simp only [List.mem_cons, List.not_mem_nil, or_false] at hp
    rcases hp with rfl
    · exact ⟨(Above.ok N).gt (gtL_sub (by repeat (first | exact subG_nil _ | refine subG_cons (by kernel_rfl) ?_))) (gtL_ok (by decide)), _, Tryd.func46, by kernel_rfl, by kernel_rfl⟩
)) 1
theorem ok (N : Nat) : SoundC Tryd.prog (gtL gts) 31 (con (M N)) := by
  refine SoundC.mono (evF_ok (gok N) hm an N Tryd.func31) fun R args bs κ r h => ?_
  unfold con at h
  split at h
  · exact (eq (Above.M N) N κ _ _).trans h
  · cases h
end Way


/-! ### Tryd.f29: Coway -/
namespace Coway
def an : Anns := ⟨fun i => findA i [(3, ⟨[1, 5, 15, 16, 17], [⟨15, 0, T.int IntKind.i64, none⟩, ⟨5, 1, T.int IntKind.i64, none⟩], 2, []⟩)], fun i => findA i [], false, fun _ => none, []⟩
noncomputable def g (mWay : Way.Ty) (mBeside : Beside.Ty) : Gi := giD Tryd.prog (gtL [(3, .err 1), (10, .err 11), (14, .err 15)]) (fun _ => an) 0 [] (ovL [(31, Way.con mWay), (44, Beside.con mBeside)]) 1
noncomputable def c_L3 : Code := loopOf Tryd.f29 0
def s_L3 (leaves1 : Int) (t16 : Int) (t17 : Int) (h0 : Bool) (h0_4 : List Int) (h1 : Bool) (h1_6 : List Int) : St := ⟨[AV.dead, AV.int IntKind.i64 leaves1, AV.dead, AV.dead, AV.dead, AV.own 1 [] 0 none] ++ List.replicate 9 .dead ++ [AV.own 0 [] 0 none, AV.int IntKind.i64 t16, AV.int IntKind.i64 t17] ++ List.replicate 17 .dead, [Blk.row IntKind.i64 h0 h0_4, Blk.row IntKind.i64 h1 h1_6]⟩
def x_L3_0 (leaves1 : Int) (t16 : Int) (t17 : Int) (h0 : Bool) (h0_4 : List Int) (h1 : Bool) (h1_6 : List Int) : St := ⟨[AV.dead, AV.int IntKind.i64 leaves1, AV.dead, AV.dead, AV.dead, AV.own 1 [] 0 none] ++ List.replicate 9 .dead ++ [AV.own 0 [] 0 none, AV.int IntKind.i64 t16, AV.int IntKind.i64 t17, AV.bool (decide (t17 < t16))] ++ List.replicate 16 .dead, [Blk.row IntKind.i64 h0 h0_4, Blk.row IntKind.i64 h1 h1_6]⟩
noncomputable def L3 (mWay : Way.Ty) (mBeside : Beside.Ty) {R : Type} (N : Nat) (ke0 : Int → Int → Int → Bool → (List Int) → Bool → (List Int) → Option R) : Nat → Int → Int → Int → Bool → (List Int) → Bool → (List Int) → Option R
  | 0, _, _, _, _, _, _, _ => none
  | m + 1, leaves1, t16, t17, h0, h0_4, h1, h1_6 =>
    cond (decide (t17 < t16))
     (cond (decide (0 ≤ t17))
      (cond (decide (t17 < (↑(olen none h0_4.length 0) : Int)))
       (mBeside R (h0_4.getD (0 + t17.toNat) 0) leaves1
        (fun v_c17 v_1_c18 => cond (v_1_c18.beq 0)
         (cond (decide ((h1_6.length + 1) * 8 ≤ 140737488355328))
          (cond (decide (h1_6.length + 1 ≤ 140737488355328))
           (L3 mWay mBeside N ke0 m leaves1 t16 (IntKind.i64.wrap (t17 + 1)) h0 h0_4 false (h1_6 ++ [v_c17]))
           (none))
          (none))
         (L3 mWay mBeside N ke0 m leaves1 t16 (IntKind.i64.wrap (t17 + 1)) h0 h0_4 h1 h1_6)))
       (none))
      (none))
     (ke0 leaves1 t16 t17 h0 h0_4 h1 h1_6)
theorem round_L3 (mWay : Way.Ty) (mBeside : Beside.Ty) {R : Type} (N : Nat) (Rn : St → Option R) (k : K R) (leaves1 : Int) (t16 : Int) (t17 : Int) (h0 : Bool) (h0_4 : List Int) (h1 : Bool) (h1_6 : List Int) : evC (g mWay mBeside) an 0 N c_L3 none (roundK (nmOf 0 (an.loop 3)) Rn k) (s_L3 leaves1 t16 t17 h0 h0_4 h1 h1_6) =
  cond (decide (t17 < t16))
   (cond (decide (0 ≤ t17))
    (cond (decide (t17 < (↑(olen none h0_4.length 0) : Int)))
     (mBeside R (h0_4.getD (0 + t17.toNat) 0) leaves1
      (fun v_c17 v_1_c18 => cond (v_1_c18.beq 0)
       (cond (decide ((h1_6.length + 1) * 8 ≤ 140737488355328))
        (cond (decide (h1_6.length + 1 ≤ 140737488355328))
         (Rn (s_L3 leaves1 t16 (IntKind.i64.wrap (t17 + 1)) h0 h0_4 false (h1_6 ++ [v_c17])))
         (none))
        (none))
       (Rn (s_L3 leaves1 t16 (IntKind.i64.wrap (t17 + 1)) h0 h0_4 h1 h1_6))))
     (none))
    (none))
   (k.ext 0 (x_L3_0 leaves1 t16 t17 h0 h0_4 h1 h1_6)) := by kernel_rfl
theorem run_L3 (mWay : Way.Ty) (mBeside : Beside.Ty) {R : Type} (N : Nat) (k : K R) : ∀ (m : Nat) (leaves1 : Int) (t16 : Int) (t17 : Int) (h0 : Bool) (h0_4 : List Int) (h1 : Bool) (h1_6 : List Int), loopN (evC (g mWay mBeside) an 0 N c_L3 none) k (nmOf 0 (an.loop 3)) m (s_L3 leaves1 t16 t17 h0 h0_4 h1 h1_6) =
    L3 mWay mBeside N (fun leaves1 t16 t17 h0 h0_4 h1 h1_6 => (k).ext 0 (x_L3_0 leaves1 t16 t17 h0 h0_4 h1 h1_6)) m leaves1 t16 t17 h0 h0_4 h1 h1_6 := by
  intro m
  induction m with
  | zero => intros; rfl
  | succ m ih =>
    intros
    rw [loopN_succ, round_L3]
    simp only [ih]
    kernel_rfl
noncomputable def m (mWay : Way.Ty) (mBeside : Beside.Ty) {R : Type} (N : Nat) (x1 : Int) (leaves2 : Int) (kr0 : (List Int) → Option R) : Option R :=
  mWay R x1 leaves2
   (fun v_c16 => cond (decide ((1 + v_c16.length) * 8 ≤ 140737488355328))
    (cond (decide (1 + v_c16.length ≤ 140737488355328))
     (L3 mWay mBeside N
      (fun _leaves1_c19 _t16_c20 _t17_c21 _h0_c22 _h0_4_c23 _h1_c24 h1_6_c25 => kr0 h1_6_c25) N leaves2 ((↑(olen none ([x1] ++ v_c16).length 0) : Int)) 0 (v_c16.isEmpty && false) ([x1] ++ v_c16) true [])
     (none))
    (none))
theorem tree (mWay : Way.Ty) (mBeside : Beside.Ty) {R : Type} (N : Nat) (κ : AV → List Blk → Option R) (x1 : Int) (leaves2 : Int) : evF (g mWay mBeside) an N Tryd.f29 [AV.int IntKind.i64 x1, AV.int IntKind.i64 leaves2] [] κ =
  mWay R x1 leaves2
   (fun v_c16 => cond (decide ((1 + v_c16.length) * 8 ≤ 140737488355328))
    (cond (decide (1 + v_c16.length ≤ 140737488355328))
     (loopN (evC (g mWay mBeside) an 0 N c_L3 none) (ctx (g mWay mBeside) an 0 N (bodyOf Tryd.f29) [1, 1, 0, 1, 0] (endK (g mWay mBeside) an Tryd.f29 [] κ)) (nmOf 0 (an.loop 3)) N (s_L3 leaves2 ((↑(olen none ([x1] ++ v_c16).length 0) : Int)) 0 (v_c16.isEmpty && false) ([x1] ++ v_c16) true []))
     (none))
    (none)) := by kernel_rfl
theorem eq (mWay : Way.Ty) (mBeside : Beside.Ty) {R : Type} (N : Nat) (κ : AV → List Blk → Option R) (x1 : Int) (leaves2 : Int) : evF (g mWay mBeside) an N Tryd.f29 [AV.int IntKind.i64 x1, AV.int IntKind.i64 leaves2] [] κ =
  m mWay mBeside N x1 leaves2 (fun v => κ (AV.isl IntKind.i64 none v) []) := by
  rw [tree]
  simp only [run_L3]
  kernel_rfl
abbrev Ty : Type 1 := ∀ R : Type, Int → Int → ((List Int) → Option R) → Option R
def con (f : Ty) : Con := fun R args bs κ => match args, bs with
  | [AV.int IntKind.i64 x1, AV.int IntKind.i64 leaves2], [] => f R x1 leaves2 (fun v => κ (AV.isl IntKind.i64 none v) [])
  | _, _ => none
theorem con_eq (f : Ty) (R : Type) (κ : AV → List Blk → Option R) (x1 : Int) (leaves2 : Int) : con f R [AV.int IntKind.i64 x1, AV.int IntKind.i64 leaves2] [] κ = f R x1 leaves2 (fun v => κ (AV.isl IntKind.i64 none v) []) := rfl
noncomputable def M (N : Nat) : Ty := fun R x1 leaves2 kr0 => m (Way.M N) (Beside.M N) (R := R) N x1 leaves2 kr0
def gts : List (Nat × AV) := [(3, .err 1), (10, .err 11), (14, .err 15)]
theorem gok (N : Nat) : GOk (g (Way.M N) (Beside.M N)) := giD_ok hm (by intro p hp; cases hp) (gtL_ok (by decide)) (ovL_ok (by
    intro p hp
    simp only [List.mem_cons, List.not_mem_nil, or_false] at hp
    rcases hp with rfl | rfl
    · exact ⟨(Way.ok N).gt (gtL_sub (by repeat (first | exact subG_nil _ | refine subG_cons (by kernel_rfl) ?_))) (gtL_ok (by decide)), _, Tryd.func31, by kernel_rfl, by kernel_rfl⟩
    · exact ⟨(Beside.ok N).gt (gtL_sub (by repeat (first | exact subG_nil _ | refine subG_cons (by kernel_rfl) ?_))) (gtL_ok (by decide)), _, Tryd.func44, by kernel_rfl, by kernel_rfl⟩
)) 1
theorem ok (N : Nat) : SoundC Tryd.prog (gtL gts) 29 (con (M N)) := by
  refine SoundC.mono (evF_ok (gok N) hm an N Tryd.func29) fun R args bs κ r h => ?_
  unfold con at h
  split at h
  · exact (eq (Way.M N) (Beside.M N) N κ _ _).trans h
  · cases h
end Coway


/-! ### Tryd.f34: Under -/
namespace Under
def an : Anns := ⟨fun i => findA i [], fun i => findA i [], false, fun _ => none, []⟩
noncomputable def g (misP : isP.Ty) (mLevel : Level.Ty) : Gi := giD Tryd.prog (gtL []) (fun _ => an) 0 [] (ovL [(45, isP.con misP), (32, Level.con mLevel)]) 1
noncomputable def m (misP : isP.Ty) (mLevel : Level.Ty) {R : Type} (_N : Nat) (x1 : Int) (y2 : Int) (kr0 : Bool → Option R) : Option R :=
  misP R x1
   (fun v_c6 => cond (!v_c6)
    (kr0 false)
    (misP R y2
     (fun v_c7 => cond (!v_c7)
      (kr0 false)
      (mLevel R x1
       (fun v_c8 => cond (true && decide (v_c8 < 0))
        (none)
        (mLevel R y2
         (fun v_c9 => mLevel R x1
          (fun v_c10 => cond (decide (v_c9 ≤ v_c10))
           (cond (decide (y2 ≥ IntKind.i64.wrap (x1 - IntKind.i64.wrap (ishl IntKind.i64 1 v_c8 - 1))))
            (kr0 (decide (y2 ≤ IntKind.i64.wrap (x1 + IntKind.i64.wrap (ishl IntKind.i64 1 v_c8 - 1)))))
            (kr0 false))
           (kr0 false)))))))))
theorem tree (misP : isP.Ty) (mLevel : Level.Ty) {R : Type} (N : Nat) (κ : AV → List Blk → Option R) (x1 : Int) (y2 : Int) : evF (g misP mLevel) an N Tryd.f34 [AV.int IntKind.i64 x1, AV.int IntKind.i64 y2] [] κ =
  misP R x1
   (fun v_c6 => cond (!v_c6)
    (κ (AV.bool false) [])
    (misP R y2
     (fun v_c7 => cond (!v_c7)
      (κ (AV.bool false) [])
      (mLevel R x1
       (fun v_c8 => cond (true && decide (v_c8 < 0))
        (none)
        (mLevel R y2
         (fun v_c9 => mLevel R x1
          (fun v_c10 => cond (decide (v_c9 ≤ v_c10))
           (cond (decide (y2 ≥ IntKind.i64.wrap (x1 - IntKind.i64.wrap (ishl IntKind.i64 1 v_c8 - 1))))
            (κ (AV.bool (decide (y2 ≤ IntKind.i64.wrap (x1 + IntKind.i64.wrap (ishl IntKind.i64 1 v_c8 - 1))))) [])
            (κ (AV.bool false) []))
           (κ (AV.bool false) []))))))))) := by kernel_rfl
theorem eq (misP : isP.Ty) (mLevel : Level.Ty) {R : Type} (N : Nat) (κ : AV → List Blk → Option R) (x1 : Int) (y2 : Int) : evF (g misP mLevel) an N Tryd.f34 [AV.int IntKind.i64 x1, AV.int IntKind.i64 y2] [] κ =
  m misP mLevel N x1 y2 (fun v => κ (AV.bool v) []) := by
  rw [tree]
  kernel_rfl
abbrev Ty : Type 1 := ∀ R : Type, Int → Int → (Bool → Option R) → Option R
def con (f : Ty) : Con := fun R args bs κ => match args, bs with
  | [AV.int IntKind.i64 x1, AV.int IntKind.i64 y2], [] => f R x1 y2 (fun v => κ (AV.bool v) [])
  | _, _ => none
theorem con_eq (f : Ty) (R : Type) (κ : AV → List Blk → Option R) (x1 : Int) (y2 : Int) : con f R [AV.int IntKind.i64 x1, AV.int IntKind.i64 y2] [] κ = f R x1 y2 (fun v => κ (AV.bool v) []) := rfl
noncomputable def M (N : Nat) : Ty := fun R x1 y2 kr0 => m (isP.M N) (Level.M N) (R := R) N x1 y2 kr0
def gts : List (Nat × AV) := []
theorem gok (N : Nat) : GOk (g (isP.M N) (Level.M N)) := giD_ok hm (by intro p hp; cases hp) (gtL_ok (by decide)) (ovL_ok (by
    intro p hp
    simp only [List.mem_cons, List.not_mem_nil, or_false] at hp
    rcases hp with rfl | rfl
    · exact ⟨(isP.ok N).gt (gtL_sub (by repeat (first | exact subG_nil _ | refine subG_cons (by kernel_rfl) ?_))) (gtL_ok (by decide)), _, Tryd.func45, by kernel_rfl, by kernel_rfl⟩
    · exact ⟨(Level.ok N).gt (gtL_sub (by repeat (first | exact subG_nil _ | refine subG_cons (by kernel_rfl) ?_))) (gtL_ok (by decide)), _, Tryd.func32, by kernel_rfl, by kernel_rfl⟩
)) 1
theorem ok (N : Nat) : SoundC Tryd.prog (gtL gts) 34 (con (M N)) := by
  refine SoundC.mono (evF_ok (gok N) hm an N Tryd.func34) fun R args bs κ r h => ?_
  unfold con at h
  split at h
  · exact (eq (isP.M N) (Level.M N) N κ _ _).trans h
  · cases h
end Under


/-! ### Tryd.f30: Leaves -/
namespace Leaves
def an : Anns := ⟨fun i => findA i [(6, ⟨[0, 3, 4, 5], [⟨3, 0, T.int IntKind.i64, none⟩], 1, []⟩)], fun i => findA i [], false, fun _ => none, []⟩
noncomputable def g (misP : isP.Ty) (mLevel : Level.Ty) : Gi := giD Tryd.prog (gtL []) (fun _ => an) 0 [] (ovL [(45, isP.con misP), (32, Level.con mLevel)]) 1
noncomputable def c_L6 : Code := loopOf Tryd.f30 0
def s_L6 (x0 : Int) (half4 : Int) (at5 : Int) (h0 : Bool) (h0_4 : List Int) : St := ⟨[AV.int IntKind.i64 x0, AV.dead, AV.dead, AV.own 0 [] 0 none, AV.int IntKind.i64 half4, AV.int IntKind.i64 at5] ++ List.replicate 23 .dead, [Blk.row IntKind.i64 h0 h0_4]⟩
def x_L6_0 (x0 : Int) (half4 : Int) (at5 : Int) (h0 : Bool) (h0_4 : List Int) : St := ⟨[AV.int IntKind.i64 x0, AV.dead, AV.dead, AV.own 0 [] 0 none, AV.int IntKind.i64 half4, AV.int IntKind.i64 at5] ++ List.replicate 10 .dead ++ [AV.int IntKind.i64 at5, AV.int IntKind.i64 x0, AV.int IntKind.i64 half4, AV.int IntKind.i64 (IntKind.i64.wrap (x0 + half4)), AV.bool (decide (at5 ≤ IntKind.i64.wrap (x0 + half4)))] ++ List.replicate 8 .dead, [Blk.row IntKind.i64 h0 h0_4]⟩
noncomputable def L6 (misP : isP.Ty) (mLevel : Level.Ty) {R : Type} (N : Nat) (ke0 : Int → Int → Int → Bool → (List Int) → Option R) : Nat → Int → Int → Int → Bool → (List Int) → Option R
  | 0, _, _, _, _, _ => none
  | m + 1, x0, half4, at5, h0, h0_4 =>
    cond (decide (at5 ≤ IntKind.i64.wrap (x0 + half4)))
     (cond (decide ((h0_4.length + 1) * 8 ≤ 140737488355328))
      (cond (decide (h0_4.length + 1 ≤ 140737488355328))
       (L6 misP mLevel N ke0 m x0 half4 (IntKind.i64.wrap (at5 + 2)) false (h0_4 ++ [IntKind.i64.wrap (at5.tdiv 2)]))
       (none))
      (none))
     (ke0 x0 half4 at5 h0 h0_4)
theorem round_L6 (misP : isP.Ty) (mLevel : Level.Ty) {R : Type} (N : Nat) (Rn : St → Option R) (k : K R) (x0 : Int) (half4 : Int) (at5 : Int) (h0 : Bool) (h0_4 : List Int) : evC (g misP mLevel) an 0 N c_L6 none (roundK (nmOf 0 (an.loop 6)) Rn k) (s_L6 x0 half4 at5 h0 h0_4) =
  cond (decide (at5 ≤ IntKind.i64.wrap (x0 + half4)))
   (cond (decide ((h0_4.length + 1) * 8 ≤ 140737488355328))
    (cond (decide (h0_4.length + 1 ≤ 140737488355328))
     (Rn (s_L6 x0 half4 (IntKind.i64.wrap (at5 + 2)) false (h0_4 ++ [IntKind.i64.wrap (at5.tdiv 2)])))
     (none))
    (none))
   (k.ext 0 (x_L6_0 x0 half4 at5 h0 h0_4)) := by kernel_rfl
theorem run_L6 (misP : isP.Ty) (mLevel : Level.Ty) {R : Type} (N : Nat) (k : K R) : ∀ (m : Nat) (x0 : Int) (half4 : Int) (at5 : Int) (h0 : Bool) (h0_4 : List Int), loopN (evC (g misP mLevel) an 0 N c_L6 none) k (nmOf 0 (an.loop 6)) m (s_L6 x0 half4 at5 h0 h0_4) =
    L6 misP mLevel N (fun x0 half4 at5 h0 h0_4 => (k).ext 0 (x_L6_0 x0 half4 at5 h0 h0_4)) m x0 half4 at5 h0 h0_4 := by
  intro m
  induction m with
  | zero => intros; rfl
  | succ m ih =>
    intros
    rw [loopN_succ, round_L6]
    simp only [ih]
    kernel_rfl
noncomputable def m (misP : isP.Ty) (mLevel : Level.Ty) {R : Type} (N : Nat) (x1 : Int) (kr0 : (Option Bool) → (List Int) → Option R) : Option R :=
  misP R x1
   (fun v_c12 => cond (!v_c12)
    (kr0 (some true) [])
    (mLevel R x1
     (fun v_c13 => cond (true && decide (v_c13 < 0))
      (none)
      (L6 misP mLevel N
       (fun _x0_c14 _half4_c15 _at5_c16 _h0_c17 h0_4_c18 => kr0 none h0_4_c18) N x1 (IntKind.i64.wrap (ishl IntKind.i64 1 v_c13 - 1)) (IntKind.i64.wrap (x1 - IntKind.i64.wrap (ishl IntKind.i64 1 v_c13 - 1))) true []))))
theorem tree (misP : isP.Ty) (mLevel : Level.Ty) {R : Type} (N : Nat) (κ : AV → List Blk → Option R) (x1 : Int) : evF (g misP mLevel) an N Tryd.f30 [AV.int IntKind.i64 x1] [] κ =
  misP R x1
   (fun v_c12 => cond (!v_c12)
    (κ (AV.isl IntKind.i64 (some true) []) [])
    (mLevel R x1
     (fun v_c13 => cond (true && decide (v_c13 < 0))
      (none)
      (loopN (evC (g misP mLevel) an 0 N c_L6 none) (ctx (g misP mLevel) an 0 N (bodyOf Tryd.f30) [1, 1, 1, 1, 0, 1, 0] (endK (g misP mLevel) an Tryd.f30 [] κ)) (nmOf 0 (an.loop 6)) N (s_L6 x1 (IntKind.i64.wrap (ishl IntKind.i64 1 v_c13 - 1)) (IntKind.i64.wrap (x1 - IntKind.i64.wrap (ishl IntKind.i64 1 v_c13 - 1))) true []))))) := by kernel_rfl
theorem eq (misP : isP.Ty) (mLevel : Level.Ty) {R : Type} (N : Nat) (κ : AV → List Blk → Option R) (x1 : Int) : evF (g misP mLevel) an N Tryd.f30 [AV.int IntKind.i64 x1] [] κ =
  m misP mLevel N x1 (fun v v_1 => κ (AV.isl IntKind.i64 v v_1) []) := by
  rw [tree]
  simp only [run_L6]
  kernel_rfl
abbrev Ty : Type 1 := ∀ R : Type, Int → ((Option Bool) → (List Int) → Option R) → Option R
def con (f : Ty) : Con := fun R args bs κ => match args, bs with
  | [AV.int IntKind.i64 x1], [] => f R x1 (fun v v_1 => κ (AV.isl IntKind.i64 v v_1) [])
  | _, _ => none
theorem con_eq (f : Ty) (R : Type) (κ : AV → List Blk → Option R) (x1 : Int) : con f R [AV.int IntKind.i64 x1] [] κ = f R x1 (fun v v_1 => κ (AV.isl IntKind.i64 v v_1) []) := rfl
noncomputable def M (N : Nat) : Ty := fun R x1 kr0 => m (isP.M N) (Level.M N) (R := R) N x1 kr0
def gts : List (Nat × AV) := []
theorem gok (N : Nat) : GOk (g (isP.M N) (Level.M N)) := giD_ok hm (by intro p hp; cases hp) (gtL_ok (by decide)) (ovL_ok (by
    intro p hp
    simp only [List.mem_cons, List.not_mem_nil, or_false] at hp
    rcases hp with rfl | rfl
    · exact ⟨(isP.ok N).gt (gtL_sub (by repeat (first | exact subG_nil _ | refine subG_cons (by kernel_rfl) ?_))) (gtL_ok (by decide)), _, Tryd.func45, by kernel_rfl, by kernel_rfl⟩
    · exact ⟨(Level.ok N).gt (gtL_sub (by repeat (first | exact subG_nil _ | refine subG_cons (by kernel_rfl) ?_))) (gtL_ok (by decide)), _, Tryd.func32, by kernel_rfl, by kernel_rfl⟩
)) 1
theorem ok (N : Nat) : SoundC Tryd.prog (gtL gts) 30 (con (M N)) := by
  refine SoundC.mono (evF_ok (gok N) hm an N Tryd.func30) fun R args bs κ r h => ?_
  unfold con at h
  split at h
  · exact (eq (isP.M N) (Level.M N) N κ _).trans h
  · cases h
end Leaves


/-! ### Tryd.f43: SameInts -/
namespace SameInts
def an : Anns := ⟨fun i => findA i [(4, ⟨[0, 1, 12, 13], [], 0, []⟩)], fun i => findA i [], false, fun _ => none, []⟩
noncomputable def g : Gi := giD Tryd.prog (gtL []) (fun _ => an) 0 [] (ovL []) 1
noncomputable def c_L4 : Code := loopOf Tryd.f43 0
def s_L4 (a0 : Option Bool) (a0_1 : List Int) (b1 : Option Bool) (b1_3 : List Int) (t12 : Int) (t13 : Int) : St := ⟨[AV.isl IntKind.i64 a0 a0_1, AV.isl IntKind.i64 b1 b1_3] ++ List.replicate 10 .dead ++ [AV.int IntKind.i64 t12, AV.int IntKind.i64 t13] ++ List.replicate 12 .dead, []⟩
def x_L4_0 (a0 : Option Bool) (a0_1 : List Int) (b1 : Option Bool) (b1_3 : List Int) (t12 : Int) (t13 : Int) : St := ⟨[AV.isl IntKind.i64 a0 a0_1, AV.isl IntKind.i64 b1 b1_3, AV.dead, AV.dead, AV.bool false, AV.int IntKind.i64 t13] ++ List.replicate 6 .dead ++ [AV.int IntKind.i64 t12, AV.int IntKind.i64 t13, AV.bool (decide (t13 < t12)), AV.int IntKind.i64 t13, AV.isl IntKind.i64 a0 a0_1, AV.int IntKind.i64 t13, AV.rpi IntKind.i64 (a0_1.getD t13.toNat 0), AV.int IntKind.i64 (a0_1.getD t13.toNat 0), AV.isl IntKind.i64 b1 b1_3, AV.int IntKind.i64 t13, AV.rpi IntKind.i64 (b1_3.getD t13.toNat 0), AV.int IntKind.i64 (b1_3.getD t13.toNat 0), AV.bool (a0_1.getD t13.toNat 0 != b1_3.getD t13.toNat 0), AV.dead], []⟩
def x_L4_1 (a0 : Option Bool) (a0_1 : List Int) (b1 : Option Bool) (b1_3 : List Int) (t12 : Int) (t13 : Int) : St := ⟨[AV.isl IntKind.i64 a0 a0_1, AV.isl IntKind.i64 b1 b1_3] ++ List.replicate 10 .dead ++ [AV.int IntKind.i64 t12, AV.int IntKind.i64 t13, AV.bool (decide (t13 < t12))] ++ List.replicate 11 .dead, []⟩
noncomputable def L4 {R : Type} (N : Nat) (ke0 : (Option Bool) → (List Int) → (Option Bool) → (List Int) → Int → Int → Option R) (ke1 : (Option Bool) → (List Int) → (Option Bool) → (List Int) → Int → Int → Option R) : Nat → (Option Bool) → (List Int) → (Option Bool) → (List Int) → Int → Int → Option R
  | 0, _, _, _, _, _, _ => none
  | m + 1, a0, a0_1, b1, b1_3, t12, t13 =>
    cond (decide (t13 < t12))
     (cond (decide (0 ≤ t13))
      (cond (decide (t13 < (↑a0_1.length : Int)))
       (cond (decide (0 ≤ t13))
        (cond (decide (t13 < (↑b1_3.length : Int)))
         (cond (a0_1.getD t13.toNat 0 != b1_3.getD t13.toNat 0)
          (ke0 a0 a0_1 b1 b1_3 t12 t13)
          (L4 N ke0 ke1 m a0 a0_1 b1 b1_3 t12 (IntKind.i64.wrap (t13 + 1))))
         (none))
        (none))
       (none))
      (none))
     (ke1 a0 a0_1 b1 b1_3 t12 t13)
theorem round_L4 {R : Type} (N : Nat) (Rn : St → Option R) (k : K R) (a0 : Option Bool) (a0_1 : List Int) (b1 : Option Bool) (b1_3 : List Int) (t12 : Int) (t13 : Int) : evC (g) an 0 N c_L4 none (roundK (nmOf 0 (an.loop 4)) Rn k) (s_L4 a0 a0_1 b1 b1_3 t12 t13) =
  cond (decide (t13 < t12))
   (cond (decide (0 ≤ t13))
    (cond (decide (t13 < (↑a0_1.length : Int)))
     (cond (decide (0 ≤ t13))
      (cond (decide (t13 < (↑b1_3.length : Int)))
       (cond (a0_1.getD t13.toNat 0 != b1_3.getD t13.toNat 0)
        (k.ret (x_L4_0 a0 a0_1 b1 b1_3 t12 t13))
        (Rn (s_L4 a0 a0_1 b1 b1_3 t12 (IntKind.i64.wrap (t13 + 1)))))
       (none))
      (none))
     (none))
    (none))
   (k.ext 0 (x_L4_1 a0 a0_1 b1 b1_3 t12 t13)) := by kernel_rfl
theorem run_L4 {R : Type} (N : Nat) (k : K R) : ∀ (m : Nat) (a0 : Option Bool) (a0_1 : List Int) (b1 : Option Bool) (b1_3 : List Int) (t12 : Int) (t13 : Int), loopN (evC (g) an 0 N c_L4 none) k (nmOf 0 (an.loop 4)) m (s_L4 a0 a0_1 b1 b1_3 t12 t13) =
    L4 N (fun a0 a0_1 b1 b1_3 t12 t13 => (k).ret (x_L4_0 a0 a0_1 b1 b1_3 t12 t13)) (fun a0 a0_1 b1 b1_3 t12 t13 => (k).ext 0 (x_L4_1 a0 a0_1 b1 b1_3 t12 t13)) m a0 a0_1 b1 b1_3 t12 t13 := by
  intro m
  induction m with
  | zero => intros; rfl
  | succ m ih =>
    intros
    rw [loopN_succ, round_L4]
    simp only [ih]
    kernel_rfl
noncomputable def m {R : Type} (N : Nat) (aN1 : Option Bool) (a2 : List Int) (bN3 : Option Bool) (b4 : List Int) (kr0 : Bool → Option R) : Option R :=
  cond ((↑a2.length : Int) != (↑b4.length : Int))
   (kr0 false)
   (L4 N
    (fun _a0_c12 _a0_1_c13 _b1_c14 _b1_3_c15 _t12_c16 _t13_c17 => kr0 false)
    (fun _a0_c18 _a0_1_c19 _b1_c20 _b1_3_c21 _t12_c22 _t13_c23 => kr0 true) N aN1 a2 bN3 b4 ((↑a2.length : Int)) 0)
theorem tree {R : Type} (N : Nat) (κ : AV → List Blk → Option R) (aN1 : Option Bool) (a2 : List Int) (bN3 : Option Bool) (b4 : List Int) : evF (g) an N Tryd.f43 [AV.isl IntKind.i64 aN1 a2, AV.isl IntKind.i64 bN3 b4] [] κ =
  cond ((↑a2.length : Int) != (↑b4.length : Int))
   (κ (AV.bool false) [])
   (loopN (evC (g) an 0 N c_L4 none) (ctx (g) an 0 N (bodyOf Tryd.f43) [1, 1, 0, 1, 0] (endK (g) an Tryd.f43 [] κ)) (nmOf 0 (an.loop 4)) N (s_L4 aN1 a2 bN3 b4 ((↑a2.length : Int)) 0)) := by kernel_rfl
theorem eq {R : Type} (N : Nat) (κ : AV → List Blk → Option R) (aN1 : Option Bool) (a2 : List Int) (bN3 : Option Bool) (b4 : List Int) : evF (g) an N Tryd.f43 [AV.isl IntKind.i64 aN1 a2, AV.isl IntKind.i64 bN3 b4] [] κ =
  m N aN1 a2 bN3 b4 (fun v => κ (AV.bool v) []) := by
  rw [tree]
  simp only [run_L4]
  kernel_rfl
abbrev Ty : Type 1 := ∀ R : Type, (Option Bool) → (List Int) → (Option Bool) → (List Int) → (Bool → Option R) → Option R
def con (f : Ty) : Con := fun R args bs κ => match args, bs with
  | [AV.isl IntKind.i64 aN1 a2, AV.isl IntKind.i64 bN3 b4], [] => f R aN1 a2 bN3 b4 (fun v => κ (AV.bool v) [])
  | _, _ => none
theorem con_eq (f : Ty) (R : Type) (κ : AV → List Blk → Option R) (aN1 : Option Bool) (a2 : List Int) (bN3 : Option Bool) (b4 : List Int) : con f R [AV.isl IntKind.i64 aN1 a2, AV.isl IntKind.i64 bN3 b4] [] κ = f R aN1 a2 bN3 b4 (fun v => κ (AV.bool v) []) := rfl
noncomputable def M (N : Nat) : Ty := fun R aN1 a2 bN3 b4 kr0 => m (R := R) N aN1 a2 bN3 b4 kr0
def gts : List (Nat × AV) := []
theorem gok (_N : Nat) : GOk (g) := giD_ok hm (by intro p hp; cases hp) (gtL_ok (by decide)) (ovL_ok (by intro p hp; cases hp)) 1
theorem ok (N : Nat) : SoundC Tryd.prog (gtL gts) 43 (con (M N)) := by
  refine SoundC.mono (evF_ok (gok N) hm an N Tryd.func43) fun R args bs κ r h => ?_
  unfold con at h
  split at h
  · exact (eq N κ _ _ _ _).trans h
  · cases h
end SameInts


/-! ### Tryd.f28: alive17 -/
namespace alive17
def an : Anns := ⟨fun i => findA i [], fun i => findA i [], false, fun _ => none, []⟩
noncomputable def g (mRoot : Root.Ty) (mWay : Way.Ty) (mSameInts : SameInts.Ty) (mCoway : Coway.Ty) : Gi := giD Tryd.prog (gtL [(3, .err 1), (10, .err 11), (14, .err 15)]) (fun _ => an) 0 [] (ovL [(33, Root.con mRoot), (31, Way.con mWay), (43, SameInts.con mSameInts), (29, Coway.con mCoway)]) 1
noncomputable def m (mRoot : Root.Ty) (mWay : Way.Ty) (mSameInts : SameInts.Ty) (mCoway : Coway.Ty) {R : Type} (_N : Nat) (kr0 : Bool → Option R) : Option R :=
  mRoot R 4
   (fun v_c5 => cond (v_c5 == 3)
    (mWay R 0 4
     (fun v_c6 => mSameInts R none v_c6 none ([1, 3])
      (fun v_c7 => cond v_c7
       (mCoway R 0 4
        (fun v_c8 => mSameInts R none v_c8 none ([2, 5])
         (fun v_c9 => kr0 v_c9)))
       (kr0 false))))
    (kr0 false))
theorem tree (mRoot : Root.Ty) (mWay : Way.Ty) (mSameInts : SameInts.Ty) (mCoway : Coway.Ty) {R : Type} (N : Nat) (κ : AV → List Blk → Option R) : evF (g mRoot mWay mSameInts mCoway) an N Tryd.f28 [] [] κ =
  mRoot R 4
   (fun v_c5 => cond (v_c5 == 3)
    (mWay R 0 4
     (fun v_c6 => mSameInts R none v_c6 none ([1, 3])
      (fun v_c7 => cond v_c7
       (mCoway R 0 4
        (fun v_c8 => mSameInts R none v_c8 none ([2, 5])
         (fun v_c9 => κ (AV.bool v_c9) [])))
       (κ (AV.bool false) []))))
    (κ (AV.bool false) [])) := by kernel_rfl
theorem eq (mRoot : Root.Ty) (mWay : Way.Ty) (mSameInts : SameInts.Ty) (mCoway : Coway.Ty) {R : Type} (N : Nat) (κ : AV → List Blk → Option R) : evF (g mRoot mWay mSameInts mCoway) an N Tryd.f28 [] [] κ =
  m mRoot mWay mSameInts mCoway N (fun v => κ (AV.bool v) []) := by
  rw [tree]
  kernel_rfl
abbrev Ty : Type 1 := ∀ R : Type, (Bool → Option R) → Option R
def con (f : Ty) : Con := fun R args bs κ => match args, bs with
  | [], [] => f R (fun v => κ (AV.bool v) [])
  | _, _ => none
theorem con_eq (f : Ty) (R : Type) (κ : AV → List Blk → Option R) : con f R [] [] κ = f R (fun v => κ (AV.bool v) []) := rfl
noncomputable def M (N : Nat) : Ty := fun R kr0 => m (Root.M N) (Way.M N) (SameInts.M N) (Coway.M N) (R := R) N kr0
def gts : List (Nat × AV) := [(3, .err 1), (10, .err 11), (14, .err 15)]
theorem gok (N : Nat) : GOk (g (Root.M N) (Way.M N) (SameInts.M N) (Coway.M N)) := giD_ok hm (by intro p hp; cases hp) (gtL_ok (by decide)) (ovL_ok (by
    intro p hp
    simp only [List.mem_cons, List.not_mem_nil, or_false] at hp
    rcases hp with rfl | rfl | rfl | rfl
    · exact ⟨(Root.ok N).gt (gtL_sub (by repeat (first | exact subG_nil _ | refine subG_cons (by kernel_rfl) ?_))) (gtL_ok (by decide)), _, Tryd.func33, by kernel_rfl, by kernel_rfl⟩
    · exact ⟨(Way.ok N).gt (gtL_sub (by repeat (first | exact subG_nil _ | refine subG_cons (by kernel_rfl) ?_))) (gtL_ok (by decide)), _, Tryd.func31, by kernel_rfl, by kernel_rfl⟩
    · exact ⟨(SameInts.ok N).gt (gtL_sub (by repeat (first | exact subG_nil _ | refine subG_cons (by kernel_rfl) ?_))) (gtL_ok (by decide)), _, Tryd.func43, by kernel_rfl, by kernel_rfl⟩
    · exact ⟨(Coway.ok N).gt (gtL_sub (by repeat (first | exact subG_nil _ | refine subG_cons (by kernel_rfl) ?_))) (gtL_ok (by decide)), _, Tryd.func29, by kernel_rfl, by kernel_rfl⟩
)) 1
theorem ok (N : Nat) : SoundC Tryd.prog (gtL gts) 28 (con (M N)) := by
  refine SoundC.mono (evF_ok (gok N) hm an N Tryd.func28) fun R args bs κ r h => ?_
  unfold con at h
  split at h
  · exact (eq (Root.M N) (Way.M N) (SameInts.M N) (Coway.M N) N κ).trans h
  · cases h
end alive17

end Go.Proofs.YtbliikcgcgalmaaDoor.fn
