/- What the places' references compute, with the proof; printed by a program. -/
import Derived.Test.YtllnbcibleeogaaDoorProg
import Derived.Test.YtllnbcibleeogaaDoorEv4
import Derived.Test.YtllnbcibleeogaaDoorFnPlaces
import Derived.Test.YtllnbcibleeogaaDoorFnNum
namespace Go.Proofs.YtllnbcibleeogaaDoor.fn
open Go Go.Proofs Go.Ev

/-! ### Tryd.f49: rRight -/
namespace rRight
def an : Anns := ⟨fun i => findA i [], fun i => findA i [], false⟩
noncomputable def g : Gi := giD Tryd.prog (gtL []) (fun _ => an) 0 [] (ovL []) 1
noncomputable def m {R : Type} (_N : Nat) (n1 : Int) (kr0 : Bool → Option R) : Option R :=
  cond (n1 == 1)
   (kr0 true)
   (cond (n1 == 2)
    (kr0 true)
    (cond (n1 == 4)
     (kr0 true)
     (cond (n1 == 8)
      (kr0 true)
      (kr0 (n1 == 16)))))
theorem tree {R : Type} (N : Nat) (κ : AV → List Blk → Option R) (n1 : Int) : evF (g) an N Tryd.f49 [AV.int IntKind.i64 n1] [] κ =
  cond (n1 == 1)
   (κ (AV.bool true) [])
   (cond (n1 == 2)
    (κ (AV.bool true) [])
    (cond (n1 == 4)
     (κ (AV.bool true) [])
     (cond (n1 == 8)
      (κ (AV.bool true) [])
      (κ (AV.bool (n1 == 16)) [])))) := by kernel_rfl
theorem eq {R : Type} (N : Nat) (κ : AV → List Blk → Option R) (n1 : Int) : evF (g) an N Tryd.f49 [AV.int IntKind.i64 n1] [] κ =
  m N n1 (fun v => κ (AV.bool v) []) := by
  rw [tree]
  kernel_rfl
abbrev Ty : Type 1 := ∀ R : Type, Int → (Bool → Option R) → Option R
def con (f : Ty) : Con := fun R args bs κ => match args, bs with
  | [AV.int IntKind.i64 n1], [] => f R n1 (fun v => κ (AV.bool v) [])
  | _, _ => none
theorem con_eq (f : Ty) (R : Type) (κ : AV → List Blk → Option R) (n1 : Int) : con f R [AV.int IntKind.i64 n1] [] κ = f R n1 (fun v => κ (AV.bool v) []) := rfl
noncomputable def M (N : Nat) : Ty := fun R n1 kr0 => m (R := R) N n1 kr0
def gts : List (Nat × AV) := []
theorem gok (_N : Nat) : GOk (g) := giD_ok hm (by intro p hp; cases hp) (gtL_ok (by decide)) (ovL_ok (by intro p hp; cases hp)) 1
theorem ok (N : Nat) : SoundC Tryd.prog (gtL gts) 49 (con (M N)) := by
  refine SoundC.mono (evF_ok (gok N) hm an N Tryd.func49) fun R args bs κ r h => ?_
  unfold con at h
  split at h
  · exact (eq N κ _).trans h
  · cases h
end rRight


/-! ### Tryd.f45: rHas -/
namespace rHas
def an : Anns := ⟨fun i => findA i [], fun i => findA i [], false⟩
noncomputable def g (mrRight : rRight.Ty) : Gi := giD Tryd.prog (gtL []) (fun _ => an) 0 [] (ovL [(49, rRight.con mrRight)]) 1
noncomputable def m (mrRight : rRight.Ty) {R : Type} (_N : Nat) (x1 : Int) (n2 : Int) (kr0 : Bool → Option R) : Option R :=
  mrRight R n2
   (fun v_c1 => cond v_c1
    (cond (decide (x1 ≥ 0))
     (kr0 (decide (x1 ≤ IntKind.i64.wrap (IntKind.i64.wrap (2 * n2) - 2))))
     (kr0 false))
    (kr0 false))
theorem tree (mrRight : rRight.Ty) {R : Type} (N : Nat) (κ : AV → List Blk → Option R) (x1 : Int) (n2 : Int) : evF (g mrRight) an N Tryd.f45 [AV.int IntKind.i64 x1, AV.int IntKind.i64 n2] [] κ =
  mrRight R n2
   (fun v_c1 => cond v_c1
    (cond (decide (x1 ≥ 0))
     (κ (AV.bool (decide (x1 ≤ IntKind.i64.wrap (IntKind.i64.wrap (2 * n2) - 2)))) [])
     (κ (AV.bool false) []))
    (κ (AV.bool false) [])) := by kernel_rfl
theorem eq (mrRight : rRight.Ty) {R : Type} (N : Nat) (κ : AV → List Blk → Option R) (x1 : Int) (n2 : Int) : evF (g mrRight) an N Tryd.f45 [AV.int IntKind.i64 x1, AV.int IntKind.i64 n2] [] κ =
  m mrRight N x1 n2 (fun v => κ (AV.bool v) []) := by
  rw [tree]
  kernel_rfl
abbrev Ty : Type 1 := ∀ R : Type, Int → Int → (Bool → Option R) → Option R
def con (f : Ty) : Con := fun R args bs κ => match args, bs with
  | [AV.int IntKind.i64 x1, AV.int IntKind.i64 n2], [] => f R x1 n2 (fun v => κ (AV.bool v) [])
  | _, _ => none
theorem con_eq (f : Ty) (R : Type) (κ : AV → List Blk → Option R) (x1 : Int) (n2 : Int) : con f R [AV.int IntKind.i64 x1, AV.int IntKind.i64 n2] [] κ = f R x1 n2 (fun v => κ (AV.bool v) []) := rfl
noncomputable def M (N : Nat) : Ty := fun R x1 n2 kr0 => m (rRight.M N) (R := R) N x1 n2 kr0
def gts : List (Nat × AV) := []
theorem gok (N : Nat) : GOk (g (rRight.M N)) := giD_ok hm (by intro p hp; cases hp) (gtL_ok (by decide)) (ovL_ok (by
    intro p hp
    simp only [List.mem_cons, List.not_mem_nil, or_false] at hp
    rcases hp with rfl
    · exact ⟨(rRight.ok N).gt (gtL_sub (by repeat (first | exact subG_nil _ | refine subG_cons (by kernel_rfl) ?_))) (gtL_ok (by decide)), _, Tryd.func49, by kernel_rfl, by kernel_rfl⟩
)) 1
theorem ok (N : Nat) : SoundC Tryd.prog (gtL gts) 45 (con (M N)) := by
  refine SoundC.mono (evF_ok (gok N) hm an N Tryd.func45) fun R args bs κ r h => ?_
  unfold con at h
  split at h
  · exact (eq (rRight.M N) N κ _ _).trans h
  · cases h
end rHas


/-! ### Tryd.f52: rLevel -/
namespace rLevel
abbrev Ty : Type 1 := ∀ R : Type, Int → (Int → Option R) → Option R
def con (f : Ty) : Con := fun R args bs κ => match args, bs with
  | [.int .i64 x1], [] => f R x1 (fun v0 => κ (AV.int .i64 v0) [])
  | _, _ => none

def an : Anns := ⟨fun i => findA i [], fun i => findA i [], false⟩
noncomputable def g (self : Ty) : Gi := giD Tryd.prog (gtL []) (fun _ => an) 0 [] (ovL [(52, con self)]) 1
noncomputable def m (self : Ty) {R : Type} (_N : Nat) (x1 : Int) (kr0 : Int → Option R) : Option R :=
  cond (x1.tmod 2 == 0)
   (kr0 0)
   (self R (IntKind.i64.wrap ((IntKind.i64.wrap (x1 - 1)).tdiv 2))
    (fun v0_c1 => kr0 (IntKind.i64.wrap (1 + v0_c1))))
theorem tree (self : Ty) {R : Type} (N : Nat) (κ : AV → List Blk → Option R) (x1 : Int) : evF (g self) an N Tryd.f52 [AV.int IntKind.i64 x1] [] κ =
  cond (x1.tmod 2 == 0)
   (κ (AV.int IntKind.i64 0) [])
   (self R (IntKind.i64.wrap ((IntKind.i64.wrap (x1 - 1)).tdiv 2))
    (fun v0_c1 => κ (AV.int IntKind.i64 (IntKind.i64.wrap (1 + v0_c1))) [])) := by kernel_rfl
theorem eq (self : Ty) {R : Type} (N : Nat) (κ : AV → List Blk → Option R) (x1 : Int) : evF (g self) an N Tryd.f52 [AV.int IntKind.i64 x1] [] κ =
  m self N x1 (fun v => κ (AV.int IntKind.i64 v) []) := by
  rw [tree]
  kernel_rfl
theorem con_eq (f : Ty) (R : Type) (κ : AV → List Blk → Option R) (x1 : Int) : con f R [AV.int IntKind.i64 x1] [] κ = f R x1 (fun v => κ (AV.int IntKind.i64 v) []) := rfl
noncomputable def MD (N : Nat) : Nat → Ty
  | 0 => fun _ _ _ => none
  | d + 1 => fun R x1 kr0 => m (MD N d) (R := R) N x1 kr0
noncomputable def M (N : Nat) : Ty := MD N N
def gts : List (Nat × AV) := []
theorem gok (N : Nat) (d : Nat) (hself : SoundC Tryd.prog (gtL gts) 52 (con (MD N d))) : GOk (g (MD N d)) := giD_ok hm (by intro p hp; cases hp) (gtL_ok (by decide)) (ovL_ok (by
    intro p hp
    simp only [List.mem_cons, List.not_mem_nil, or_false] at hp
    rcases hp with rfl
    · exact ⟨hself, _, Tryd.func52, by kernel_rfl, by kernel_rfl⟩
)) 1
theorem okD (N : Nat) : ∀ d, SoundC Tryd.prog (gtL gts) 52 (con (MD N d))
  | 0 => by
    intro R args bs κ r h
    unfold con at h
    split at h <;> cases h
  | d + 1 => by
    refine SoundC.mono (evF_ok (gok N d (okD N d)) hm an N Tryd.func52) fun R args bs κ r h => ?_
    unfold con at h
    split at h
    · exact (eq (MD N d) N κ _).trans h
    · cases h
theorem ok (N : Nat) : SoundC Tryd.prog (gtL gts) 52 (con (M N)) := okD N N
end rLevel


/-! ### Tryd.f64: rPower -/
namespace rPower
abbrev Ty : Type 1 := ∀ R : Type, Int → (Int → Option R) → Option R
def con (f : Ty) : Con := fun R args bs κ => match args, bs with
  | [.int .i64 k1], [] => f R k1 (fun v0 => κ (AV.int .i64 v0) [])
  | _, _ => none

def an : Anns := ⟨fun i => findA i [], fun i => findA i [], false⟩
noncomputable def g (self : Ty) : Gi := giD Tryd.prog (gtL []) (fun _ => an) 0 [] (ovL [(64, con self)]) 1
noncomputable def m (self : Ty) {R : Type} (_N : Nat) (k1 : Int) (kr0 : Int → Option R) : Option R :=
  cond (k1 == 0)
   (kr0 1)
   (self R (IntKind.i64.wrap (k1 - 1))
    (fun v0_c1 => kr0 (IntKind.i64.wrap (2 * v0_c1))))
theorem tree (self : Ty) {R : Type} (N : Nat) (κ : AV → List Blk → Option R) (k1 : Int) : evF (g self) an N Tryd.f64 [AV.int IntKind.i64 k1] [] κ =
  cond (k1 == 0)
   (κ (AV.int IntKind.i64 1) [])
   (self R (IntKind.i64.wrap (k1 - 1))
    (fun v0_c1 => κ (AV.int IntKind.i64 (IntKind.i64.wrap (2 * v0_c1))) [])) := by kernel_rfl
theorem eq (self : Ty) {R : Type} (N : Nat) (κ : AV → List Blk → Option R) (k1 : Int) : evF (g self) an N Tryd.f64 [AV.int IntKind.i64 k1] [] κ =
  m self N k1 (fun v => κ (AV.int IntKind.i64 v) []) := by
  rw [tree]
  kernel_rfl
theorem con_eq (f : Ty) (R : Type) (κ : AV → List Blk → Option R) (k1 : Int) : con f R [AV.int IntKind.i64 k1] [] κ = f R k1 (fun v => κ (AV.int IntKind.i64 v) []) := rfl
noncomputable def MD (N : Nat) : Nat → Ty
  | 0 => fun _ _ _ => none
  | d + 1 => fun R k1 kr0 => m (MD N d) (R := R) N k1 kr0
noncomputable def M (N : Nat) : Ty := MD N N
def gts : List (Nat × AV) := []
theorem gok (N : Nat) (d : Nat) (hself : SoundC Tryd.prog (gtL gts) 64 (con (MD N d))) : GOk (g (MD N d)) := giD_ok hm (by intro p hp; cases hp) (gtL_ok (by decide)) (ovL_ok (by
    intro p hp
    simp only [List.mem_cons, List.not_mem_nil, or_false] at hp
    rcases hp with rfl
    · exact ⟨hself, _, Tryd.func64, by kernel_rfl, by kernel_rfl⟩
)) 1
theorem okD (N : Nat) : ∀ d, SoundC Tryd.prog (gtL gts) 64 (con (MD N d))
  | 0 => by
    intro R args bs κ r h
    unfold con at h
    split at h <;> cases h
  | d + 1 => by
    refine SoundC.mono (evF_ok (gok N d (okD N d)) hm an N Tryd.func64) fun R args bs κ r h => ?_
    unfold con at h
    split at h
    · exact (eq (MD N d) N κ _).trans h
    · cases h
theorem ok (N : Nat) : SoundC Tryd.prog (gtL gts) 64 (con (M N)) := okD N N
end rPower


/-! ### Tryd.f54: rKids -/
namespace rKids
def an : Anns := ⟨fun i => findA i [], fun i => findA i [], false⟩
noncomputable def g (mrLevel : rLevel.Ty) (mrPower : rPower.Ty) : Gi := giD Tryd.prog (gtL []) (fun _ => an) 0 [] (ovL [(52, rLevel.con mrLevel), (64, rPower.con mrPower)]) 1
noncomputable def m (mrLevel : rLevel.Ty) (mrPower : rPower.Ty) {R : Type} (_N : Nat) (x1 : Int) (kr0 : Int → Int → Option R) : Option R :=
  mrLevel R x1
   (fun v0_c2 => mrPower R (IntKind.i64.wrap (v0_c2 - 1))
    (fun v0_c3 => kr0 (IntKind.i64.wrap (x1 - v0_c3)) (IntKind.i64.wrap (x1 + v0_c3))))
theorem tree (mrLevel : rLevel.Ty) (mrPower : rPower.Ty) {R : Type} (N : Nat) (κ : AV → List Blk → Option R) (x1 : Int) : evF (g mrLevel mrPower) an N Tryd.f54 [AV.int IntKind.i64 x1] [] κ =
  mrLevel R x1
   (fun v0_c2 => mrPower R (IntKind.i64.wrap (v0_c2 - 1))
    (fun v0_c3 => κ (AV.tup [AV.int IntKind.i64 (IntKind.i64.wrap (x1 - v0_c3)), AV.int IntKind.i64 (IntKind.i64.wrap (x1 + v0_c3))]) [])) := by kernel_rfl
theorem eq (mrLevel : rLevel.Ty) (mrPower : rPower.Ty) {R : Type} (N : Nat) (κ : AV → List Blk → Option R) (x1 : Int) : evF (g mrLevel mrPower) an N Tryd.f54 [AV.int IntKind.i64 x1] [] κ =
  m mrLevel mrPower N x1 (fun v v_1 => κ (AV.tup [AV.int IntKind.i64 v, AV.int IntKind.i64 v_1]) []) := by
  rw [tree]
  kernel_rfl
abbrev Ty : Type 1 := ∀ R : Type, Int → (Int → Int → Option R) → Option R
def con (f : Ty) : Con := fun R args bs κ => match args, bs with
  | [AV.int IntKind.i64 x1], [] => f R x1 (fun v v_1 => κ (AV.tup [AV.int IntKind.i64 v, AV.int IntKind.i64 v_1]) [])
  | _, _ => none
theorem con_eq (f : Ty) (R : Type) (κ : AV → List Blk → Option R) (x1 : Int) : con f R [AV.int IntKind.i64 x1] [] κ = f R x1 (fun v v_1 => κ (AV.tup [AV.int IntKind.i64 v, AV.int IntKind.i64 v_1]) []) := rfl
noncomputable def M (N : Nat) : Ty := fun R x1 kr0 => m (rLevel.M N) (rPower.M N) (R := R) N x1 kr0
def gts : List (Nat × AV) := []
theorem gok (N : Nat) : GOk (g (rLevel.M N) (rPower.M N)) := giD_ok hm (by intro p hp; cases hp) (gtL_ok (by decide)) (ovL_ok (by
    intro p hp
    simp only [List.mem_cons, List.not_mem_nil, or_false] at hp
    rcases hp with rfl | rfl
    · exact ⟨(rLevel.ok N).gt (gtL_sub (by repeat (first | exact subG_nil _ | refine subG_cons (by kernel_rfl) ?_))) (gtL_ok (by decide)), _, Tryd.func52, by kernel_rfl, by kernel_rfl⟩
    · exact ⟨(rPower.ok N).gt (gtL_sub (by repeat (first | exact subG_nil _ | refine subG_cons (by kernel_rfl) ?_))) (gtL_ok (by decide)), _, Tryd.func64, by kernel_rfl, by kernel_rfl⟩
)) 1
theorem ok (N : Nat) : SoundC Tryd.prog (gtL gts) 54 (con (M N)) := by
  refine SoundC.mono (evF_ok (gok N) hm an N Tryd.func54) fun R args bs κ r h => ?_
  unfold con at h
  split at h
  · exact (eq (rLevel.M N) (rPower.M N) N κ _).trans h
  · cases h
end rKids


/-! ### Tryd.f55: rUnder -/
namespace rUnder
abbrev Ty : Type 1 := ∀ R : Type, Int → Int → (Bool → Option R) → Option R
def con (f : Ty) : Con := fun R args bs κ => match args, bs with
  | [.int .i64 x1, .int .i64 y2], [] => f R x1 y2 (fun v0 => κ (AV.bool v0) [])
  | _, _ => none

def an : Anns := ⟨fun i => findA i [], fun i => findA i [], false⟩
noncomputable def g (mrLevel : rLevel.Ty) (mrKids : rKids.Ty) (self : Ty) : Gi := giD Tryd.prog (gtL []) (fun _ => an) 0 [] (ovL [(52, rLevel.con mrLevel), (54, rKids.con mrKids), (55, con self)]) 1
noncomputable def m (mrLevel : rLevel.Ty) (mrKids : rKids.Ty) (self : Ty) {R : Type} (_N : Nat) (x1 : Int) (y2 : Int) (kr0 : Bool → Option R) : Option R :=
  cond (x1 == y2)
   (kr0 true)
   (mrLevel R x1
    (fun v0_c1 => cond (v0_c1 == 0)
     (kr0 false)
     (mrKids R x1
      (fun v_c2 v_1_c3 => self R v_c2 y2
       (fun v0_c4 => cond v0_c4
        (kr0 true)
        (self R v_1_c3 y2
         (fun v0_c5 => kr0 v0_c5)))))))
theorem tree (mrLevel : rLevel.Ty) (mrKids : rKids.Ty) (self : Ty) {R : Type} (N : Nat) (κ : AV → List Blk → Option R) (x1 : Int) (y2 : Int) : evF (g mrLevel mrKids self) an N Tryd.f55 [AV.int IntKind.i64 x1, AV.int IntKind.i64 y2] [] κ =
  cond (x1 == y2)
   (κ (AV.bool true) [])
   (mrLevel R x1
    (fun v0_c1 => cond (v0_c1 == 0)
     (κ (AV.bool false) [])
     (mrKids R x1
      (fun v_c2 v_1_c3 => self R v_c2 y2
       (fun v0_c4 => cond v0_c4
        (κ (AV.bool true) [])
        (self R v_1_c3 y2
         (fun v0_c5 => κ (AV.bool v0_c5) []))))))) := by kernel_rfl
theorem eq (mrLevel : rLevel.Ty) (mrKids : rKids.Ty) (self : Ty) {R : Type} (N : Nat) (κ : AV → List Blk → Option R) (x1 : Int) (y2 : Int) : evF (g mrLevel mrKids self) an N Tryd.f55 [AV.int IntKind.i64 x1, AV.int IntKind.i64 y2] [] κ =
  m mrLevel mrKids self N x1 y2 (fun v => κ (AV.bool v) []) := by
  rw [tree]
  kernel_rfl
theorem con_eq (f : Ty) (R : Type) (κ : AV → List Blk → Option R) (x1 : Int) (y2 : Int) : con f R [AV.int IntKind.i64 x1, AV.int IntKind.i64 y2] [] κ = f R x1 y2 (fun v => κ (AV.bool v) []) := rfl
noncomputable def MD (N : Nat) : Nat → Ty
  | 0 => fun _ _ _ _ => none
  | d + 1 => fun R x1 y2 kr0 => m (rLevel.M N) (rKids.M N) (MD N d) (R := R) N x1 y2 kr0
noncomputable def M (N : Nat) : Ty := MD N N
def gts : List (Nat × AV) := []
theorem gok (N : Nat) (d : Nat) (hself : SoundC Tryd.prog (gtL gts) 55 (con (MD N d))) : GOk (g (rLevel.M N) (rKids.M N) (MD N d)) := giD_ok hm (by intro p hp; cases hp) (gtL_ok (by decide)) (ovL_ok (by
    intro p hp
    simp only [List.mem_cons, List.not_mem_nil, or_false] at hp
    rcases hp with rfl | rfl | rfl
    · exact ⟨(rLevel.ok N).gt (gtL_sub (by repeat (first | exact subG_nil _ | refine subG_cons (by kernel_rfl) ?_))) (gtL_ok (by decide)), _, Tryd.func52, by kernel_rfl, by kernel_rfl⟩
    · exact ⟨(rKids.ok N).gt (gtL_sub (by repeat (first | exact subG_nil _ | refine subG_cons (by kernel_rfl) ?_))) (gtL_ok (by decide)), _, Tryd.func54, by kernel_rfl, by kernel_rfl⟩
    · exact ⟨hself, _, Tryd.func55, by kernel_rfl, by kernel_rfl⟩
)) 1
theorem okD (N : Nat) : ∀ d, SoundC Tryd.prog (gtL gts) 55 (con (MD N d))
  | 0 => by
    intro R args bs κ r h
    unfold con at h
    split at h <;> cases h
  | d + 1 => by
    refine SoundC.mono (evF_ok (gok N d (okD N d)) hm an N Tryd.func55) fun R args bs κ r h => ?_
    unfold con at h
    split at h
    · exact (eq (rLevel.M N) (rKids.M N) (MD N d) N κ _ _).trans h
    · cases h
theorem ok (N : Nat) : SoundC Tryd.prog (gtL gts) 55 (con (M N)) := okD N N
end rUnder


/-! ### Tryd.f53: rLeaves -/
namespace rLeaves
abbrev Ty : Type 1 := ∀ R : Type, Int → (Bool → (List Int) → Option R) → Option R
def con (f : Ty) : Con := fun R args bs κ => match args, bs with
  | [.int .i64 x1], [] => f R x1 (fun v0 w0 => κ (AV.own 0 [] 0 none) [Blk.row .i64 v0 w0])
  | _, _ => none

def an : Anns := ⟨fun i => findA i [], fun i => findA i [], true⟩
noncomputable def g (mrLevel : rLevel.Ty) (mrKids : rKids.Ty) (self : Ty) : Gi := giD Tryd.prog (gtL []) (fun _ => an) 0 [] (ovL [(52, rLevel.con mrLevel), (54, rKids.con mrKids), (53, con self)]) 1
noncomputable def m (mrLevel : rLevel.Ty) (mrKids : rKids.Ty) (self : Ty) {R : Type} (_N : Nat) (x1 : Int) (kr0 : Bool → (List Int) → Option R) : Option R :=
  mrLevel R x1
   (fun v0_c8 => cond (v0_c8 == 0)
    (kr0 false ([IntKind.i64.wrap (x1.tdiv 2)]))
    (mrKids R x1
     (fun v_c9 v_1_c10 => self R v_c9
      (fun v0_c11 w0_c12 => self R v_1_c10
       (fun _v0_c13 w0_c14 => cond (decide ((w0_c12.length + w0_c14.length) * 8 ≤ 140737488355328))
        (cond (decide (w0_c12.length + w0_c14.length ≤ 140737488355328))
         (kr0 (w0_c14.isEmpty && v0_c11) (w0_c12 ++ w0_c14))
         (none))
        (none))))))
theorem tree (mrLevel : rLevel.Ty) (mrKids : rKids.Ty) (self : Ty) {R : Type} (N : Nat) (κ : AV → List Blk → Option R) (x1 : Int) : evF (g mrLevel mrKids self) an N Tryd.f53 [AV.int IntKind.i64 x1] [] κ =
  mrLevel R x1
   (fun v0_c8 => cond (v0_c8 == 0)
    (κ (AV.own 0 [] 0 none) ([Blk.row IntKind.i64 false [IntKind.i64.wrap (x1.tdiv 2)]]))
    (mrKids R x1
     (fun v_c9 v_1_c10 => self R v_c9
      (fun v0_c11 w0_c12 => self R v_1_c10
       (fun _v0_c13 w0_c14 => cond (decide ((w0_c12.length + w0_c14.length) * 8 ≤ 140737488355328))
        (cond (decide (w0_c12.length + w0_c14.length ≤ 140737488355328))
         (κ (AV.own 0 [] 0 none) ([Blk.row IntKind.i64 (w0_c14.isEmpty && v0_c11) (w0_c12 ++ w0_c14)]))
         (none))
        (none)))))) := by kernel_rfl
theorem eq (mrLevel : rLevel.Ty) (mrKids : rKids.Ty) (self : Ty) {R : Type} (N : Nat) (κ : AV → List Blk → Option R) (x1 : Int) : evF (g mrLevel mrKids self) an N Tryd.f53 [AV.int IntKind.i64 x1] [] κ =
  m mrLevel mrKids self N x1 (fun b b_1 => κ (AV.own 0 [] 0 none) ([Blk.row IntKind.i64 b b_1])) := by
  rw [tree]
  kernel_rfl
theorem con_eq (f : Ty) (R : Type) (κ : AV → List Blk → Option R) (x1 : Int) : con f R [AV.int IntKind.i64 x1] [] κ = f R x1 (fun b b_1 => κ (AV.own 0 [] 0 none) ([Blk.row IntKind.i64 b b_1])) := rfl
noncomputable def MD (N : Nat) : Nat → Ty
  | 0 => fun _ _ _ => none
  | d + 1 => fun R x1 kr0 => m (rLevel.M N) (rKids.M N) (MD N d) (R := R) N x1 kr0
noncomputable def M (N : Nat) : Ty := MD N N
def gts : List (Nat × AV) := []
theorem gok (N : Nat) (d : Nat) (hself : SoundC Tryd.prog (gtL gts) 53 (con (MD N d))) : GOk (g (rLevel.M N) (rKids.M N) (MD N d)) := giD_ok hm (by intro p hp; cases hp) (gtL_ok (by decide)) (ovL_ok (by
    intro p hp
    simp only [List.mem_cons, List.not_mem_nil, or_false] at hp
    rcases hp with rfl | rfl | rfl
    · exact ⟨(rLevel.ok N).gt (gtL_sub (by repeat (first | exact subG_nil _ | refine subG_cons (by kernel_rfl) ?_))) (gtL_ok (by decide)), _, Tryd.func52, by kernel_rfl, by kernel_rfl⟩
    · exact ⟨(rKids.ok N).gt (gtL_sub (by repeat (first | exact subG_nil _ | refine subG_cons (by kernel_rfl) ?_))) (gtL_ok (by decide)), _, Tryd.func54, by kernel_rfl, by kernel_rfl⟩
    · exact ⟨hself, _, Tryd.func53, by kernel_rfl, by kernel_rfl⟩
)) 1
theorem okD (N : Nat) : ∀ d, SoundC Tryd.prog (gtL gts) 53 (con (MD N d))
  | 0 => by
    intro R args bs κ r h
    unfold con at h
    split at h <;> cases h
  | d + 1 => by
    refine SoundC.mono (evF_ok (gok N d (okD N d)) hm an N Tryd.func53) fun R args bs κ r h => ?_
    unfold con at h
    split at h
    · exact (eq (rLevel.M N) (rKids.M N) (MD N d) N κ _).trans h
    · cases h
theorem ok (N : Nat) : SoundC Tryd.prog (gtL gts) 53 (con (M N)) := okD N N
end rLeaves


/-! ### Tryd.f63: rDown -/
namespace rDown
def an : Anns := ⟨fun i => findA i [(3, ⟨[0, 5, 6], [⟨5, 0, .i64⟩], 1⟩)], fun i => findA i [], false⟩
noncomputable def g (mrKids : rKids.Ty) (mrUnder : rUnder.Ty) : Gi := giD Tryd.prog (gtL []) (fun _ => an) 0 [] (ovL [(54, rKids.con mrKids), (55, rUnder.con mrUnder)]) 1
noncomputable def c_L3 : Code := loopOf Tryd.f63 0
def s_L3 (x0 : Int) (at6 : Int) (h0 : List Int) : St := ⟨[AV.int IntKind.i64 x0] ++ List.replicate 4 .dead ++ [AV.own 0 [] 0 none, AV.int IntKind.i64 at6] ++ List.replicate 26 .dead, [Blk.row IntKind.i64 false h0]⟩
def x_L3_0 (x0 : Int) (at6 : Int) (h0 : List Int) : St := ⟨[AV.int IntKind.i64 x0] ++ List.replicate 4 .dead ++ [AV.own 0 [] 0 none, AV.int IntKind.i64 at6] ++ List.replicate 5 .dead ++ [AV.int IntKind.i64 at6, AV.int IntKind.i64 x0, AV.bool (at6 != x0)] ++ List.replicate 18 .dead, [Blk.row IntKind.i64 false h0]⟩
noncomputable def L3 (mrKids : rKids.Ty) (mrUnder : rUnder.Ty) {R : Type} (N : Nat) (ke0 : Int → Int → (List Int) → Option R) : Nat → Int → Int → (List Int) → Option R
  | 0, _, _, _ => none
  | m + 1, x0, at6, h0 =>
    cond (at6 != x0)
     (cond (decide ((h0.length + 1) * 8 ≤ 140737488355328))
      (cond (decide (h0.length + 1 ≤ 140737488355328))
       (mrKids R at6
        (fun v_c9 v_1_c10 => mrUnder R v_c9 x0
         (fun v0_c11 => cond v0_c11
          (L3 mrKids mrUnder N ke0 m x0 v_c9 (h0 ++ [at6]))
          (L3 mrKids mrUnder N ke0 m x0 v_1_c10 (h0 ++ [at6])))))
       (none))
      (none))
     (ke0 x0 at6 h0)
theorem round_L3 (mrKids : rKids.Ty) (mrUnder : rUnder.Ty) {R : Type} (N : Nat) (Rn : St → Option R) (k : K R) (x0 : Int) (at6 : Int) (h0 : List Int) : evC (g mrKids mrUnder) an 0 N c_L3 none (roundK (nmOf 0 (an.loop 3)) Rn k) (s_L3 x0 at6 h0) =
  cond (at6 != x0)
   (cond (decide ((h0.length + 1) * 8 ≤ 140737488355328))
    (cond (decide (h0.length + 1 ≤ 140737488355328))
     (mrKids R at6
      (fun v_c9 v_1_c10 => mrUnder R v_c9 x0
       (fun v0_c11 => cond v0_c11
        (Rn (s_L3 x0 v_c9 (h0 ++ [at6])))
        (Rn (s_L3 x0 v_1_c10 (h0 ++ [at6]))))))
     (none))
    (none))
   (k.ext 0 (x_L3_0 x0 at6 h0)) := by kernel_rfl
theorem run_L3 (mrKids : rKids.Ty) (mrUnder : rUnder.Ty) {R : Type} (N : Nat) (k : K R) : ∀ (m : Nat) (x0 : Int) (at6 : Int) (h0 : List Int), loopN (evC (g mrKids mrUnder) an 0 N c_L3 none) k (nmOf 0 (an.loop 3)) m (s_L3 x0 at6 h0) =
    L3 mrKids mrUnder N (fun x0 at6 h0 => (k).ext 0 (x_L3_0 x0 at6 h0)) m x0 at6 h0 := by
  intro m
  induction m with
  | zero => intros; rfl
  | succ m ih =>
    intros
    rw [loopN_succ, round_L3]
    simp only [ih]
    kernel_rfl
noncomputable def m (mrKids : rKids.Ty) (mrUnder : rUnder.Ty) {R : Type} (N : Nat) (x1 : Int) (n2 : Int) (kr0 : (List Int) → Option R) : Option R :=
  L3 mrKids mrUnder N
   (fun x0_c12 _at6_c13 h0_c14 => cond (decide ((h0_c14.length + 1) * 8 ≤ 140737488355328))
    (cond (decide (h0_c14.length + 1 ≤ 140737488355328))
     (kr0 (cut none 0 (h0_c14 ++ [x0_c12])))
     (none))
    (none)) N x1 (IntKind.i64.wrap (n2 - 1)) []
theorem tree (mrKids : rKids.Ty) (mrUnder : rUnder.Ty) {R : Type} (N : Nat) (κ : AV → List Blk → Option R) (x1 : Int) (n2 : Int) : evF (g mrKids mrUnder) an N Tryd.f63 [AV.int IntKind.i64 x1, AV.int IntKind.i64 n2] [] κ =
  loopN (evC (g mrKids mrUnder) an 0 N c_L3 none) (ctx (g mrKids mrUnder) an 0 N (bodyOf Tryd.f63) [1, 1, 1, 0, 0] (endK (g mrKids mrUnder) an Tryd.f63 [] κ)) (nmOf 0 (an.loop 3)) N (s_L3 x1 (IntKind.i64.wrap (n2 - 1)) []) := by kernel_rfl
theorem eq (mrKids : rKids.Ty) (mrUnder : rUnder.Ty) {R : Type} (N : Nat) (κ : AV → List Blk → Option R) (x1 : Int) (n2 : Int) : evF (g mrKids mrUnder) an N Tryd.f63 [AV.int IntKind.i64 x1, AV.int IntKind.i64 n2] [] κ =
  m mrKids mrUnder N x1 n2 (fun v => κ (AV.isl IntKind.i64 none v) []) := by
  rw [tree]
  simp only [run_L3]
  kernel_rfl
abbrev Ty : Type 1 := ∀ R : Type, Int → Int → ((List Int) → Option R) → Option R
def con (f : Ty) : Con := fun R args bs κ => match args, bs with
  | [AV.int IntKind.i64 x1, AV.int IntKind.i64 n2], [] => f R x1 n2 (fun v => κ (AV.isl IntKind.i64 none v) [])
  | _, _ => none
theorem con_eq (f : Ty) (R : Type) (κ : AV → List Blk → Option R) (x1 : Int) (n2 : Int) : con f R [AV.int IntKind.i64 x1, AV.int IntKind.i64 n2] [] κ = f R x1 n2 (fun v => κ (AV.isl IntKind.i64 none v) []) := rfl
noncomputable def M (N : Nat) : Ty := fun R x1 n2 kr0 => m (rKids.M N) (rUnder.M N) (R := R) N x1 n2 kr0
def gts : List (Nat × AV) := []
theorem gok (N : Nat) : GOk (g (rKids.M N) (rUnder.M N)) := giD_ok hm (by intro p hp; cases hp) (gtL_ok (by decide)) (ovL_ok (by
    intro p hp
    simp only [List.mem_cons, List.not_mem_nil, or_false] at hp
    rcases hp with rfl | rfl
    · exact ⟨(rKids.ok N).gt (gtL_sub (by repeat (first | exact subG_nil _ | refine subG_cons (by kernel_rfl) ?_))) (gtL_ok (by decide)), _, Tryd.func54, by kernel_rfl, by kernel_rfl⟩
    · exact ⟨(rUnder.ok N).gt (gtL_sub (by repeat (first | exact subG_nil _ | refine subG_cons (by kernel_rfl) ?_))) (gtL_ok (by decide)), _, Tryd.func55, by kernel_rfl, by kernel_rfl⟩
)) 1
theorem ok (N : Nat) : SoundC Tryd.prog (gtL gts) 63 (con (M N)) := by
  refine SoundC.mono (evF_ok (gok N) hm an N Tryd.func63) fun R args bs κ r h => ?_
  unfold con at h
  split at h
  · exact (eq (rKids.M N) (rUnder.M N) N κ _ _).trans h
  · cases h
end rDown


/-! ### Tryd.f47: rWay -/
namespace rWay
def an : Anns := ⟨fun i => findA i [(4, ⟨[5, 6, 7], [⟨6, 0, .i64⟩], 1⟩)], fun i => findA i [], false⟩
noncomputable def g (mrDown : rDown.Ty) : Gi := giD Tryd.prog (gtL []) (fun _ => an) 0 [] (ovL [(63, rDown.con mrDown)]) 1
noncomputable def c_L4 : Code := loopOf Tryd.f47 0
def s_L4 (l5 : List Int) (i7 : Int) (h0 : List Int) : St := ⟨List.replicate 5 .dead ++ [AV.isl IntKind.i64 none l5, AV.own 0 [] 0 none, AV.int IntKind.i64 i7] ++ List.replicate 19 .dead, [Blk.row IntKind.i64 false h0]⟩
def x_L4_0 (l5 : List Int) (i7 : Int) (h0 : List Int) : St := ⟨List.replicate 5 .dead ++ [AV.isl IntKind.i64 none l5, AV.own 0 [] 0 none, AV.int IntKind.i64 i7] ++ List.replicate 7 .dead ++ [AV.int IntKind.i64 i7, AV.bool (decide (i7 ≥ 0))] ++ List.replicate 10 .dead, [Blk.row IntKind.i64 false h0]⟩
noncomputable def L4 (mrDown : rDown.Ty) {R : Type} (N : Nat) (ke0 : (List Int) → Int → (List Int) → Option R) : Nat → (List Int) → Int → (List Int) → Option R
  | 0, _, _, _ => none
  | m + 1, l5, i7, h0 =>
    cond (decide (i7 ≥ 0))
     (cond (decide (0 ≤ i7))
      (cond (decide (i7 < (↑l5.length : Int)))
       (cond (decide ((h0.length + 1) * 8 ≤ 140737488355328))
        (cond (decide (h0.length + 1 ≤ 140737488355328))
         (L4 mrDown N ke0 m l5 (IntKind.i64.wrap (i7 - 1)) (h0 ++ [l5.getD i7.toNat 0]))
         (none))
        (none))
       (none))
      (none))
     (ke0 l5 i7 h0)
theorem round_L4 (mrDown : rDown.Ty) {R : Type} (N : Nat) (Rn : St → Option R) (k : K R) (l5 : List Int) (i7 : Int) (h0 : List Int) : evC (g mrDown) an 0 N c_L4 none (roundK (nmOf 0 (an.loop 4)) Rn k) (s_L4 l5 i7 h0) =
  cond (decide (i7 ≥ 0))
   (cond (decide (0 ≤ i7))
    (cond (decide (i7 < (↑l5.length : Int)))
     (cond (decide ((h0.length + 1) * 8 ≤ 140737488355328))
      (cond (decide (h0.length + 1 ≤ 140737488355328))
       (Rn (s_L4 l5 (IntKind.i64.wrap (i7 - 1)) (h0 ++ [l5.getD i7.toNat 0])))
       (none))
      (none))
     (none))
    (none))
   (k.ext 0 (x_L4_0 l5 i7 h0)) := by kernel_rfl
theorem run_L4 (mrDown : rDown.Ty) {R : Type} (N : Nat) (k : K R) : ∀ (m : Nat) (l5 : List Int) (i7 : Int) (h0 : List Int), loopN (evC (g mrDown) an 0 N c_L4 none) k (nmOf 0 (an.loop 4)) m (s_L4 l5 i7 h0) =
    L4 mrDown N (fun l5 i7 h0 => (k).ext 0 (x_L4_0 l5 i7 h0)) m l5 i7 h0 := by
  intro m
  induction m with
  | zero => intros; rfl
  | succ m ih =>
    intros
    rw [loopN_succ, round_L4]
    simp only [ih]
    kernel_rfl
noncomputable def m (mrDown : rDown.Ty) {R : Type} (N : Nat) (x1 : Int) (n2 : Int) (kr0 : (List Int) → Option R) : Option R :=
  mrDown R x1 n2
   (fun v_c5 => L4 mrDown N
    (fun _l5_c6 _i7_c7 h0_c8 => kr0 h0_c8) N v_c5 (IntKind.i64.wrap ((↑v_c5.length : Int) - 2)) [])
theorem tree (mrDown : rDown.Ty) {R : Type} (N : Nat) (κ : AV → List Blk → Option R) (x1 : Int) (n2 : Int) : evF (g mrDown) an N Tryd.f47 [AV.int IntKind.i64 x1, AV.int IntKind.i64 n2] [] κ =
  mrDown R x1 n2
   (fun v_c5 => loopN (evC (g mrDown) an 0 N c_L4 none) (ctx (g mrDown) an 0 N (bodyOf Tryd.f47) [1, 1, 1, 0, 1, 0] (endK (g mrDown) an Tryd.f47 [] κ)) (nmOf 0 (an.loop 4)) N (s_L4 v_c5 (IntKind.i64.wrap ((↑v_c5.length : Int) - 2)) [])) := by kernel_rfl
theorem eq (mrDown : rDown.Ty) {R : Type} (N : Nat) (κ : AV → List Blk → Option R) (x1 : Int) (n2 : Int) : evF (g mrDown) an N Tryd.f47 [AV.int IntKind.i64 x1, AV.int IntKind.i64 n2] [] κ =
  m mrDown N x1 n2 (fun v => κ (AV.isl IntKind.i64 none v) []) := by
  rw [tree]
  simp only [run_L4]
  kernel_rfl
abbrev Ty : Type 1 := ∀ R : Type, Int → Int → ((List Int) → Option R) → Option R
def con (f : Ty) : Con := fun R args bs κ => match args, bs with
  | [AV.int IntKind.i64 x1, AV.int IntKind.i64 n2], [] => f R x1 n2 (fun v => κ (AV.isl IntKind.i64 none v) [])
  | _, _ => none
theorem con_eq (f : Ty) (R : Type) (κ : AV → List Blk → Option R) (x1 : Int) (n2 : Int) : con f R [AV.int IntKind.i64 x1, AV.int IntKind.i64 n2] [] κ = f R x1 n2 (fun v => κ (AV.isl IntKind.i64 none v) []) := rfl
noncomputable def M (N : Nat) : Ty := fun R x1 n2 kr0 => m (rDown.M N) (R := R) N x1 n2 kr0
def gts : List (Nat × AV) := []
theorem gok (N : Nat) : GOk (g (rDown.M N)) := giD_ok hm (by intro p hp; cases hp) (gtL_ok (by decide)) (ovL_ok (by
    intro p hp
    simp only [List.mem_cons, List.not_mem_nil, or_false] at hp
    rcases hp with rfl
    · exact ⟨(rDown.ok N).gt (gtL_sub (by repeat (first | exact subG_nil _ | refine subG_cons (by kernel_rfl) ?_))) (gtL_ok (by decide)), _, Tryd.func63, by kernel_rfl, by kernel_rfl⟩
)) 1
theorem ok (N : Nat) : SoundC Tryd.prog (gtL gts) 47 (con (M N)) := by
  refine SoundC.mono (evF_ok (gok N) hm an N Tryd.func47) fun R args bs κ r h => ?_
  unfold con at h
  split at h
  · exact (eq (rDown.M N) N κ _ _).trans h
  · cases h
end rWay


/-! ### Tryd.f43: rAbove -/
namespace rAbove
def an : Anns := ⟨fun i => findA i [], fun i => findA i [], false⟩
noncomputable def g (mrHas : rHas.Ty) (mrWay : rWay.Ty) : Gi := giD Tryd.prog (gtL []) (fun _ => an) 0 [] (ovL [(45, rHas.con mrHas), (47, rWay.con mrWay)]) 1
noncomputable def m (mrHas : rHas.Ty) (mrWay : rWay.Ty) {R : Type} (_N : Nat) (x1 : Int) (n2 : Int) (kr0 : Int → Int → Option R) : Option R :=
  mrHas R x1 n2
   (fun v_c5 => cond (!v_c5)
    (kr0 0 1)
    (mrWay R x1 n2
     (fun v_c6 => cond ((↑v_c6.length : Int) == 0)
      (kr0 0 15)
      (cond (decide (0 < (↑v_c6.length : Int)))
       (kr0 (v_c6.getD 0 0) 0)
       (none)))))
theorem tree (mrHas : rHas.Ty) (mrWay : rWay.Ty) {R : Type} (N : Nat) (κ : AV → List Blk → Option R) (x1 : Int) (n2 : Int) : evF (g mrHas mrWay) an N Tryd.f43 [AV.int IntKind.i64 x1, AV.int IntKind.i64 n2] [] κ =
  mrHas R x1 n2
   (fun v_c5 => cond (!v_c5)
    (κ (AV.tup [AV.int IntKind.i64 0, AV.int IntKind.i64 1]) [])
    (mrWay R x1 n2
     (fun v_c6 => cond ((↑v_c6.length : Int) == 0)
      (κ (AV.tup [AV.int IntKind.i64 0, AV.int IntKind.i64 15]) [])
      (cond (decide (0 < (↑v_c6.length : Int)))
       (κ (AV.tup [AV.int IntKind.i64 (v_c6.getD 0 0), AV.int IntKind.i64 0]) [])
       (none))))) := by kernel_rfl
theorem eq (mrHas : rHas.Ty) (mrWay : rWay.Ty) {R : Type} (N : Nat) (κ : AV → List Blk → Option R) (x1 : Int) (n2 : Int) : evF (g mrHas mrWay) an N Tryd.f43 [AV.int IntKind.i64 x1, AV.int IntKind.i64 n2] [] κ =
  m mrHas mrWay N x1 n2 (fun v v_1 => κ (AV.tup [AV.int IntKind.i64 v, AV.int IntKind.i64 v_1]) []) := by
  rw [tree]
  kernel_rfl
abbrev Ty : Type 1 := ∀ R : Type, Int → Int → (Int → Int → Option R) → Option R
def con (f : Ty) : Con := fun R args bs κ => match args, bs with
  | [AV.int IntKind.i64 x1, AV.int IntKind.i64 n2], [] => f R x1 n2 (fun v v_1 => κ (AV.tup [AV.int IntKind.i64 v, AV.int IntKind.i64 v_1]) [])
  | _, _ => none
theorem con_eq (f : Ty) (R : Type) (κ : AV → List Blk → Option R) (x1 : Int) (n2 : Int) : con f R [AV.int IntKind.i64 x1, AV.int IntKind.i64 n2] [] κ = f R x1 n2 (fun v v_1 => κ (AV.tup [AV.int IntKind.i64 v, AV.int IntKind.i64 v_1]) []) := rfl
noncomputable def M (N : Nat) : Ty := fun R x1 n2 kr0 => m (rHas.M N) (rWay.M N) (R := R) N x1 n2 kr0
def gts : List (Nat × AV) := []
theorem gok (N : Nat) : GOk (g (rHas.M N) (rWay.M N)) := giD_ok hm (by intro p hp; cases hp) (gtL_ok (by decide)) (ovL_ok (by
    intro p hp
    simp only [List.mem_cons, List.not_mem_nil, or_false] at hp
    rcases hp with rfl | rfl
    · exact ⟨(rHas.ok N).gt (gtL_sub (by repeat (first | exact subG_nil _ | refine subG_cons (by kernel_rfl) ?_))) (gtL_ok (by decide)), _, Tryd.func45, by kernel_rfl, by kernel_rfl⟩
    · exact ⟨(rWay.ok N).gt (gtL_sub (by repeat (first | exact subG_nil _ | refine subG_cons (by kernel_rfl) ?_))) (gtL_ok (by decide)), _, Tryd.func47, by kernel_rfl, by kernel_rfl⟩
)) 1
theorem ok (N : Nat) : SoundC Tryd.prog (gtL gts) 43 (con (M N)) := by
  refine SoundC.mono (evF_ok (gok N) hm an N Tryd.func43) fun R args bs κ r h => ?_
  unfold con at h
  split at h
  · exact (eq (rHas.M N) (rWay.M N) N κ _ _).trans h
  · cases h
end rAbove


/-! ### Tryd.f44: rBeside -/
namespace rBeside
def an : Anns := ⟨fun i => findA i [], fun i => findA i [], false⟩
noncomputable def g (mrAbove : rAbove.Ty) (mrKids : rKids.Ty) : Gi := giD Tryd.prog (gtL []) (fun _ => an) 0 [] (ovL [(43, rAbove.con mrAbove), (54, rKids.con mrKids)]) 1
noncomputable def m (mrAbove : rAbove.Ty) (mrKids : rKids.Ty) {R : Type} (_N : Nat) (x1 : Int) (n2 : Int) (kr0 : Int → Int → Option R) : Option R :=
  mrAbove R x1 n2
   (fun v_c6 v_1_c7 => cond (v_1_c7 != 0)
    (kr0 0 v_1_c7)
    (mrKids R v_c6
     (fun v_c8 v_1_c9 => kr0 (IntKind.i64.wrap (IntKind.i64.wrap (v_c8 + v_1_c9) - x1)) 0)))
theorem tree (mrAbove : rAbove.Ty) (mrKids : rKids.Ty) {R : Type} (N : Nat) (κ : AV → List Blk → Option R) (x1 : Int) (n2 : Int) : evF (g mrAbove mrKids) an N Tryd.f44 [AV.int IntKind.i64 x1, AV.int IntKind.i64 n2] [] κ =
  mrAbove R x1 n2
   (fun v_c6 v_1_c7 => cond (v_1_c7 != 0)
    (κ (AV.tup [AV.int IntKind.i64 0, AV.int IntKind.i64 v_1_c7]) [])
    (mrKids R v_c6
     (fun v_c8 v_1_c9 => κ (AV.tup [AV.int IntKind.i64 (IntKind.i64.wrap (IntKind.i64.wrap (v_c8 + v_1_c9) - x1)), AV.int IntKind.i64 0]) []))) := by kernel_rfl
theorem eq (mrAbove : rAbove.Ty) (mrKids : rKids.Ty) {R : Type} (N : Nat) (κ : AV → List Blk → Option R) (x1 : Int) (n2 : Int) : evF (g mrAbove mrKids) an N Tryd.f44 [AV.int IntKind.i64 x1, AV.int IntKind.i64 n2] [] κ =
  m mrAbove mrKids N x1 n2 (fun v v_1 => κ (AV.tup [AV.int IntKind.i64 v, AV.int IntKind.i64 v_1]) []) := by
  rw [tree]
  kernel_rfl
abbrev Ty : Type 1 := ∀ R : Type, Int → Int → (Int → Int → Option R) → Option R
def con (f : Ty) : Con := fun R args bs κ => match args, bs with
  | [AV.int IntKind.i64 x1, AV.int IntKind.i64 n2], [] => f R x1 n2 (fun v v_1 => κ (AV.tup [AV.int IntKind.i64 v, AV.int IntKind.i64 v_1]) [])
  | _, _ => none
theorem con_eq (f : Ty) (R : Type) (κ : AV → List Blk → Option R) (x1 : Int) (n2 : Int) : con f R [AV.int IntKind.i64 x1, AV.int IntKind.i64 n2] [] κ = f R x1 n2 (fun v v_1 => κ (AV.tup [AV.int IntKind.i64 v, AV.int IntKind.i64 v_1]) []) := rfl
noncomputable def M (N : Nat) : Ty := fun R x1 n2 kr0 => m (rAbove.M N) (rKids.M N) (R := R) N x1 n2 kr0
def gts : List (Nat × AV) := []
theorem gok (N : Nat) : GOk (g (rAbove.M N) (rKids.M N)) := giD_ok hm (by intro p hp; cases hp) (gtL_ok (by decide)) (ovL_ok (by
    intro p hp
    simp only [List.mem_cons, List.not_mem_nil, or_false] at hp
    rcases hp with rfl | rfl
    · exact ⟨(rAbove.ok N).gt (gtL_sub (by repeat (first | exact subG_nil _ | refine subG_cons (by kernel_rfl) ?_))) (gtL_ok (by decide)), _, Tryd.func43, by kernel_rfl, by kernel_rfl⟩
    · exact ⟨(rKids.ok N).gt (gtL_sub (by repeat (first | exact subG_nil _ | refine subG_cons (by kernel_rfl) ?_))) (gtL_ok (by decide)), _, Tryd.func54, by kernel_rfl, by kernel_rfl⟩
)) 1
theorem ok (N : Nat) : SoundC Tryd.prog (gtL gts) 44 (con (M N)) := by
  refine SoundC.mono (evF_ok (gok N) hm an N Tryd.func44) fun R args bs κ r h => ?_
  unfold con at h
  split at h
  · exact (eq (rAbove.M N) (rKids.M N) N κ _ _).trans h
  · cases h
end rBeside


/-! ### Tryd.f48: rCoway -/
namespace rCoway
def an : Anns := ⟨fun i => findA i [(3, ⟨[1, 5, 16, 17, 18], [⟨5, 0, .i64⟩, ⟨16, 1, .i64⟩], 2⟩)], fun i => findA i [], false⟩
noncomputable def g (mrWay : rWay.Ty) (mrBeside : rBeside.Ty) : Gi := giD Tryd.prog (gtL []) (fun _ => an) 0 [] (ovL [(47, rWay.con mrWay), (44, rBeside.con mrBeside)]) 1
noncomputable def c_L3 : Code := loopOf Tryd.f48 0
def s_L3 (n1 : Int) (t17 : Int) (t18 : Int) (h0 : List Int) (h1 : Bool) (h1_5 : List Int) : St := ⟨[AV.dead, AV.int IntKind.i64 n1, AV.dead, AV.dead, AV.dead, AV.own 0 [] 0 none] ++ List.replicate 10 .dead ++ [AV.own 1 [] 0 none, AV.int IntKind.i64 t17, AV.int IntKind.i64 t18] ++ List.replicate 17 .dead, [Blk.row IntKind.i64 false h0, Blk.row IntKind.i64 h1 h1_5]⟩
def x_L3_0 (n1 : Int) (t17 : Int) (t18 : Int) (h0 : List Int) (h1 : Bool) (h1_5 : List Int) : St := ⟨[AV.dead, AV.int IntKind.i64 n1, AV.dead, AV.dead, AV.dead, AV.own 0 [] 0 none] ++ List.replicate 10 .dead ++ [AV.own 1 [] 0 none, AV.int IntKind.i64 t17, AV.int IntKind.i64 t18, AV.bool (decide (t18 < t17))] ++ List.replicate 16 .dead, [Blk.row IntKind.i64 false h0, Blk.row IntKind.i64 h1 h1_5]⟩
noncomputable def L3 (mrWay : rWay.Ty) (mrBeside : rBeside.Ty) {R : Type} (N : Nat) (ke0 : Int → Int → Int → (List Int) → Bool → (List Int) → Option R) : Nat → Int → Int → Int → (List Int) → Bool → (List Int) → Option R
  | 0, _, _, _, _, _, _ => none
  | m + 1, n1, t17, t18, h0, h1, h1_5 =>
    cond (decide (t18 < t17))
     (cond (decide (0 ≤ t18))
      (cond (decide (t18 < (↑(olen none h1_5.length 0) : Int)))
       (mrBeside R (h1_5.getD (0 + t18.toNat) 0) n1
        (fun v_c13 v_1_c14 => cond (v_1_c14 == 0)
         (cond (decide ((h0.length + 1) * 8 ≤ 140737488355328))
          (cond (decide (h0.length + 1 ≤ 140737488355328))
           (L3 mrWay mrBeside N ke0 m n1 t17 (IntKind.i64.wrap (t18 + 1)) (h0 ++ [v_c13]) h1 h1_5)
           (none))
          (none))
         (L3 mrWay mrBeside N ke0 m n1 t17 (IntKind.i64.wrap (t18 + 1)) h0 h1 h1_5)))
       (none))
      (none))
     (ke0 n1 t17 t18 h0 h1 h1_5)
theorem round_L3 (mrWay : rWay.Ty) (mrBeside : rBeside.Ty) {R : Type} (N : Nat) (Rn : St → Option R) (k : K R) (n1 : Int) (t17 : Int) (t18 : Int) (h0 : List Int) (h1 : Bool) (h1_5 : List Int) : evC (g mrWay mrBeside) an 0 N c_L3 none (roundK (nmOf 0 (an.loop 3)) Rn k) (s_L3 n1 t17 t18 h0 h1 h1_5) =
  cond (decide (t18 < t17))
   (cond (decide (0 ≤ t18))
    (cond (decide (t18 < (↑(olen none h1_5.length 0) : Int)))
     (mrBeside R (h1_5.getD (0 + t18.toNat) 0) n1
      (fun v_c13 v_1_c14 => cond (v_1_c14 == 0)
       (cond (decide ((h0.length + 1) * 8 ≤ 140737488355328))
        (cond (decide (h0.length + 1 ≤ 140737488355328))
         (Rn (s_L3 n1 t17 (IntKind.i64.wrap (t18 + 1)) (h0 ++ [v_c13]) h1 h1_5))
         (none))
        (none))
       (Rn (s_L3 n1 t17 (IntKind.i64.wrap (t18 + 1)) h0 h1 h1_5))))
     (none))
    (none))
   (k.ext 0 (x_L3_0 n1 t17 t18 h0 h1 h1_5)) := by kernel_rfl
theorem run_L3 (mrWay : rWay.Ty) (mrBeside : rBeside.Ty) {R : Type} (N : Nat) (k : K R) : ∀ (m : Nat) (n1 : Int) (t17 : Int) (t18 : Int) (h0 : List Int) (h1 : Bool) (h1_5 : List Int), loopN (evC (g mrWay mrBeside) an 0 N c_L3 none) k (nmOf 0 (an.loop 3)) m (s_L3 n1 t17 t18 h0 h1 h1_5) =
    L3 mrWay mrBeside N (fun n1 t17 t18 h0 h1 h1_5 => (k).ext 0 (x_L3_0 n1 t17 t18 h0 h1 h1_5)) m n1 t17 t18 h0 h1 h1_5 := by
  intro m
  induction m with
  | zero => intros; rfl
  | succ m ih =>
    intros
    rw [loopN_succ, round_L3]
    simp only [ih]
    kernel_rfl
noncomputable def m (mrWay : rWay.Ty) (mrBeside : rBeside.Ty) {R : Type} (N : Nat) (x1 : Int) (n2 : Int) (kr0 : (List Int) → Option R) : Option R :=
  mrWay R x1 n2
   (fun v_c12 => cond (decide ((1 + v_c12.length) * 8 ≤ 140737488355328))
    (cond (decide (1 + v_c12.length ≤ 140737488355328))
     (L3 mrWay mrBeside N
      (fun _n1_c15 _t17_c16 _t18_c17 h0_c18 _h1_c19 _h1_5_c20 => kr0 h0_c18) N n2 ((↑(olen none ([x1] ++ v_c12).length 0) : Int)) 0 [] (v_c12.isEmpty && false) ([x1] ++ v_c12))
     (none))
    (none))
theorem tree (mrWay : rWay.Ty) (mrBeside : rBeside.Ty) {R : Type} (N : Nat) (κ : AV → List Blk → Option R) (x1 : Int) (n2 : Int) : evF (g mrWay mrBeside) an N Tryd.f48 [AV.int IntKind.i64 x1, AV.int IntKind.i64 n2] [] κ =
  mrWay R x1 n2
   (fun v_c12 => cond (decide ((1 + v_c12.length) * 8 ≤ 140737488355328))
    (cond (decide (1 + v_c12.length ≤ 140737488355328))
     (loopN (evC (g mrWay mrBeside) an 0 N c_L3 none) (ctx (g mrWay mrBeside) an 0 N (bodyOf Tryd.f48) [1, 1, 0, 1, 0] (endK (g mrWay mrBeside) an Tryd.f48 [] κ)) (nmOf 0 (an.loop 3)) N (s_L3 n2 ((↑(olen none ([x1] ++ v_c12).length 0) : Int)) 0 [] (v_c12.isEmpty && false) ([x1] ++ v_c12)))
     (none))
    (none)) := by kernel_rfl
theorem eq (mrWay : rWay.Ty) (mrBeside : rBeside.Ty) {R : Type} (N : Nat) (κ : AV → List Blk → Option R) (x1 : Int) (n2 : Int) : evF (g mrWay mrBeside) an N Tryd.f48 [AV.int IntKind.i64 x1, AV.int IntKind.i64 n2] [] κ =
  m mrWay mrBeside N x1 n2 (fun v => κ (AV.isl IntKind.i64 none v) []) := by
  rw [tree]
  simp only [run_L3]
  kernel_rfl
abbrev Ty : Type 1 := ∀ R : Type, Int → Int → ((List Int) → Option R) → Option R
def con (f : Ty) : Con := fun R args bs κ => match args, bs with
  | [AV.int IntKind.i64 x1, AV.int IntKind.i64 n2], [] => f R x1 n2 (fun v => κ (AV.isl IntKind.i64 none v) [])
  | _, _ => none
theorem con_eq (f : Ty) (R : Type) (κ : AV → List Blk → Option R) (x1 : Int) (n2 : Int) : con f R [AV.int IntKind.i64 x1, AV.int IntKind.i64 n2] [] κ = f R x1 n2 (fun v => κ (AV.isl IntKind.i64 none v) []) := rfl
noncomputable def M (N : Nat) : Ty := fun R x1 n2 kr0 => m (rWay.M N) (rBeside.M N) (R := R) N x1 n2 kr0
def gts : List (Nat × AV) := []
theorem gok (N : Nat) : GOk (g (rWay.M N) (rBeside.M N)) := giD_ok hm (by intro p hp; cases hp) (gtL_ok (by decide)) (ovL_ok (by
    intro p hp
    simp only [List.mem_cons, List.not_mem_nil, or_false] at hp
    rcases hp with rfl | rfl
    · exact ⟨(rWay.ok N).gt (gtL_sub (by repeat (first | exact subG_nil _ | refine subG_cons (by kernel_rfl) ?_))) (gtL_ok (by decide)), _, Tryd.func47, by kernel_rfl, by kernel_rfl⟩
    · exact ⟨(rBeside.ok N).gt (gtL_sub (by repeat (first | exact subG_nil _ | refine subG_cons (by kernel_rfl) ?_))) (gtL_ok (by decide)), _, Tryd.func44, by kernel_rfl, by kernel_rfl⟩
)) 1
theorem ok (N : Nat) : SoundC Tryd.prog (gtL gts) 48 (con (M N)) := by
  refine SoundC.mono (evF_ok (gok N) hm an N Tryd.func48) fun R args bs κ r h => ?_
  unfold con at h
  split at h
  · exact (eq (rWay.M N) (rBeside.M N) N κ _ _).trans h
  · cases h
end rCoway


/-! ### Tryd.f57: rCommon -/
namespace rCommon
def an : Anns := ⟨fun i => findA i [(2, ⟨[0, 1, 7], [], 0⟩)], fun i => findA i [], false⟩
noncomputable def g (mrLevel : rLevel.Ty) (mrKids : rKids.Ty) (mrUnder : rUnder.Ty) : Gi := giD Tryd.prog (gtL []) (fun _ => an) 0 [] (ovL [(52, rLevel.con mrLevel), (54, rKids.con mrKids), (55, rUnder.con mrUnder)]) 1
noncomputable def c_L2 : Code := loopOf Tryd.f57 0
def s_L2 (x0 : Int) (y1 : Int) (at7 : Int) : St := ⟨[AV.int IntKind.i64 x0, AV.int IntKind.i64 y1] ++ List.replicate 5 .dead ++ [AV.int IntKind.i64 at7] ++ List.replicate 34 .dead, []⟩
def x_L2_0 (x0 : Int) (y1 : Int) (at7 : Int) (v0_c13 : Int) : St := ⟨[AV.int IntKind.i64 x0, AV.int IntKind.i64 y1] ++ List.replicate 4 .dead ++ [AV.int IntKind.i64 at7, AV.int IntKind.i64 at7] ++ List.replicate 4 .dead ++ [AV.int IntKind.i64 at7, AV.int IntKind.i64 v0_c13, AV.bool (v0_c13 == 0), AV.int IntKind.i64 at7] ++ List.replicate 26 .dead, [Blk.rsv, Blk.rsv, Blk.rsv, Blk.rsv]⟩
def x_L2_1 (x0 : Int) (y1 : Int) (at7 : Int) (v0_c13 : Int) (v_c14 : Int) (v_1_c15 : Int) (v0_c16 : Bool) (v0_c17 : Bool) (v0_c18 : Bool) (v0_c19 : Bool) : St := ⟨[AV.int IntKind.i64 x0, AV.int IntKind.i64 y1] ++ List.replicate 4 .dead ++ [AV.int IntKind.i64 at7, AV.int IntKind.i64 at7, AV.int IntKind.i64 v_c14, AV.int IntKind.i64 v_1_c15, AV.dead, AV.dead, AV.int IntKind.i64 at7, AV.int IntKind.i64 v0_c13, AV.bool (v0_c13 == 0), AV.dead, AV.tup [AV.int IntKind.i64 v_c14, AV.int IntKind.i64 v_1_c15], AV.int IntKind.i64 at7, AV.tup [AV.int IntKind.i64 v_c14, AV.int IntKind.i64 v_1_c15], AV.int IntKind.i64 v_c14, AV.int IntKind.i64 v_1_c15, AV.int IntKind.i64 at7, AV.bool v0_c17, AV.int IntKind.i64 v_c14, AV.int IntKind.i64 x0, AV.bool v0_c16, AV.bool true, AV.int IntKind.i64 v_c14, AV.int IntKind.i64 y1, AV.bool v0_c17, AV.bool v0_c17, AV.dead, AV.bool v0_c19, AV.int IntKind.i64 v_1_c15, AV.int IntKind.i64 x0, AV.bool v0_c18, AV.bool true, AV.int IntKind.i64 v_1_c15, AV.int IntKind.i64 y1, AV.bool v0_c19, AV.bool v0_c19, AV.dead], [Blk.rsv, Blk.rsv, Blk.rsv, Blk.rsv, Blk.rsv, Blk.rsv, Blk.rsv, Blk.rsv, Blk.rsv, Blk.rsv, Blk.rsv, Blk.rsv, Blk.rsv, Blk.rsv, Blk.rsv, Blk.rsv, Blk.rsv, Blk.rsv, Blk.rsv, Blk.rsv, Blk.rsv, Blk.rsv, Blk.rsv, Blk.rsv]⟩
def x_L2_2 (x0 : Int) (y1 : Int) (at7 : Int) (v0_c13 : Int) (v_c14 : Int) (v_1_c15 : Int) (v0_c16 : Bool) (v0_c17 : Bool) (v0_c18 : Bool) : St := ⟨[AV.int IntKind.i64 x0, AV.int IntKind.i64 y1] ++ List.replicate 4 .dead ++ [AV.int IntKind.i64 at7, AV.int IntKind.i64 at7, AV.int IntKind.i64 v_c14, AV.int IntKind.i64 v_1_c15, AV.dead, AV.dead, AV.int IntKind.i64 at7, AV.int IntKind.i64 v0_c13, AV.bool (v0_c13 == 0), AV.dead, AV.tup [AV.int IntKind.i64 v_c14, AV.int IntKind.i64 v_1_c15], AV.int IntKind.i64 at7, AV.tup [AV.int IntKind.i64 v_c14, AV.int IntKind.i64 v_1_c15], AV.int IntKind.i64 v_c14, AV.int IntKind.i64 v_1_c15, AV.int IntKind.i64 at7, AV.bool v0_c17, AV.int IntKind.i64 v_c14, AV.int IntKind.i64 x0, AV.bool v0_c16, AV.bool true, AV.int IntKind.i64 v_c14, AV.int IntKind.i64 y1, AV.bool v0_c17, AV.bool v0_c17, AV.dead, AV.bool false, AV.int IntKind.i64 v_1_c15, AV.int IntKind.i64 x0, AV.bool v0_c18, AV.bool false, AV.tup [], AV.tup [], AV.tup [], AV.bool false, AV.dead], [Blk.rsv, Blk.rsv, Blk.rsv, Blk.rsv, Blk.rsv, Blk.rsv, Blk.rsv, Blk.rsv, Blk.rsv, Blk.rsv, Blk.rsv, Blk.rsv, Blk.rsv, Blk.rsv, Blk.rsv, Blk.rsv, Blk.rsv, Blk.rsv, Blk.rsv, Blk.rsv, Blk.rsv, Blk.rsv, Blk.rsv, Blk.rsv]⟩
def x_L2_3 (x0 : Int) (y1 : Int) (at7 : Int) (v0_c13 : Int) (v_c14 : Int) (v_1_c15 : Int) (v0_c16 : Bool) (v0_c20 : Bool) (v0_c21 : Bool) : St := ⟨[AV.int IntKind.i64 x0, AV.int IntKind.i64 y1] ++ List.replicate 4 .dead ++ [AV.int IntKind.i64 at7, AV.int IntKind.i64 at7, AV.int IntKind.i64 v_c14, AV.int IntKind.i64 v_1_c15, AV.dead, AV.dead, AV.int IntKind.i64 at7, AV.int IntKind.i64 v0_c13, AV.bool (v0_c13 == 0), AV.dead, AV.tup [AV.int IntKind.i64 v_c14, AV.int IntKind.i64 v_1_c15], AV.int IntKind.i64 at7, AV.tup [AV.int IntKind.i64 v_c14, AV.int IntKind.i64 v_1_c15], AV.int IntKind.i64 v_c14, AV.int IntKind.i64 v_1_c15, AV.int IntKind.i64 at7, AV.bool false, AV.int IntKind.i64 v_c14, AV.int IntKind.i64 x0, AV.bool v0_c16, AV.bool false, AV.tup [], AV.tup [], AV.tup [], AV.bool false, AV.dead, AV.bool v0_c21, AV.int IntKind.i64 v_1_c15, AV.int IntKind.i64 x0, AV.bool v0_c20, AV.bool true, AV.int IntKind.i64 v_1_c15, AV.int IntKind.i64 y1, AV.bool v0_c21, AV.bool v0_c21, AV.dead], [Blk.rsv, Blk.rsv, Blk.rsv, Blk.rsv, Blk.rsv, Blk.rsv, Blk.rsv, Blk.rsv, Blk.rsv, Blk.rsv, Blk.rsv, Blk.rsv, Blk.rsv, Blk.rsv, Blk.rsv, Blk.rsv, Blk.rsv, Blk.rsv, Blk.rsv, Blk.rsv, Blk.rsv, Blk.rsv, Blk.rsv, Blk.rsv]⟩
def x_L2_4 (x0 : Int) (y1 : Int) (at7 : Int) (v0_c13 : Int) (v_c14 : Int) (v_1_c15 : Int) (v0_c16 : Bool) (v0_c20 : Bool) : St := ⟨[AV.int IntKind.i64 x0, AV.int IntKind.i64 y1] ++ List.replicate 4 .dead ++ [AV.int IntKind.i64 at7, AV.int IntKind.i64 at7, AV.int IntKind.i64 v_c14, AV.int IntKind.i64 v_1_c15, AV.dead, AV.dead, AV.int IntKind.i64 at7, AV.int IntKind.i64 v0_c13, AV.bool (v0_c13 == 0), AV.dead, AV.tup [AV.int IntKind.i64 v_c14, AV.int IntKind.i64 v_1_c15], AV.int IntKind.i64 at7, AV.tup [AV.int IntKind.i64 v_c14, AV.int IntKind.i64 v_1_c15], AV.int IntKind.i64 v_c14, AV.int IntKind.i64 v_1_c15, AV.int IntKind.i64 at7, AV.bool false, AV.int IntKind.i64 v_c14, AV.int IntKind.i64 x0, AV.bool v0_c16, AV.bool false, AV.tup [], AV.tup [], AV.tup [], AV.bool false, AV.dead, AV.bool false, AV.int IntKind.i64 v_1_c15, AV.int IntKind.i64 x0, AV.bool v0_c20, AV.bool false, AV.tup [], AV.tup [], AV.tup [], AV.bool false, AV.dead], [Blk.rsv, Blk.rsv, Blk.rsv, Blk.rsv, Blk.rsv, Blk.rsv, Blk.rsv, Blk.rsv, Blk.rsv, Blk.rsv, Blk.rsv, Blk.rsv, Blk.rsv, Blk.rsv, Blk.rsv, Blk.rsv, Blk.rsv, Blk.rsv, Blk.rsv, Blk.rsv, Blk.rsv, Blk.rsv, Blk.rsv, Blk.rsv]⟩
noncomputable def L2 (mrLevel : rLevel.Ty) (mrKids : rKids.Ty) (mrUnder : rUnder.Ty) {R : Type} (N : Nat) (ke0 : Int → Int → Int → Int → Option R) (ke1 : Int → Int → Int → Int → Int → Int → Bool → Bool → Bool → Bool → Option R) (ke2 : Int → Int → Int → Int → Int → Int → Bool → Bool → Bool → Option R) (ke3 : Int → Int → Int → Int → Int → Int → Bool → Bool → Bool → Option R) (ke4 : Int → Int → Int → Int → Int → Int → Bool → Bool → Option R) : Nat → Int → Int → Int → Option R
  | 0, _, _, _ => none
  | m + 1, x0, y1, at7 =>
    mrLevel R at7
     (fun v0_c13 => cond (v0_c13 == 0)
      (ke0 x0 y1 at7 v0_c13)
      (mrKids R at7
       (fun v_c14 v_1_c15 => mrUnder R v_c14 x0
        (fun v0_c16 => cond v0_c16
         (mrUnder R v_c14 y1
          (fun v0_c17 => cond v0_c17
           (L2 mrLevel mrKids mrUnder N ke0 ke1 ke2 ke3 ke4 m x0 y1 v_c14)
           (mrUnder R v_1_c15 x0
            (fun v0_c18 => cond v0_c18
             (mrUnder R v_1_c15 y1
              (fun v0_c19 => cond v0_c19
               (L2 mrLevel mrKids mrUnder N ke0 ke1 ke2 ke3 ke4 m x0 y1 v_1_c15)
               (ke1 x0 y1 at7 v0_c13 v_c14 v_1_c15 v0_c16 v0_c17 v0_c18 v0_c19)))
             (ke2 x0 y1 at7 v0_c13 v_c14 v_1_c15 v0_c16 v0_c17 v0_c18)))))
         (mrUnder R v_1_c15 x0
          (fun v0_c20 => cond v0_c20
           (mrUnder R v_1_c15 y1
            (fun v0_c21 => cond v0_c21
             (L2 mrLevel mrKids mrUnder N ke0 ke1 ke2 ke3 ke4 m x0 y1 v_1_c15)
             (ke3 x0 y1 at7 v0_c13 v_c14 v_1_c15 v0_c16 v0_c20 v0_c21)))
           (ke4 x0 y1 at7 v0_c13 v_c14 v_1_c15 v0_c16 v0_c20)))))))
theorem round_L2 (mrLevel : rLevel.Ty) (mrKids : rKids.Ty) (mrUnder : rUnder.Ty) {R : Type} (N : Nat) (Rn : St → Option R) (k : K R) (x0 : Int) (y1 : Int) (at7 : Int) : evC (g mrLevel mrKids mrUnder) an 0 N c_L2 none (roundK (nmOf 0 (an.loop 2)) Rn k) (s_L2 x0 y1 at7) =
  mrLevel R at7
   (fun v0_c13 => cond (v0_c13 == 0)
    (k.ret (x_L2_0 x0 y1 at7 v0_c13))
    (mrKids R at7
     (fun v_c14 v_1_c15 => mrUnder R v_c14 x0
      (fun v0_c16 => cond v0_c16
       (mrUnder R v_c14 y1
        (fun v0_c17 => cond v0_c17
         (Rn (s_L2 x0 y1 v_c14))
         (mrUnder R v_1_c15 x0
          (fun v0_c18 => cond v0_c18
           (mrUnder R v_1_c15 y1
            (fun v0_c19 => cond v0_c19
             (Rn (s_L2 x0 y1 v_1_c15))
             (k.ret (x_L2_1 x0 y1 at7 v0_c13 v_c14 v_1_c15 v0_c16 v0_c17 v0_c18 v0_c19))))
           (k.ret (x_L2_2 x0 y1 at7 v0_c13 v_c14 v_1_c15 v0_c16 v0_c17 v0_c18))))))
       (mrUnder R v_1_c15 x0
        (fun v0_c20 => cond v0_c20
         (mrUnder R v_1_c15 y1
          (fun v0_c21 => cond v0_c21
           (Rn (s_L2 x0 y1 v_1_c15))
           (k.ret (x_L2_3 x0 y1 at7 v0_c13 v_c14 v_1_c15 v0_c16 v0_c20 v0_c21))))
         (k.ret (x_L2_4 x0 y1 at7 v0_c13 v_c14 v_1_c15 v0_c16 v0_c20)))))))) := by kernel_rfl
theorem run_L2 (mrLevel : rLevel.Ty) (mrKids : rKids.Ty) (mrUnder : rUnder.Ty) {R : Type} (N : Nat) (k : K R) : ∀ (m : Nat) (x0 : Int) (y1 : Int) (at7 : Int), loopN (evC (g mrLevel mrKids mrUnder) an 0 N c_L2 none) k (nmOf 0 (an.loop 2)) m (s_L2 x0 y1 at7) =
    L2 mrLevel mrKids mrUnder N (fun x0 y1 at7 v0_c13 => (k).ret (x_L2_0 x0 y1 at7 v0_c13)) (fun x0 y1 at7 v0_c13 v_c14 v_1_c15 v0_c16 v0_c17 v0_c18 v0_c19 => (k).ret (x_L2_1 x0 y1 at7 v0_c13 v_c14 v_1_c15 v0_c16 v0_c17 v0_c18 v0_c19)) (fun x0 y1 at7 v0_c13 v_c14 v_1_c15 v0_c16 v0_c17 v0_c18 => (k).ret (x_L2_2 x0 y1 at7 v0_c13 v_c14 v_1_c15 v0_c16 v0_c17 v0_c18)) (fun x0 y1 at7 v0_c13 v_c14 v_1_c15 v0_c16 v0_c20 v0_c21 => (k).ret (x_L2_3 x0 y1 at7 v0_c13 v_c14 v_1_c15 v0_c16 v0_c20 v0_c21)) (fun x0 y1 at7 v0_c13 v_c14 v_1_c15 v0_c16 v0_c20 => (k).ret (x_L2_4 x0 y1 at7 v0_c13 v_c14 v_1_c15 v0_c16 v0_c20)) m x0 y1 at7 := by
  intro m
  induction m with
  | zero => intros; rfl
  | succ m ih =>
    intros
    rw [loopN_succ, round_L2]
    simp only [ih]
    kernel_rfl
noncomputable def m (mrLevel : rLevel.Ty) (mrKids : rKids.Ty) (mrUnder : rUnder.Ty) {R : Type} (N : Nat) (x1 : Int) (y2 : Int) (n3 : Int) (kr0 : Int → Option R) : Option R :=
  L2 mrLevel mrKids mrUnder N
   (fun _x0_c22 _y1_c23 at7_c24 _v0_c25 => kr0 at7_c24)
   (fun _x0_c26 _y1_c27 at7_c28 _v0_c29 _v_c30 _v_1_c31 _v0_c32 _v0_c33 _v0_c34 _v0_c35 => kr0 at7_c28)
   (fun _x0_c36 _y1_c37 at7_c38 _v0_c39 _v_c40 _v_1_c41 _v0_c42 _v0_c43 _v0_c44 => kr0 at7_c38)
   (fun _x0_c45 _y1_c46 at7_c47 _v0_c48 _v_c49 _v_1_c50 _v0_c51 _v0_c52 _v0_c53 => kr0 at7_c47)
   (fun _x0_c54 _y1_c55 at7_c56 _v0_c57 _v_c58 _v_1_c59 _v0_c60 _v0_c61 => kr0 at7_c56) N x1 y2 (IntKind.i64.wrap (n3 - 1))
theorem tree (mrLevel : rLevel.Ty) (mrKids : rKids.Ty) (mrUnder : rUnder.Ty) {R : Type} (N : Nat) (κ : AV → List Blk → Option R) (x1 : Int) (y2 : Int) (n3 : Int) : evF (g mrLevel mrKids mrUnder) an N Tryd.f57 [AV.int IntKind.i64 x1, AV.int IntKind.i64 y2, AV.int IntKind.i64 n3] [] κ =
  loopN (evC (g mrLevel mrKids mrUnder) an 0 N c_L2 none) (ctx (g mrLevel mrKids mrUnder) an 0 N (bodyOf Tryd.f57) [1, 1, 0] (endK (g mrLevel mrKids mrUnder) an Tryd.f57 [] κ)) (nmOf 0 (an.loop 2)) N (s_L2 x1 y2 (IntKind.i64.wrap (n3 - 1))) := by kernel_rfl
theorem eq (mrLevel : rLevel.Ty) (mrKids : rKids.Ty) (mrUnder : rUnder.Ty) {R : Type} (N : Nat) (κ : AV → List Blk → Option R) (x1 : Int) (y2 : Int) (n3 : Int) : evF (g mrLevel mrKids mrUnder) an N Tryd.f57 [AV.int IntKind.i64 x1, AV.int IntKind.i64 y2, AV.int IntKind.i64 n3] [] κ =
  m mrLevel mrKids mrUnder N x1 y2 n3 (fun v => κ (AV.int IntKind.i64 v) []) := by
  rw [tree]
  simp only [run_L2]
  kernel_rfl
abbrev Ty : Type 1 := ∀ R : Type, Int → Int → Int → (Int → Option R) → Option R
def con (f : Ty) : Con := fun R args bs κ => match args, bs with
  | [AV.int IntKind.i64 x1, AV.int IntKind.i64 y2, AV.int IntKind.i64 n3], [] => f R x1 y2 n3 (fun v => κ (AV.int IntKind.i64 v) [])
  | _, _ => none
theorem con_eq (f : Ty) (R : Type) (κ : AV → List Blk → Option R) (x1 : Int) (y2 : Int) (n3 : Int) : con f R [AV.int IntKind.i64 x1, AV.int IntKind.i64 y2, AV.int IntKind.i64 n3] [] κ = f R x1 y2 n3 (fun v => κ (AV.int IntKind.i64 v) []) := rfl
noncomputable def M (N : Nat) : Ty := fun R x1 y2 n3 kr0 => m (rLevel.M N) (rKids.M N) (rUnder.M N) (R := R) N x1 y2 n3 kr0
def gts : List (Nat × AV) := []
theorem gok (N : Nat) : GOk (g (rLevel.M N) (rKids.M N) (rUnder.M N)) := giD_ok hm (by intro p hp; cases hp) (gtL_ok (by decide)) (ovL_ok (by
    intro p hp
    simp only [List.mem_cons, List.not_mem_nil, or_false] at hp
    rcases hp with rfl | rfl | rfl
    · exact ⟨(rLevel.ok N).gt (gtL_sub (by repeat (first | exact subG_nil _ | refine subG_cons (by kernel_rfl) ?_))) (gtL_ok (by decide)), _, Tryd.func52, by kernel_rfl, by kernel_rfl⟩
    · exact ⟨(rKids.ok N).gt (gtL_sub (by repeat (first | exact subG_nil _ | refine subG_cons (by kernel_rfl) ?_))) (gtL_ok (by decide)), _, Tryd.func54, by kernel_rfl, by kernel_rfl⟩
    · exact ⟨(rUnder.ok N).gt (gtL_sub (by repeat (first | exact subG_nil _ | refine subG_cons (by kernel_rfl) ?_))) (gtL_ok (by decide)), _, Tryd.func55, by kernel_rfl, by kernel_rfl⟩
)) 1
theorem ok (N : Nat) : SoundC Tryd.prog (gtL gts) 57 (con (M N)) := by
  refine SoundC.mono (evF_ok (gok N) hm an N Tryd.func57) fun R args bs κ r h => ?_
  unfold con at h
  split at h
  · exact (eq (rLevel.M N) (rKids.M N) (rUnder.M N) N κ _ _ _).trans h
  · cases h
end rCommon


/-! ### Tryd.f11: PlacesNumbers -/
namespace PlacesNumbers
def an : Anns := ⟨fun i => findA i [], fun i => findA i [], false⟩
noncomputable def g (malive17 : alive17.Ty) (mrRight : rRight.Ty) (mpRight : pRight.Ty) (mRoot : Root.Ty) (mBelow : Below.Ty) (mLeaves : Leaves.Ty) (mNum : Num.Ty) (mLevel : Level.Ty) (mrLevel : rLevel.Ty) (mrLeaves : rLeaves.Ty) (mSameInts : SameInts.Ty) (mrKids : rKids.Ty) : Gi := giD Tryd.prog (gtL [(0, .err 4), (1, .err 1), (2, .err 2), (3, .err 3), (4, .err 5), (5, .err 6), (6, .err 7), (7, .err 8), (8, .err 9), (9, .err 10), (10, .err 11), (11, .err 12), (12, .err 13), (13, .err 14), (14, .err 15), (15, .err 16), (16, .err 17), (17, .err 18), (18, .err 19)]) (fun _ => an) 0 [] (ovL [(34, alive17.con malive17), (49, rRight.con mrRight), (50, pRight.con mpRight), (39, Root.con mRoot), (51, Below.con mBelow), (36, Leaves.con mLeaves), (24, Num.con mNum), (38, Level.con mLevel), (52, rLevel.con mrLevel), (53, rLeaves.con mrLeaves), (46, SameInts.con mSameInts), (54, rKids.con mrKids)]) 1
noncomputable def m (malive17 : alive17.Ty) (mrRight : rRight.Ty) (mpRight : pRight.Ty) (mRoot : Root.Ty) (mBelow : Below.Ty) (mLeaves : Leaves.Ty) (mNum : Num.Ty) (mLevel : Level.Ty) (mrLevel : rLevel.Ty) (mrLeaves : rLeaves.Ty) (mSameInts : SameInts.Ty) (mrKids : rKids.Ty) {R : Type} (_N : Nat) (x1 : Int) (leaves2 : Int) (kr0 : Bool → Option R) : Option R :=
  malive17 R
   (fun v_c11 => cond (!v_c11)
    (kr0 false)
    (mrRight R leaves2
     (fun v_c12 => cond v_c12
      (mpRight R leaves2
       (fun v_c13 => cond (!v_c13 == v_c12)
        (kr0 false)
        (mRoot R leaves2
         (fun v_c14 => cond (v_c14 != IntKind.i64.wrap (leaves2 - 1))
          (kr0 false)
          (mBelow R x1
           (fun v_c15 v_1_c16 v_2_c17 => mLeaves R x1
            (fun v_c18 v_1_c19 => cond (decide (x1 < 0))
             (cond (v_c15 == 0)
              (cond (v_1_c16 == 0)
               (mNum R v_2_c17
                (fun v_c20 => cond (v_c20 == 1)
                 (cond ((↑v_1_c19.length : Int) == 0)
                  (cond (decide (x1 > 0))
                   (kr0 true)
                   (mLevel R x1
                    (fun v_c21 => kr0 (v_c21 == 0))))
                  (kr0 false))
                 (kr0 false)))
               (kr0 false))
              (kr0 false))
             (cond (decide (x1 > 30))
              (cond (v_c15 == 0)
               (cond (v_1_c16 == 0)
                (mNum R v_2_c17
                 (fun v_c22 => cond (v_c22 == 1)
                  (cond ((↑v_1_c19.length : Int) == 0)
                   (cond (decide (x1 > 0))
                    (kr0 true)
                    (mLevel R x1
                     (fun v_c23 => kr0 (v_c23 == 0))))
                   (kr0 false))
                  (kr0 false)))
                (kr0 false))
               (kr0 false))
              (mLevel R x1
               (fun v_c24 => mrLevel R x1
                (fun v0_c25 => cond (v_c24 != v0_c25)
                 (kr0 false)
                 (mrLeaves R x1
                  (fun _v0_c26 w0_c27 => mSameInts R v_c18 v_1_c19 none w0_c27
                   (fun v_c28 => cond (!v_c28)
                    (kr0 false)
                    (cond (x1.tmod 2 == 0)
                     (cond (v_c15 == 0)
                      (cond (v_1_c16 == 0)
                       (mNum R v_2_c17
                        (fun v_c29 => kr0 (v_c29 == 11)))
                       (kr0 false))
                      (kr0 false))
                     (mrKids R x1
                      (fun v_c30 v_1_c31 => cond (v_2_c17.beq 0)
                       (cond (v_c15 == v_c30)
                        (kr0 (v_1_c16 == v_1_c31))
                        (kr0 false))
                       (kr0 false))))))))))))))))))
      (mpRight R leaves2
       (fun v_c32 => cond (!v_c32 == v_c12)
        (kr0 false)
        (mRoot R leaves2
         (fun v_c33 => cond (v_c33 != 0)
          (kr0 false)
          (mBelow R x1
           (fun v_c34 v_1_c35 v_2_c36 => mLeaves R x1
            (fun v_c37 v_1_c38 => cond (decide (x1 < 0))
             (cond (v_c34 == 0)
              (cond (v_1_c35 == 0)
               (mNum R v_2_c36
                (fun v_c39 => cond (v_c39 == 1)
                 (cond ((↑v_1_c38.length : Int) == 0)
                  (cond (decide (x1 > 0))
                   (kr0 true)
                   (mLevel R x1
                    (fun v_c40 => kr0 (v_c40 == 0))))
                  (kr0 false))
                 (kr0 false)))
               (kr0 false))
              (kr0 false))
             (cond (decide (x1 > 30))
              (cond (v_c34 == 0)
               (cond (v_1_c35 == 0)
                (mNum R v_2_c36
                 (fun v_c41 => cond (v_c41 == 1)
                  (cond ((↑v_1_c38.length : Int) == 0)
                   (cond (decide (x1 > 0))
                    (kr0 true)
                    (mLevel R x1
                     (fun v_c42 => kr0 (v_c42 == 0))))
                   (kr0 false))
                  (kr0 false)))
                (kr0 false))
               (kr0 false))
              (mLevel R x1
               (fun v_c43 => mrLevel R x1
                (fun v0_c44 => cond (v_c43 != v0_c44)
                 (kr0 false)
                 (mrLeaves R x1
                  (fun _v0_c45 w0_c46 => mSameInts R v_c37 v_1_c38 none w0_c46
                   (fun v_c47 => cond (!v_c47)
                    (kr0 false)
                    (cond (x1.tmod 2 == 0)
                     (cond (v_c34 == 0)
                      (cond (v_1_c35 == 0)
                       (mNum R v_2_c36
                        (fun v_c48 => kr0 (v_c48 == 11)))
                       (kr0 false))
                      (kr0 false))
                     (mrKids R x1
                      (fun v_c49 v_1_c50 => cond (v_2_c36.beq 0)
                       (cond (v_c34 == v_c49)
                        (kr0 (v_1_c35 == v_1_c50))
                        (kr0 false))
                       (kr0 false)))))))))))))))))))))
theorem tree (malive17 : alive17.Ty) (mrRight : rRight.Ty) (mpRight : pRight.Ty) (mRoot : Root.Ty) (mBelow : Below.Ty) (mLeaves : Leaves.Ty) (mNum : Num.Ty) (mLevel : Level.Ty) (mrLevel : rLevel.Ty) (mrLeaves : rLeaves.Ty) (mSameInts : SameInts.Ty) (mrKids : rKids.Ty) {R : Type} (N : Nat) (κ : AV → List Blk → Option R) (x1 : Int) (leaves2 : Int) : evF (g malive17 mrRight mpRight mRoot mBelow mLeaves mNum mLevel mrLevel mrLeaves mSameInts mrKids) an N Tryd.f11 [AV.int IntKind.i64 x1, AV.int IntKind.i64 leaves2] [] κ =
  malive17 R
   (fun v_c11 => cond (!v_c11)
    (κ (AV.bool false) [])
    (mrRight R leaves2
     (fun v_c12 => cond v_c12
      (mpRight R leaves2
       (fun v_c13 => cond (!v_c13 == v_c12)
        (κ (AV.bool false) [])
        (mRoot R leaves2
         (fun v_c14 => cond (v_c14 != IntKind.i64.wrap (leaves2 - 1))
          (κ (AV.bool false) [])
          (mBelow R x1
           (fun v_c15 v_1_c16 v_2_c17 => mLeaves R x1
            (fun v_c18 v_1_c19 => cond (decide (x1 < 0))
             (cond (v_c15 == 0)
              (cond (v_1_c16 == 0)
               (mNum R v_2_c17
                (fun v_c20 => cond (v_c20 == 1)
                 (cond ((↑v_1_c19.length : Int) == 0)
                  (cond (decide (x1 > 0))
                   (κ (AV.bool true) [])
                   (mLevel R x1
                    (fun v_c21 => κ (AV.bool (v_c21 == 0)) [])))
                  (κ (AV.bool false) []))
                 (κ (AV.bool false) [])))
               (κ (AV.bool false) []))
              (κ (AV.bool false) []))
             (cond (decide (x1 > 30))
              (cond (v_c15 == 0)
               (cond (v_1_c16 == 0)
                (mNum R v_2_c17
                 (fun v_c22 => cond (v_c22 == 1)
                  (cond ((↑v_1_c19.length : Int) == 0)
                   (cond (decide (x1 > 0))
                    (κ (AV.bool true) [])
                    (mLevel R x1
                     (fun v_c23 => κ (AV.bool (v_c23 == 0)) [])))
                   (κ (AV.bool false) []))
                  (κ (AV.bool false) [])))
                (κ (AV.bool false) []))
               (κ (AV.bool false) []))
              (mLevel R x1
               (fun v_c24 => mrLevel R x1
                (fun v0_c25 => cond (v_c24 != v0_c25)
                 (κ (AV.bool false) [])
                 (mrLeaves R x1
                  (fun _v0_c26 w0_c27 => mSameInts R v_c18 v_1_c19 none w0_c27
                   (fun v_c28 => cond (!v_c28)
                    (κ (AV.bool false) [])
                    (cond (x1.tmod 2 == 0)
                     (cond (v_c15 == 0)
                      (cond (v_1_c16 == 0)
                       (mNum R v_2_c17
                        (fun v_c29 => κ (AV.bool (v_c29 == 11)) []))
                       (κ (AV.bool false) []))
                      (κ (AV.bool false) []))
                     (mrKids R x1
                      (fun v_c30 v_1_c31 => cond (v_2_c17.beq 0)
                       (cond (v_c15 == v_c30)
                        (κ (AV.bool (v_1_c16 == v_1_c31)) [])
                        (κ (AV.bool false) []))
                       (κ (AV.bool false) []))))))))))))))))))
      (mpRight R leaves2
       (fun v_c32 => cond (!v_c32 == v_c12)
        (κ (AV.bool false) [])
        (mRoot R leaves2
         (fun v_c33 => cond (v_c33 != 0)
          (κ (AV.bool false) [])
          (mBelow R x1
           (fun v_c34 v_1_c35 v_2_c36 => mLeaves R x1
            (fun v_c37 v_1_c38 => cond (decide (x1 < 0))
             (cond (v_c34 == 0)
              (cond (v_1_c35 == 0)
               (mNum R v_2_c36
                (fun v_c39 => cond (v_c39 == 1)
                 (cond ((↑v_1_c38.length : Int) == 0)
                  (cond (decide (x1 > 0))
                   (κ (AV.bool true) [])
                   (mLevel R x1
                    (fun v_c40 => κ (AV.bool (v_c40 == 0)) [])))
                  (κ (AV.bool false) []))
                 (κ (AV.bool false) [])))
               (κ (AV.bool false) []))
              (κ (AV.bool false) []))
             (cond (decide (x1 > 30))
              (cond (v_c34 == 0)
               (cond (v_1_c35 == 0)
                (mNum R v_2_c36
                 (fun v_c41 => cond (v_c41 == 1)
                  (cond ((↑v_1_c38.length : Int) == 0)
                   (cond (decide (x1 > 0))
                    (κ (AV.bool true) [])
                    (mLevel R x1
                     (fun v_c42 => κ (AV.bool (v_c42 == 0)) [])))
                   (κ (AV.bool false) []))
                  (κ (AV.bool false) [])))
                (κ (AV.bool false) []))
               (κ (AV.bool false) []))
              (mLevel R x1
               (fun v_c43 => mrLevel R x1
                (fun v0_c44 => cond (v_c43 != v0_c44)
                 (κ (AV.bool false) [])
                 (mrLeaves R x1
                  (fun _v0_c45 w0_c46 => mSameInts R v_c37 v_1_c38 none w0_c46
                   (fun v_c47 => cond (!v_c47)
                    (κ (AV.bool false) [])
                    (cond (x1.tmod 2 == 0)
                     (cond (v_c34 == 0)
                      (cond (v_1_c35 == 0)
                       (mNum R v_2_c36
                        (fun v_c48 => κ (AV.bool (v_c48 == 11)) []))
                       (κ (AV.bool false) []))
                      (κ (AV.bool false) []))
                     (mrKids R x1
                      (fun v_c49 v_1_c50 => cond (v_2_c36.beq 0)
                       (cond (v_c34 == v_c49)
                        (κ (AV.bool (v_1_c35 == v_1_c50)) [])
                        (κ (AV.bool false) []))
                       (κ (AV.bool false) []))))))))))))))))))))) := by kernel_rfl
theorem eq (malive17 : alive17.Ty) (mrRight : rRight.Ty) (mpRight : pRight.Ty) (mRoot : Root.Ty) (mBelow : Below.Ty) (mLeaves : Leaves.Ty) (mNum : Num.Ty) (mLevel : Level.Ty) (mrLevel : rLevel.Ty) (mrLeaves : rLeaves.Ty) (mSameInts : SameInts.Ty) (mrKids : rKids.Ty) {R : Type} (N : Nat) (κ : AV → List Blk → Option R) (x1 : Int) (leaves2 : Int) : evF (g malive17 mrRight mpRight mRoot mBelow mLeaves mNum mLevel mrLevel mrLeaves mSameInts mrKids) an N Tryd.f11 [AV.int IntKind.i64 x1, AV.int IntKind.i64 leaves2] [] κ =
  m malive17 mrRight mpRight mRoot mBelow mLeaves mNum mLevel mrLevel mrLeaves mSameInts mrKids N x1 leaves2 (fun v => κ (AV.bool v) []) := by
  rw [tree]
  kernel_rfl
abbrev Ty : Type 1 := ∀ R : Type, Int → Int → (Bool → Option R) → Option R
def con (f : Ty) : Con := fun R args bs κ => match args, bs with
  | [AV.int IntKind.i64 x1, AV.int IntKind.i64 leaves2], [] => f R x1 leaves2 (fun v => κ (AV.bool v) [])
  | _, _ => none
theorem con_eq (f : Ty) (R : Type) (κ : AV → List Blk → Option R) (x1 : Int) (leaves2 : Int) : con f R [AV.int IntKind.i64 x1, AV.int IntKind.i64 leaves2] [] κ = f R x1 leaves2 (fun v => κ (AV.bool v) []) := rfl
noncomputable def M (N : Nat) : Ty := fun R x1 leaves2 kr0 => m (alive17.M N) (rRight.M N) (pRight.M N) (Root.M N) (Below.M N) (Leaves.M N) (Num.M N) (Level.M N) (rLevel.M N) (rLeaves.M N) (SameInts.M N) (rKids.M N) (R := R) N x1 leaves2 kr0
def gts : List (Nat × AV) := [(0, .err 4), (1, .err 1), (2, .err 2), (3, .err 3), (4, .err 5), (5, .err 6), (6, .err 7), (7, .err 8), (8, .err 9), (9, .err 10), (10, .err 11), (11, .err 12), (12, .err 13), (13, .err 14), (14, .err 15), (15, .err 16), (16, .err 17), (17, .err 18), (18, .err 19)]
theorem gok (N : Nat) : GOk (g (alive17.M N) (rRight.M N) (pRight.M N) (Root.M N) (Below.M N) (Leaves.M N) (Num.M N) (Level.M N) (rLevel.M N) (rLeaves.M N) (SameInts.M N) (rKids.M N)) := giD_ok hm (by intro p hp; cases hp) (gtL_ok (by decide)) (ovL_ok (by
    intro p hp
    simp only [List.mem_cons, List.not_mem_nil, or_false] at hp
    rcases hp with rfl | rfl | rfl | rfl | rfl | rfl | rfl | rfl | rfl | rfl | rfl | rfl
    · exact ⟨(alive17.ok N).gt (gtL_sub (by repeat (first | exact subG_nil _ | refine subG_cons (by kernel_rfl) ?_))) (gtL_ok (by decide)), _, Tryd.func34, by kernel_rfl, by kernel_rfl⟩
    · exact ⟨(rRight.ok N).gt (gtL_sub (by repeat (first | exact subG_nil _ | refine subG_cons (by kernel_rfl) ?_))) (gtL_ok (by decide)), _, Tryd.func49, by kernel_rfl, by kernel_rfl⟩
    · exact ⟨(pRight.ok N).gt (gtL_sub (by repeat (first | exact subG_nil _ | refine subG_cons (by kernel_rfl) ?_))) (gtL_ok (by decide)), _, Tryd.func50, by kernel_rfl, by kernel_rfl⟩
    · exact ⟨(Root.ok N).gt (gtL_sub (by repeat (first | exact subG_nil _ | refine subG_cons (by kernel_rfl) ?_))) (gtL_ok (by decide)), _, Tryd.func39, by kernel_rfl, by kernel_rfl⟩
    · exact ⟨(Below.ok N).gt (gtL_sub (by repeat (first | exact subG_nil _ | refine subG_cons (by kernel_rfl) ?_))) (gtL_ok (by decide)), _, Tryd.func51, by kernel_rfl, by kernel_rfl⟩
    · exact ⟨(Leaves.ok N).gt (gtL_sub (by repeat (first | exact subG_nil _ | refine subG_cons (by kernel_rfl) ?_))) (gtL_ok (by decide)), _, Tryd.func36, by kernel_rfl, by kernel_rfl⟩
    · exact ⟨(Num.ok N).gt (gtL_sub (by repeat (first | exact subG_nil _ | refine subG_cons (by kernel_rfl) ?_))) (gtL_ok (by decide)), _, Tryd.func24, by kernel_rfl, by kernel_rfl⟩
    · exact ⟨(Level.ok N).gt (gtL_sub (by repeat (first | exact subG_nil _ | refine subG_cons (by kernel_rfl) ?_))) (gtL_ok (by decide)), _, Tryd.func38, by kernel_rfl, by kernel_rfl⟩
    · exact ⟨(rLevel.ok N).gt (gtL_sub (by repeat (first | exact subG_nil _ | refine subG_cons (by kernel_rfl) ?_))) (gtL_ok (by decide)), _, Tryd.func52, by kernel_rfl, by kernel_rfl⟩
    · exact ⟨(rLeaves.ok N).gt (gtL_sub (by repeat (first | exact subG_nil _ | refine subG_cons (by kernel_rfl) ?_))) (gtL_ok (by decide)), _, Tryd.func53, by kernel_rfl, by kernel_rfl⟩
    · exact ⟨(SameInts.ok N).gt (gtL_sub (by repeat (first | exact subG_nil _ | refine subG_cons (by kernel_rfl) ?_))) (gtL_ok (by decide)), _, Tryd.func46, by kernel_rfl, by kernel_rfl⟩
    · exact ⟨(rKids.ok N).gt (gtL_sub (by repeat (first | exact subG_nil _ | refine subG_cons (by kernel_rfl) ?_))) (gtL_ok (by decide)), _, Tryd.func54, by kernel_rfl, by kernel_rfl⟩
)) 1
theorem ok (N : Nat) : SoundC Tryd.prog (gtL gts) 11 (con (M N)) := by
  refine SoundC.mono (evF_ok (gok N) hm an N Tryd.func11) fun R args bs κ r h => ?_
  unfold con at h
  split at h
  · exact (eq (alive17.M N) (rRight.M N) (pRight.M N) (Root.M N) (Below.M N) (Leaves.M N) (Num.M N) (Level.M N) (rLevel.M N) (rLeaves.M N) (SameInts.M N) (rKids.M N) N κ _ _).trans h
  · cases h
end PlacesNumbers


/-! ### Tryd.f10: PlacesWays -/
namespace PlacesWays
def an : Anns := ⟨fun i => findA i [], fun i => findA i [], false⟩
noncomputable def g (malive17 : alive17.Ty) (mAbove : Above.Ty) (mBeside : Beside.Ty) (mrAbove : rAbove.Ty) (mrBeside : rBeside.Ty) (mNum : Num.Ty) (mrHas : rHas.Ty) (mWay : Way.Ty) (mCoway : Coway.Ty) (mrWay : rWay.Ty) (mSameInts : SameInts.Ty) (mrCoway : rCoway.Ty) : Gi := giD Tryd.prog (gtL [(0, .err 4), (1, .err 1), (2, .err 2), (3, .err 3), (4, .err 5), (5, .err 6), (6, .err 7), (7, .err 8), (8, .err 9), (9, .err 10), (10, .err 11), (11, .err 12), (12, .err 13), (13, .err 14), (14, .err 15), (15, .err 16), (16, .err 17), (17, .err 18), (18, .err 19)]) (fun _ => an) 0 [] (ovL [(34, alive17.con malive17), (41, Above.con mAbove), (42, Beside.con mBeside), (43, rAbove.con mrAbove), (44, rBeside.con mrBeside), (24, Num.con mNum), (45, rHas.con mrHas), (37, Way.con mWay), (35, Coway.con mCoway), (47, rWay.con mrWay), (46, SameInts.con mSameInts), (48, rCoway.con mrCoway)]) 1
noncomputable def m (malive17 : alive17.Ty) (mAbove : Above.Ty) (mBeside : Beside.Ty) (mrAbove : rAbove.Ty) (mrBeside : rBeside.Ty) (mNum : Num.Ty) (mrHas : rHas.Ty) (mWay : Way.Ty) (mCoway : Coway.Ty) (mrWay : rWay.Ty) (mSameInts : SameInts.Ty) (mrCoway : rCoway.Ty) {R : Type} (_N : Nat) (x1 : Int) (leaves2 : Int) (kr0 : Bool → Option R) : Option R :=
  malive17 R
   (fun v_c15 => cond (!v_c15)
    (kr0 false)
    (mAbove R x1 leaves2
     (fun v_c16 v_1_c17 => mBeside R x1 leaves2
      (fun v_c18 v_1_c19 => mrAbove R x1 leaves2
       (fun v_c20 v_1_c21 => mrBeside R x1 leaves2
        (fun v_c22 v_1_c23 => cond (v_c16 != v_c20)
         (kr0 false)
         (mNum R v_1_c17
          (fun v_c24 => cond (v_c24 != v_1_c21)
           (kr0 false)
           (cond (v_c18 != v_c22)
            (kr0 false)
            (mNum R v_1_c19
             (fun v_c25 => cond (v_c25 != v_1_c23)
              (kr0 false)
              (mrHas R x1 leaves2
               (fun v_c26 => cond (!v_c26)
                (mWay R x1 leaves2
                 (fun v_c27 => cond ((↑v_c27.length : Int) == 0)
                  (mCoway R x1 leaves2
                   (fun v_c28 => kr0 ((↑v_c28.length : Int) == 0)))
                  (kr0 false)))
                (mWay R x1 leaves2
                 (fun v_c29 => mrWay R x1 leaves2
                  (fun v_c30 => mSameInts R none v_c29 none v_c30
                   (fun v_c31 => cond v_c31
                    (mCoway R x1 leaves2
                     (fun v_c32 => mrCoway R x1 leaves2
                      (fun v_c33 => mSameInts R none v_c32 none v_c33
                       (fun v_c34 => kr0 v_c34))))
                    (kr0 false))))))))))))))))))
theorem tree (malive17 : alive17.Ty) (mAbove : Above.Ty) (mBeside : Beside.Ty) (mrAbove : rAbove.Ty) (mrBeside : rBeside.Ty) (mNum : Num.Ty) (mrHas : rHas.Ty) (mWay : Way.Ty) (mCoway : Coway.Ty) (mrWay : rWay.Ty) (mSameInts : SameInts.Ty) (mrCoway : rCoway.Ty) {R : Type} (N : Nat) (κ : AV → List Blk → Option R) (x1 : Int) (leaves2 : Int) : evF (g malive17 mAbove mBeside mrAbove mrBeside mNum mrHas mWay mCoway mrWay mSameInts mrCoway) an N Tryd.f10 [AV.int IntKind.i64 x1, AV.int IntKind.i64 leaves2] [] κ =
  malive17 R
   (fun v_c15 => cond (!v_c15)
    (κ (AV.bool false) [])
    (mAbove R x1 leaves2
     (fun v_c16 v_1_c17 => mBeside R x1 leaves2
      (fun v_c18 v_1_c19 => mrAbove R x1 leaves2
       (fun v_c20 v_1_c21 => mrBeside R x1 leaves2
        (fun v_c22 v_1_c23 => cond (v_c16 != v_c20)
         (κ (AV.bool false) [])
         (mNum R v_1_c17
          (fun v_c24 => cond (v_c24 != v_1_c21)
           (κ (AV.bool false) [])
           (cond (v_c18 != v_c22)
            (κ (AV.bool false) [])
            (mNum R v_1_c19
             (fun v_c25 => cond (v_c25 != v_1_c23)
              (κ (AV.bool false) [])
              (mrHas R x1 leaves2
               (fun v_c26 => cond (!v_c26)
                (mWay R x1 leaves2
                 (fun v_c27 => cond ((↑v_c27.length : Int) == 0)
                  (mCoway R x1 leaves2
                   (fun v_c28 => κ (AV.bool ((↑v_c28.length : Int) == 0)) []))
                  (κ (AV.bool false) [])))
                (mWay R x1 leaves2
                 (fun v_c29 => mrWay R x1 leaves2
                  (fun v_c30 => mSameInts R none v_c29 none v_c30
                   (fun v_c31 => cond v_c31
                    (mCoway R x1 leaves2
                     (fun v_c32 => mrCoway R x1 leaves2
                      (fun v_c33 => mSameInts R none v_c32 none v_c33
                       (fun v_c34 => κ (AV.bool v_c34) []))))
                    (κ (AV.bool false) [])))))))))))))))))) := by kernel_rfl
theorem eq (malive17 : alive17.Ty) (mAbove : Above.Ty) (mBeside : Beside.Ty) (mrAbove : rAbove.Ty) (mrBeside : rBeside.Ty) (mNum : Num.Ty) (mrHas : rHas.Ty) (mWay : Way.Ty) (mCoway : Coway.Ty) (mrWay : rWay.Ty) (mSameInts : SameInts.Ty) (mrCoway : rCoway.Ty) {R : Type} (N : Nat) (κ : AV → List Blk → Option R) (x1 : Int) (leaves2 : Int) : evF (g malive17 mAbove mBeside mrAbove mrBeside mNum mrHas mWay mCoway mrWay mSameInts mrCoway) an N Tryd.f10 [AV.int IntKind.i64 x1, AV.int IntKind.i64 leaves2] [] κ =
  m malive17 mAbove mBeside mrAbove mrBeside mNum mrHas mWay mCoway mrWay mSameInts mrCoway N x1 leaves2 (fun v => κ (AV.bool v) []) := by
  rw [tree]
  kernel_rfl
abbrev Ty : Type 1 := ∀ R : Type, Int → Int → (Bool → Option R) → Option R
def con (f : Ty) : Con := fun R args bs κ => match args, bs with
  | [AV.int IntKind.i64 x1, AV.int IntKind.i64 leaves2], [] => f R x1 leaves2 (fun v => κ (AV.bool v) [])
  | _, _ => none
theorem con_eq (f : Ty) (R : Type) (κ : AV → List Blk → Option R) (x1 : Int) (leaves2 : Int) : con f R [AV.int IntKind.i64 x1, AV.int IntKind.i64 leaves2] [] κ = f R x1 leaves2 (fun v => κ (AV.bool v) []) := rfl
noncomputable def M (N : Nat) : Ty := fun R x1 leaves2 kr0 => m (alive17.M N) (Above.M N) (Beside.M N) (rAbove.M N) (rBeside.M N) (Num.M N) (rHas.M N) (Way.M N) (Coway.M N) (rWay.M N) (SameInts.M N) (rCoway.M N) (R := R) N x1 leaves2 kr0
def gts : List (Nat × AV) := [(0, .err 4), (1, .err 1), (2, .err 2), (3, .err 3), (4, .err 5), (5, .err 6), (6, .err 7), (7, .err 8), (8, .err 9), (9, .err 10), (10, .err 11), (11, .err 12), (12, .err 13), (13, .err 14), (14, .err 15), (15, .err 16), (16, .err 17), (17, .err 18), (18, .err 19)]
theorem gok (N : Nat) : GOk (g (alive17.M N) (Above.M N) (Beside.M N) (rAbove.M N) (rBeside.M N) (Num.M N) (rHas.M N) (Way.M N) (Coway.M N) (rWay.M N) (SameInts.M N) (rCoway.M N)) := giD_ok hm (by intro p hp; cases hp) (gtL_ok (by decide)) (ovL_ok (by
    intro p hp
    simp only [List.mem_cons, List.not_mem_nil, or_false] at hp
    rcases hp with rfl | rfl | rfl | rfl | rfl | rfl | rfl | rfl | rfl | rfl | rfl | rfl
    · exact ⟨(alive17.ok N).gt (gtL_sub (by repeat (first | exact subG_nil _ | refine subG_cons (by kernel_rfl) ?_))) (gtL_ok (by decide)), _, Tryd.func34, by kernel_rfl, by kernel_rfl⟩
    · exact ⟨(Above.ok N).gt (gtL_sub (by repeat (first | exact subG_nil _ | refine subG_cons (by kernel_rfl) ?_))) (gtL_ok (by decide)), _, Tryd.func41, by kernel_rfl, by kernel_rfl⟩
    · exact ⟨(Beside.ok N).gt (gtL_sub (by repeat (first | exact subG_nil _ | refine subG_cons (by kernel_rfl) ?_))) (gtL_ok (by decide)), _, Tryd.func42, by kernel_rfl, by kernel_rfl⟩
    · exact ⟨(rAbove.ok N).gt (gtL_sub (by repeat (first | exact subG_nil _ | refine subG_cons (by kernel_rfl) ?_))) (gtL_ok (by decide)), _, Tryd.func43, by kernel_rfl, by kernel_rfl⟩
    · exact ⟨(rBeside.ok N).gt (gtL_sub (by repeat (first | exact subG_nil _ | refine subG_cons (by kernel_rfl) ?_))) (gtL_ok (by decide)), _, Tryd.func44, by kernel_rfl, by kernel_rfl⟩
    · exact ⟨(Num.ok N).gt (gtL_sub (by repeat (first | exact subG_nil _ | refine subG_cons (by kernel_rfl) ?_))) (gtL_ok (by decide)), _, Tryd.func24, by kernel_rfl, by kernel_rfl⟩
    · exact ⟨(rHas.ok N).gt (gtL_sub (by repeat (first | exact subG_nil _ | refine subG_cons (by kernel_rfl) ?_))) (gtL_ok (by decide)), _, Tryd.func45, by kernel_rfl, by kernel_rfl⟩
    · exact ⟨(Way.ok N).gt (gtL_sub (by repeat (first | exact subG_nil _ | refine subG_cons (by kernel_rfl) ?_))) (gtL_ok (by decide)), _, Tryd.func37, by kernel_rfl, by kernel_rfl⟩
    · exact ⟨(Coway.ok N).gt (gtL_sub (by repeat (first | exact subG_nil _ | refine subG_cons (by kernel_rfl) ?_))) (gtL_ok (by decide)), _, Tryd.func35, by kernel_rfl, by kernel_rfl⟩
    · exact ⟨(rWay.ok N).gt (gtL_sub (by repeat (first | exact subG_nil _ | refine subG_cons (by kernel_rfl) ?_))) (gtL_ok (by decide)), _, Tryd.func47, by kernel_rfl, by kernel_rfl⟩
    · exact ⟨(SameInts.ok N).gt (gtL_sub (by repeat (first | exact subG_nil _ | refine subG_cons (by kernel_rfl) ?_))) (gtL_ok (by decide)), _, Tryd.func46, by kernel_rfl, by kernel_rfl⟩
    · exact ⟨(rCoway.ok N).gt (gtL_sub (by repeat (first | exact subG_nil _ | refine subG_cons (by kernel_rfl) ?_))) (gtL_ok (by decide)), _, Tryd.func48, by kernel_rfl, by kernel_rfl⟩
)) 1
theorem ok (N : Nat) : SoundC Tryd.prog (gtL gts) 10 (con (M N)) := by
  refine SoundC.mono (evF_ok (gok N) hm an N Tryd.func10) fun R args bs κ r h => ?_
  unfold con at h
  split at h
  · exact (eq (alive17.M N) (Above.M N) (Beside.M N) (rAbove.M N) (rBeside.M N) (Num.M N) (rHas.M N) (Way.M N) (Coway.M N) (rWay.M N) (SameInts.M N) (rCoway.M N) N κ _ _).trans h
  · cases h
end PlacesWays

end Go.Proofs.YtllnbcibleeogaaDoor.fn
