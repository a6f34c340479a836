/- What the lowest common place is, with the proof; printed by a program. -/
import Derived.Test.YtbliikcgcgalmaaDoorProg
import Derived.Test.YtbliikcgcgalmaaDoorEv4
import Derived.Test.YtbliikcgcgalmaaDoorFnPlaces
import Derived.Test.YtbliikcgcgalmaaDoorFnNum
namespace Go.Proofs.YtbliikcgcgalmaaDoor.fn
open Go Go.Proofs Go.Ev

/-! ### Tryd.f52: under1 -/
namespace under1
def an : Anns := ⟨fun i => findA i [], fun i => findA i [], false, fun _ => none, []⟩
noncomputable def g (mUnder : Under.Ty) : Gi := giD Tryd.prog (gtL []) (fun _ => an) 0 [] (ovL [(34, Under.con mUnder)]) 1
noncomputable def m (mUnder : Under.Ty) {R : Type} (_N : Nat) (x : Int) (y : Int) (kr0 : Bool → Option R) : Option R :=
  mUnder R x y
   (fun v_c1 => kr0 v_c1)
theorem tree (mUnder : Under.Ty) {R : Type} (N : Nat) (κ : AV → List Blk → Option R) (x : Int) (y : Int) : evF (g mUnder) an N Tryd.f52 [AV.int IntKind.i64 x, AV.rpg (T.int IntKind.i64) y] [] κ =
  mUnder R x y
   (fun v_c1 => κ (AV.bool v_c1) []) := by kernel_rfl
theorem eq (mUnder : Under.Ty) {R : Type} (N : Nat) (κ : AV → List Blk → Option R) (x : Int) (y : Int) : evF (g mUnder) an N Tryd.f52 [AV.int IntKind.i64 x, AV.rpg (T.int IntKind.i64) y] [] κ =
  m mUnder N x y (fun v => κ (AV.bool v) []) := by
  rw [tree]
  kernel_rfl
abbrev Ty : Type 1 := ∀ R : Type, Int → Int → (Bool → Option R) → Option R
def con (f : Ty) : Con := fun R args bs κ => match args, bs with
  | [AV.int IntKind.i64 x, AV.rpg (T.int IntKind.i64) y], [] => f R x y (fun v => κ (AV.bool v) [])
  | _, _ => none
theorem con_eq (f : Ty) (R : Type) (κ : AV → List Blk → Option R) (x : Int) (y : Int) : con f R [AV.int IntKind.i64 x, AV.rpg (T.int IntKind.i64) y] [] κ = f R x y (fun v => κ (AV.bool v) []) := rfl
noncomputable def M (N : Nat) : Ty := fun R x y kr0 => m (Under.M N) (R := R) N x y kr0
def gts : List (Nat × AV) := []
theorem gok (N : Nat) : GOk (g (Under.M N)) := giD_ok hm (by intro p hp; cases hp) (gtL_ok (by decide)) (ovL_ok (by
    intro p hp
    simp only [List.mem_cons, List.not_mem_nil, or_false] at hp
    rcases hp with rfl
    · exact ⟨(Under.ok N).gt (gtL_sub (by repeat (first | exact subG_nil _ | refine subG_cons (by kernel_rfl) ?_))) (gtL_ok (by decide)), _, Tryd.func34, by kernel_rfl, by kernel_rfl⟩
)) 1
theorem ok (N : Nat) : SoundC Tryd.prog (gtL gts) 52 (con (M N)) := by
  refine SoundC.mono (evF_ok (gok N) hm an N Tryd.func52) fun R args bs κ r h => ?_
  unfold con at h
  split at h
  · exact (eq (Under.M N) N κ _ _).trans h
  · cases h
end under1


/-! ### Tryd.f51: IdxUnder -/
namespace IdxUnder
def an : Anns := ⟨fun i => findA i [(2, ⟨[0, 1, 7, 8], [], 0, []⟩)], fun i => findA i [], false, fun _ => none, []⟩
noncomputable def g (munder1 : under1.Ty) : Gi := giD Tryd.prog (gtL []) (fun _ => an) 0 [] (ovL [(52, under1.con munder1)]) 1
noncomputable def c_L2 : Code := loopOf Tryd.f51 0
def s_L2 (s0 : Option Bool) (s0_1 : List Int) (f1 : Int) (t7 : Int) (t8 : Int) : St := ⟨[AV.isl IntKind.i64 s0 s0_1, AV.cls 52 [⟨T.int IntKind.i64, f1⟩]] ++ List.replicate 5 .dead ++ [AV.int IntKind.i64 t7, AV.int IntKind.i64 t8] ++ List.replicate 10 .dead, []⟩
def x_L2_0 (s0 : Option Bool) (s0_1 : List Int) (f1 : Int) (t7 : Int) (t8 : Int) (v_c8 : Bool) : St := ⟨[AV.isl IntKind.i64 s0 s0_1, AV.cls 52 [⟨T.int IntKind.i64, f1⟩], AV.dead, AV.dead, AV.int IntKind.i64 t8, AV.int IntKind.i64 t8, AV.dead, AV.int IntKind.i64 t7, AV.int IntKind.i64 t8, AV.bool (decide (t8 < t7)), AV.int IntKind.i64 t8, AV.cls 52 [⟨T.int IntKind.i64, f1⟩], AV.isl IntKind.i64 s0 s0_1, AV.int IntKind.i64 t8, AV.rpi IntKind.i64 (s0_1.getD t8.toNat 0), AV.int IntKind.i64 (s0_1.getD t8.toNat 0), AV.bool v_c8, AV.int IntKind.i64 t8, AV.dead], [Blk.rsv, Blk.rsv, Blk.rsv, Blk.rsv]⟩
def x_L2_1 (s0 : Option Bool) (s0_1 : List Int) (f1 : Int) (t7 : Int) (t8 : Int) : St := ⟨[AV.isl IntKind.i64 s0 s0_1, AV.cls 52 [⟨T.int IntKind.i64, f1⟩]] ++ List.replicate 5 .dead ++ [AV.int IntKind.i64 t7, AV.int IntKind.i64 t8, AV.bool (decide (t8 < t7))] ++ List.replicate 9 .dead, []⟩
noncomputable def L2 (munder1 : under1.Ty) {R : Type} (N : Nat) (ke0 : (Option Bool) → (List Int) → Int → Int → Int → Bool → Option R) (ke1 : (Option Bool) → (List Int) → Int → Int → Int → Option R) : Nat → (Option Bool) → (List Int) → Int → Int → Int → Option R
  | 0, _, _, _, _, _ => none
  | m + 1, s0, s0_1, f1, t7, t8 =>
    cond (decide (t8 < t7))
     (cond (decide (0 ≤ t8))
      (cond (decide (t8 < (↑s0_1.length : Int)))
       (munder1 R (s0_1.getD t8.toNat 0) f1
        (fun v_c8 => cond v_c8
         (ke0 s0 s0_1 f1 t7 t8 v_c8)
         (L2 munder1 N ke0 ke1 m s0 s0_1 f1 t7 (IntKind.i64.wrap (t8 + 1)))))
       (none))
      (none))
     (ke1 s0 s0_1 f1 t7 t8)
theorem round_L2 (munder1 : under1.Ty) {R : Type} (N : Nat) (Rn : St → Option R) (k : K R) (s0 : Option Bool) (s0_1 : List Int) (f1 : Int) (t7 : Int) (t8 : Int) : evC (g munder1) an 0 N c_L2 none (roundK (nmOf 0 (an.loop 2)) Rn k) (s_L2 s0 s0_1 f1 t7 t8) =
  cond (decide (t8 < t7))
   (cond (decide (0 ≤ t8))
    (cond (decide (t8 < (↑s0_1.length : Int)))
     (munder1 R (s0_1.getD t8.toNat 0) f1
      (fun v_c8 => cond v_c8
       (k.ret (x_L2_0 s0 s0_1 f1 t7 t8 v_c8))
       (Rn (s_L2 s0 s0_1 f1 t7 (IntKind.i64.wrap (t8 + 1))))))
     (none))
    (none))
   (k.ext 0 (x_L2_1 s0 s0_1 f1 t7 t8)) := by kernel_rfl
theorem run_L2 (munder1 : under1.Ty) {R : Type} (N : Nat) (k : K R) : ∀ (m : Nat) (s0 : Option Bool) (s0_1 : List Int) (f1 : Int) (t7 : Int) (t8 : Int), loopN (evC (g munder1) an 0 N c_L2 none) k (nmOf 0 (an.loop 2)) m (s_L2 s0 s0_1 f1 t7 t8) =
    L2 munder1 N (fun s0 s0_1 f1 t7 t8 v_c8 => (k).ret (x_L2_0 s0 s0_1 f1 t7 t8 v_c8)) (fun s0 s0_1 f1 t7 t8 => (k).ext 0 (x_L2_1 s0 s0_1 f1 t7 t8)) m s0 s0_1 f1 t7 t8 := by
  intro m
  induction m with
  | zero => intros; rfl
  | succ m ih =>
    intros
    rw [loopN_succ, round_L2]
    simp only [ih]
    kernel_rfl
noncomputable def m (munder1 : under1.Ty) {R : Type} (N : Nat) (nl : Option Bool) (l : List Int) (y : Int) (kr0 : Int → Option R) : Option R :=
  L2 munder1 N
   (fun _s0_c9 _s0_1_c10 _f1_c11 _t7_c12 t8_c13 _v_c14 => kr0 t8_c13)
   (fun _s0_c15 _s0_1_c16 _f1_c17 _t7_c18 _t8_c19 => kr0 (-1)) N nl l y ((↑l.length : Int)) 0
theorem tree (munder1 : under1.Ty) {R : Type} (N : Nat) (κ : AV → List Blk → Option R) (nl : Option Bool) (l : List Int) (y : Int) : evF (g munder1) an N Tryd.f51 [AV.isl IntKind.i64 nl l, AV.cls 52 [⟨T.int IntKind.i64, y⟩]] [] κ =
  loopN (evC (g munder1) an 0 N c_L2 none) (ctx (g munder1) an 0 N (bodyOf Tryd.f51) [1, 0, 1, 0] (endK (g munder1) an Tryd.f51 [] κ)) (nmOf 0 (an.loop 2)) N (s_L2 nl l y ((↑l.length : Int)) 0) := by kernel_rfl
theorem eq (munder1 : under1.Ty) {R : Type} (N : Nat) (κ : AV → List Blk → Option R) (nl : Option Bool) (l : List Int) (y : Int) : evF (g munder1) an N Tryd.f51 [AV.isl IntKind.i64 nl l, AV.cls 52 [⟨T.int IntKind.i64, y⟩]] [] κ =
  m munder1 N nl l y (fun v => κ (AV.int IntKind.i64 v) []) := by
  rw [tree]
  simp only [run_L2]
  kernel_rfl
abbrev Ty : Type 1 := ∀ R : Type, (Option Bool) → (List Int) → Int → (Int → Option R) → Option R
def con (f : Ty) : Con := fun R args bs κ => match args, bs with
  | [AV.isl IntKind.i64 nl l, AV.cls 52 [⟨T.int IntKind.i64, y⟩]], [] => f R nl l y (fun v => κ (AV.int IntKind.i64 v) [])
  | _, _ => none
theorem con_eq (f : Ty) (R : Type) (κ : AV → List Blk → Option R) (nl : Option Bool) (l : List Int) (y : Int) : con f R [AV.isl IntKind.i64 nl l, AV.cls 52 [⟨T.int IntKind.i64, y⟩]] [] κ = f R nl l y (fun v => κ (AV.int IntKind.i64 v) []) := rfl
noncomputable def M (N : Nat) : Ty := fun R nl l y kr0 => m (under1.M N) (R := R) N nl l y kr0
def gts : List (Nat × AV) := []
theorem gok (N : Nat) : GOk (g (under1.M N)) := giD_ok hm (by intro p hp; cases hp) (gtL_ok (by decide)) (ovL_ok (by
    intro p hp
    simp only [List.mem_cons, List.not_mem_nil, or_false] at hp
    rcases hp with rfl
    · exact ⟨(under1.ok N).gt (gtL_sub (by repeat (first | exact subG_nil _ | refine subG_cons (by kernel_rfl) ?_))) (gtL_ok (by decide)), _, Tryd.func52, by kernel_rfl, by kernel_rfl⟩
)) 1
theorem ok (N : Nat) : SoundC Tryd.prog (gtL gts) 51 (con (M N)) := by
  refine SoundC.mono (evF_ok (gok N) hm an N Tryd.func51) fun R args bs κ r h => ?_
  unfold con at h
  split at h
  · exact (eq (under1.M N) N κ _ _ _).trans h
  · cases h
end IdxUnder


/-! ### Tryd.f36: Common -/
namespace Common
def an : Anns := ⟨fun i => findA i [], fun i => findA i [], false, fun _ => none, []⟩
noncomputable def g (mhas : has.Ty) (mWay : Way.Ty) (mIdxUnder : IdxUnder.Ty) : Gi := giD Tryd.prog (gtL [(3, .err 1), (14, .err 15)]) (fun _ => an) 0 [] (ovL [(50, has.con mhas), (31, Way.con mWay), (51, IdxUnder.con mIdxUnder)]) 1
noncomputable def m (mhas : has.Ty) (mWay : Way.Ty) (mIdxUnder : IdxUnder.Ty) {R : Type} (_N : Nat) (x1 : Int) (y2 : Int) (leaves3 : Int) (kr0 : Int → Nat → Option R) : Option R :=
  mhas R x1 leaves3
   (fun v_c5 => cond (!v_c5)
    (kr0 0 1)
    (mhas R y2 leaves3
     (fun v_c6 => cond (!v_c6)
      (kr0 0 1)
      (mWay R x1 leaves3
       (fun v_c7 => cond (decide ((1 + v_c7.length) * 8 ≤ 140737488355328))
        (cond (decide (1 + v_c7.length ≤ 140737488355328))
         (mIdxUnder R none (cut none 0 ([x1] ++ v_c7)) y2
          (fun v_c8 => cond (decide (v_c8 < 0))
           (kr0 0 1)
           (cond (decide (0 ≤ v_c8))
            (cond (decide (v_c8 < (↑(olen none ([x1] ++ v_c7).length 0) : Int)))
             (kr0 (([x1] ++ v_c7).getD (0 + v_c8.toNat) 0) 0)
             (none))
            (none))))
         (none))
        (none))))))
theorem tree (mhas : has.Ty) (mWay : Way.Ty) (mIdxUnder : IdxUnder.Ty) {R : Type} (N : Nat) (κ : AV → List Blk → Option R) (x1 : Int) (y2 : Int) (leaves3 : Int) : evF (g mhas mWay mIdxUnder) an N Tryd.f36 [AV.int IntKind.i64 x1, AV.int IntKind.i64 y2, AV.int IntKind.i64 leaves3] [] κ =
  mhas R x1 leaves3
   (fun v_c5 => cond (!v_c5)
    (κ (AV.tup [AV.int IntKind.i64 0, AV.err 1]) [])
    (mhas R y2 leaves3
     (fun v_c6 => cond (!v_c6)
      (κ (AV.tup [AV.int IntKind.i64 0, AV.err 1]) [])
      (mWay R x1 leaves3
       (fun v_c7 => cond (decide ((1 + v_c7.length) * 8 ≤ 140737488355328))
        (cond (decide (1 + v_c7.length ≤ 140737488355328))
         (mIdxUnder R none (cut none 0 ([x1] ++ v_c7)) y2
          (fun v_c8 => cond (decide (v_c8 < 0))
           (κ (AV.tup [AV.int IntKind.i64 0, AV.err 1]) [])
           (cond (decide (0 ≤ v_c8))
            (cond (decide (v_c8 < (↑(olen none ([x1] ++ v_c7).length 0) : Int)))
             (κ (AV.tup [AV.int IntKind.i64 (([x1] ++ v_c7).getD (0 + v_c8.toNat) 0), AV.err 0]) [])
             (none))
            (none))))
         (none))
        (none)))))) := by kernel_rfl
theorem eq (mhas : has.Ty) (mWay : Way.Ty) (mIdxUnder : IdxUnder.Ty) {R : Type} (N : Nat) (κ : AV → List Blk → Option R) (x1 : Int) (y2 : Int) (leaves3 : Int) : evF (g mhas mWay mIdxUnder) an N Tryd.f36 [AV.int IntKind.i64 x1, AV.int IntKind.i64 y2, AV.int IntKind.i64 leaves3] [] κ =
  m mhas mWay mIdxUnder N x1 y2 leaves3 (fun v v_1 => κ (AV.tup [AV.int IntKind.i64 v, AV.err v_1]) []) := by
  rw [tree]
  kernel_rfl
abbrev Ty : Type 1 := ∀ R : Type, Int → Int → Int → (Int → Nat → Option R) → Option R
def con (f : Ty) : Con := fun R args bs κ => match args, bs with
  | [AV.int IntKind.i64 x1, AV.int IntKind.i64 y2, AV.int IntKind.i64 leaves3], [] => f R x1 y2 leaves3 (fun v v_1 => κ (AV.tup [AV.int IntKind.i64 v, AV.err v_1]) [])
  | _, _ => none
theorem con_eq (f : Ty) (R : Type) (κ : AV → List Blk → Option R) (x1 : Int) (y2 : Int) (leaves3 : Int) : con f R [AV.int IntKind.i64 x1, AV.int IntKind.i64 y2, AV.int IntKind.i64 leaves3] [] κ = f R x1 y2 leaves3 (fun v v_1 => κ (AV.tup [AV.int IntKind.i64 v, AV.err v_1]) []) := rfl
noncomputable def M (N : Nat) : Ty := fun R x1 y2 leaves3 kr0 => m (has.M N) (Way.M N) (IdxUnder.M N) (R := R) N x1 y2 leaves3 kr0
def gts : List (Nat × AV) := [(3, .err 1), (14, .err 15)]
theorem gok (N : Nat) : GOk (g (has.M N) (Way.M N) (IdxUnder.M N)) := giD_ok hm (by intro p hp; cases hp) (gtL_ok (by decide)) (ovL_ok (by
    intro p hp
    simp only [List.mem_cons, List.not_mem_nil, or_false] at hp
    rcases hp with rfl | rfl | rfl
    · exact ⟨(has.ok N).gt (gtL_sub (by repeat (first | exact subG_nil _ | refine subG_cons (by kernel_rfl) ?_))) (gtL_ok (by decide)), _, Tryd.func50, by kernel_rfl, by kernel_rfl⟩
    · exact ⟨(Way.ok N).gt (gtL_sub (by repeat (first | exact subG_nil _ | refine subG_cons (by kernel_rfl) ?_))) (gtL_ok (by decide)), _, Tryd.func31, by kernel_rfl, by kernel_rfl⟩
    · exact ⟨(IdxUnder.ok N).gt (gtL_sub (by repeat (first | exact subG_nil _ | refine subG_cons (by kernel_rfl) ?_))) (gtL_ok (by decide)), _, Tryd.func51, by kernel_rfl, by kernel_rfl⟩
)) 1
theorem ok (N : Nat) : SoundC Tryd.prog (gtL gts) 36 (con (M N)) := by
  refine SoundC.mono (evF_ok (gok N) hm an N Tryd.func36) fun R args bs κ r h => ?_
  unfold con at h
  split at h
  · exact (eq (has.M N) (Way.M N) (IdxUnder.M N) N κ _ _ _).trans h
  · cases h
end Common


/-! ### Tryd.f53: rRight -/
namespace rRight
def an : Anns := ⟨fun i => findA i [], fun i => findA i [], false, fun _ => none, []⟩
noncomputable def g : Gi := giD Tryd.prog (gtL []) (fun _ => an) 0 [] (ovL []) 1
noncomputable def m {R : Type} (_N : Nat) (n1 : Int) (kr0 : Bool → Option R) : Option R :=
  cond (n1 == 1)
   (kr0 true)
   (cond (n1 == 2)
    (kr0 true)
    (cond (n1 == 4)
     (kr0 true)
     (cond (n1 == 8)
      (kr0 true)
      (kr0 (n1 == 16)))))
theorem tree {R : Type} (N : Nat) (κ : AV → List Blk → Option R) (n1 : Int) : evF (g) an N Tryd.f53 [AV.int IntKind.i64 n1] [] κ =
  cond (n1 == 1)
   (κ (AV.bool true) [])
   (cond (n1 == 2)
    (κ (AV.bool true) [])
    (cond (n1 == 4)
     (κ (AV.bool true) [])
     (cond (n1 == 8)
      (κ (AV.bool true) [])
      (κ (AV.bool (n1 == 16)) [])))) := by kernel_rfl
theorem eq {R : Type} (N : Nat) (κ : AV → List Blk → Option R) (n1 : Int) : evF (g) an N Tryd.f53 [AV.int IntKind.i64 n1] [] κ =
  m N n1 (fun v => κ (AV.bool v) []) := by
  rw [tree]
  kernel_rfl
abbrev Ty : Type 1 := ∀ R : Type, Int → (Bool → Option R) → Option R
def con (f : Ty) : Con := fun R args bs κ => match args, bs with
  | [AV.int IntKind.i64 n1], [] => f R n1 (fun v => κ (AV.bool v) [])
  | _, _ => none
theorem con_eq (f : Ty) (R : Type) (κ : AV → List Blk → Option R) (n1 : Int) : con f R [AV.int IntKind.i64 n1] [] κ = f R n1 (fun v => κ (AV.bool v) []) := rfl
noncomputable def M (N : Nat) : Ty := fun R n1 kr0 => m (R := R) N n1 kr0
def gts : List (Nat × AV) := []
theorem gok (_N : Nat) : GOk (g) := giD_ok hm (by intro p hp; cases hp) (gtL_ok (by decide)) (ovL_ok (by intro p hp; cases hp)) 1
theorem ok (N : Nat) : SoundC Tryd.prog (gtL gts) 53 (con (M N)) := by
  refine SoundC.mono (evF_ok (gok N) hm an N Tryd.func53) fun R args bs κ r h => ?_
  unfold con at h
  split at h
  · exact (eq N κ _).trans h
  · cases h
end rRight


/-! ### Tryd.f37: rHas -/
namespace rHas
def an : Anns := ⟨fun i => findA i [], fun i => findA i [], false, fun _ => none, []⟩
noncomputable def g (mrRight : rRight.Ty) : Gi := giD Tryd.prog (gtL []) (fun _ => an) 0 [] (ovL [(53, rRight.con mrRight)]) 1
noncomputable def m (mrRight : rRight.Ty) {R : Type} (_N : Nat) (x1 : Int) (n2 : Int) (kr0 : Bool → Option R) : Option R :=
  mrRight R n2
   (fun v_c1 => cond v_c1
    (cond (decide (x1 ≥ 0))
     (kr0 (decide (x1 ≤ IntKind.i64.wrap (IntKind.i64.wrap (2 * n2) - 2))))
     (kr0 false))
    (kr0 false))
theorem tree (mrRight : rRight.Ty) {R : Type} (N : Nat) (κ : AV → List Blk → Option R) (x1 : Int) (n2 : Int) : evF (g mrRight) an N Tryd.f37 [AV.int IntKind.i64 x1, AV.int IntKind.i64 n2] [] κ =
  mrRight R n2
   (fun v_c1 => cond v_c1
    (cond (decide (x1 ≥ 0))
     (κ (AV.bool (decide (x1 ≤ IntKind.i64.wrap (IntKind.i64.wrap (2 * n2) - 2)))) [])
     (κ (AV.bool false) []))
    (κ (AV.bool false) [])) := by kernel_rfl
theorem eq (mrRight : rRight.Ty) {R : Type} (N : Nat) (κ : AV → List Blk → Option R) (x1 : Int) (n2 : Int) : evF (g mrRight) an N Tryd.f37 [AV.int IntKind.i64 x1, AV.int IntKind.i64 n2] [] κ =
  m mrRight N x1 n2 (fun v => κ (AV.bool v) []) := by
  rw [tree]
  kernel_rfl
abbrev Ty : Type 1 := ∀ R : Type, Int → Int → (Bool → Option R) → Option R
def con (f : Ty) : Con := fun R args bs κ => match args, bs with
  | [AV.int IntKind.i64 x1, AV.int IntKind.i64 n2], [] => f R x1 n2 (fun v => κ (AV.bool v) [])
  | _, _ => none
theorem con_eq (f : Ty) (R : Type) (κ : AV → List Blk → Option R) (x1 : Int) (n2 : Int) : con f R [AV.int IntKind.i64 x1, AV.int IntKind.i64 n2] [] κ = f R x1 n2 (fun v => κ (AV.bool v) []) := rfl
noncomputable def M (N : Nat) : Ty := fun R x1 n2 kr0 => m (rRight.M N) (R := R) N x1 n2 kr0
def gts : List (Nat × AV) := []
theorem gok (N : Nat) : GOk (g (rRight.M N)) := giD_ok hm (by intro p hp; cases hp) (gtL_ok (by decide)) (ovL_ok (by
    intro p hp
    simp only [List.mem_cons, List.not_mem_nil, or_false] at hp
    rcases hp with rfl
    · exact ⟨(rRight.ok N).gt (gtL_sub (by repeat (first | exact subG_nil _ | refine subG_cons (by kernel_rfl) ?_))) (gtL_ok (by decide)), _, Tryd.func53, by kernel_rfl, by kernel_rfl⟩
)) 1
theorem ok (N : Nat) : SoundC Tryd.prog (gtL gts) 37 (con (M N)) := by
  refine SoundC.mono (evF_ok (gok N) hm an N Tryd.func37) fun R args bs κ r h => ?_
  unfold con at h
  split at h
  · exact (eq (rRight.M N) N κ _ _).trans h
  · cases h
end rHas


/-! ### Tryd.f48: rLevel -/
namespace rLevel
abbrev Ty : Type 1 := ∀ R : Type, Int → (Int → Option R) → Option R
def con (f : Ty) : Con := fun R args bs κ => match args, bs with
  | [.int .i64 x1], [] => f R x1 (fun v0 => κ (AV.int .i64 v0) [])
  | _, _ => none

def an : Anns := ⟨fun i => findA i [], fun i => findA i [], false, fun _ => none, []⟩
noncomputable def g (self : Ty) : Gi := giD Tryd.prog (gtL []) (fun _ => an) 0 [] (ovL [(48, con self)]) 1
noncomputable def m (self : Ty) {R : Type} (_N : Nat) (x1 : Int) (kr0 : Int → Option R) : Option R :=
  cond (x1.tmod 2 == 0)
   (kr0 0)
   (self R (IntKind.i64.wrap ((IntKind.i64.wrap (x1 - 1)).tdiv 2))
    (fun v0_c1 => kr0 (IntKind.i64.wrap (1 + v0_c1))))
theorem tree (self : Ty) {R : Type} (N : Nat) (κ : AV → List Blk → Option R) (x1 : Int) : evF (g self) an N Tryd.f48 [AV.int IntKind.i64 x1] [] κ =
  cond (x1.tmod 2 == 0)
   (κ (AV.int IntKind.i64 0) [])
   (self R (IntKind.i64.wrap ((IntKind.i64.wrap (x1 - 1)).tdiv 2))
    (fun v0_c1 => κ (AV.int IntKind.i64 (IntKind.i64.wrap (1 + v0_c1))) [])) := by kernel_rfl
theorem eq (self : Ty) {R : Type} (N : Nat) (κ : AV → List Blk → Option R) (x1 : Int) : evF (g self) an N Tryd.f48 [AV.int IntKind.i64 x1] [] κ =
  m self N x1 (fun v => κ (AV.int IntKind.i64 v) []) := by
  rw [tree]
  kernel_rfl
theorem con_eq (f : Ty) (R : Type) (κ : AV → List Blk → Option R) (x1 : Int) : con f R [AV.int IntKind.i64 x1] [] κ = f R x1 (fun v => κ (AV.int IntKind.i64 v) []) := rfl
noncomputable def MD (N : Nat) : Nat → Ty
  | 0 => fun _ _ _ => none
  | d + 1 => fun R x1 kr0 => m (MD N d) (R := R) N x1 kr0
noncomputable def M (N : Nat) : Ty := MD N N
def gts : List (Nat × AV) := []
theorem gok (N : Nat) (d : Nat) (hself : SoundC Tryd.prog (gtL gts) 48 (con (MD N d))) : GOk (g (MD N d)) := giD_ok hm (by intro p hp; cases hp) (gtL_ok (by decide)) (ovL_ok (by
    intro p hp
    simp only [List.mem_cons, List.not_mem_nil, or_false] at hp
    rcases hp with rfl
    · exact ⟨hself, _, Tryd.func48, by kernel_rfl, by kernel_rfl⟩
)) 1
theorem okD (N : Nat) : ∀ d, SoundC Tryd.prog (gtL gts) 48 (con (MD N d))
  | 0 => by
    intro R args bs κ r h
    unfold con at h
    split at h <;> cases h
  | d + 1 => by
    refine SoundC.mono (evF_ok (gok N d (okD N d)) hm an N Tryd.func48) fun R args bs κ r h => ?_
    unfold con at h
    split at h
    · exact (eq (MD N d) N κ _).trans h
    · cases h
theorem ok (N : Nat) : SoundC Tryd.prog (gtL gts) 48 (con (M N)) := okD N N
end rLevel


/-! ### Tryd.f59: rPower -/
namespace rPower
abbrev Ty : Type 1 := ∀ R : Type, Int → (Int → Option R) → Option R
def con (f : Ty) : Con := fun R args bs κ => match args, bs with
  | [.int .i64 k1], [] => f R k1 (fun v0 => κ (AV.int .i64 v0) [])
  | _, _ => none

def an : Anns := ⟨fun i => findA i [], fun i => findA i [], false, fun _ => none, []⟩
noncomputable def g (self : Ty) : Gi := giD Tryd.prog (gtL []) (fun _ => an) 0 [] (ovL [(59, con self)]) 1
noncomputable def m (self : Ty) {R : Type} (_N : Nat) (k1 : Int) (kr0 : Int → Option R) : Option R :=
  cond (k1 == 0)
   (kr0 1)
   (self R (IntKind.i64.wrap (k1 - 1))
    (fun v0_c1 => kr0 (IntKind.i64.wrap (2 * v0_c1))))
theorem tree (self : Ty) {R : Type} (N : Nat) (κ : AV → List Blk → Option R) (k1 : Int) : evF (g self) an N Tryd.f59 [AV.int IntKind.i64 k1] [] κ =
  cond (k1 == 0)
   (κ (AV.int IntKind.i64 1) [])
   (self R (IntKind.i64.wrap (k1 - 1))
    (fun v0_c1 => κ (AV.int IntKind.i64 (IntKind.i64.wrap (2 * v0_c1))) [])) := by kernel_rfl
theorem eq (self : Ty) {R : Type} (N : Nat) (κ : AV → List Blk → Option R) (k1 : Int) : evF (g self) an N Tryd.f59 [AV.int IntKind.i64 k1] [] κ =
  m self N k1 (fun v => κ (AV.int IntKind.i64 v) []) := by
  rw [tree]
  kernel_rfl
theorem con_eq (f : Ty) (R : Type) (κ : AV → List Blk → Option R) (k1 : Int) : con f R [AV.int IntKind.i64 k1] [] κ = f R k1 (fun v => κ (AV.int IntKind.i64 v) []) := rfl
noncomputable def MD (N : Nat) : Nat → Ty
  | 0 => fun _ _ _ => none
  | d + 1 => fun R k1 kr0 => m (MD N d) (R := R) N k1 kr0
noncomputable def M (N : Nat) : Ty := MD N N
def gts : List (Nat × AV) := []
theorem gok (N : Nat) (d : Nat) (hself : SoundC Tryd.prog (gtL gts) 59 (con (MD N d))) : GOk (g (MD N d)) := giD_ok hm (by intro p hp; cases hp) (gtL_ok (by decide)) (ovL_ok (by
    intro p hp
    simp only [List.mem_cons, List.not_mem_nil, or_false] at hp
    rcases hp with rfl
    · exact ⟨hself, _, Tryd.func59, by kernel_rfl, by kernel_rfl⟩
)) 1
theorem okD (N : Nat) : ∀ d, SoundC Tryd.prog (gtL gts) 59 (con (MD N d))
  | 0 => by
    intro R args bs κ r h
    unfold con at h
    split at h <;> cases h
  | d + 1 => by
    refine SoundC.mono (evF_ok (gok N d (okD N d)) hm an N Tryd.func59) fun R args bs κ r h => ?_
    unfold con at h
    split at h
    · exact (eq (MD N d) N κ _).trans h
    · cases h
theorem ok (N : Nat) : SoundC Tryd.prog (gtL gts) 59 (con (M N)) := okD N N
end rPower


/-! ### Tryd.f49: rKids -/
namespace rKids
def an : Anns := ⟨fun i => findA i [], fun i => findA i [], false, fun _ => none, []⟩
noncomputable def g (mrLevel : rLevel.Ty) (mrPower : rPower.Ty) : Gi := giD Tryd.prog (gtL []) (fun _ => an) 0 [] (ovL [(48, rLevel.con mrLevel), (59, rPower.con mrPower)]) 1
noncomputable def m (mrLevel : rLevel.Ty) (mrPower : rPower.Ty) {R : Type} (_N : Nat) (x1 : Int) (kr0 : Int → Int → Option R) : Option R :=
  mrLevel R x1
   (fun v0_c2 => mrPower R (IntKind.i64.wrap (v0_c2 - 1))
    (fun v0_c3 => kr0 (IntKind.i64.wrap (x1 - v0_c3)) (IntKind.i64.wrap (x1 + v0_c3))))
theorem tree (mrLevel : rLevel.Ty) (mrPower : rPower.Ty) {R : Type} (N : Nat) (κ : AV → List Blk → Option R) (x1 : Int) : evF (g mrLevel mrPower) an N Tryd.f49 [AV.int IntKind.i64 x1] [] κ =
  mrLevel R x1
   (fun v0_c2 => mrPower R (IntKind.i64.wrap (v0_c2 - 1))
    (fun v0_c3 => κ (AV.tup [AV.int IntKind.i64 (IntKind.i64.wrap (x1 - v0_c3)), AV.int IntKind.i64 (IntKind.i64.wrap (x1 + v0_c3))]) [])) := by kernel_rfl
theorem eq (mrLevel : rLevel.Ty) (mrPower : rPower.Ty) {R : Type} (N : Nat) (κ : AV → List Blk → Option R) (x1 : Int) : evF (g mrLevel mrPower) an N Tryd.f49 [AV.int IntKind.i64 x1] [] κ =
  m mrLevel mrPower N x1 (fun v v_1 => κ (AV.tup [AV.int IntKind.i64 v, AV.int IntKind.i64 v_1]) []) := by
  rw [tree]
  kernel_rfl
abbrev Ty : Type 1 := ∀ R : Type, Int → (Int → Int → Option R) → Option R
def con (f : Ty) : Con := fun R args bs κ => match args, bs with
  | [AV.int IntKind.i64 x1], [] => f R x1 (fun v v_1 => κ (AV.tup [AV.int IntKind.i64 v, AV.int IntKind.i64 v_1]) [])
  | _, _ => none
theorem con_eq (f : Ty) (R : Type) (κ : AV → List Blk → Option R) (x1 : Int) : con f R [AV.int IntKind.i64 x1] [] κ = f R x1 (fun v v_1 => κ (AV.tup [AV.int IntKind.i64 v, AV.int IntKind.i64 v_1]) []) := rfl
noncomputable def M (N : Nat) : Ty := fun R x1 kr0 => m (rLevel.M N) (rPower.M N) (R := R) N x1 kr0
def gts : List (Nat × AV) := []
theorem gok (N : Nat) : GOk (g (rLevel.M N) (rPower.M N)) := giD_ok hm (by intro p hp; cases hp) (gtL_ok (by decide)) (ovL_ok (by
    intro p hp
    simp only [List.mem_cons, List.not_mem_nil, or_false] at hp
    rcases hp with rfl | rfl
    · exact ⟨(rLevel.ok N).gt (gtL_sub (by repeat (first | exact subG_nil _ | refine subG_cons (by kernel_rfl) ?_))) (gtL_ok (by decide)), _, Tryd.func48, by kernel_rfl, by kernel_rfl⟩
    · exact ⟨(rPower.ok N).gt (gtL_sub (by repeat (first | exact subG_nil _ | refine subG_cons (by kernel_rfl) ?_))) (gtL_ok (by decide)), _, Tryd.func59, by kernel_rfl, by kernel_rfl⟩
)) 1
theorem ok (N : Nat) : SoundC Tryd.prog (gtL gts) 49 (con (M N)) := by
  refine SoundC.mono (evF_ok (gok N) hm an N Tryd.func49) fun R args bs κ r h => ?_
  unfold con at h
  split at h
  · exact (eq (rLevel.M N) (rPower.M N) N κ _).trans h
  · cases h
end rKids


/-! ### Tryd.f35: rUnder -/
namespace rUnder
abbrev Ty : Type 1 := ∀ R : Type, Int → Int → (Bool → Option R) → Option R
def con (f : Ty) : Con := fun R args bs κ => match args, bs with
  | [.int .i64 x1, .int .i64 y2], [] => f R x1 y2 (fun v0 => κ (AV.bool v0) [])
  | _, _ => none

def an : Anns := ⟨fun i => findA i [], fun i => findA i [], false, fun _ => none, []⟩
noncomputable def g (mrLevel : rLevel.Ty) (mrKids : rKids.Ty) (self : Ty) : Gi := giD Tryd.prog (gtL []) (fun _ => an) 0 [] (ovL [(48, rLevel.con mrLevel), (49, rKids.con mrKids), (35, con self)]) 1
noncomputable def m (mrLevel : rLevel.Ty) (mrKids : rKids.Ty) (self : Ty) {R : Type} (_N : Nat) (x1 : Int) (y2 : Int) (kr0 : Bool → Option R) : Option R :=
  cond (x1 == y2)
   (kr0 true)
   (mrLevel R x1
    (fun v0_c1 => cond (v0_c1 == 0)
     (kr0 false)
     (mrKids R x1
      (fun v_c2 v_1_c3 => self R v_c2 y2
       (fun v0_c4 => cond v0_c4
        (kr0 true)
        (self R v_1_c3 y2
         (fun v0_c5 => kr0 v0_c5)))))))
theorem tree (mrLevel : rLevel.Ty) (mrKids : rKids.Ty) (self : Ty) {R : Type} (N : Nat) (κ : AV → List Blk → Option R) (x1 : Int) (y2 : Int) : evF (g mrLevel mrKids self) an N Tryd.f35 [AV.int IntKind.i64 x1, AV.int IntKind.i64 y2] [] κ =
  cond (x1 == y2)
   (κ (AV.bool true) [])
   (mrLevel R x1
    (fun v0_c1 => cond (v0_c1 == 0)
     (κ (AV.bool false) [])
     (mrKids R x1
      (fun v_c2 v_1_c3 => self R v_c2 y2
       (fun v0_c4 => cond v0_c4
        (κ (AV.bool true) [])
        (self R v_1_c3 y2
         (fun v0_c5 => κ (AV.bool v0_c5) []))))))) := by kernel_rfl
theorem eq (mrLevel : rLevel.Ty) (mrKids : rKids.Ty) (self : Ty) {R : Type} (N : Nat) (κ : AV → List Blk → Option R) (x1 : Int) (y2 : Int) : evF (g mrLevel mrKids self) an N Tryd.f35 [AV.int IntKind.i64 x1, AV.int IntKind.i64 y2] [] κ =
  m mrLevel mrKids self N x1 y2 (fun v => κ (AV.bool v) []) := by
  rw [tree]
  kernel_rfl
theorem con_eq (f : Ty) (R : Type) (κ : AV → List Blk → Option R) (x1 : Int) (y2 : Int) : con f R [AV.int IntKind.i64 x1, AV.int IntKind.i64 y2] [] κ = f R x1 y2 (fun v => κ (AV.bool v) []) := rfl
noncomputable def MD (N : Nat) : Nat → Ty
  | 0 => fun _ _ _ _ => none
  | d + 1 => fun R x1 y2 kr0 => m (rLevel.M N) (rKids.M N) (MD N d) (R := R) N x1 y2 kr0
noncomputable def M (N : Nat) : Ty := MD N N
def gts : List (Nat × AV) := []
theorem gok (N : Nat) (d : Nat) (hself : SoundC Tryd.prog (gtL gts) 35 (con (MD N d))) : GOk (g (rLevel.M N) (rKids.M N) (MD N d)) := giD_ok hm (by intro p hp; cases hp) (gtL_ok (by decide)) (ovL_ok (by
    intro p hp
    simp only [List.mem_cons, List.not_mem_nil, or_false] at hp
    rcases hp with rfl | rfl | rfl
    · exact ⟨(rLevel.ok N).gt (gtL_sub (by repeat (first | exact subG_nil _ | refine subG_cons (by kernel_rfl) ?_))) (gtL_ok (by decide)), _, Tryd.func48, by kernel_rfl, by kernel_rfl⟩
    · exact ⟨(rKids.ok N).gt (gtL_sub (by repeat (first | exact subG_nil _ | refine subG_cons (by kernel_rfl) ?_))) (gtL_ok (by decide)), _, Tryd.func49, by kernel_rfl, by kernel_rfl⟩
    · exact ⟨hself, _, Tryd.func35, by kernel_rfl, by kernel_rfl⟩
)) 1
theorem okD (N : Nat) : ∀ d, SoundC Tryd.prog (gtL gts) 35 (con (MD N d))
  | 0 => by
    intro R args bs κ r h
    unfold con at h
    split at h <;> cases h
  | d + 1 => by
    refine SoundC.mono (evF_ok (gok N d (okD N d)) hm an N Tryd.func35) fun R args bs κ r h => ?_
    unfold con at h
    split at h
    · exact (eq (rLevel.M N) (rKids.M N) (MD N d) N κ _ _).trans h
    · cases h
theorem ok (N : Nat) : SoundC Tryd.prog (gtL gts) 35 (con (M N)) := okD N N
end rUnder


/-! ### Tryd.f38: rCommon -/
namespace rCommon
def an : Anns := ⟨fun i => findA i [(2, ⟨[0, 1, 7], [], 0, []⟩)], fun i => findA i [], false, fun _ => none, []⟩
noncomputable def g (mrLevel : rLevel.Ty) (mrKids : rKids.Ty) (mrUnder : rUnder.Ty) : Gi := giD Tryd.prog (gtL []) (fun _ => an) 0 [] (ovL [(48, rLevel.con mrLevel), (49, rKids.con mrKids), (35, rUnder.con mrUnder)]) 1
noncomputable def c_L2 : Code := loopOf Tryd.f38 0
def s_L2 (x0 : Int) (y1 : Int) (at7 : Int) : St := ⟨[AV.int IntKind.i64 x0, AV.int IntKind.i64 y1] ++ List.replicate 5 .dead ++ [AV.int IntKind.i64 at7] ++ List.replicate 34 .dead, []⟩
def x_L2_0 (x0 : Int) (y1 : Int) (at7 : Int) (v0_c13 : Int) : St := ⟨[AV.int IntKind.i64 x0, AV.int IntKind.i64 y1] ++ List.replicate 4 .dead ++ [AV.int IntKind.i64 at7, AV.int IntKind.i64 at7] ++ List.replicate 4 .dead ++ [AV.int IntKind.i64 at7, AV.int IntKind.i64 v0_c13, AV.bool (v0_c13 == 0), AV.int IntKind.i64 at7] ++ List.replicate 26 .dead, [Blk.rsv, Blk.rsv, Blk.rsv, Blk.rsv]⟩
def x_L2_1 (x0 : Int) (y1 : Int) (at7 : Int) (v0_c13 : Int) (v_c14 : Int) (v_1_c15 : Int) (v0_c16 : Bool) (v0_c17 : Bool) (v0_c18 : Bool) (v0_c19 : Bool) : St := ⟨[AV.int IntKind.i64 x0, AV.int IntKind.i64 y1] ++ List.replicate 4 .dead ++ [AV.int IntKind.i64 at7, AV.int IntKind.i64 at7, AV.int IntKind.i64 v_c14, AV.int IntKind.i64 v_1_c15, AV.dead, AV.dead, AV.int IntKind.i64 at7, AV.int IntKind.i64 v0_c13, AV.bool (v0_c13 == 0), AV.dead, AV.tup [AV.int IntKind.i64 v_c14, AV.int IntKind.i64 v_1_c15], AV.int IntKind.i64 at7, AV.tup [AV.int IntKind.i64 v_c14, AV.int IntKind.i64 v_1_c15], AV.int IntKind.i64 v_c14, AV.int IntKind.i64 v_1_c15, AV.int IntKind.i64 at7, AV.bool v0_c17, AV.int IntKind.i64 v_c14, AV.int IntKind.i64 x0, AV.bool v0_c16, AV.bool true, AV.int IntKind.i64 v_c14, AV.int IntKind.i64 y1, AV.bool v0_c17, AV.bool v0_c17, AV.dead, AV.bool v0_c19, AV.int IntKind.i64 v_1_c15, AV.int IntKind.i64 x0, AV.bool v0_c18, AV.bool true, AV.int IntKind.i64 v_1_c15, AV.int IntKind.i64 y1, AV.bool v0_c19, AV.bool v0_c19, AV.dead], [Blk.rsv, Blk.rsv, Blk.rsv, Blk.rsv, Blk.rsv, Blk.rsv, Blk.rsv, Blk.rsv, Blk.rsv, Blk.rsv, Blk.rsv, Blk.rsv, Blk.rsv, Blk.rsv, Blk.rsv, Blk.rsv, Blk.rsv, Blk.rsv, Blk.rsv, Blk.rsv, Blk.rsv, Blk.rsv, Blk.rsv, Blk.rsv]⟩
def x_L2_2 (x0 : Int) (y1 : Int) (at7 : Int) (v0_c13 : Int) (v_c14 : Int) (v_1_c15 : Int) (v0_c16 : Bool) (v0_c17 : Bool) (v0_c18 : Bool) : St := ⟨[AV.int IntKind.i64 x0, AV.int IntKind.i64 y1] ++ List.replicate 4 .dead ++ [AV.int IntKind.i64 at7, AV.int IntKind.i64 at7, AV.int IntKind.i64 v_c14, AV.int IntKind.i64 v_1_c15, AV.dead, AV.dead, AV.int IntKind.i64 at7, AV.int IntKind.i64 v0_c13, AV.bool (v0_c13 == 0), AV.dead, AV.tup [AV.int IntKind.i64 v_c14, AV.int IntKind.i64 v_1_c15], AV.int IntKind.i64 at7, AV.tup [AV.int IntKind.i64 v_c14, AV.int IntKind.i64 v_1_c15], AV.int IntKind.i64 v_c14, AV.int IntKind.i64 v_1_c15, AV.int IntKind.i64 at7, AV.bool v0_c17, AV.int IntKind.i64 v_c14, AV.int IntKind.i64 x0, AV.bool v0_c16, AV.bool true, AV.int IntKind.i64 v_c14, AV.int IntKind.i64 y1, AV.bool v0_c17, AV.bool v0_c17, AV.dead, AV.bool false, AV.int IntKind.i64 v_1_c15, AV.int IntKind.i64 x0, AV.bool v0_c18, AV.bool false, AV.tup [], AV.tup [], AV.tup [], AV.bool false, AV.dead], [Blk.rsv, Blk.rsv, Blk.rsv, Blk.rsv, Blk.rsv, Blk.rsv, Blk.rsv, Blk.rsv, Blk.rsv, Blk.rsv, Blk.rsv, Blk.rsv, Blk.rsv, Blk.rsv, Blk.rsv, Blk.rsv, Blk.rsv, Blk.rsv, Blk.rsv, Blk.rsv, Blk.rsv, Blk.rsv, Blk.rsv, Blk.rsv]⟩
def x_L2_3 (x0 : Int) (y1 : Int) (at7 : Int) (v0_c13 : Int) (v_c14 : Int) (v_1_c15 : Int) (v0_c16 : Bool) (v0_c20 : Bool) (v0_c21 : Bool) : St := ⟨[AV.int IntKind.i64 x0, AV.int IntKind.i64 y1] ++ List.replicate 4 .dead ++ [AV.int IntKind.i64 at7, AV.int IntKind.i64 at7, AV.int IntKind.i64 v_c14, AV.int IntKind.i64 v_1_c15, AV.dead, AV.dead, AV.int IntKind.i64 at7, AV.int IntKind.i64 v0_c13, AV.bool (v0_c13 == 0), AV.dead, AV.tup [AV.int IntKind.i64 v_c14, AV.int IntKind.i64 v_1_c15], AV.int IntKind.i64 at7, AV.tup [AV.int IntKind.i64 v_c14, AV.int IntKind.i64 v_1_c15], AV.int IntKind.i64 v_c14, AV.int IntKind.i64 v_1_c15, AV.int IntKind.i64 at7, AV.bool false, AV.int IntKind.i64 v_c14, AV.int IntKind.i64 x0, AV.bool v0_c16, AV.bool false, AV.tup [], AV.tup [], AV.tup [], AV.bool false, AV.dead, AV.bool v0_c21, AV.int IntKind.i64 v_1_c15, AV.int IntKind.i64 x0, AV.bool v0_c20, AV.bool true, AV.int IntKind.i64 v_1_c15, AV.int IntKind.i64 y1, AV.bool v0_c21, AV.bool v0_c21, AV.dead], [Blk.rsv, Blk.rsv, Blk.rsv, Blk.rsv, Blk.rsv, Blk.rsv, Blk.rsv, Blk.rsv, Blk.rsv, Blk.rsv, Blk.rsv, Blk.rsv, Blk.rsv, Blk.rsv, Blk.rsv, Blk.rsv, Blk.rsv, Blk.rsv, Blk.rsv, Blk.rsv, Blk.rsv, Blk.rsv, Blk.rsv, Blk.rsv]⟩
def x_L2_4 (x0 : Int) (y1 : Int) (at7 : Int) (v0_c13 : Int) (v_c14 : Int) (v_1_c15 : Int) (v0_c16 : Bool) (v0_c20 : Bool) : St := ⟨[AV.int IntKind.i64 x0, AV.int IntKind.i64 y1] ++ List.replicate 4 .dead ++ [AV.int IntKind.i64 at7, AV.int IntKind.i64 at7, AV.int IntKind.i64 v_c14, AV.int IntKind.i64 v_1_c15, AV.dead, AV.dead, AV.int IntKind.i64 at7, AV.int IntKind.i64 v0_c13, AV.bool (v0_c13 == 0), AV.dead, AV.tup [AV.int IntKind.i64 v_c14, AV.int IntKind.i64 v_1_c15], AV.int IntKind.i64 at7, AV.tup [AV.int IntKind.i64 v_c14, AV.int IntKind.i64 v_1_c15], AV.int IntKind.i64 v_c14, AV.int IntKind.i64 v_1_c15, AV.int IntKind.i64 at7, AV.bool false, AV.int IntKind.i64 v_c14, AV.int IntKind.i64 x0, AV.bool v0_c16, AV.bool false, AV.tup [], AV.tup [], AV.tup [], AV.bool false, AV.dead, AV.bool false, AV.int IntKind.i64 v_1_c15, AV.int IntKind.i64 x0, AV.bool v0_c20, AV.bool false, AV.tup [], AV.tup [], AV.tup [], AV.bool false, AV.dead], [Blk.rsv, Blk.rsv, Blk.rsv, Blk.rsv, Blk.rsv, Blk.rsv, Blk.rsv, Blk.rsv, Blk.rsv, Blk.rsv, Blk.rsv, Blk.rsv, Blk.rsv, Blk.rsv, Blk.rsv, Blk.rsv, Blk.rsv, Blk.rsv, Blk.rsv, Blk.rsv, Blk.rsv, Blk.rsv, Blk.rsv, Blk.rsv]⟩
noncomputable def L2 (mrLevel : rLevel.Ty) (mrKids : rKids.Ty) (mrUnder : rUnder.Ty) {R : Type} (N : Nat) (ke0 : Int → Int → Int → Int → Option R) (ke1 : Int → Int → Int → Int → Int → Int → Bool → Bool → Bool → Bool → Option R) (ke2 : Int → Int → Int → Int → Int → Int → Bool → Bool → Bool → Option R) (ke3 : Int → Int → Int → Int → Int → Int → Bool → Bool → Bool → Option R) (ke4 : Int → Int → Int → Int → Int → Int → Bool → Bool → Option R) : Nat → Int → Int → Int → Option R
  | 0, _, _, _ => none
  | m + 1, x0, y1, at7 =>
    mrLevel R at7
     (fun v0_c13 => cond (v0_c13 == 0)
      (ke0 x0 y1 at7 v0_c13)
      (mrKids R at7
       (fun v_c14 v_1_c15 => mrUnder R v_c14 x0
        (fun v0_c16 => cond v0_c16
         (mrUnder R v_c14 y1
          (fun v0_c17 => cond v0_c17
           (L2 mrLevel mrKids mrUnder N ke0 ke1 ke2 ke3 ke4 m x0 y1 v_c14)
           (mrUnder R v_1_c15 x0
            (fun v0_c18 => cond v0_c18
             (mrUnder R v_1_c15 y1
              (fun v0_c19 => cond v0_c19
               (L2 mrLevel mrKids mrUnder N ke0 ke1 ke2 ke3 ke4 m x0 y1 v_1_c15)
               (ke1 x0 y1 at7 v0_c13 v_c14 v_1_c15 v0_c16 v0_c17 v0_c18 v0_c19)))
             (ke2 x0 y1 at7 v0_c13 v_c14 v_1_c15 v0_c16 v0_c17 v0_c18)))))
         (mrUnder R v_1_c15 x0
          (fun v0_c20 => cond v0_c20
           (mrUnder R v_1_c15 y1
            (fun v0_c21 => cond v0_c21
             (L2 mrLevel mrKids mrUnder N ke0 ke1 ke2 ke3 ke4 m x0 y1 v_1_c15)
             (ke3 x0 y1 at7 v0_c13 v_c14 v_1_c15 v0_c16 v0_c20 v0_c21)))
           (ke4 x0 y1 at7 v0_c13 v_c14 v_1_c15 v0_c16 v0_c20)))))))
theorem round_L2 (mrLevel : rLevel.Ty) (mrKids : rKids.Ty) (mrUnder : rUnder.Ty) {R : Type} (N : Nat) (Rn : St → Option R) (k : K R) (x0 : Int) (y1 : Int) (at7 : Int) : evC (g mrLevel mrKids mrUnder) an 0 N c_L2 none (roundK (nmOf 0 (an.loop 2)) Rn k) (s_L2 x0 y1 at7) =
  mrLevel R at7
   (fun v0_c13 => cond (v0_c13 == 0)
    (k.ret (x_L2_0 x0 y1 at7 v0_c13))
    (mrKids R at7
     (fun v_c14 v_1_c15 => mrUnder R v_c14 x0
      (fun v0_c16 => cond v0_c16
       (mrUnder R v_c14 y1
        (fun v0_c17 => cond v0_c17
         (Rn (s_L2 x0 y1 v_c14))
         (mrUnder R v_1_c15 x0
          (fun v0_c18 => cond v0_c18
           (mrUnder R v_1_c15 y1
            (fun v0_c19 => cond v0_c19
             (Rn (s_L2 x0 y1 v_1_c15))
             (k.ret (x_L2_1 x0 y1 at7 v0_c13 v_c14 v_1_c15 v0_c16 v0_c17 v0_c18 v0_c19))))
           (k.ret (x_L2_2 x0 y1 at7 v0_c13 v_c14 v_1_c15 v0_c16 v0_c17 v0_c18))))))
       (mrUnder R v_1_c15 x0
        (fun v0_c20 => cond v0_c20
         (mrUnder R v_1_c15 y1
          (fun v0_c21 => cond v0_c21
           (Rn (s_L2 x0 y1 v_1_c15))
           (k.ret (x_L2_3 x0 y1 at7 v0_c13 v_c14 v_1_c15 v0_c16 v0_c20 v0_c21))))
         (k.ret (x_L2_4 x0 y1 at7 v0_c13 v_c14 v_1_c15 v0_c16 v0_c20)))))))) := by kernel_rfl
theorem run_L2 (mrLevel : rLevel.Ty) (mrKids : rKids.Ty) (mrUnder : rUnder.Ty) {R : Type} (N : Nat) (k : K R) : ∀ (m : Nat) (x0 : Int) (y1 : Int) (at7 : Int), loopN (evC (g mrLevel mrKids mrUnder) an 0 N c_L2 none) k (nmOf 0 (an.loop 2)) m (s_L2 x0 y1 at7) =
    L2 mrLevel mrKids mrUnder N (fun x0 y1 at7 v0_c13 => (k).ret (x_L2_0 x0 y1 at7 v0_c13)) (fun x0 y1 at7 v0_c13 v_c14 v_1_c15 v0_c16 v0_c17 v0_c18 v0_c19 => (k).ret (x_L2_1 x0 y1 at7 v0_c13 v_c14 v_1_c15 v0_c16 v0_c17 v0_c18 v0_c19)) (fun x0 y1 at7 v0_c13 v_c14 v_1_c15 v0_c16 v0_c17 v0_c18 => (k).ret (x_L2_2 x0 y1 at7 v0_c13 v_c14 v_1_c15 v0_c16 v0_c17 v0_c18)) (fun x0 y1 at7 v0_c13 v_c14 v_1_c15 v0_c16 v0_c20 v0_c21 => (k).ret (x_L2_3 x0 y1 at7 v0_c13 v_c14 v_1_c15 v0_c16 v0_c20 v0_c21)) (fun x0 y1 at7 v0_c13 v_c14 v_1_c15 v0_c16 v0_c20 => (k).ret (x_L2_4 x0 y1 at7 v0_c13 v_c14 v_1_c15 v0_c16 v0_c20)) m x0 y1 at7 := by
  intro m
  induction m with
  | zero => intros; rfl
  | succ m ih =>
    intros
    rw [loopN_succ, round_L2]
    simp only [ih]
    kernel_rfl
noncomputable def m (mrLevel : rLevel.Ty) (mrKids : rKids.Ty) (mrUnder : rUnder.Ty) {R : Type} (N : Nat) (x1 : Int) (y2 : Int) (n3 : Int) (kr0 : Int → Option R) : Option R :=
  L2 mrLevel mrKids mrUnder N
   (fun _x0_c22 _y1_c23 at7_c24 _v0_c25 => kr0 at7_c24)
   (fun _x0_c26 _y1_c27 at7_c28 _v0_c29 _v_c30 _v_1_c31 _v0_c32 _v0_c33 _v0_c34 _v0_c35 => kr0 at7_c28)
   (fun _x0_c36 _y1_c37 at7_c38 _v0_c39 _v_c40 _v_1_c41 _v0_c42 _v0_c43 _v0_c44 => kr0 at7_c38)
   (fun _x0_c45 _y1_c46 at7_c47 _v0_c48 _v_c49 _v_1_c50 _v0_c51 _v0_c52 _v0_c53 => kr0 at7_c47)
   (fun _x0_c54 _y1_c55 at7_c56 _v0_c57 _v_c58 _v_1_c59 _v0_c60 _v0_c61 => kr0 at7_c56) N x1 y2 (IntKind.i64.wrap (n3 - 1))
theorem tree (mrLevel : rLevel.Ty) (mrKids : rKids.Ty) (mrUnder : rUnder.Ty) {R : Type} (N : Nat) (κ : AV → List Blk → Option R) (x1 : Int) (y2 : Int) (n3 : Int) : evF (g mrLevel mrKids mrUnder) an N Tryd.f38 [AV.int IntKind.i64 x1, AV.int IntKind.i64 y2, AV.int IntKind.i64 n3] [] κ =
  loopN (evC (g mrLevel mrKids mrUnder) an 0 N c_L2 none) (ctx (g mrLevel mrKids mrUnder) an 0 N (bodyOf Tryd.f38) [1, 1, 0] (endK (g mrLevel mrKids mrUnder) an Tryd.f38 [] κ)) (nmOf 0 (an.loop 2)) N (s_L2 x1 y2 (IntKind.i64.wrap (n3 - 1))) := by kernel_rfl
theorem eq (mrLevel : rLevel.Ty) (mrKids : rKids.Ty) (mrUnder : rUnder.Ty) {R : Type} (N : Nat) (κ : AV → List Blk → Option R) (x1 : Int) (y2 : Int) (n3 : Int) : evF (g mrLevel mrKids mrUnder) an N Tryd.f38 [AV.int IntKind.i64 x1, AV.int IntKind.i64 y2, AV.int IntKind.i64 n3] [] κ =
  m mrLevel mrKids mrUnder N x1 y2 n3 (fun v => κ (AV.int IntKind.i64 v) []) := by
  rw [tree]
  simp only [run_L2]
  kernel_rfl
abbrev Ty : Type 1 := ∀ R : Type, Int → Int → Int → (Int → Option R) → Option R
def con (f : Ty) : Con := fun R args bs κ => match args, bs with
  | [AV.int IntKind.i64 x1, AV.int IntKind.i64 y2, AV.int IntKind.i64 n3], [] => f R x1 y2 n3 (fun v => κ (AV.int IntKind.i64 v) [])
  | _, _ => none
theorem con_eq (f : Ty) (R : Type) (κ : AV → List Blk → Option R) (x1 : Int) (y2 : Int) (n3 : Int) : con f R [AV.int IntKind.i64 x1, AV.int IntKind.i64 y2, AV.int IntKind.i64 n3] [] κ = f R x1 y2 n3 (fun v => κ (AV.int IntKind.i64 v) []) := rfl
noncomputable def M (N : Nat) : Ty := fun R x1 y2 n3 kr0 => m (rLevel.M N) (rKids.M N) (rUnder.M N) (R := R) N x1 y2 n3 kr0
def gts : List (Nat × AV) := []
theorem gok (N : Nat) : GOk (g (rLevel.M N) (rKids.M N) (rUnder.M N)) := giD_ok hm (by intro p hp; cases hp) (gtL_ok (by decide)) (ovL_ok (by
    intro p hp
    simp only [List.mem_cons, List.not_mem_nil, or_false] at hp
    rcases hp with rfl | rfl | rfl
    · exact ⟨(rLevel.ok N).gt (gtL_sub (by repeat (first | exact subG_nil _ | refine subG_cons (by kernel_rfl) ?_))) (gtL_ok (by decide)), _, Tryd.func48, by kernel_rfl, by kernel_rfl⟩
    · exact ⟨(rKids.ok N).gt (gtL_sub (by repeat (first | exact subG_nil _ | refine subG_cons (by kernel_rfl) ?_))) (gtL_ok (by decide)), _, Tryd.func49, by kernel_rfl, by kernel_rfl⟩
    · exact ⟨(rUnder.ok N).gt (gtL_sub (by repeat (first | exact subG_nil _ | refine subG_cons (by kernel_rfl) ?_))) (gtL_ok (by decide)), _, Tryd.func35, by kernel_rfl, by kernel_rfl⟩
)) 1
theorem ok (N : Nat) : SoundC Tryd.prog (gtL gts) 38 (con (M N)) := by
  refine SoundC.mono (evF_ok (gok N) hm an N Tryd.func38) fun R args bs κ r h => ?_
  unfold con at h
  split at h
  · exact (eq (rLevel.M N) (rKids.M N) (rUnder.M N) N κ _ _ _).trans h
  · cases h
end rCommon

end Go.Proofs.YtbliikcgcgalmaaDoor.fn
