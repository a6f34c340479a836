/- What the rows of texts are, with the proof; printed by a program. -/
import Derived.Test.YthajoenmfppenaaDoorProg
import Derived.Test.YthajoenmfppenaaDoorEv4
import Derived.Test.YthajoenmfppenaaDoorFnBytes
import Derived.Test.YthajoenmfppenaaDoorClone
namespace Go.Proofs.YthajoenmfppenaaDoor.fn
open Go Go.Proofs Go.Ev
/-! ### Tryd.f71: wRow -/
namespace wRow
def an : Anns := ⟨fun i => findA i [(5, ⟨[4, 17, 18, 19], [⟨4, 0, T.int IntKind.u8, none⟩], 1, []⟩)], fun i => findA i [], false, fun _ => none, []⟩
noncomputable def g (mPutBig : PutBig.Ty) : Gi := giD Tryd.prog (gtL [(0, .err 1), (2, .err 3)]) (fun _ => an) 0 [] (ovL [(72, PutBig.con mPutBig)]) 1
noncomputable def c_L5 : Code := loopOf Tryd.f71 0
def s_L5 (t17 : List (List Int)) (t18 : Int) (t19 : Int) (h0 : Bool) (h0_4 : List Int) : St := ⟨List.replicate 4 .dead ++ [AV.own 0 [] 0 none] ++ List.replicate 12 .dead ++ [AV.rsl IntKind.u8 t17, AV.int IntKind.i64 t18, AV.int IntKind.i64 t19] ++ List.replicate 27 .dead, [Blk.row IntKind.u8 h0 h0_4]⟩
def x_L5_0 (t17 : List (List Int)) (t18 : Int) (t19 : Int) (h0 : Bool) (h0_4 : List Int) : St := ⟨[AV.dead, AV.dead, AV.nils, AV.err 3, AV.own 0 [] 0 none, AV.dead, AV.isl IntKind.u8 none (t17.getD t19.toNat [])] ++ List.replicate 10 .dead ++ [AV.rsl IntKind.u8 t17, AV.int IntKind.i64 t18, AV.int IntKind.i64 t19, AV.bool (decide (t19 < t18)), AV.rps IntKind.u8 (t17.getD t19.toNat []), AV.isl IntKind.u8 none (t17.getD t19.toNat []), AV.isl IntKind.u8 none (t17.getD t19.toNat []), AV.int IntKind.i64 (↑(t17.getD t19.toNat []).length : Int), AV.own 0 [] 0 none, AV.int IntKind.i64 (↑(olen none h0_4.length 0) : Int), AV.int IntKind.i64 (IntKind.i64.wrap (65532 - (↑(olen none h0_4.length 0) : Int))), AV.bool (decide ((↑(t17.getD t19.toNat []).length : Int) > IntKind.i64.wrap (65532 - (↑(olen none h0_4.length 0) : Int)))), AV.err 3] ++ List.replicate 17 .dead, [Blk.row IntKind.u8 h0 h0_4]⟩
def x_L5_1 (t17 : List (List Int)) (t18 : Int) (t19 : Int) (h0 : Bool) (h0_4 : List Int) : St := ⟨[AV.dead, AV.dead, AV.nils, AV.err 1, AV.own 0 [] 0 none, AV.dead, AV.isl IntKind.u8 none (t17.getD t19.toNat []), AV.nils, AV.err 1] ++ List.replicate 8 .dead ++ [AV.rsl IntKind.u8 t17, AV.int IntKind.i64 t18, AV.int IntKind.i64 t19, AV.bool (decide (t19 < t18)), AV.rps IntKind.u8 (t17.getD t19.toNat []), AV.isl IntKind.u8 none (t17.getD t19.toNat []), AV.isl IntKind.u8 none (t17.getD t19.toNat []), AV.int IntKind.i64 (↑(t17.getD t19.toNat []).length : Int), AV.own 0 [] 0 none, AV.int IntKind.i64 (↑(olen none h0_4.length 0) : Int), AV.int IntKind.i64 (IntKind.i64.wrap (65532 - (↑(olen none h0_4.length 0) : Int))), AV.bool (decide ((↑(t17.getD t19.toNat []).length : Int) > IntKind.i64.wrap (65532 - (↑(olen none h0_4.length 0) : Int)))), AV.dead, AV.tup [AV.nils, AV.err 1], AV.isl IntKind.u8 none (t17.getD t19.toNat []), AV.int IntKind.i64 (↑(t17.getD t19.toNat []).length : Int), AV.int IntKind.u64 (IntKind.u64.wrap (↑(t17.getD t19.toNat []).length : Int)), AV.tup [AV.nils, AV.err 1], AV.nils, AV.err 1, AV.err 1, AV.bool true, AV.err 1] ++ List.replicate 7 .dead, [Blk.row IntKind.u8 h0 h0_4, Blk.rsv, Blk.rsv, Blk.rsv, Blk.rsv, Blk.rsv]⟩
def x_L5_2 (t17 : List (List Int)) (t18 : Int) (t19 : Int) (h0 : Bool) (h0_4 : List Int) : St := ⟨List.replicate 4 .dead ++ [AV.own 0 [] 0 none] ++ List.replicate 12 .dead ++ [AV.rsl IntKind.u8 t17, AV.int IntKind.i64 t18, AV.int IntKind.i64 t19, AV.bool (decide (t19 < t18))] ++ List.replicate 26 .dead, [Blk.row IntKind.u8 h0 h0_4]⟩
noncomputable def L5 (mPutBig : PutBig.Ty) {R : Type} (N : Nat) (ke0 : (List (List Int)) → Int → Int → Bool → (List Int) → Option R) (ke1 : (List (List Int)) → Int → Int → Bool → (List Int) → Option R) (ke2 : (List (List Int)) → Int → Int → Bool → (List Int) → Option R) : Nat → (List (List Int)) → Int → Int → Bool → (List Int) → Option R
  | 0, _, _, _, _, _ => none
  | m + 1, t17, t18, t19, h0, h0_4 =>
    cond (decide (t19 < t18))
     (cond (decide (0 ≤ t19))
      (cond (decide (t19 < (↑t17.length : Int)))
       (cond (decide ((↑(t17.getD t19.toNat []).length : Int) > IntKind.i64.wrap (65532 - (↑(olen none h0_4.length 0) : Int))))
        (ke0 t17 t18 t19 h0 h0_4)
        (mPutBig R (IntKind.u64.wrap (↑(t17.getD t19.toNat []).length : Int)) 4
         (ke1 t17 t18 t19 h0 h0_4)
         (fun b_c28 => cond (decide ((h0_4.length + b_c28.length) * 1 ≤ 140737488355328))
          (cond (decide (h0_4.length + b_c28.length ≤ 140737488355328))
           (cond (decide (((cut none 0 (h0_4 ++ b_c28)).length + (t17.getD t19.toNat []).length) * 1 ≤ 140737488355328))
            (cond (decide ((cut none 0 (h0_4 ++ b_c28)).length + (t17.getD t19.toNat []).length ≤ 140737488355328))
             (L5 mPutBig N ke0 ke1 ke2 m t17 t18 (IntKind.i64.wrap (t19 + 1)) ((t17.getD t19.toNat []).isEmpty && (b_c28.isEmpty && h0)) (cut none 0 (h0_4 ++ b_c28) ++ t17.getD t19.toNat []))
             none)
            none)
           none)
          none)))
       none)
      none)
     (ke2 t17 t18 t19 h0 h0_4)
theorem round_L5 (mPutBig : PutBig.Ty) {R : Type} (N : Nat) (Rn : St → Option R) (k : K R) (t17 : List (List Int)) (t18 : Int) (t19 : Int) (h0 : Bool) (h0_4 : List Int) : evC (g mPutBig) an 0 N c_L5 none (roundK (nmOf 0 (an.loop 5)) Rn k) (s_L5 t17 t18 t19 h0 h0_4) =
  cond (decide (t19 < t18))
   (cond (decide (0 ≤ t19))
    (cond (decide (t19 < (↑t17.length : Int)))
     (cond (decide ((↑(t17.getD t19.toNat []).length : Int) > IntKind.i64.wrap (65532 - (↑(olen none h0_4.length 0) : Int))))
      (k.ret (x_L5_0 t17 t18 t19 h0 h0_4))
      (mPutBig R (IntKind.u64.wrap (↑(t17.getD t19.toNat []).length : Int)) 4
       (k.ret (x_L5_1 t17 t18 t19 h0 h0_4))
       (fun b_c28 => cond (decide ((h0_4.length + b_c28.length) * 1 ≤ 140737488355328))
        (cond (decide (h0_4.length + b_c28.length ≤ 140737488355328))
         (cond (decide (((cut none 0 (h0_4 ++ b_c28)).length + (t17.getD t19.toNat []).length) * 1 ≤ 140737488355328))
          (cond (decide ((cut none 0 (h0_4 ++ b_c28)).length + (t17.getD t19.toNat []).length ≤ 140737488355328))
           (Rn (s_L5 t17 t18 (IntKind.i64.wrap (t19 + 1)) ((t17.getD t19.toNat []).isEmpty && (b_c28.isEmpty && h0)) (cut none 0 (h0_4 ++ b_c28) ++ t17.getD t19.toNat [])))
           none)
          none)
         none)
        none)))
     none)
    none)
   (k.ext 0 (x_L5_2 t17 t18 t19 h0 h0_4)) := by kernel_rfl
theorem run_L5 (mPutBig : PutBig.Ty) {R : Type} (N : Nat) (k : K R) : ∀ (m : Nat) (t17 : List (List Int)) (t18 : Int) (t19 : Int) (h0 : Bool) (h0_4 : List Int), loopN (evC (g mPutBig) an 0 N c_L5 none) k (nmOf 0 (an.loop 5)) m (s_L5 t17 t18 t19 h0 h0_4) =
    L5 mPutBig N (fun t17 t18 t19 h0 h0_4 => (k).ret (x_L5_0 t17 t18 t19 h0 h0_4)) (fun t17 t18 t19 h0 h0_4 => (k).ret (x_L5_1 t17 t18 t19 h0 h0_4)) (fun t17 t18 t19 h0 h0_4 => (k).ext 0 (x_L5_2 t17 t18 t19 h0 h0_4)) m t17 t18 t19 h0 h0_4 := by
  intro m
  induction m with
  | zero => intros; rfl
  | succ m ih =>
    intros
    rw [loopN_succ, round_L5]
    simp only [ih]
    kernel_rfl
noncomputable def m (mPutBig : PutBig.Ty) {R : Type} (N : Nat) (texts1 : List (List Int)) (kr0 : (Option Bool) → (List Int) → Nat → Option R) : Option R :=
  cond (decide ((↑texts1.length : Int) > 255))
   (kr0 (some true) [] 3)
   (L5 mPutBig N
    (fun _t17_c29 _t18_c30 _t19_c31 _h0_c32 _h0_4_c33 => kr0 (some true) [] 3)
    (fun _t17_c34 _t18_c35 _t19_c36 _h0_c37 _h0_4_c38 => kr0 (some true) [] 1)
    (fun _t17_c39 _t18_c40 _t19_c41 _h0_c42 h0_4_c43 => kr0 none h0_4_c43 0) N texts1 ((↑texts1.length : Int)) 0 false ([IntKind.u8.wrap (↑texts1.length : Int)]))
theorem tree (mPutBig : PutBig.Ty) {R : Type} (N : Nat) (κ : AV → List Blk → Option R) (texts1 : List (List Int)) : evF (g mPutBig) an N Tryd.f71 [AV.rsl IntKind.u8 texts1] [] κ =
  cond (decide ((↑texts1.length : Int) > 255))
   (κ (AV.tup [AV.isl IntKind.u8 (some true) [], AV.err 3]) [])
   (loopN (evC (g mPutBig) an 0 N c_L5 none) (ctx (g mPutBig) an 0 N (bodyOf Tryd.f71) [1, 1, 1, 0, 1, 0] (endK (g mPutBig) an Tryd.f71 [] κ)) (nmOf 0 (an.loop 5)) N (s_L5 texts1 ((↑texts1.length : Int)) 0 false ([IntKind.u8.wrap (↑texts1.length : Int)]))) := by kernel_rfl
theorem eq (mPutBig : PutBig.Ty) {R : Type} (N : Nat) (κ : AV → List Blk → Option R) (texts1 : List (List Int)) : evF (g mPutBig) an N Tryd.f71 [AV.rsl IntKind.u8 texts1] [] κ =
  m mPutBig N texts1 (fun v v_1 v_2 => κ (AV.tup [AV.isl IntKind.u8 v v_1, AV.err v_2]) []) := by
  rw [tree]
  simp only [run_L5]
  kernel_rfl
abbrev Ty : Type 1 := ∀ R : Type, (List (List Int)) → ((Option Bool) → (List Int) → Nat → Option R) → Option R
def con (f : Ty) : Con := fun R args bs κ => match args, bs with
  | [AV.rsl IntKind.u8 texts1], [] => f R texts1 (fun v v_1 v_2 => κ (AV.tup [AV.isl IntKind.u8 v v_1, AV.err v_2]) [])
  | _, _ => none
theorem con_eq (f : Ty) (R : Type) (κ : AV → List Blk → Option R) (texts1 : List (List Int)) : con f R [AV.rsl IntKind.u8 texts1] [] κ = f R texts1 (fun v v_1 v_2 => κ (AV.tup [AV.isl IntKind.u8 v v_1, AV.err v_2]) []) := rfl
noncomputable def M (N : Nat) : Ty := fun R texts1 kr0 => m (PutBig.M N) (R := R) N texts1 kr0
def gts : List (Nat × AV) := [(0, .err 1), (2, .err 3)]
theorem gok (N : Nat) : GOk (g (PutBig.M N)) := giD_ok hm (by intro p hp; cases hp) (gtL_ok (by decide)) (ovL_ok (by
    intro p hp
    simp only [List.mem_cons, List.not_mem_nil, or_false] at hp
    rcases hp with rfl
    · exact ⟨(PutBig.ok N).gt (gtL_sub (by repeat (first | exact subG_nil _ | refine subG_cons (by kernel_rfl) ?_))) (gtL_ok (by decide)), _, Tryd.func72, by kernel_rfl, by kernel_rfl⟩
)) 1
theorem ok (N : Nat) : SoundC Tryd.prog (gtL gts) 71 (con (M N)) := by
  refine SoundC.mono (evF_ok (gok N) hm an N Tryd.func71) fun R args bs κ r h => ?_
  unfold con at h
  split at h
  · exact (eq (PutBig.M N) N κ _).trans h
  · cases h
end wRow

/-! ### Tryd.f38: wNum -/
namespace wNum
def an : Anns := ⟨fun i => findA i [], fun i => findA i [], false, fun _ => none, []⟩
noncomputable def g (mPutBig : PutBig.Ty) : Gi := giD Tryd.prog (gtL [(0, .err 1)]) (fun _ => an) 0 [] (ovL [(72, PutBig.con mPutBig)]) 1
noncomputable def m (mPutBig : PutBig.Ty) {R : Type} (_N : Nat) (n1 : Int) (kr0 : (List Int) → Option R) : Option R :=
  cond (decide (n1 < 0))
   (mPutBig R 0 8
    (kr0 ([0, 0, 0, 0, 0, 0, 0, 0]))
    (fun b_c1 => kr0 b_c1))
   (cond (decide (n1 > 4611686018427387903))
    (mPutBig R 0 8
     (kr0 ([0, 0, 0, 0, 0, 0, 0, 0]))
     (fun b_c2 => kr0 b_c2))
    (mPutBig R (IntKind.u64.wrap n1) 8
     (kr0 ([0, 0, 0, 0, 0, 0, 0, 0]))
     (fun b_c3 => kr0 b_c3)))
theorem tree (mPutBig : PutBig.Ty) {R : Type} (N : Nat) (κ : AV → List Blk → Option R) (n1 : Int) : evF (g mPutBig) an N Tryd.f38 [AV.int IntKind.i64 n1] [] κ =
  cond (decide (n1 < 0))
   (mPutBig R 0 8
    (κ (AV.isl IntKind.u8 none [0, 0, 0, 0, 0, 0, 0, 0]) [])
    (fun b_c1 => κ (AV.isl IntKind.u8 none b_c1) []))
   (cond (decide (n1 > 4611686018427387903))
    (mPutBig R 0 8
     (κ (AV.isl IntKind.u8 none [0, 0, 0, 0, 0, 0, 0, 0]) [])
     (fun b_c2 => κ (AV.isl IntKind.u8 none b_c2) []))
    (mPutBig R (IntKind.u64.wrap n1) 8
     (κ (AV.isl IntKind.u8 none [0, 0, 0, 0, 0, 0, 0, 0]) [])
     (fun b_c3 => κ (AV.isl IntKind.u8 none b_c3) []))) := by kernel_rfl
theorem eq (mPutBig : PutBig.Ty) {R : Type} (N : Nat) (κ : AV → List Blk → Option R) (n1 : Int) : evF (g mPutBig) an N Tryd.f38 [AV.int IntKind.i64 n1] [] κ =
  m mPutBig N n1 (fun v => κ (AV.isl IntKind.u8 none v) []) := by
  rw [tree]
  kernel_rfl
abbrev Ty : Type 1 := ∀ R : Type, Int → ((List Int) → Option R) → Option R
def con (f : Ty) : Con := fun R args bs κ => match args, bs with
  | [AV.int IntKind.i64 n1], [] => f R n1 (fun v => κ (AV.isl IntKind.u8 none v) [])
  | _, _ => none
theorem con_eq (f : Ty) (R : Type) (κ : AV → List Blk → Option R) (n1 : Int) : con f R [AV.int IntKind.i64 n1] [] κ = f R n1 (fun v => κ (AV.isl IntKind.u8 none v) []) := rfl
noncomputable def M (N : Nat) : Ty := fun R n1 kr0 => m (PutBig.M N) (R := R) N n1 kr0
def gts : List (Nat × AV) := [(0, .err 1)]
theorem gok (N : Nat) : GOk (g (PutBig.M N)) := giD_ok hm (by intro p hp; cases hp) (gtL_ok (by decide)) (ovL_ok (by
    intro p hp
    simp only [List.mem_cons, List.not_mem_nil, or_false] at hp
    rcases hp with rfl
    · exact ⟨(PutBig.ok N).gt (gtL_sub (by repeat (first | exact subG_nil _ | refine subG_cons (by kernel_rfl) ?_))) (gtL_ok (by decide)), _, Tryd.func72, by kernel_rfl, by kernel_rfl⟩
)) 1
theorem ok (N : Nat) : SoundC Tryd.prog (gtL gts) 38 (con (M N)) := by
  refine SoundC.mono (evF_ok (gok N) hm an N Tryd.func38) fun R args bs κ r h => ?_
  unfold con at h
  split at h
  · exact (eq (PutBig.M N) N κ _).trans h
  · cases h
end wNum

end Go.Proofs.YthajoenmfppenaaDoor.fn
