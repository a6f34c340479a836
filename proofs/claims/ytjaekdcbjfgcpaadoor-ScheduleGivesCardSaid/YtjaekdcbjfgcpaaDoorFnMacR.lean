/- What the codes' references compute, with the proof; printed by a program. -/
import Derived.Test.YtjaekdcbjfgcpaaDoorProg
import Derived.Test.YtjaekdcbjfgcpaaDoorEv4
import Derived.Test.YtjaekdcbjfgcpaaDoorFnShaR
namespace Go.Proofs.YtjaekdcbjfgcpaaDoor.fn
open Go Go.Proofs Go.Ev

/-! ### Tryd.f24: m4Sum -/
namespace m4Sum
def an : Anns := ⟨fun i => findA i [(6, ⟨[0, 1, 4, 6, 7, 8], [⟨4, 0, T.int IntKind.u8, none⟩, ⟨6, 1, T.int IntKind.u8, none⟩, ⟨7, 2, T.int IntKind.u8, none⟩], 3, [.frz 0 (.int .u8)]⟩)], fun i => findA i [], false, fun _ => none, [.frz 0 (.int .u8)]⟩
noncomputable def g (mrSum : rSum.Ty) : Gi := giD Tryd.prog (gtL []) (fun _ => an) 0 [] (ovL [(31, rSum.con mrSum)]) 1
noncomputable def c_L6 : Code := loopOf Tryd.f24 0
def s_L6 (key0 : Option Bool) (key0_1 : List Int) (b1 : Option Bool) (b1_3 : List Int) (i8 : Int) (h1 : List Int) (h2 : List Int) : St := ⟨[AV.isl IntKind.u8 key0 key0_1, AV.isl IntKind.u8 b1 b1_3, AV.dead, AV.dead, AV.ptr 0 [], AV.dead, AV.own 1 [] 0 none, AV.own 2 [] 0 none, AV.int IntKind.i64 i8] ++ List.replicate 40 .dead, [Blk.var (AV.ints IntKind.u8 32 [0, 0, 0, 0, 0, 0, 0, 0, 0, 0, 0, 0, 0, 0, 0, 0, 0, 0, 0, 0, 0, 0, 0, 0, 0, 0, 0, 0, 0, 0, 0, 0]), Blk.row IntKind.u8 false h1, Blk.row IntKind.u8 false h2]⟩
def x_L6_0 (key0 : Option Bool) (key0_1 : List Int) (b1 : Option Bool) (b1_3 : List Int) (i8 : Int) (h1 : List Int) (h2 : List Int) : St := ⟨[AV.isl IntKind.u8 key0 key0_1, AV.isl IntKind.u8 b1 b1_3, AV.dead, AV.dead, AV.ptr 0 [], AV.dead, AV.own 1 [] 0 none, AV.own 2 [] 0 none, AV.int IntKind.i64 i8] ++ List.replicate 10 .dead ++ [AV.int IntKind.i64 i8, AV.bool (decide (i8 < 64))] ++ List.replicate 28 .dead, [Blk.var (AV.ints IntKind.u8 32 [0, 0, 0, 0, 0, 0, 0, 0, 0, 0, 0, 0, 0, 0, 0, 0, 0, 0, 0, 0, 0, 0, 0, 0, 0, 0, 0, 0, 0, 0, 0, 0]), Blk.row IntKind.u8 false h1, Blk.row IntKind.u8 false h2]⟩
noncomputable def L6 (mrSum : rSum.Ty) {R : Type} (N : Nat) (ke0 : (Option Bool) → (List Int) → (Option Bool) → (List Int) → Int → (List Int) → (List Int) → Option R) : Nat → (Option Bool) → (List Int) → (Option Bool) → (List Int) → Int → (List Int) → (List Int) → Option R
  | 0, _, _, _, _, _, _, _ => none
  | m + 1, key0, key0_1, b1, b1_3, i8, h1, h2 =>
    cond (decide (i8 < 64))
     (cond (decide (i8 < (↑key0_1.length : Int)))
      (cond (decide (0 ≤ i8))
       (cond (decide (i8 < (↑key0_1.length : Int)))
        (cond (decide (0 ≤ i8))
         (cond (decide (i8 < (↑(olen none h1.length 0) : Int)))
          (cond (decide (0 ≤ i8))
           (cond (decide (i8 < (↑(olen none h2.length 0) : Int)))
            (L6 mrSum N ke0 m key0 key0_1 b1 b1_3 (IntKind.i64.wrap (i8 + 1)) (h1.set (0 + i8.toNat) (ixor IntKind.u8 (key0_1.getD i8.toNat 0) 54)) (h2.set (0 + i8.toNat) (ixor IntKind.u8 (key0_1.getD i8.toNat 0) 92)))
            none)
           none)
          none)
         none)
        none)
       none)
      (cond (decide (0 ≤ i8))
       (cond (decide (i8 < (↑(olen none h1.length 0) : Int)))
        (cond (decide (0 ≤ i8))
         (cond (decide (i8 < (↑(olen none h2.length 0) : Int)))
          (L6 mrSum N ke0 m key0 key0_1 b1 b1_3 (IntKind.i64.wrap (i8 + 1)) (h1.set (0 + i8.toNat) 54) (h2.set (0 + i8.toNat) 92))
          none)
         none)
        none)
       none))
     (ke0 key0 key0_1 b1 b1_3 i8 h1 h2)
theorem round_L6 (mrSum : rSum.Ty) {R : Type} (N : Nat) (Rn : St → Option R) (k : K R) (key0 : Option Bool) (key0_1 : List Int) (b1 : Option Bool) (b1_3 : List Int) (i8 : Int) (h1 : List Int) (h2 : List Int) : evC (g mrSum) an 0 N c_L6 none (roundK (nmOf 0 (an.loop 6)) Rn k) (s_L6 key0 key0_1 b1 b1_3 i8 h1 h2) =
  cond (decide (i8 < 64))
   (cond (decide (i8 < (↑key0_1.length : Int)))
    (cond (decide (0 ≤ i8))
     (cond (decide (i8 < (↑key0_1.length : Int)))
      (cond (decide (0 ≤ i8))
       (cond (decide (i8 < (↑(olen none h1.length 0) : Int)))
        (cond (decide (0 ≤ i8))
         (cond (decide (i8 < (↑(olen none h2.length 0) : Int)))
          (Rn (s_L6 key0 key0_1 b1 b1_3 (IntKind.i64.wrap (i8 + 1)) (h1.set (0 + i8.toNat) (ixor IntKind.u8 (key0_1.getD i8.toNat 0) 54)) (h2.set (0 + i8.toNat) (ixor IntKind.u8 (key0_1.getD i8.toNat 0) 92))))
          none)
         none)
        none)
       none)
      none)
     none)
    (cond (decide (0 ≤ i8))
     (cond (decide (i8 < (↑(olen none h1.length 0) : Int)))
      (cond (decide (0 ≤ i8))
       (cond (decide (i8 < (↑(olen none h2.length 0) : Int)))
        (Rn (s_L6 key0 key0_1 b1 b1_3 (IntKind.i64.wrap (i8 + 1)) (h1.set (0 + i8.toNat) 54) (h2.set (0 + i8.toNat) 92)))
        none)
       none)
      none)
     none))
   (k.ext 0 (x_L6_0 key0 key0_1 b1 b1_3 i8 h1 h2)) := by kernel_rfl
theorem run_L6 (mrSum : rSum.Ty) {R : Type} (N : Nat) (k : K R) : ∀ (m : Nat) (key0 : Option Bool) (key0_1 : List Int) (b1 : Option Bool) (b1_3 : List Int) (i8 : Int) (h1 : List Int) (h2 : List Int), loopN (evC (g mrSum) an 0 N c_L6 none) k (nmOf 0 (an.loop 6)) m (s_L6 key0 key0_1 b1 b1_3 i8 h1 h2) =
    L6 mrSum N (fun key0 key0_1 b1 b1_3 i8 h1 h2 => (k).ext 0 (x_L6_0 key0 key0_1 b1 b1_3 i8 h1 h2)) m key0 key0_1 b1 b1_3 i8 h1 h2 := by
  intro m
  induction m with
  | zero => intros; rfl
  | succ m ih =>
    intros
    rw [loopN_succ, round_L6]
    simp only [ih]
    kernel_rfl
noncomputable def m (mrSum : rSum.Ty) {R : Type} (N : Nat) (keyN1 : Option Bool) (key2 : List Int) (bN3 : Option Bool) (b4 : List Int) (kr0 : (List Int) → Option R) : Option R :=
  cond (decide ((↑key2.length : Int) > 64))
   (mrSum R keyN1 key2
    (fun v_c19 => L6 mrSum N
     (fun _key0_c20 _key0_1_c21 _b1_c22 b1_3_c23 _i8_c24 h1_c25 h2_c26 => cond (decide ((h1_c25.length + b1_3_c23.length) * 1 ≤ 140737488355328))
      (cond (decide (h1_c25.length + b1_3_c23.length ≤ 140737488355328))
       (mrSum R none (cut none 0 (h1_c25 ++ b1_3_c23))
        (fun v_c27 => cond (decide ((h2_c26.length + (cut (some 32) 0 v_c27).length) * 1 ≤ 140737488355328))
         (cond (decide (h2_c26.length + (cut (some 32) 0 v_c27).length ≤ 140737488355328))
          (mrSum R none (cut none 0 (h2_c26 ++ cut (some 32) 0 v_c27))
           (fun v_c28 => kr0 v_c28))
          none)
         none))
       none)
      none) N none (cut (some 32) 0 v_c19) bN3 b4 0 ([0, 0, 0, 0, 0, 0, 0, 0, 0, 0, 0, 0, 0, 0, 0, 0, 0, 0, 0, 0, 0, 0, 0, 0, 0, 0, 0, 0, 0, 0, 0, 0, 0, 0, 0, 0, 0, 0, 0, 0, 0, 0, 0, 0, 0, 0, 0, 0, 0, 0, 0, 0, 0, 0, 0, 0, 0, 0, 0, 0, 0, 0, 0, 0]) ([0, 0, 0, 0, 0, 0, 0, 0, 0, 0, 0, 0, 0, 0, 0, 0, 0, 0, 0, 0, 0, 0, 0, 0, 0, 0, 0, 0, 0, 0, 0, 0, 0, 0, 0, 0, 0, 0, 0, 0, 0, 0, 0, 0, 0, 0, 0, 0, 0, 0, 0, 0, 0, 0, 0, 0, 0, 0, 0, 0, 0, 0, 0, 0])))
   (L6 mrSum N
    (fun _key0_c29 _key0_1_c30 _b1_c31 b1_3_c32 _i8_c33 h1_c34 h2_c35 => cond (decide ((h1_c34.length + b1_3_c32.length) * 1 ≤ 140737488355328))
     (cond (decide (h1_c34.length + b1_3_c32.length ≤ 140737488355328))
      (mrSum R none (cut none 0 (h1_c34 ++ b1_3_c32))
       (fun v_c36 => cond (decide ((h2_c35.length + (cut (some 32) 0 v_c36).length) * 1 ≤ 140737488355328))
        (cond (decide (h2_c35.length + (cut (some 32) 0 v_c36).length ≤ 140737488355328))
         (mrSum R none (cut none 0 (h2_c35 ++ cut (some 32) 0 v_c36))
          (fun v_c37 => kr0 v_c37))
         none)
        none))
      none)
     none) N keyN1 key2 bN3 b4 0 ([0, 0, 0, 0, 0, 0, 0, 0, 0, 0, 0, 0, 0, 0, 0, 0, 0, 0, 0, 0, 0, 0, 0, 0, 0, 0, 0, 0, 0, 0, 0, 0, 0, 0, 0, 0, 0, 0, 0, 0, 0, 0, 0, 0, 0, 0, 0, 0, 0, 0, 0, 0, 0, 0, 0, 0, 0, 0, 0, 0, 0, 0, 0, 0]) ([0, 0, 0, 0, 0, 0, 0, 0, 0, 0, 0, 0, 0, 0, 0, 0, 0, 0, 0, 0, 0, 0, 0, 0, 0, 0, 0, 0, 0, 0, 0, 0, 0, 0, 0, 0, 0, 0, 0, 0, 0, 0, 0, 0, 0, 0, 0, 0, 0, 0, 0, 0, 0, 0, 0, 0, 0, 0, 0, 0, 0, 0, 0, 0]))
theorem tree (mrSum : rSum.Ty) {R : Type} (N : Nat) (κ : AV → List Blk → Option R) (keyN1 : Option Bool) (key2 : List Int) (bN3 : Option Bool) (b4 : List Int) : evF (g mrSum) an N Tryd.f24 [AV.isl IntKind.u8 keyN1 key2, AV.isl IntKind.u8 bN3 b4] [] κ =
  cond (decide ((↑key2.length : Int) > 64))
   (mrSum R keyN1 key2
    (fun v_c19 => loopN (evC (g mrSum) an 0 N c_L6 none) (ctx (g mrSum) an 0 N (bodyOf Tryd.f24) [1, 1, 1, 0, 1, 0] (endK (g mrSum) an Tryd.f24 [] κ)) (nmOf 0 (an.loop 6)) N (s_L6 none (cut (some 32) 0 v_c19) bN3 b4 0 ([0, 0, 0, 0, 0, 0, 0, 0, 0, 0, 0, 0, 0, 0, 0, 0, 0, 0, 0, 0, 0, 0, 0, 0, 0, 0, 0, 0, 0, 0, 0, 0, 0, 0, 0, 0, 0, 0, 0, 0, 0, 0, 0, 0, 0, 0, 0, 0, 0, 0, 0, 0, 0, 0, 0, 0, 0, 0, 0, 0, 0, 0, 0, 0]) ([0, 0, 0, 0, 0, 0, 0, 0, 0, 0, 0, 0, 0, 0, 0, 0, 0, 0, 0, 0, 0, 0, 0, 0, 0, 0, 0, 0, 0, 0, 0, 0, 0, 0, 0, 0, 0, 0, 0, 0, 0, 0, 0, 0, 0, 0, 0, 0, 0, 0, 0, 0, 0, 0, 0, 0, 0, 0, 0, 0, 0, 0, 0, 0]))))
   (loopN (evC (g mrSum) an 0 N c_L6 none) (ctx (g mrSum) an 0 N (bodyOf Tryd.f24) [1, 1, 1, 0, 1, 0] (endK (g mrSum) an Tryd.f24 [] κ)) (nmOf 0 (an.loop 6)) N (s_L6 keyN1 key2 bN3 b4 0 ([0, 0, 0, 0, 0, 0, 0, 0, 0, 0, 0, 0, 0, 0, 0, 0, 0, 0, 0, 0, 0, 0, 0, 0, 0, 0, 0, 0, 0, 0, 0, 0, 0, 0, 0, 0, 0, 0, 0, 0, 0, 0, 0, 0, 0, 0, 0, 0, 0, 0, 0, 0, 0, 0, 0, 0, 0, 0, 0, 0, 0, 0, 0, 0]) ([0, 0, 0, 0, 0, 0, 0, 0, 0, 0, 0, 0, 0, 0, 0, 0, 0, 0, 0, 0, 0, 0, 0, 0, 0, 0, 0, 0, 0, 0, 0, 0, 0, 0, 0, 0, 0, 0, 0, 0, 0, 0, 0, 0, 0, 0, 0, 0, 0, 0, 0, 0, 0, 0, 0, 0, 0, 0, 0, 0, 0, 0, 0, 0]))) := by kernel_rfl
theorem eq (mrSum : rSum.Ty) {R : Type} (N : Nat) (κ : AV → List Blk → Option R) (keyN1 : Option Bool) (key2 : List Int) (bN3 : Option Bool) (b4 : List Int) : evF (g mrSum) an N Tryd.f24 [AV.isl IntKind.u8 keyN1 key2, AV.isl IntKind.u8 bN3 b4] [] κ =
  m mrSum N keyN1 key2 bN3 b4 (fun v => κ (AV.ints IntKind.u8 32 v) []) := by
  rw [tree]
  simp only [run_L6]
  kernel_rfl
abbrev Ty : Type 1 := ∀ R : Type, (Option Bool) → (List Int) → (Option Bool) → (List Int) → ((List Int) → Option R) → Option R
def con (f : Ty) : Con := fun R args bs κ => match args, bs with
  | [AV.isl IntKind.u8 keyN1 key2, AV.isl IntKind.u8 bN3 b4], [] => f R keyN1 key2 bN3 b4 (fun v => κ (AV.ints IntKind.u8 32 v) [])
  | _, _ => none
theorem con_eq (f : Ty) (R : Type) (κ : AV → List Blk → Option R) (keyN1 : Option Bool) (key2 : List Int) (bN3 : Option Bool) (b4 : List Int) : con f R [AV.isl IntKind.u8 keyN1 key2, AV.isl IntKind.u8 bN3 b4] [] κ = f R keyN1 key2 bN3 b4 (fun v => κ (AV.ints IntKind.u8 32 v) []) := rfl
noncomputable def M (N : Nat) : Ty := fun R keyN1 key2 bN3 b4 kr0 => m (rSum.M N) (R := R) N keyN1 key2 bN3 b4 kr0
def gts : List (Nat × AV) := []
theorem gok (N : Nat) : GOk (g (rSum.M N)) := giD_ok hm (by intro p hp; cases hp) (gtL_ok (by decide)) (ovL_ok (by
    intro p hp
    simp only [List.mem_cons, List.not_mem_nil, or_false] at hp
    rcases hp with rfl
    · exact ⟨(rSum.ok N).gt (gtL_sub (by repeat (first | exact subG_nil _ | refine subG_cons (by kernel_rfl) ?_))) (gtL_ok (by decide)), _, Tryd.func31, by kernel_rfl, by kernel_rfl⟩
)) 1
theorem ok (N : Nat) : SoundC Tryd.prog (gtL gts) 24 (con (M N)) := by
  refine SoundC.mono (evF_ok (gok N) hm an N Tryd.func24) fun R args bs κ r h => ?_
  unfold con at h
  split at h
  · exact (eq (rSum.M N) N κ _ _ _ _).trans h
  · cases h
end m4Sum

end Go.Proofs.YtjaekdcbjfgcpaaDoor.fn
