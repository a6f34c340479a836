/- What a law of rows of texts computes, with the proof; printed by a program. -/
import Derived.Test.YtbliikcgcgalmaaDoorProg
import Derived.Test.YtbliikcgcgalmaaDoorEv4
import Derived.Test.YtbliikcgcgalmaaDoorFnWireL
namespace Go.Proofs.YtbliikcgcgalmaaDoor.fn
open Go Go.Proofs Go.Ev

/-! ### Tryd.f3: WireWithin -/
namespace WireWithin
def an : Anns := ⟨fun i => findA i [(6, ⟨[0, 1, 30, 31, 32], [⟨30, 0, T.sl IntKind.u8, none⟩], 1, []⟩)], fun i => findA i [], false, fun _ => none, []⟩
noncomputable def g (malive16 : alive16.Ty) (mwRow : wRow.Ty) (mSameLists : SameLists.Ty) (mwExactly : wExactly.Ty) (mwUnrow : wUnrow.Ty) : Gi := giD Tryd.prog (gtL [(0, .err 3), (1, .err 4), (2, .err 2), (3, .err 1)]) (fun _ => an) 0 [] (ovL [(10, alive16.con malive16), (11, wRow.con mwRow), (12, SameLists.con mSameLists), (13, wExactly.con mwExactly), (14, wUnrow.con mwUnrow)]) 1
noncomputable def c_L6 : Code := loopOf Tryd.f3 0
def s_L6 (a0 : List (List Int)) (b1 : List (List Int)) (t31 : Int) (t32 : Int) (h0 : Bool) (h0_5 : List (List Int)) : St := ⟨[AV.rsl IntKind.u8 a0, AV.rsl IntKind.u8 b1] ++ List.replicate 28 .dead ++ [AV.own 0 [] 0 none, AV.int IntKind.i64 t31, AV.int IntKind.i64 t32] ++ List.replicate 75 .dead, [Blk.gro (T.sl IntKind.u8) h0 h0_5]⟩
def x_L6_0 (a0 : List (List Int)) (b1 : List (List Int)) (t31 : Int) (t32 : Int) (h0 : Bool) (h0_5 : List (List Int)) : St := ⟨[AV.rsl IntKind.u8 a0, AV.rsl IntKind.u8 b1, AV.dead, AV.dead, AV.bool true, AV.dead, AV.isl IntKind.u8 none (h0_5.getD (0 + t32.toNat) [])] ++ List.replicate 23 .dead ++ [AV.own 0 [] 0 none, AV.int IntKind.i64 t31, AV.int IntKind.i64 t32, AV.bool (decide (t32 < t31)), AV.ptr 0 [0 + t32.toNat], AV.isl IntKind.u8 none (h0_5.getD (0 + t32.toNat) []), AV.isl IntKind.u8 none (h0_5.getD (0 + t32.toNat) []), AV.int IntKind.i64 (↑(h0_5.getD (0 + t32.toNat) []).length : Int), AV.bool (decide ((↑(h0_5.getD (0 + t32.toNat) []).length : Int) > 300))] ++ List.replicate 69 .dead, [Blk.gro (T.sl IntKind.u8) h0 h0_5]⟩
def x_L6_1 (a0 : List (List Int)) (b1 : List (List Int)) (t31 : Int) (t32 : Int) (h0 : Bool) (h0_5 : List (List Int)) : St := ⟨[AV.rsl IntKind.u8 a0, AV.rsl IntKind.u8 b1] ++ List.replicate 28 .dead ++ [AV.own 0 [] 0 none, AV.int IntKind.i64 t31, AV.int IntKind.i64 t32, AV.bool (decide (t32 < t31))] ++ List.replicate 74 .dead, [Blk.gro (T.sl IntKind.u8) h0 h0_5]⟩
noncomputable def L6 (malive16 : alive16.Ty) (mwRow : wRow.Ty) (mSameLists : SameLists.Ty) (mwExactly : wExactly.Ty) (mwUnrow : wUnrow.Ty) {R : Type} (N : Nat) (ke0 : (List (List Int)) → (List (List Int)) → Int → Int → Bool → (List (List Int)) → Option R) (ke1 : (List (List Int)) → (List (List Int)) → Int → Int → Bool → (List (List Int)) → Option R) : Nat → (List (List Int)) → (List (List Int)) → Int → Int → Bool → (List (List Int)) → Option R
  | 0, _, _, _, _, _, _ => none
  | m + 1, a0, b1, t31, t32, h0, h0_5 =>
    cond (decide (t32 < t31))
     (cond (decide (0 ≤ t32))
      (cond (decide (t32 < (↑(olen none h0_5.length 0) : Int)))
       (cond (decide ((↑(h0_5.getD (0 + t32.toNat) []).length : Int) > 300))
        (ke0 a0 b1 t31 t32 h0 h0_5)
        (L6 malive16 mwRow mSameLists mwExactly mwUnrow N ke0 ke1 m a0 b1 t31 (IntKind.i64.wrap (t32 + 1)) h0 h0_5))
       (none))
      (none))
     (ke1 a0 b1 t31 t32 h0 h0_5)
theorem round_L6 (malive16 : alive16.Ty) (mwRow : wRow.Ty) (mSameLists : SameLists.Ty) (mwExactly : wExactly.Ty) (mwUnrow : wUnrow.Ty) {R : Type} (N : Nat) (Rn : St → Option R) (k : K R) (a0 : List (List Int)) (b1 : List (List Int)) (t31 : Int) (t32 : Int) (h0 : Bool) (h0_5 : List (List Int)) : evC (g malive16 mwRow mSameLists mwExactly mwUnrow) an 0 N c_L6 none (roundK (nmOf 0 (an.loop 6)) Rn k) (s_L6 a0 b1 t31 t32 h0 h0_5) =
  cond (decide (t32 < t31))
   (cond (decide (0 ≤ t32))
    (cond (decide (t32 < (↑(olen none h0_5.length 0) : Int)))
     (cond (decide ((↑(h0_5.getD (0 + t32.toNat) []).length : Int) > 300))
      (k.ret (x_L6_0 a0 b1 t31 t32 h0 h0_5))
      (Rn (s_L6 a0 b1 t31 (IntKind.i64.wrap (t32 + 1)) h0 h0_5)))
     (none))
    (none))
   (k.ext 0 (x_L6_1 a0 b1 t31 t32 h0 h0_5)) := by kernel_rfl
theorem run_L6 (malive16 : alive16.Ty) (mwRow : wRow.Ty) (mSameLists : SameLists.Ty) (mwExactly : wExactly.Ty) (mwUnrow : wUnrow.Ty) {R : Type} (N : Nat) (k : K R) : ∀ (m : Nat) (a0 : List (List Int)) (b1 : List (List Int)) (t31 : Int) (t32 : Int) (h0 : Bool) (h0_5 : List (List Int)), loopN (evC (g malive16 mwRow mSameLists mwExactly mwUnrow) an 0 N c_L6 none) k (nmOf 0 (an.loop 6)) m (s_L6 a0 b1 t31 t32 h0 h0_5) =
    L6 malive16 mwRow mSameLists mwExactly mwUnrow N (fun a0 b1 t31 t32 h0 h0_5 => (k).ret (x_L6_0 a0 b1 t31 t32 h0 h0_5)) (fun a0 b1 t31 t32 h0 h0_5 => (k).ext 0 (x_L6_1 a0 b1 t31 t32 h0 h0_5)) m a0 b1 t31 t32 h0 h0_5 := by
  intro m
  induction m with
  | zero => intros; rfl
  | succ m ih =>
    intros
    rw [loopN_succ, round_L6]
    simp only [ih]
    kernel_rfl
noncomputable def m (malive16 : alive16.Ty) (mwRow : wRow.Ty) (mSameLists : SameLists.Ty) (mwExactly : wExactly.Ty) (mwUnrow : wUnrow.Ty) {R : Type} (N : Nat) (a1 : List (List Int)) (b2 : List (List Int)) (kr0 : Bool → Option R) : Option R :=
  malive16 R
   (fun v_c3 => cond (!v_c3)
    (kr0 false)
    (cond (decide ((↑a1.length : Int) > 30))
     (kr0 true)
     (cond (decide ((↑b2.length : Int) > 30))
      (kr0 true)
      (cond (decide ((0 + a1.length) * 24 ≤ 140737488355328))
       (cond (decide (0 + a1.length ≤ 140737488355328))
        (cond (decide ((a1.length + b2.length) * 24 ≤ 140737488355328))
         (cond (decide (a1.length + b2.length ≤ 140737488355328))
          (L6 malive16 mwRow mSameLists mwExactly mwUnrow N
           (fun _a0_c4 _b1_c5 _t31_c6 _t32_c7 _h0_c8 _h0_5_c9 => kr0 true)
           (fun a0_c10 b1_c11 _t31_c12 _t32_c13 _h0_c14 _h0_5_c15 => mwRow R a0_c10
            (fun _v_c16 v_1_c17 v_2_c18 => mwRow R b1_c11
             (fun _v_c19 v_1_c20 v_2_c21 => mwRow R ([v_1_c17, v_1_c20])
              (fun v_c22 v_1_c23 v_2_c24 => cond (!v_2_c18.beq 0)
               (kr0 false)
               (cond (!v_2_c21.beq 0)
                (kr0 false)
                (cond (!v_2_c24.beq 0)
                 (kr0 false)
                 (mSameLists R a0_c10 b1_c11
                  (fun v_c25 => cond (!(toStr v_1_c17 == toStr v_1_c20) == v_c25)
                   (kr0 false)
                   (mwExactly R v_c22 v_1_c23 2
                    (fun v_c26 v_1_c27 => cond (!v_1_c27.beq 0)
                     (kr0 false)
                     (cond (decide (0 < (↑v_c26.length : Int)))
                      (cond (!toStr (v_c26.getD 0 []) == toStr v_1_c17)
                       (kr0 false)
                       (cond (decide (1 < (↑v_c26.length : Int)))
                        (mwUnrow R none (v_c26.getD 1 [])
                         (fun v_c28 v_1_c29 => cond (v_1_c29.beq 0)
                          (mSameLists R v_c28 b1_c11
                           (fun v_c30 => kr0 v_c30))
                          (kr0 false)))
                        (none)))
                      (none)))))))))))) N a1 b2 ((↑(olen none (a1 ++ b2).length 0) : Int)) 0 (b2.isEmpty && (a1.isEmpty && true)) (a1 ++ b2))
          (none))
         (none))
        (none))
       (none)))))
theorem tree (malive16 : alive16.Ty) (mwRow : wRow.Ty) (mSameLists : SameLists.Ty) (mwExactly : wExactly.Ty) (mwUnrow : wUnrow.Ty) {R : Type} (N : Nat) (κ : AV → List Blk → Option R) (a1 : List (List Int)) (b2 : List (List Int)) : evF (g malive16 mwRow mSameLists mwExactly mwUnrow) an N Tryd.f3 [AV.rsl IntKind.u8 a1, AV.rsl IntKind.u8 b2] [] κ =
  malive16 R
   (fun v_c3 => cond (!v_c3)
    (κ (AV.bool false) [])
    (cond (decide ((↑a1.length : Int) > 30))
     (κ (AV.bool true) [])
     (cond (decide ((↑b2.length : Int) > 30))
      (κ (AV.bool true) [])
      (cond (decide ((0 + a1.length) * 24 ≤ 140737488355328))
       (cond (decide (0 + a1.length ≤ 140737488355328))
        (cond (decide ((a1.length + b2.length) * 24 ≤ 140737488355328))
         (cond (decide (a1.length + b2.length ≤ 140737488355328))
          (loopN (evC (g malive16 mwRow mSameLists mwExactly mwUnrow) an 0 N c_L6 none) (ctx (g malive16 mwRow mSameLists mwExactly mwUnrow) an 0 N (bodyOf Tryd.f3) [1, 1, 1, 0, 1, 0] (endK (g malive16 mwRow mSameLists mwExactly mwUnrow) an Tryd.f3 [] κ)) (nmOf 0 (an.loop 6)) N (s_L6 a1 b2 ((↑(olen none (a1 ++ b2).length 0) : Int)) 0 (b2.isEmpty && (a1.isEmpty && true)) (a1 ++ b2)))
          (none))
         (none))
        (none))
       (none))))) := by kernel_rfl
theorem eq (malive16 : alive16.Ty) (mwRow : wRow.Ty) (mSameLists : SameLists.Ty) (mwExactly : wExactly.Ty) (mwUnrow : wUnrow.Ty) {R : Type} (N : Nat) (κ : AV → List Blk → Option R) (a1 : List (List Int)) (b2 : List (List Int)) : evF (g malive16 mwRow mSameLists mwExactly mwUnrow) an N Tryd.f3 [AV.rsl IntKind.u8 a1, AV.rsl IntKind.u8 b2] [] κ =
  m malive16 mwRow mSameLists mwExactly mwUnrow N a1 b2 (fun v => κ (AV.bool v) []) := by
  rw [tree]
  simp only [run_L6]
  kernel_rfl
abbrev Ty : Type 1 := ∀ R : Type, (List (List Int)) → (List (List Int)) → (Bool → Option R) → Option R
def con (f : Ty) : Con := fun R args bs κ => match args, bs with
  | [AV.rsl IntKind.u8 a1, AV.rsl IntKind.u8 b2], [] => f R a1 b2 (fun v => κ (AV.bool v) [])
  | _, _ => none
theorem con_eq (f : Ty) (R : Type) (κ : AV → List Blk → Option R) (a1 : List (List Int)) (b2 : List (List Int)) : con f R [AV.rsl IntKind.u8 a1, AV.rsl IntKind.u8 b2] [] κ = f R a1 b2 (fun v => κ (AV.bool v) []) := rfl
noncomputable def M (N : Nat) : Ty := fun R a1 b2 kr0 => m (alive16.M N) (wRow.M N) (SameLists.M N) (wExactly.M N) (wUnrow.M N) (R := R) N a1 b2 kr0
def gts : List (Nat × AV) := [(0, .err 3), (1, .err 4), (2, .err 2), (3, .err 1)]
theorem gok (N : Nat) : GOk (g (alive16.M N) (wRow.M N) (SameLists.M N) (wExactly.M N) (wUnrow.M N)) := giD_ok hm (by intro p hp; cases hp) (gtL_ok (by decide)) (ovL_ok (by
    intro p hp
    simp only [List.mem_cons, List.not_mem_nil, or_false] at hp
    rcases hp with rfl | rfl | rfl | rfl | rfl
    · exact ⟨(alive16.ok N).gt (gtL_sub (by repeat (first | exact subG_nil _ | refine subG_cons (by kernel_rfl) ?_))) (gtL_ok (by decide)), _, Tryd.func10, by kernel_rfl, by kernel_rfl⟩
    · exact ⟨(wRow.ok N).gt (gtL_sub (by repeat (first | exact subG_nil _ | refine subG_cons (by kernel_rfl) ?_))) (gtL_ok (by decide)), _, Tryd.func11, by kernel_rfl, by kernel_rfl⟩
    · exact ⟨(SameLists.ok N).gt (gtL_sub (by repeat (first | exact subG_nil _ | refine subG_cons (by kernel_rfl) ?_))) (gtL_ok (by decide)), _, Tryd.func12, by kernel_rfl, by kernel_rfl⟩
    · exact ⟨(wExactly.ok N).gt (gtL_sub (by repeat (first | exact subG_nil _ | refine subG_cons (by kernel_rfl) ?_))) (gtL_ok (by decide)), _, Tryd.func13, by kernel_rfl, by kernel_rfl⟩
    · exact ⟨(wUnrow.ok N).gt (gtL_sub (by repeat (first | exact subG_nil _ | refine subG_cons (by kernel_rfl) ?_))) (gtL_ok (by decide)), _, Tryd.func14, by kernel_rfl, by kernel_rfl⟩
)) 1
theorem ok (N : Nat) : SoundC Tryd.prog (gtL gts) 3 (con (M N)) := by
  refine SoundC.mono (evF_ok (gok N) hm an N Tryd.func3) fun R args bs κ r h => ?_
  unfold con at h
  split at h
  · exact (eq (alive16.M N) (wRow.M N) (SameLists.M N) (wExactly.M N) (wUnrow.M N) N κ _ _).trans h
  · cases h
end WireWithin

end Go.Proofs.YtbliikcgcgalmaaDoor.fn
