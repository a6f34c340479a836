/- What a law of places computes, with the proof; printed by a program. -/
import Derived.Test.YtbliikcgcgalmaaDoorProg
import Derived.Test.YtbliikcgcgalmaaDoorEv4
import Derived.Test.YtbliikcgcgalmaaDoorFnPlaces
namespace Go.Proofs.YtbliikcgcgalmaaDoor.fn
open Go Go.Proofs Go.Ev

/-! ### Tryd.f8: PlacesCover -/
namespace PlacesCover
def an : Anns := ⟨fun i => findA i [(11, ⟨[0, 5, 6, 34, 35, 36, 41, 42, 43], [⟨6, 0, T.bool, none⟩], 1, []⟩), (8, ⟨[0, 5, 6, 34, 35, 36], [⟨6, 0, T.bool, none⟩], 1, []⟩), (19, ⟨[0, 5, 61, 62, 63], [⟨61, 0, T.bool, none⟩], 1, []⟩)], fun i => findA i [], false, fun _ => none, []⟩
noncomputable def g (malive17 : alive17.Ty) (mCoway : Coway.Ty) (mLeaves : Leaves.Ty) (mWay : Way.Ty) (mRoot : Root.Ty) (mLevel : Level.Ty) : Gi := giD Tryd.prog (gtL [(3, .err 1), (10, .err 11), (14, .err 15)]) (fun _ => an) 0 [] (ovL [(28, alive17.con malive17), (29, Coway.con mCoway), (30, Leaves.con mLeaves), (31, Way.con mWay), (33, Root.con mRoot), (32, Level.con mLevel)]) 1
noncomputable def c_L11 : Code := loopOf Tryd.f8 1
noncomputable def c_L8 : Code := loopOf Tryd.f8 0
noncomputable def c_L19 : Code := loopOf Tryd.f8 2
def s_L11 (leaf0 : Int) (n5 : Int) (t34 : List Int) (t35 : Int) (t36 : Int) (t41 : Option Bool) (t41_6 : List Int) (t42 : Int) (t43 : Int) (h0 : List Bool) : St := ⟨[AV.int IntKind.i64 leaf0] ++ List.replicate 4 .dead ++ [AV.int IntKind.i64 n5, AV.own 0 [] 0 none] ++ List.replicate 27 .dead ++ [AV.isl IntKind.i64 none t34, AV.int IntKind.i64 t35, AV.int IntKind.i64 t36] ++ List.replicate 4 .dead ++ [AV.isl IntKind.i64 t41 t41_6, AV.int IntKind.i64 t42, AV.int IntKind.i64 t43] ++ List.replicate 48 .dead, [Blk.gro T.bool false h0]⟩
def s_L8 (leaf0v1 : Int) (n5v1 : Int) (t34v1 : List Int) (t35v1 : Int) (t36v1 : Int) (h0v1 : List Bool) : St := ⟨[AV.int IntKind.i64 leaf0v1] ++ List.replicate 4 .dead ++ [AV.int IntKind.i64 n5v1, AV.own 0 [] 0 none] ++ List.replicate 27 .dead ++ [AV.isl IntKind.i64 none t34v1, AV.int IntKind.i64 t35v1, AV.int IntKind.i64 t36v1] ++ List.replicate 55 .dead, [Blk.gro T.bool false h0v1]⟩
def s_L19 (leaf0v2 : Int) (n5v2 : Int) (t62 : Int) (t63 : Int) (h0v2 : List Bool) : St := ⟨[AV.int IntKind.i64 leaf0v2] ++ List.replicate 4 .dead ++ [AV.int IntKind.i64 n5v2] ++ List.replicate 55 .dead ++ [AV.own 0 [] 0 none, AV.int IntKind.i64 t62, AV.int IntKind.i64 t63] ++ List.replicate 28 .dead, [Blk.gro T.bool false h0v2]⟩
def x_L11_0 (leaf0 : Int) (n5 : Int) (t34 : List Int) (t35 : Int) (t36 : Int) (t41 : Option Bool) (t41_6 : List Int) (t42 : Int) (t43 : Int) (h0 : List Bool) : St := ⟨[AV.int IntKind.i64 leaf0, AV.dead, AV.dead, AV.dead, AV.bool false, AV.int IntKind.i64 n5, AV.own 0 [] 0 none, AV.dead, AV.dead, AV.dead, AV.int IntKind.i64 (t41_6.getD t43.toNat 0)] ++ List.replicate 23 .dead ++ [AV.isl IntKind.i64 none t34, AV.int IntKind.i64 t35, AV.int IntKind.i64 t36] ++ List.replicate 4 .dead ++ [AV.isl IntKind.i64 t41 t41_6, AV.int IntKind.i64 t42, AV.int IntKind.i64 t43, AV.bool (decide (t43 < t42)), AV.rpi IntKind.i64 (t41_6.getD t43.toNat 0), AV.int IntKind.i64 (t41_6.getD t43.toNat 0), AV.int IntKind.i64 (t41_6.getD t43.toNat 0), AV.int IntKind.i64 n5, AV.bool (decide (t41_6.getD t43.toNat 0 ≥ n5)), AV.bool true] ++ List.replicate 4 und ++ [AV.bool true] ++ List.replicate 36 .dead, [Blk.gro T.bool false h0]⟩
def x_L11_1 (leaf0 : Int) (n5 : Int) (t34 : List Int) (t35 : Int) (t36 : Int) (t41 : Option Bool) (t41_6 : List Int) (t42 : Int) (t43 : Int) (h0 : List Bool) : St := ⟨[AV.int IntKind.i64 leaf0, AV.dead, AV.dead, AV.dead, AV.bool false, AV.int IntKind.i64 n5, AV.own 0 [] 0 none, AV.dead, AV.dead, AV.dead, AV.int IntKind.i64 (t41_6.getD t43.toNat 0)] ++ List.replicate 23 .dead ++ [AV.isl IntKind.i64 none t34, AV.int IntKind.i64 t35, AV.int IntKind.i64 t36] ++ List.replicate 4 .dead ++ [AV.isl IntKind.i64 t41 t41_6, AV.int IntKind.i64 t42, AV.int IntKind.i64 t43, AV.bool (decide (t43 < t42)), AV.rpi IntKind.i64 (t41_6.getD t43.toNat 0), AV.int IntKind.i64 (t41_6.getD t43.toNat 0), AV.int IntKind.i64 (t41_6.getD t43.toNat 0), AV.int IntKind.i64 n5, AV.bool (decide (t41_6.getD t43.toNat 0 ≥ n5)), AV.bool false, AV.own 0 [] 0 none, AV.int IntKind.i64 (t41_6.getD t43.toNat 0), AV.ptr 0 [0 + (t41_6.getD t43.toNat 0).toNat], AV.bool (h0.getD (0 + (t41_6.getD t43.toNat 0).toNat) false), AV.bool (h0.getD (0 + (t41_6.getD t43.toNat 0).toNat) false)] ++ List.replicate 36 .dead, [Blk.gro T.bool false h0]⟩
def x_L11_2 (leaf0 : Int) (n5 : Int) (t34 : List Int) (t35 : Int) (t36 : Int) (t41 : Option Bool) (t41_6 : List Int) (t42 : Int) (t43 : Int) (h0 : List Bool) : St := ⟨[AV.int IntKind.i64 leaf0] ++ List.replicate 4 .dead ++ [AV.int IntKind.i64 n5, AV.own 0 [] 0 none] ++ List.replicate 27 .dead ++ [AV.isl IntKind.i64 none t34, AV.int IntKind.i64 t35, AV.int IntKind.i64 t36] ++ List.replicate 4 .dead ++ [AV.isl IntKind.i64 t41 t41_6, AV.int IntKind.i64 t42, AV.int IntKind.i64 t43, AV.bool (decide (t43 < t42))] ++ List.replicate 47 .dead, [Blk.gro T.bool false h0]⟩
def x_L8_0 (leaf0_c179 : Int) (n5_c180 : Int) (t34_c181 : List Int) (t35_c182 : Int) (t36_c183 : Int) (t41_c184 : Option Bool) (t41_6_c185 : List Int) (t42_c186 : Int) (t43_c187 : Int) (h0_c188 : List Bool) : St := ⟨[AV.int IntKind.i64 leaf0_c179, AV.dead, AV.dead, AV.dead, AV.bool false, AV.int IntKind.i64 n5_c180, AV.own 0 [] 0 none, AV.dead, AV.dead, AV.dead, AV.int IntKind.i64 (t41_6_c185.getD t43_c187.toNat 0)] ++ List.replicate 23 .dead ++ [AV.isl IntKind.i64 none t34_c181, AV.int IntKind.i64 t35_c182, AV.int IntKind.i64 t36_c183] ++ List.replicate 4 .dead ++ [AV.isl IntKind.i64 t41_c184 t41_6_c185, AV.int IntKind.i64 t42_c186, AV.int IntKind.i64 t43_c187, AV.bool (decide (t43_c187 < t42_c186)), AV.rpi IntKind.i64 (t41_6_c185.getD t43_c187.toNat 0), AV.int IntKind.i64 (t41_6_c185.getD t43_c187.toNat 0), AV.int IntKind.i64 (t41_6_c185.getD t43_c187.toNat 0), AV.int IntKind.i64 n5_c180, AV.bool (decide (t41_6_c185.getD t43_c187.toNat 0 ≥ n5_c180)), AV.bool true] ++ List.replicate 4 und ++ [AV.bool true] ++ List.replicate 36 .dead, [Blk.gro T.bool false h0_c188]⟩
def x_L8_1 (leaf0_c189 : Int) (n5_c190 : Int) (t34_c191 : List Int) (t35_c192 : Int) (t36_c193 : Int) (t41_c194 : Option Bool) (t41_6_c195 : List Int) (t42_c196 : Int) (t43_c197 : Int) (h0_c198 : List Bool) : St := ⟨[AV.int IntKind.i64 leaf0_c189, AV.dead, AV.dead, AV.dead, AV.bool false, AV.int IntKind.i64 n5_c190, AV.own 0 [] 0 none, AV.dead, AV.dead, AV.dead, AV.int IntKind.i64 (t41_6_c195.getD t43_c197.toNat 0)] ++ List.replicate 23 .dead ++ [AV.isl IntKind.i64 none t34_c191, AV.int IntKind.i64 t35_c192, AV.int IntKind.i64 t36_c193] ++ List.replicate 4 .dead ++ [AV.isl IntKind.i64 t41_c194 t41_6_c195, AV.int IntKind.i64 t42_c196, AV.int IntKind.i64 t43_c197, AV.bool (decide (t43_c197 < t42_c196)), AV.rpi IntKind.i64 (t41_6_c195.getD t43_c197.toNat 0), AV.int IntKind.i64 (t41_6_c195.getD t43_c197.toNat 0), AV.int IntKind.i64 (t41_6_c195.getD t43_c197.toNat 0), AV.int IntKind.i64 n5_c190, AV.bool (decide (t41_6_c195.getD t43_c197.toNat 0 ≥ n5_c190)), AV.bool false, AV.own 0 [] 0 none, AV.int IntKind.i64 (t41_6_c195.getD t43_c197.toNat 0), AV.ptr 0 [0 + (t41_6_c195.getD t43_c197.toNat 0).toNat], AV.bool (h0_c198.getD (0 + (t41_6_c195.getD t43_c197.toNat 0).toNat) false), AV.bool (h0_c198.getD (0 + (t41_6_c195.getD t43_c197.toNat 0).toNat) false)] ++ List.replicate 36 .dead, [Blk.gro T.bool false h0_c198]⟩
def x_L8_2 (leaf0v1 : Int) (n5v1 : Int) (t34v1 : List Int) (t35v1 : Int) (t36v1 : Int) (h0v1 : List Bool) : St := ⟨[AV.int IntKind.i64 leaf0v1] ++ List.replicate 4 .dead ++ [AV.int IntKind.i64 n5v1, AV.own 0 [] 0 none] ++ List.replicate 27 .dead ++ [AV.isl IntKind.i64 none t34v1, AV.int IntKind.i64 t35v1, AV.int IntKind.i64 t36v1, AV.bool (decide (t36v1 < t35v1))] ++ List.replicate 54 .dead, [Blk.gro T.bool false h0v1]⟩
def x_L19_0 (leaf0v2 : Int) (n5v2 : Int) (t62 : Int) (t63 : Int) (h0v2 : List Bool) : St := ⟨[AV.int IntKind.i64 leaf0v2, AV.dead, AV.dead, AV.dead, AV.bool false, AV.int IntKind.i64 n5v2] ++ List.replicate 6 .dead ++ [AV.bool (h0v2.getD (0 + t63.toNat) false)] ++ List.replicate 48 .dead ++ [AV.own 0 [] 0 none, AV.int IntKind.i64 t62, AV.int IntKind.i64 t63, AV.bool (decide (t63 < t62)), AV.ptr 0 [0 + t63.toNat], AV.bool (h0v2.getD (0 + t63.toNat) false), AV.bool (h0v2.getD (0 + t63.toNat) false), AV.bool !h0v2.getD (0 + t63.toNat) false] ++ List.replicate 23 .dead, [Blk.gro T.bool false h0v2]⟩
def x_L19_1 (leaf0v2 : Int) (n5v2 : Int) (t62 : Int) (t63 : Int) (h0v2 : List Bool) : St := ⟨[AV.int IntKind.i64 leaf0v2] ++ List.replicate 4 .dead ++ [AV.int IntKind.i64 n5v2] ++ List.replicate 55 .dead ++ [AV.own 0 [] 0 none, AV.int IntKind.i64 t62, AV.int IntKind.i64 t63, AV.bool (decide (t63 < t62))] ++ List.replicate 27 .dead, [Blk.gro T.bool false h0v2]⟩
noncomputable def L11 (malive17 : alive17.Ty) (mCoway : Coway.Ty) (mLeaves : Leaves.Ty) (mWay : Way.Ty) (mRoot : Root.Ty) (mLevel : Level.Ty) {R : Type} (N : Nat) (ke0 : Int → Int → (List Int) → Int → Int → (Option Bool) → (List Int) → Int → Int → (List Bool) → Option R) (ke1 : Int → Int → (List Int) → Int → Int → (Option Bool) → (List Int) → Int → Int → (List Bool) → Option R) (ke2 : Int → Int → (List Int) → Int → Int → (Option Bool) → (List Int) → Int → Int → (List Bool) → Option R) : Nat → Int → Int → (List Int) → Int → Int → (Option Bool) → (List Int) → Int → Int → (List Bool) → Option R
  | 0, _, _, _, _, _, _, _, _, _, _ => none
  | m + 1, leaf0, n5, t34, t35, t36, t41, t41_6, t42, t43, h0 =>
    cond (decide (t43 < t42))
     (cond (decide (0 ≤ t43))
      (cond (decide (t43 < (↑t41_6.length : Int)))
       (cond (decide (t41_6.getD t43.toNat 0 ≥ n5))
        (ke0 leaf0 n5 t34 t35 t36 t41 t41_6 t42 t43 h0)
        (cond (decide (0 ≤ t41_6.getD t43.toNat 0))
         (cond (decide (t41_6.getD t43.toNat 0 < (↑(olen none h0.length 0) : Int)))
          (cond (h0.getD (0 + (t41_6.getD t43.toNat 0).toNat) false)
           (ke1 leaf0 n5 t34 t35 t36 t41 t41_6 t42 t43 h0)
           (cond (decide (0 ≤ t41_6.getD t43.toNat 0))
            (cond (decide (t41_6.getD t43.toNat 0 < (↑(olen none h0.length 0) : Int)))
             (L11 malive17 mCoway mLeaves mWay mRoot mLevel N ke0 ke1 ke2 m leaf0 n5 t34 t35 t36 t41 t41_6 t42 (IntKind.i64.wrap (t43 + 1)) (h0.set (0 + (t41_6.getD t43.toNat 0).toNat) true))
             (none))
            (none)))
          (none))
         (none)))
       (none))
      (none))
     (ke2 leaf0 n5 t34 t35 t36 t41 t41_6 t42 t43 h0)
theorem round_L11 (malive17 : alive17.Ty) (mCoway : Coway.Ty) (mLeaves : Leaves.Ty) (mWay : Way.Ty) (mRoot : Root.Ty) (mLevel : Level.Ty) {R : Type} (N : Nat) (Rn : St → Option R) (k : K R) (leaf0 : Int) (n5 : Int) (t34 : List Int) (t35 : Int) (t36 : Int) (t41 : Option Bool) (t41_6 : List Int) (t42 : Int) (t43 : Int) (h0 : List Bool) : evC (g malive17 mCoway mLeaves mWay mRoot mLevel) an 0 N c_L11 none (roundK (nmOf 0 (an.loop 11)) Rn k) (s_L11 leaf0 n5 t34 t35 t36 t41 t41_6 t42 t43 h0) =
  cond (decide (t43 < t42))
   (cond (decide (0 ≤ t43))
    (cond (decide (t43 < (↑t41_6.length : Int)))
     (cond (decide (t41_6.getD t43.toNat 0 ≥ n5))
      (k.ret (x_L11_0 leaf0 n5 t34 t35 t36 t41 t41_6 t42 t43 h0))
      (cond (decide (0 ≤ t41_6.getD t43.toNat 0))
       (cond (decide (t41_6.getD t43.toNat 0 < (↑(olen none h0.length 0) : Int)))
        (cond (h0.getD (0 + (t41_6.getD t43.toNat 0).toNat) false)
         (k.ret (x_L11_1 leaf0 n5 t34 t35 t36 t41 t41_6 t42 t43 h0))
         (cond (decide (0 ≤ t41_6.getD t43.toNat 0))
          (cond (decide (t41_6.getD t43.toNat 0 < (↑(olen none h0.length 0) : Int)))
           (Rn (s_L11 leaf0 n5 t34 t35 t36 t41 t41_6 t42 (IntKind.i64.wrap (t43 + 1)) (h0.set (0 + (t41_6.getD t43.toNat 0).toNat) true)))
           (none))
          (none)))
        (none))
       (none)))
     (none))
    (none))
   (k.ext 2 (x_L11_2 leaf0 n5 t34 t35 t36 t41 t41_6 t42 t43 h0)) := by kernel_rfl
theorem run_L11 (malive17 : alive17.Ty) (mCoway : Coway.Ty) (mLeaves : Leaves.Ty) (mWay : Way.Ty) (mRoot : Root.Ty) (mLevel : Level.Ty) {R : Type} (N : Nat) (k : K R) : ∀ (m : Nat) (leaf0 : Int) (n5 : Int) (t34 : List Int) (t35 : Int) (t36 : Int) (t41 : Option Bool) (t41_6 : List Int) (t42 : Int) (t43 : Int) (h0 : List Bool), loopN (evC (g malive17 mCoway mLeaves mWay mRoot mLevel) an 0 N c_L11 none) k (nmOf 0 (an.loop 11)) m (s_L11 leaf0 n5 t34 t35 t36 t41 t41_6 t42 t43 h0) =
    L11 malive17 mCoway mLeaves mWay mRoot mLevel N (fun leaf0 n5 t34 t35 t36 t41 t41_6 t42 t43 h0 => (k).ret (x_L11_0 leaf0 n5 t34 t35 t36 t41 t41_6 t42 t43 h0)) (fun leaf0 n5 t34 t35 t36 t41 t41_6 t42 t43 h0 => (k).ret (x_L11_1 leaf0 n5 t34 t35 t36 t41 t41_6 t42 t43 h0)) (fun leaf0 n5 t34 t35 t36 t41 t41_6 t42 t43 h0 => (k).ext 2 (x_L11_2 leaf0 n5 t34 t35 t36 t41 t41_6 t42 t43 h0)) m leaf0 n5 t34 t35 t36 t41 t41_6 t42 t43 h0 := by
  intro m
  induction m with
  | zero => intros; rfl
  | succ m ih =>
    intros
    rw [loopN_succ, round_L11]
    simp only [ih]
    kernel_rfl
noncomputable def L8 (malive17 : alive17.Ty) (mCoway : Coway.Ty) (mLeaves : Leaves.Ty) (mWay : Way.Ty) (mRoot : Root.Ty) (mLevel : Level.Ty) {R : Type} (N : Nat) (ke0 : Int → Int → (List Int) → Int → Int → (Option Bool) → (List Int) → Int → Int → (List Bool) → Option R) (ke1 : Int → Int → (List Int) → Int → Int → (Option Bool) → (List Int) → Int → Int → (List Bool) → Option R) (ke2 : Int → Int → (List Int) → Int → Int → (List Bool) → Option R) : Nat → Int → Int → (List Int) → Int → Int → (List Bool) → Option R
  | 0, _, _, _, _, _, _ => none
  | m + 1, leaf0v1, n5v1, t34v1, t35v1, t36v1, h0v1 =>
    cond (decide (t36v1 < t35v1))
     (cond (decide (0 ≤ t36v1))
      (cond (decide (t36v1 < (↑t34v1.length : Int)))
       (mLeaves R (t34v1.getD t36v1.toNat 0)
        (fun v_c177 v_1_c178 => L11 malive17 mCoway mLeaves mWay mRoot mLevel N
         (fun leaf0_c179 n5_c180 t34_c181 t35_c182 t36_c183 t41_c184 t41_6_c185 t42_c186 t43_c187 h0_c188 => ke0 leaf0_c179 n5_c180 t34_c181 t35_c182 t36_c183 t41_c184 t41_6_c185 t42_c186 t43_c187 h0_c188)
         (fun leaf0_c189 n5_c190 t34_c191 t35_c192 t36_c193 t41_c194 t41_6_c195 t42_c196 t43_c197 h0_c198 => ke1 leaf0_c189 n5_c190 t34_c191 t35_c192 t36_c193 t41_c194 t41_6_c195 t42_c196 t43_c197 h0_c198)
         (fun leaf0_c199 n5_c200 t34_c201 t35_c202 t36_c203 _t41_c204 _t41_6_c205 _t42_c206 _t43_c207 h0_c208 => L8 malive17 mCoway mLeaves mWay mRoot mLevel N ke0 ke1 ke2 m leaf0_c199 n5_c200 t34_c201 t35_c202 (IntKind.i64.wrap (t36_c203 + 1)) h0_c208) N leaf0v1 n5v1 t34v1 t35v1 t36v1 v_c177 v_1_c178 ((↑v_1_c178.length : Int)) 0 h0v1))
       (none))
      (none))
     (ke2 leaf0v1 n5v1 t34v1 t35v1 t36v1 h0v1)
theorem round_L8 (malive17 : alive17.Ty) (mCoway : Coway.Ty) (mLeaves : Leaves.Ty) (mWay : Way.Ty) (mRoot : Root.Ty) (mLevel : Level.Ty) {R : Type} (N : Nat) (Rn : St → Option R) (k : K R) (leaf0v1 : Int) (n5v1 : Int) (t34v1 : List Int) (t35v1 : Int) (t36v1 : Int) (h0v1 : List Bool) : evC (g malive17 mCoway mLeaves mWay mRoot mLevel) an 0 N c_L8 none (roundK (nmOf 0 (an.loop 8)) Rn k) (s_L8 leaf0v1 n5v1 t34v1 t35v1 t36v1 h0v1) =
  cond (decide (t36v1 < t35v1))
   (cond (decide (0 ≤ t36v1))
    (cond (decide (t36v1 < (↑t34v1.length : Int)))
     (mLeaves R (t34v1.getD t36v1.toNat 0)
      (fun v_c177 v_1_c178 => loopN (evC (g malive17 mCoway mLeaves mWay mRoot mLevel) an 0 N c_L11 none) (ctx (g malive17 mCoway mLeaves mWay mRoot mLevel) an 0 N c_L8 [1, 1, 0, 0, 1, 1, 0] (roundK (nmOf 0 (an.loop 8)) Rn k)) (nmOf 0 (an.loop 11)) N (s_L11 leaf0v1 n5v1 t34v1 t35v1 t36v1 v_c177 v_1_c178 ((↑v_1_c178.length : Int)) 0 h0v1)))
     (none))
    (none))
   (k.ext 0 (x_L8_2 leaf0v1 n5v1 t34v1 t35v1 t36v1 h0v1)) := by kernel_rfl
theorem round_L8_e0 (malive17 : alive17.Ty) (mCoway : Coway.Ty) (mLeaves : Leaves.Ty) (mWay : Way.Ty) (mRoot : Root.Ty) (mLevel : Level.Ty) {R : Type} (N : Nat) (Rn : St → Option R) (k : K R) (leaf0_c199 : Int) (n5_c200 : Int) (t34_c201 : List Int) (t35_c202 : Int) (t36_c203 : Int) (t41_c204 : Option Bool) (t41_6_c205 : List Int) (t42_c206 : Int) (t43_c207 : Int) (h0_c208 : List Bool) : (ctx (g malive17 mCoway mLeaves mWay mRoot mLevel) an 0 N c_L8 [1, 1, 0, 0, 1, 1, 0] (roundK (nmOf 0 (an.loop 8)) Rn k)).ext 2 (x_L11_2 leaf0_c199 n5_c200 t34_c201 t35_c202 t36_c203 t41_c204 t41_6_c205 t42_c206 t43_c207 h0_c208) =
  Rn (s_L8 leaf0_c199 n5_c200 t34_c201 t35_c202 (IntKind.i64.wrap (t36_c203 + 1)) h0_c208) := by kernel_rfl
theorem run_L8 (malive17 : alive17.Ty) (mCoway : Coway.Ty) (mLeaves : Leaves.Ty) (mWay : Way.Ty) (mRoot : Root.Ty) (mLevel : Level.Ty) {R : Type} (N : Nat) (k : K R) : ∀ (m : Nat) (leaf0v1 : Int) (n5v1 : Int) (t34v1 : List Int) (t35v1 : Int) (t36v1 : Int) (h0v1 : List Bool), loopN (evC (g malive17 mCoway mLeaves mWay mRoot mLevel) an 0 N c_L8 none) k (nmOf 0 (an.loop 8)) m (s_L8 leaf0v1 n5v1 t34v1 t35v1 t36v1 h0v1) =
    L8 malive17 mCoway mLeaves mWay mRoot mLevel N (fun leaf0_c179 n5_c180 t34_c181 t35_c182 t36_c183 t41_c184 t41_6_c185 t42_c186 t43_c187 h0_c188 => (k).ret (x_L8_0 leaf0_c179 n5_c180 t34_c181 t35_c182 t36_c183 t41_c184 t41_6_c185 t42_c186 t43_c187 h0_c188)) (fun leaf0_c189 n5_c190 t34_c191 t35_c192 t36_c193 t41_c194 t41_6_c195 t42_c196 t43_c197 h0_c198 => (k).ret (x_L8_1 leaf0_c189 n5_c190 t34_c191 t35_c192 t36_c193 t41_c194 t41_6_c195 t42_c196 t43_c197 h0_c198)) (fun leaf0v1 n5v1 t34v1 t35v1 t36v1 h0v1 => (k).ext 0 (x_L8_2 leaf0v1 n5v1 t34v1 t35v1 t36v1 h0v1)) m leaf0v1 n5v1 t34v1 t35v1 t36v1 h0v1 := by
  intro m
  induction m with
  | zero => intros; rfl
  | succ m ih =>
    intros
    rw [loopN_succ, round_L8]
    simp only [run_L11, round_L8_e0, ih]
    kernel_rfl
noncomputable def L19 (malive17 : alive17.Ty) (mCoway : Coway.Ty) (mLeaves : Leaves.Ty) (mWay : Way.Ty) (mRoot : Root.Ty) (mLevel : Level.Ty) {R : Type} (N : Nat) (ke0 : Int → Int → Int → Int → (List Bool) → Option R) (ke1 : Int → Int → Int → Int → (List Bool) → Option R) : Nat → Int → Int → Int → Int → (List Bool) → Option R
  | 0, _, _, _, _, _ => none
  | m + 1, leaf0v2, n5v2, t62, t63, h0v2 =>
    cond (decide (t63 < t62))
     (cond (decide (0 ≤ t63))
      (cond (decide (t63 < (↑(olen none h0v2.length 0) : Int)))
       (cond (!h0v2.getD (0 + t63.toNat) false)
        (ke0 leaf0v2 n5v2 t62 t63 h0v2)
        (L19 malive17 mCoway mLeaves mWay mRoot mLevel N ke0 ke1 m leaf0v2 n5v2 t62 (IntKind.i64.wrap (t63 + 1)) h0v2))
       (none))
      (none))
     (ke1 leaf0v2 n5v2 t62 t63 h0v2)
theorem round_L19 (malive17 : alive17.Ty) (mCoway : Coway.Ty) (mLeaves : Leaves.Ty) (mWay : Way.Ty) (mRoot : Root.Ty) (mLevel : Level.Ty) {R : Type} (N : Nat) (Rn : St → Option R) (k : K R) (leaf0v2 : Int) (n5v2 : Int) (t62 : Int) (t63 : Int) (h0v2 : List Bool) : evC (g malive17 mCoway mLeaves mWay mRoot mLevel) an 0 N c_L19 none (roundK (nmOf 0 (an.loop 19)) Rn k) (s_L19 leaf0v2 n5v2 t62 t63 h0v2) =
  cond (decide (t63 < t62))
   (cond (decide (0 ≤ t63))
    (cond (decide (t63 < (↑(olen none h0v2.length 0) : Int)))
     (cond (!h0v2.getD (0 + t63.toNat) false)
      (k.ret (x_L19_0 leaf0v2 n5v2 t62 t63 h0v2))
      (Rn (s_L19 leaf0v2 n5v2 t62 (IntKind.i64.wrap (t63 + 1)) h0v2)))
     (none))
    (none))
   (k.ext 4 (x_L19_1 leaf0v2 n5v2 t62 t63 h0v2)) := by kernel_rfl
theorem run_L19 (malive17 : alive17.Ty) (mCoway : Coway.Ty) (mLeaves : Leaves.Ty) (mWay : Way.Ty) (mRoot : Root.Ty) (mLevel : Level.Ty) {R : Type} (N : Nat) (k : K R) : ∀ (m : Nat) (leaf0v2 : Int) (n5v2 : Int) (t62 : Int) (t63 : Int) (h0v2 : List Bool), loopN (evC (g malive17 mCoway mLeaves mWay mRoot mLevel) an 0 N c_L19 none) k (nmOf 0 (an.loop 19)) m (s_L19 leaf0v2 n5v2 t62 t63 h0v2) =
    L19 malive17 mCoway mLeaves mWay mRoot mLevel N (fun leaf0v2 n5v2 t62 t63 h0v2 => (k).ret (x_L19_0 leaf0v2 n5v2 t62 t63 h0v2)) (fun leaf0v2 n5v2 t62 t63 h0v2 => (k).ext 4 (x_L19_1 leaf0v2 n5v2 t62 t63 h0v2)) m leaf0v2 n5v2 t62 t63 h0v2 := by
  intro m
  induction m with
  | zero => intros; rfl
  | succ m ih =>
    intros
    rw [loopN_succ, round_L19]
    simp only [ih]
    kernel_rfl
noncomputable def m (malive17 : alive17.Ty) (mCoway : Coway.Ty) (mLeaves : Leaves.Ty) (mWay : Way.Ty) (mRoot : Root.Ty) (mLevel : Level.Ty) {R : Type} (N : Nat) (leaf1 : Int) (size2 : Int) (kr0 : Bool → Option R) : Option R :=
  malive17 R
   (fun v_c175 => cond (!v_c175)
    (kr0 false)
    (cond (true && decide (IntKind.i64.wrap ((IntKind.u64.wrap size2).tmod 5) < 0))
     (none)
     (cond (decide (IntKind.u64.wrap (ishl IntKind.i64 1 (IntKind.i64.wrap ((IntKind.u64.wrap size2).tmod 5))) = 0))
      (none)
      (cond (decide (0 ≤ IntKind.i64.wrap (ishl IntKind.i64 1 (IntKind.i64.wrap ((IntKind.u64.wrap size2).tmod 5)))))
       (cond (decide (IntKind.i64.wrap (ishl IntKind.i64 1 (IntKind.i64.wrap ((IntKind.u64.wrap size2).tmod 5))) ≤ IntKind.i64.wrap (ishl IntKind.i64 1 (IntKind.i64.wrap ((IntKind.u64.wrap size2).tmod 5)))))
        (cond (decide (1 * IntKind.i64.wrap (ishl IntKind.i64 1 (IntKind.i64.wrap ((IntKind.u64.wrap size2).tmod 5))) ≤ 140737488355328))
         (cond (decide (0 ≤ IntKind.i64.wrap ((IntKind.u64.wrap leaf1).tmod (IntKind.u64.wrap (ishl IntKind.i64 1 (IntKind.i64.wrap ((IntKind.u64.wrap size2).tmod 5)))))))
          (cond (decide (IntKind.i64.wrap ((IntKind.u64.wrap leaf1).tmod (IntKind.u64.wrap (ishl IntKind.i64 1 (IntKind.i64.wrap ((IntKind.u64.wrap size2).tmod 5))))) < (↑(olen none (List.replicate (IntKind.i64.wrap (ishl IntKind.i64 1 (IntKind.i64.wrap ((IntKind.u64.wrap size2).tmod 5)))).toNat false).length 0) : Int)))
           (mCoway R (IntKind.i64.wrap (2 * IntKind.i64.wrap ((IntKind.u64.wrap leaf1).tmod (IntKind.u64.wrap (ishl IntKind.i64 1 (IntKind.i64.wrap ((IntKind.u64.wrap size2).tmod 5))))))) (ishl IntKind.i64 1 (IntKind.i64.wrap ((IntKind.u64.wrap size2).tmod 5)))
            (fun v_c176 => L8 malive17 mCoway mLeaves mWay mRoot mLevel N
             (fun _leaf0_c209 _n5_c210 _t34_c211 _t35_c212 _t36_c213 _t41_c214 _t41_6_c215 _t42_c216 _t43_c217 _h0_c218 => kr0 false)
             (fun _leaf0_c219 _n5_c220 _t34_c221 _t35_c222 _t36_c223 _t41_c224 _t41_6_c225 _t42_c226 _t43_c227 _h0_c228 => kr0 false)
             (fun leaf0_c229 n5_c230 _t34_c231 _t35_c232 _t36_c233 h0_c234 => L19 malive17 mCoway mLeaves mWay mRoot mLevel N
              (fun _leaf0_c235 _n5_c236 _t62_c237 _t63_c238 _h0_c239 => kr0 false)
              (fun leaf0_c240 n5_c241 _t62_c242 _t63_c243 _h0_c244 => mWay R (IntKind.i64.wrap (2 * leaf0_c240)) n5_c241
               (fun v_c245 => mCoway R (IntKind.i64.wrap (2 * leaf0_c240)) n5_c241
                (fun v_c246 => cond ((↑v_c245.length : Int) == (↑v_c246.length : Int))
                 (mRoot R n5_c241
                  (fun v_c247 => mLevel R v_c247
                   (fun v_c248 => mWay R (IntKind.i64.wrap (2 * leaf0_c240)) n5_c241
                    (fun v_c249 => kr0 (v_c248 == (↑v_c249.length : Int))))))
                 (kr0 false)))) N leaf0_c229 n5_c230 ((↑(olen none h0_c234.length 0) : Int)) 0 h0_c234) N (IntKind.i64.wrap ((IntKind.u64.wrap leaf1).tmod (IntKind.u64.wrap (ishl IntKind.i64 1 (IntKind.i64.wrap ((IntKind.u64.wrap size2).tmod 5)))))) (ishl IntKind.i64 1 (IntKind.i64.wrap ((IntKind.u64.wrap size2).tmod 5))) v_c176 ((↑v_c176.length : Int)) 0 ((List.replicate (IntKind.i64.wrap (ishl IntKind.i64 1 (IntKind.i64.wrap ((IntKind.u64.wrap size2).tmod 5)))).toNat false).set (0 + (IntKind.i64.wrap ((IntKind.u64.wrap leaf1).tmod (IntKind.u64.wrap (ishl IntKind.i64 1 (IntKind.i64.wrap ((IntKind.u64.wrap size2).tmod 5)))))).toNat) true)))
           (none))
          (none))
         (none))
        (none))
       (none)))))
theorem tree (malive17 : alive17.Ty) (mCoway : Coway.Ty) (mLeaves : Leaves.Ty) (mWay : Way.Ty) (mRoot : Root.Ty) (mLevel : Level.Ty) {R : Type} (N : Nat) (κ : AV → List Blk → Option R) (leaf1 : Int) (size2 : Int) : evF (g malive17 mCoway mLeaves mWay mRoot mLevel) an N Tryd.f8 [AV.int IntKind.i64 leaf1, AV.int IntKind.i64 size2] [] κ =
  malive17 R
   (fun v_c175 => cond (!v_c175)
    (κ (AV.bool false) [])
    (cond (true && decide (IntKind.i64.wrap ((IntKind.u64.wrap size2).tmod 5) < 0))
     (none)
     (cond (decide (IntKind.u64.wrap (ishl IntKind.i64 1 (IntKind.i64.wrap ((IntKind.u64.wrap size2).tmod 5))) = 0))
      (none)
      (cond (decide (0 ≤ IntKind.i64.wrap (ishl IntKind.i64 1 (IntKind.i64.wrap ((IntKind.u64.wrap size2).tmod 5)))))
       (cond (decide (IntKind.i64.wrap (ishl IntKind.i64 1 (IntKind.i64.wrap ((IntKind.u64.wrap size2).tmod 5))) ≤ IntKind.i64.wrap (ishl IntKind.i64 1 (IntKind.i64.wrap ((IntKind.u64.wrap size2).tmod 5)))))
        (cond (decide (1 * IntKind.i64.wrap (ishl IntKind.i64 1 (IntKind.i64.wrap ((IntKind.u64.wrap size2).tmod 5))) ≤ 140737488355328))
         (cond (decide (0 ≤ IntKind.i64.wrap ((IntKind.u64.wrap leaf1).tmod (IntKind.u64.wrap (ishl IntKind.i64 1 (IntKind.i64.wrap ((IntKind.u64.wrap size2).tmod 5)))))))
          (cond (decide (IntKind.i64.wrap ((IntKind.u64.wrap leaf1).tmod (IntKind.u64.wrap (ishl IntKind.i64 1 (IntKind.i64.wrap ((IntKind.u64.wrap size2).tmod 5))))) < (↑(olen none (List.replicate (IntKind.i64.wrap (ishl IntKind.i64 1 (IntKind.i64.wrap ((IntKind.u64.wrap size2).tmod 5)))).toNat false).length 0) : Int)))
           (mCoway R (IntKind.i64.wrap (2 * IntKind.i64.wrap ((IntKind.u64.wrap leaf1).tmod (IntKind.u64.wrap (ishl IntKind.i64 1 (IntKind.i64.wrap ((IntKind.u64.wrap size2).tmod 5))))))) (ishl IntKind.i64 1 (IntKind.i64.wrap ((IntKind.u64.wrap size2).tmod 5)))
            (fun v_c176 => loopN (evC (g malive17 mCoway mLeaves mWay mRoot mLevel) an 0 N c_L8 none) (ctx (g malive17 mCoway mLeaves mWay mRoot mLevel) an 0 N (bodyOf Tryd.f8) [1, 1, 1, 1, 1, 1, 0, 1, 0] (endK (g malive17 mCoway mLeaves mWay mRoot mLevel) an Tryd.f8 [] κ)) (nmOf 0 (an.loop 8)) N (s_L8 (IntKind.i64.wrap ((IntKind.u64.wrap leaf1).tmod (IntKind.u64.wrap (ishl IntKind.i64 1 (IntKind.i64.wrap ((IntKind.u64.wrap size2).tmod 5)))))) (ishl IntKind.i64 1 (IntKind.i64.wrap ((IntKind.u64.wrap size2).tmod 5))) v_c176 ((↑v_c176.length : Int)) 0 ((List.replicate (IntKind.i64.wrap (ishl IntKind.i64 1 (IntKind.i64.wrap ((IntKind.u64.wrap size2).tmod 5)))).toNat false).set (0 + (IntKind.i64.wrap ((IntKind.u64.wrap leaf1).tmod (IntKind.u64.wrap (ishl IntKind.i64 1 (IntKind.i64.wrap ((IntKind.u64.wrap size2).tmod 5)))))).toNat) true))))
           (none))
          (none))
         (none))
        (none))
       (none))))) := by kernel_rfl
theorem tree_e0 (malive17 : alive17.Ty) (mCoway : Coway.Ty) (mLeaves : Leaves.Ty) (mWay : Way.Ty) (mRoot : Root.Ty) (mLevel : Level.Ty) {R : Type} (N : Nat) (κ : AV → List Blk → Option R) (leaf0_c229 : Int) (n5_c230 : Int) (t34_c231 : List Int) (t35_c232 : Int) (t36_c233 : Int) (h0_c234 : List Bool) : (ctx (g malive17 mCoway mLeaves mWay mRoot mLevel) an 0 N (bodyOf Tryd.f8) [1, 1, 1, 1, 1, 1, 0, 1, 0] (endK (g malive17 mCoway mLeaves mWay mRoot mLevel) an Tryd.f8 [] κ)).ext 0 (x_L8_2 leaf0_c229 n5_c230 t34_c231 t35_c232 t36_c233 h0_c234) =
  loopN (evC (g malive17 mCoway mLeaves mWay mRoot mLevel) an 0 N c_L19 none) (ctx (g malive17 mCoway mLeaves mWay mRoot mLevel) an 0 N (bodyOf Tryd.f8) [1, 1, 1, 1, 1, 1, 1, 0, 1, 0] (endK (g malive17 mCoway mLeaves mWay mRoot mLevel) an Tryd.f8 [] κ)) (nmOf 0 (an.loop 19)) N (s_L19 leaf0_c229 n5_c230 ((↑(olen none h0_c234.length 0) : Int)) 0 h0_c234) := by kernel_rfl
theorem eq (malive17 : alive17.Ty) (mCoway : Coway.Ty) (mLeaves : Leaves.Ty) (mWay : Way.Ty) (mRoot : Root.Ty) (mLevel : Level.Ty) {R : Type} (N : Nat) (κ : AV → List Blk → Option R) (leaf1 : Int) (size2 : Int) : evF (g malive17 mCoway mLeaves mWay mRoot mLevel) an N Tryd.f8 [AV.int IntKind.i64 leaf1, AV.int IntKind.i64 size2] [] κ =
  m malive17 mCoway mLeaves mWay mRoot mLevel N leaf1 size2 (fun v => κ (AV.bool v) []) := by
  rw [tree]
  simp only [run_L8, run_L19, tree_e0]
  kernel_rfl
abbrev Ty : Type 1 := ∀ R : Type, Int → Int → (Bool → Option R) → Option R
def con (f : Ty) : Con := fun R args bs κ => match args, bs with
  | [AV.int IntKind.i64 leaf1, AV.int IntKind.i64 size2], [] => f R leaf1 size2 (fun v => κ (AV.bool v) [])
  | _, _ => none
theorem con_eq (f : Ty) (R : Type) (κ : AV → List Blk → Option R) (leaf1 : Int) (size2 : Int) : con f R [AV.int IntKind.i64 leaf1, AV.int IntKind.i64 size2] [] κ = f R leaf1 size2 (fun v => κ (AV.bool v) []) := rfl
noncomputable def M (N : Nat) : Ty := fun R leaf1 size2 kr0 => m (alive17.M N) (Coway.M N) (Leaves.M N) (Way.M N) (Root.M N) (Level.M N) (R := R) N leaf1 size2 kr0
def gts : List (Nat × AV) := [(3, .err 1), (10, .err 11), (14, .err 15)]
theorem gok (N : Nat) : GOk (g (alive17.M N) (Coway.M N) (Leaves.M N) (Way.M N) (Root.M N) (Level.M N)) := giD_ok hm (by intro p hp; cases hp) (gtL_ok (by decide)) (ovL_ok (by
    intro p hp
    simp only [List.mem_cons, List.not_mem_nil, or_false] at hp
    rcases hp with rfl | rfl | rfl | rfl | rfl | rfl
    · exact ⟨(alive17.ok N).gt (gtL_sub (by repeat (first | exact subG_nil _ | refine subG_cons (by kernel_rfl) ?_))) (gtL_ok (by decide)), _, Tryd.func28, by kernel_rfl, by kernel_rfl⟩
    · exact ⟨(Coway.ok N).gt (gtL_sub (by repeat (first | exact subG_nil _ | refine subG_cons (by kernel_rfl) ?_))) (gtL_ok (by decide)), _, Tryd.func29, by kernel_rfl, by kernel_rfl⟩
    · exact ⟨(Leaves.ok N).gt (gtL_sub (by repeat (first | exact subG_nil _ | refine subG_cons (by kernel_rfl) ?_))) (gtL_ok (by decide)), _, Tryd.func30, by kernel_rfl, by kernel_rfl⟩
    · exact ⟨(Way.ok N).gt (gtL_sub (by repeat (first | exact subG_nil _ | refine subG_cons (by kernel_rfl) ?_))) (gtL_ok (by decide)), _, Tryd.func31, by kernel_rfl, by kernel_rfl⟩
    · exact ⟨(Root.ok N).gt (gtL_sub (by repeat (first | exact subG_nil _ | refine subG_cons (by kernel_rfl) ?_))) (gtL_ok (by decide)), _, Tryd.func33, by kernel_rfl, by kernel_rfl⟩
    · exact ⟨(Level.ok N).gt (gtL_sub (by repeat (first | exact subG_nil _ | refine subG_cons (by kernel_rfl) ?_))) (gtL_ok (by decide)), _, Tryd.func32, by kernel_rfl, by kernel_rfl⟩
)) 1
theorem ok (N : Nat) : SoundC Tryd.prog (gtL gts) 8 (con (M N)) := by
  refine SoundC.mono (evF_ok (gok N) hm an N Tryd.func8) fun R args bs κ r h => ?_
  unfold con at h
  split at h
  · exact (eq (alive17.M N) (Coway.M N) (Leaves.M N) (Way.M N) (Root.M N) (Level.M N) N κ _ _).trans h
  · cases h
end PlacesCover

end Go.Proofs.YtbliikcgcgalmaaDoor.fn
