/- What a law of codes computes, with the proof; printed by a program. -/
import Derived.Test.YtildbbihjaaloaaDoorProg
import Derived.Test.YtildbbihjaaloaaDoorEv4
import Derived.Test.YtildbbihjaaloaaDoorFnMacL
namespace Go.Proofs.YtildbbihjaaloaaDoor.fn
open Go Go.Proofs Go.Ev

/-! ### Tryd.f9: MacSums -/
namespace MacSums
def an : Anns := ⟨fun i => findA i [(7, ⟨[0, 1, 5, 20, 21, 22], [⟨5, 0, .u8, none⟩], 1, []⟩)], fun i => findA i [], false, fun _ => none, []⟩
noncomputable def g (malive04 : alive04.Ty) (mBytes : Bytes.Ty) (mmSum : mSum.Ty) (mm4Sum : m4Sum.Ty) (mKept : Kept.Ty) : Gi := giW [19] (giD Tryd.prog (gtL [(0, .err 1), (19, .ints .u32 64 [1116352408, 1899447441, 3049323471, 3921009573, 961987163, 1508970993, 2453635748, 2870763221, 3624381080, 310598401, 607225278, 1426881987, 1925078388, 2162078206, 2614888103, 3248222580, 3835390401, 4022224774, 264347078, 604807628, 770255983, 1249150122, 1555081692, 1996064986, 2554220882, 2821834349, 2952996808, 3210313671, 3336571891, 3584528711, 113926993, 338241895, 666307205, 773529912, 1294757372, 1396182291, 1695183700, 1986661051, 2177026350, 2456956037, 2730485921, 2820302411, 3259730800, 3345764771, 3516065817, 3600352804, 4094571909, 275423344, 430227734, 506948616, 659060556, 883997877, 958139571, 1322822218, 1537002063, 1747873779, 1955562222, 2024104815, 2227730452, 2361852424, 2428436474, 2756734187, 3204031479, 3329325298])]) (fun _ => an) 0 [] (ovL [(30, alive04.con malive04), (16, Bytes.con mBytes), (31, mSum.con mmSum), (32, m4Sum.con mm4Sum), (19, Kept.con mKept)]) 1)
noncomputable def c_L7 : Code := loopOf Tryd.f9 0
def s_L7 (key0 : Option Bool) (key0_1 : List Int) (parts1 : List (List Int)) (t20 : List (List Int)) (t21 : Int) (t22 : Int) (h0 : Bool) (h0_7 : List Int) : St := ⟨[AV.isl IntKind.u8 key0 key0_1, AV.rsl IntKind.u8 parts1, AV.dead, AV.dead, AV.dead, AV.own 0 [] 0 none] ++ List.replicate 14 .dead ++ [AV.rsl IntKind.u8 t20, AV.int IntKind.i64 t21, AV.int IntKind.i64 t22] ++ List.replicate 24 .dead, [Blk.row IntKind.u8 h0 h0_7]⟩
def x_L7_0 (key0 : Option Bool) (key0_1 : List Int) (parts1 : List (List Int)) (t20 : List (List Int)) (t21 : Int) (t22 : Int) (h0 : Bool) (h0_7 : List Int) : St := ⟨[AV.isl IntKind.u8 key0 key0_1, AV.rsl IntKind.u8 parts1, AV.dead, AV.dead, AV.bool true, AV.own 0 [] 0 none, AV.dead, AV.isl IntKind.u8 none (t20.getD t22.toNat [])] ++ List.replicate 12 .dead ++ [AV.rsl IntKind.u8 t20, AV.int IntKind.i64 t21, AV.int IntKind.i64 t22, AV.bool (decide (t22 < t21)), AV.rps IntKind.u8 (t20.getD t22.toNat []), AV.isl IntKind.u8 none (t20.getD t22.toNat []), AV.isl IntKind.u8 none (t20.getD t22.toNat []), AV.int IntKind.i64 (↑(t20.getD t22.toNat []).length : Int), AV.bool (decide ((↑(t20.getD t22.toNat []).length : Int) > 200))] ++ List.replicate 18 .dead, [Blk.row IntKind.u8 h0 h0_7]⟩
def x_L7_1 (key0 : Option Bool) (key0_1 : List Int) (parts1 : List (List Int)) (t20 : List (List Int)) (t21 : Int) (t22 : Int) (h0 : Bool) (h0_7 : List Int) : St := ⟨[AV.isl IntKind.u8 key0 key0_1, AV.rsl IntKind.u8 parts1, AV.dead, AV.dead, AV.dead, AV.own 0 [] 0 none] ++ List.replicate 14 .dead ++ [AV.rsl IntKind.u8 t20, AV.int IntKind.i64 t21, AV.int IntKind.i64 t22, AV.bool (decide (t22 < t21))] ++ List.replicate 23 .dead, [Blk.row IntKind.u8 h0 h0_7]⟩
noncomputable def L7 (malive04 : alive04.Ty) (mBytes : Bytes.Ty) (mmSum : mSum.Ty) (mm4Sum : m4Sum.Ty) (mKept : Kept.Ty) {R : Type} (N : Nat) (ke0 : (Option Bool) → (List Int) → (List (List Int)) → (List (List Int)) → Int → Int → Bool → (List Int) → Option R) (ke1 : (Option Bool) → (List Int) → (List (List Int)) → (List (List Int)) → Int → Int → Bool → (List Int) → Option R) : Nat → (Option Bool) → (List Int) → (List (List Int)) → (List (List Int)) → Int → Int → Bool → (List Int) → Option R
  | 0, _, _, _, _, _, _, _, _ => none
  | m + 1, key0, key0_1, parts1, t20, t21, t22, h0, h0_7 =>
    cond (decide (t22 < t21))
     (cond (decide (0 ≤ t22))
      (cond (decide (t22 < (↑t20.length : Int)))
       (cond (decide ((↑(t20.getD t22.toNat []).length : Int) > 200))
        (ke0 key0 key0_1 parts1 t20 t21 t22 h0 h0_7)
        (cond (decide ((h0_7.length + (t20.getD t22.toNat []).length) * 1 ≤ 140737488355328))
         (cond (decide (h0_7.length + (t20.getD t22.toNat []).length ≤ 140737488355328))
          (L7 malive04 mBytes mmSum mm4Sum mKept N ke0 ke1 m key0 key0_1 parts1 t20 t21 (IntKind.i64.wrap (t22 + 1)) ((t20.getD t22.toNat []).isEmpty && h0) (h0_7 ++ t20.getD t22.toNat []))
          (none))
         (none)))
       (none))
      (none))
     (ke1 key0 key0_1 parts1 t20 t21 t22 h0 h0_7)
theorem round_L7 (malive04 : alive04.Ty) (mBytes : Bytes.Ty) (mmSum : mSum.Ty) (mm4Sum : m4Sum.Ty) (mKept : Kept.Ty) {R : Type} (N : Nat) (Rn : St → Option R) (k : K R) (key0 : Option Bool) (key0_1 : List Int) (parts1 : List (List Int)) (t20 : List (List Int)) (t21 : Int) (t22 : Int) (h0 : Bool) (h0_7 : List Int) : evC (g malive04 mBytes mmSum mm4Sum mKept) an 0 N c_L7 none (roundK (nmOf 0 (an.loop 7)) Rn k) (s_L7 key0 key0_1 parts1 t20 t21 t22 h0 h0_7) =
  cond (decide (t22 < t21))
   (cond (decide (0 ≤ t22))
    (cond (decide (t22 < (↑t20.length : Int)))
     (cond (decide ((↑(t20.getD t22.toNat []).length : Int) > 200))
      (k.ret (x_L7_0 key0 key0_1 parts1 t20 t21 t22 h0 h0_7))
      (cond (decide ((h0_7.length + (t20.getD t22.toNat []).length) * 1 ≤ 140737488355328))
       (cond (decide (h0_7.length + (t20.getD t22.toNat []).length ≤ 140737488355328))
        (Rn (s_L7 key0 key0_1 parts1 t20 t21 (IntKind.i64.wrap (t22 + 1)) ((t20.getD t22.toNat []).isEmpty && h0) (h0_7 ++ t20.getD t22.toNat [])))
        (none))
       (none)))
     (none))
    (none))
   (k.ext 0 (x_L7_1 key0 key0_1 parts1 t20 t21 t22 h0 h0_7)) := by kernel_rfl
theorem run_L7 (malive04 : alive04.Ty) (mBytes : Bytes.Ty) (mmSum : mSum.Ty) (mm4Sum : m4Sum.Ty) (mKept : Kept.Ty) {R : Type} (N : Nat) (k : K R) : ∀ (m : Nat) (key0 : Option Bool) (key0_1 : List Int) (parts1 : List (List Int)) (t20 : List (List Int)) (t21 : Int) (t22 : Int) (h0 : Bool) (h0_7 : List Int), loopN (evC (g malive04 mBytes mmSum mm4Sum mKept) an 0 N c_L7 none) k (nmOf 0 (an.loop 7)) m (s_L7 key0 key0_1 parts1 t20 t21 t22 h0 h0_7) =
    L7 malive04 mBytes mmSum mm4Sum mKept N (fun key0 key0_1 parts1 t20 t21 t22 h0 h0_7 => (k).ret (x_L7_0 key0 key0_1 parts1 t20 t21 t22 h0 h0_7)) (fun key0 key0_1 parts1 t20 t21 t22 h0 h0_7 => (k).ext 0 (x_L7_1 key0 key0_1 parts1 t20 t21 t22 h0 h0_7)) m key0 key0_1 parts1 t20 t21 t22 h0 h0_7 := by
  intro m
  induction m with
  | zero => intros; rfl
  | succ m ih =>
    intros
    rw [loopN_succ, round_L7]
    simp only [ih]
    kernel_rfl
noncomputable def m (malive04 : alive04.Ty) (mBytes : Bytes.Ty) (mmSum : mSum.Ty) (mm4Sum : m4Sum.Ty) (mKept : Kept.Ty) {R : Type} (N : Nat) (keyN1 : Option Bool) (key2 : List Int) (parts3 : List (List Int)) (kr0 : Bool → Option R) : Option R :=
  malive04 R
   (fun v_c3 => cond (!v_c3)
    (kr0 false)
    (cond (decide ((↑key2.length : Int) > 300))
     (kr0 true)
     (cond (decide ((↑parts3.length : Int) > 10))
      (kr0 true)
      (L7 malive04 mBytes mmSum mm4Sum mKept N
       (fun _key0_c4 _key0_1_c5 _parts1_c6 _t20_c7 _t21_c8 _t22_c9 _h0_c10 _h0_7_c11 => kr0 true)
       (fun key0_c12 key0_1_c13 parts1_c14 _t20_c15 _t21_c16 _t22_c17 _h0_c18 h0_7_c19 => mBytes R key0_c12 key0_1_c13
        (fun v_c20 b_c21 => mmSum R none (cut (some v_c20) 0 b_c21) parts1_c14
         (fun v_c22 => mm4Sum R key0_c12 key0_1_c13 none h0_7_c19
          (fun v_c23 => cond (v_c22 == v_c23)
           (mKept R 0 (some v_c20) false b_c21 key0_c12 key0_1_c13
            (fun v_c24 b_c25 b_2_c26 => cond (true && false == b_c25 && b_2_c26.length.beq b_c21.length && true && true)
             (kr0 v_c24)
             (none)))
           (kr0 false))))) N keyN1 key2 parts3 parts3 ((↑parts3.length : Int)) 0 false []))))
theorem tree (malive04 : alive04.Ty) (mBytes : Bytes.Ty) (mmSum : mSum.Ty) (mm4Sum : m4Sum.Ty) (mKept : Kept.Ty) {R : Type} (N : Nat) (κ : AV → List Blk → Option R) (keyN1 : Option Bool) (key2 : List Int) (parts3 : List (List Int)) : evF (g malive04 mBytes mmSum mm4Sum mKept) an N Tryd.f9 [AV.isl IntKind.u8 keyN1 key2, AV.rsl IntKind.u8 parts3] [] κ =
  malive04 R
   (fun v_c3 => cond (!v_c3)
    (κ (AV.bool false) [])
    (cond (decide ((↑key2.length : Int) > 300))
     (κ (AV.bool true) [])
     (cond (decide ((↑parts3.length : Int) > 10))
      (κ (AV.bool true) [])
      (loopN (evC (g malive04 mBytes mmSum mm4Sum mKept) an 0 N c_L7 none) (ctx (g malive04 mBytes mmSum mm4Sum mKept) an 0 N (bodyOf Tryd.f9) [1, 1, 1, 1, 0, 1, 0] (endK (g malive04 mBytes mmSum mm4Sum mKept) an Tryd.f9 [] κ)) (nmOf 0 (an.loop 7)) N (s_L7 keyN1 key2 parts3 parts3 ((↑parts3.length : Int)) 0 false []))))) := by kernel_rfl
theorem eq (malive04 : alive04.Ty) (mBytes : Bytes.Ty) (mmSum : mSum.Ty) (mm4Sum : m4Sum.Ty) (mKept : Kept.Ty) {R : Type} (N : Nat) (κ : AV → List Blk → Option R) (keyN1 : Option Bool) (key2 : List Int) (parts3 : List (List Int)) : evF (g malive04 mBytes mmSum mm4Sum mKept) an N Tryd.f9 [AV.isl IntKind.u8 keyN1 key2, AV.rsl IntKind.u8 parts3] [] κ =
  m malive04 mBytes mmSum mm4Sum mKept N keyN1 key2 parts3 (fun v => κ (AV.bool v) []) := by
  rw [tree]
  simp only [run_L7]
  kernel_rfl
abbrev Ty : Type 1 := ∀ R : Type, (Option Bool) → (List Int) → (List (List Int)) → (Bool → Option R) → Option R
def con (f : Ty) : Con := fun R args bs κ => match args, bs with
  | [AV.isl IntKind.u8 keyN1 key2, AV.rsl IntKind.u8 parts3], [] => f R keyN1 key2 parts3 (fun v => κ (AV.bool v) [])
  | _, _ => none
theorem con_eq (f : Ty) (R : Type) (κ : AV → List Blk → Option R) (keyN1 : Option Bool) (key2 : List Int) (parts3 : List (List Int)) : con f R [AV.isl IntKind.u8 keyN1 key2, AV.rsl IntKind.u8 parts3] [] κ = f R keyN1 key2 parts3 (fun v => κ (AV.bool v) []) := rfl
noncomputable def M (N : Nat) : Ty := fun R keyN1 key2 parts3 kr0 => m (alive04.M N) (Bytes.M N) (mSum.M N) (m4Sum.M N) (Kept.M N) (R := R) N keyN1 key2 parts3 kr0
def gts : List (Nat × AV) := [(0, .err 1), (19, .ints .u32 64 [1116352408, 1899447441, 3049323471, 3921009573, 961987163, 1508970993, 2453635748, 2870763221, 3624381080, 310598401, 607225278, 1426881987, 1925078388, 2162078206, 2614888103, 3248222580, 3835390401, 4022224774, 264347078, 604807628, 770255983, 1249150122, 1555081692, 1996064986, 2554220882, 2821834349, 2952996808, 3210313671, 3336571891, 3584528711, 113926993, 338241895, 666307205, 773529912, 1294757372, 1396182291, 1695183700, 1986661051, 2177026350, 2456956037, 2730485921, 2820302411, 3259730800, 3345764771, 3516065817, 3600352804, 4094571909, 275423344, 430227734, 506948616, 659060556, 883997877, 958139571, 1322822218, 1537002063, 1747873779, 1955562222, 2024104815, 2227730452, 2361852424, 2428436474, 2756734187, 3204031479, 3329325298])]
theorem gok (N : Nat) : GOk (g (alive04.M N) (Bytes.M N) (mSum.M N) (m4Sum.M N) (Kept.M N)) := giW_ok (giD_ok hm (by intro p hp; cases hp) (gtL_ok (by decide)) (ovL_ok (by
    intro p hp
    simp only [List.mem_cons, List.not_mem_nil, or_false] at hp
    rcases hp with rfl | rfl | rfl | rfl | rfl
    · exact ⟨(alive04.ok N).gt (gtL_sub (by repeat (first | exact subG_nil _ | refine subG_cons (by kernel_rfl) ?_))) (gtL_ok (by decide)), _, Tryd.func30, by kernel_rfl, by kernel_rfl⟩
    · exact ⟨(Bytes.ok N).gt (gtL_sub (by repeat (first | exact subG_nil _ | refine subG_cons (by kernel_rfl) ?_))) (gtL_ok (by decide)), _, Tryd.func16, by kernel_rfl, by kernel_rfl⟩
    · exact ⟨(mSum.ok N).gt (gtL_sub (by repeat (first | exact subG_nil _ | refine subG_cons (by kernel_rfl) ?_))) (gtL_ok (by decide)), _, Tryd.func31, by kernel_rfl, by kernel_rfl⟩
    · exact ⟨(m4Sum.ok N).gt (gtL_sub (by repeat (first | exact subG_nil _ | refine subG_cons (by kernel_rfl) ?_))) (gtL_ok (by decide)), _, Tryd.func32, by kernel_rfl, by kernel_rfl⟩
    · exact ⟨(Kept.ok N).gt (gtL_sub (by repeat (first | exact subG_nil _ | refine subG_cons (by kernel_rfl) ?_))) (gtL_ok (by decide)), _, Tryd.func19, by kernel_rfl, by kernel_rfl⟩
)) 1)
theorem ok (N : Nat) : SoundC Tryd.prog (gtL gts) 9 (con (M N)) := by
  refine SoundC.mono (evF_ok (gok N) hm an N Tryd.func9) fun R args bs κ r h => ?_
  unfold con at h
  split at h
  · exact (eq (alive04.M N) (Bytes.M N) (mSum.M N) (m4Sum.M N) (Kept.M N) N κ _ _ _).trans h
  · cases h
end MacSums

end Go.Proofs.YtildbbihjaaloaaDoor.fn
