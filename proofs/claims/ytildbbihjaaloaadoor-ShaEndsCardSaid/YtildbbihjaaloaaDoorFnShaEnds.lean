/- What a law of digests computes, with the proof; printed by a program. -/
import Derived.Test.YtildbbihjaaloaaDoorProg
import Derived.Test.YtildbbihjaaloaaDoorEv4
import Derived.Test.YtildbbihjaaloaaDoorFnShaL
namespace Go.Proofs.YtildbbihjaaloaaDoor.fn
open Go Go.Proofs Go.Ev

/-! ### Tryd.f5: ShaEnds -/
namespace ShaEnds
def an : Anns := ⟨fun i => findA i [(5, ⟨[1, 5, 15, 16], [⟨5, 0, .u8, none⟩], 1, []⟩)], fun i => findA i [], false, fun _ => none, []⟩
noncomputable def g (malive02 : alive02.Ty) (msSum : sSum.Ty) (mrSum : rSum.Ty) : Gi := giD Tryd.prog (gtL [(0, .err 1), (19, .ints .u32 64 [1116352408, 1899447441, 3049323471, 3921009573, 961987163, 1508970993, 2453635748, 2870763221, 3624381080, 310598401, 607225278, 1426881987, 1925078388, 2162078206, 2614888103, 3248222580, 3835390401, 4022224774, 264347078, 604807628, 770255983, 1249150122, 1555081692, 1996064986, 2554220882, 2821834349, 2952996808, 3210313671, 3336571891, 3584528711, 113926993, 338241895, 666307205, 773529912, 1294757372, 1396182291, 1695183700, 1986661051, 2177026350, 2456956037, 2730485921, 2820302411, 3259730800, 3345764771, 3516065817, 3600352804, 4094571909, 275423344, 430227734, 506948616, 659060556, 883997877, 958139571, 1322822218, 1537002063, 1747873779, 1955562222, 2024104815, 2227730452, 2361852424, 2428436474, 2756734187, 3204031479, 3329325298])]) (fun _ => an) 0 [] (ovL [(15, alive02.con malive02), (17, sSum.con msSum), (18, rSum.con mrSum)]) 1
noncomputable def c_L5 : Code := loopOf Tryd.f5 0
def s_L5 (c1 : Int) (t15 : Int) (t16 : Int) (h0 : List Int) : St := ⟨[AV.dead, AV.int IntKind.u8 c1, AV.dead, AV.dead, AV.dead, AV.own 0 [] 0 none] ++ List.replicate 9 .dead ++ [AV.int IntKind.i64 t15, AV.int IntKind.i64 t16] ++ List.replicate 26 .dead, [Blk.row IntKind.u8 false h0]⟩
def x_L5_0 (c1 : Int) (t15 : Int) (t16 : Int) (h0 : List Int) : St := ⟨[AV.dead, AV.int IntKind.u8 c1, AV.dead, AV.dead, AV.dead, AV.own 0 [] 0 none] ++ List.replicate 9 .dead ++ [AV.int IntKind.i64 t15, AV.int IntKind.i64 t16, AV.bool (decide (t16 < t15))] ++ List.replicate 25 .dead, [Blk.row IntKind.u8 false h0]⟩
noncomputable def L5 (malive02 : alive02.Ty) (msSum : sSum.Ty) (mrSum : rSum.Ty) {R : Type} (N : Nat) (ke0 : Int → Int → Int → (List Int) → Option R) : Nat → Int → Int → Int → (List Int) → Option R
  | 0, _, _, _, _ => none
  | m + 1, c1, t15, t16, h0 =>
    cond (decide (t16 < t15))
     (cond (decide (0 ≤ t16))
      (cond (decide (t16 < (↑(olen none h0.length 0) : Int)))
       (L5 malive02 msSum mrSum N ke0 m c1 t15 (IntKind.i64.wrap (t16 + 1)) (h0.set (0 + t16.toNat) c1))
       (none))
      (none))
     (ke0 c1 t15 t16 h0)
theorem round_L5 (malive02 : alive02.Ty) (msSum : sSum.Ty) (mrSum : rSum.Ty) {R : Type} (N : Nat) (Rn : St → Option R) (k : K R) (c1 : Int) (t15 : Int) (t16 : Int) (h0 : List Int) : evC (g malive02 msSum mrSum) an 0 N c_L5 none (roundK (nmOf 0 (an.loop 5)) Rn k) (s_L5 c1 t15 t16 h0) =
  cond (decide (t16 < t15))
   (cond (decide (0 ≤ t16))
    (cond (decide (t16 < (↑(olen none h0.length 0) : Int)))
     (Rn (s_L5 c1 t15 (IntKind.i64.wrap (t16 + 1)) (h0.set (0 + t16.toNat) c1)))
     (none))
    (none))
   (k.ext 0 (x_L5_0 c1 t15 t16 h0)) := by kernel_rfl
theorem run_L5 (malive02 : alive02.Ty) (msSum : sSum.Ty) (mrSum : rSum.Ty) {R : Type} (N : Nat) (k : K R) : ∀ (m : Nat) (c1 : Int) (t15 : Int) (t16 : Int) (h0 : List Int), loopN (evC (g malive02 msSum mrSum) an 0 N c_L5 none) k (nmOf 0 (an.loop 5)) m (s_L5 c1 t15 t16 h0) =
    L5 malive02 msSum mrSum N (fun c1 t15 t16 h0 => (k).ext 0 (x_L5_0 c1 t15 t16 h0)) m c1 t15 t16 h0 := by
  intro m
  induction m with
  | zero => intros; rfl
  | succ m ih =>
    intros
    rw [loopN_succ, round_L5]
    simp only [ih]
    kernel_rfl
noncomputable def m (malive02 : alive02.Ty) (msSum : sSum.Ty) (mrSum : rSum.Ty) {R : Type} (N : Nat) (n1 : Int) (c2 : Int) (kr0 : Bool → Option R) : Option R :=
  malive02 R
   (fun v_c11 => cond (!v_c11)
    (kr0 false)
    (cond (decide (0 ≤ IntKind.i64.wrap (IntKind.i64.wrap ((IntKind.u64.wrap n1).tmod 200))))
     (cond (decide (IntKind.i64.wrap (IntKind.i64.wrap ((IntKind.u64.wrap n1).tmod 200)) ≤ IntKind.i64.wrap (IntKind.i64.wrap ((IntKind.u64.wrap n1).tmod 200))))
      (cond (decide (1 * IntKind.i64.wrap (IntKind.i64.wrap ((IntKind.u64.wrap n1).tmod 200)) ≤ 140737488355328))
       (L5 malive02 msSum mrSum N
        (fun _c1_c12 _t15_c13 _t16_c14 h0_c15 => msSum R ([h0_c15])
         (fun v_c16 => mrSum R none h0_c15
          (fun v_c17 => cond (v_c16 == v_c17)
           (msSum R ([h0_c15, h0_c15])
            (fun v_c18 => cond (decide ((0 + h0_c15.length) * 1 ≤ 140737488355328))
             (cond (decide (0 + h0_c15.length ≤ 140737488355328))
              (cond (decide ((h0_c15.length + h0_c15.length) * 1 ≤ 140737488355328))
               (cond (decide (h0_c15.length + h0_c15.length ≤ 140737488355328))
                (mrSum R none (cut none 0 (h0_c15 ++ h0_c15))
                 (fun v_c19 => kr0 (v_c18 == v_c19)))
                (none))
               (none))
              (none))
             (none)))
           (kr0 false)))) N c2 ((↑(olen none (List.replicate (IntKind.i64.wrap (IntKind.i64.wrap ((IntKind.u64.wrap n1).tmod 200))).toNat (0 : Int)).length 0) : Int)) 0 (List.replicate (IntKind.i64.wrap (IntKind.i64.wrap ((IntKind.u64.wrap n1).tmod 200))).toNat (0 : Int)))
       (none))
      (none))
     (none)))
theorem tree (malive02 : alive02.Ty) (msSum : sSum.Ty) (mrSum : rSum.Ty) {R : Type} (N : Nat) (κ : AV → List Blk → Option R) (n1 : Int) (c2 : Int) : evF (g malive02 msSum mrSum) an N Tryd.f5 [AV.int IntKind.i64 n1, AV.int IntKind.u8 c2] [] κ =
  malive02 R
   (fun v_c11 => cond (!v_c11)
    (κ (AV.bool false) [])
    (cond (decide (0 ≤ IntKind.i64.wrap (IntKind.i64.wrap ((IntKind.u64.wrap n1).tmod 200))))
     (cond (decide (IntKind.i64.wrap (IntKind.i64.wrap ((IntKind.u64.wrap n1).tmod 200)) ≤ IntKind.i64.wrap (IntKind.i64.wrap ((IntKind.u64.wrap n1).tmod 200))))
      (cond (decide (1 * IntKind.i64.wrap (IntKind.i64.wrap ((IntKind.u64.wrap n1).tmod 200)) ≤ 140737488355328))
       (loopN (evC (g malive02 msSum mrSum) an 0 N c_L5 none) (ctx (g malive02 msSum mrSum) an 0 N (bodyOf Tryd.f5) [1, 1, 1, 0, 1, 0] (endK (g malive02 msSum mrSum) an Tryd.f5 [] κ)) (nmOf 0 (an.loop 5)) N (s_L5 c2 ((↑(olen none (List.replicate (IntKind.i64.wrap (IntKind.i64.wrap ((IntKind.u64.wrap n1).tmod 200))).toNat (0 : Int)).length 0) : Int)) 0 (List.replicate (IntKind.i64.wrap (IntKind.i64.wrap ((IntKind.u64.wrap n1).tmod 200))).toNat (0 : Int))))
       (none))
      (none))
     (none))) := by kernel_rfl
theorem eq (malive02 : alive02.Ty) (msSum : sSum.Ty) (mrSum : rSum.Ty) {R : Type} (N : Nat) (κ : AV → List Blk → Option R) (n1 : Int) (c2 : Int) : evF (g malive02 msSum mrSum) an N Tryd.f5 [AV.int IntKind.i64 n1, AV.int IntKind.u8 c2] [] κ =
  m malive02 msSum mrSum N n1 c2 (fun v => κ (AV.bool v) []) := by
  rw [tree]
  simp only [run_L5]
  kernel_rfl
abbrev Ty : Type 1 := ∀ R : Type, Int → Int → (Bool → Option R) → Option R
def con (f : Ty) : Con := fun R args bs κ => match args, bs with
  | [AV.int IntKind.i64 n1, AV.int IntKind.u8 c2], [] => f R n1 c2 (fun v => κ (AV.bool v) [])
  | _, _ => none
theorem con_eq (f : Ty) (R : Type) (κ : AV → List Blk → Option R) (n1 : Int) (c2 : Int) : con f R [AV.int IntKind.i64 n1, AV.int IntKind.u8 c2] [] κ = f R n1 c2 (fun v => κ (AV.bool v) []) := rfl
noncomputable def M (N : Nat) : Ty := fun R n1 c2 kr0 => m (alive02.M N) (sSum.M N) (rSum.M N) (R := R) N n1 c2 kr0
def gts : List (Nat × AV) := [(0, .err 1), (19, .ints .u32 64 [1116352408, 1899447441, 3049323471, 3921009573, 961987163, 1508970993, 2453635748, 2870763221, 3624381080, 310598401, 607225278, 1426881987, 1925078388, 2162078206, 2614888103, 3248222580, 3835390401, 4022224774, 264347078, 604807628, 770255983, 1249150122, 1555081692, 1996064986, 2554220882, 2821834349, 2952996808, 3210313671, 3336571891, 3584528711, 113926993, 338241895, 666307205, 773529912, 1294757372, 1396182291, 1695183700, 1986661051, 2177026350, 2456956037, 2730485921, 2820302411, 3259730800, 3345764771, 3516065817, 3600352804, 4094571909, 275423344, 430227734, 506948616, 659060556, 883997877, 958139571, 1322822218, 1537002063, 1747873779, 1955562222, 2024104815, 2227730452, 2361852424, 2428436474, 2756734187, 3204031479, 3329325298])]
theorem gok (N : Nat) : GOk (g (alive02.M N) (sSum.M N) (rSum.M N)) := giD_ok hm (by intro p hp; cases hp) (gtL_ok (by decide)) (ovL_ok (by
    intro p hp
    simp only [List.mem_cons, List.not_mem_nil, or_false] at hp
    rcases hp with rfl | rfl | rfl
    · exact ⟨(alive02.ok N).gt (gtL_sub (by repeat (first | exact subG_nil _ | refine subG_cons (by kernel_rfl) ?_))) (gtL_ok (by decide)), _, Tryd.func15, by kernel_rfl, by kernel_rfl⟩
    · exact ⟨(sSum.ok N).gt (gtL_sub (by repeat (first | exact subG_nil _ | refine subG_cons (by kernel_rfl) ?_))) (gtL_ok (by decide)), _, Tryd.func17, by kernel_rfl, by kernel_rfl⟩
    · exact ⟨(rSum.ok N).gt (gtL_sub (by repeat (first | exact subG_nil _ | refine subG_cons (by kernel_rfl) ?_))) (gtL_ok (by decide)), _, Tryd.func18, by kernel_rfl, by kernel_rfl⟩
)) 1
theorem ok (N : Nat) : SoundC Tryd.prog (gtL gts) 5 (con (M N)) := by
  refine SoundC.mono (evF_ok (gok N) hm an N Tryd.func5) fun R args bs κ r h => ?_
  unfold con at h
  split at h
  · exact (eq (alive02.M N) (sSum.M N) (rSum.M N) N κ _ _).trans h
  · cases h
end ShaEnds

end Go.Proofs.YtildbbihjaaloaaDoor.fn
