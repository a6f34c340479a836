/- What a law of codes computes, with the proof; printed by a program. -/
import Derived.Test.YtildbbihjaaloaaDoorProg
import Derived.Test.YtildbbihjaaloaaDoorEv4
import Derived.Test.YtildbbihjaaloaaDoorFnMacL
namespace Go.Proofs.YtildbbihjaaloaaDoor.fn
open Go Go.Proofs Go.Ev

/-! ### Tryd.f10: MacKeys -/
namespace MacKeys
def an : Anns := ⟨fun i => findA i [], fun i => findA i [], false, fun _ => none, []⟩
noncomputable def g (malive04 : alive04.Ty) (msSum : sSum.Ty) (mmSum : mSum.Ty) : Gi := giD Tryd.prog (gtL [(0, .err 1), (19, .ints .u32 64 [1116352408, 1899447441, 3049323471, 3921009573, 961987163, 1508970993, 2453635748, 2870763221, 3624381080, 310598401, 607225278, 1426881987, 1925078388, 2162078206, 2614888103, 3248222580, 3835390401, 4022224774, 264347078, 604807628, 770255983, 1249150122, 1555081692, 1996064986, 2554220882, 2821834349, 2952996808, 3210313671, 3336571891, 3584528711, 113926993, 338241895, 666307205, 773529912, 1294757372, 1396182291, 1695183700, 1986661051, 2177026350, 2456956037, 2730485921, 2820302411, 3259730800, 3345764771, 3516065817, 3600352804, 4094571909, 275423344, 430227734, 506948616, 659060556, 883997877, 958139571, 1322822218, 1537002063, 1747873779, 1955562222, 2024104815, 2227730452, 2361852424, 2428436474, 2756734187, 3204031479, 3329325298])]) (fun _ => an) 0 [] (ovL [(30, alive04.con malive04), (17, sSum.con msSum), (31, mSum.con mmSum)]) 1
noncomputable def m (malive04 : alive04.Ty) (msSum : sSum.Ty) (mmSum : mSum.Ty) {R : Type} (_N : Nat) (keyN1 : Option Bool) (key2 : List Int) (_bN3 : Option Bool) (b4 : List Int) (noughts5 : Int) (kr0 : Bool → Option R) : Option R :=
  malive04 R
   (fun v_c2 => cond (!v_c2)
    (kr0 false)
    (cond (decide ((↑key2.length : Int) > 300))
     (kr0 true)
     (cond (decide ((↑b4.length : Int) > 300))
      (kr0 true)
      (cond (decide ((↑key2.length : Int) > 64))
       (msSum R ([key2])
        (fun v_c3 => mmSum R keyN1 key2 ([b4])
         (fun v_c4 => mmSum R none (cut (some 32) 0 v_c3) ([b4])
          (fun v_c5 => kr0 (v_c4 == v_c5)))))
       (cond (decide (IntKind.u64.wrap (IntKind.i64.wrap (65 - (↑key2.length : Int))) = 0))
        (none)
        (cond (decide ((0 + key2.length) * 1 ≤ 140737488355328))
         (cond (decide (0 + key2.length ≤ 140737488355328))
          (cond (decide (0 ≤ IntKind.i64.wrap (IntKind.i64.wrap ((IntKind.u64.wrap noughts5).tmod (IntKind.u64.wrap (IntKind.i64.wrap (65 - (↑key2.length : Int))))))))
           (cond (decide ((key2.length + (List.replicate (IntKind.i64.wrap (IntKind.i64.wrap ((IntKind.u64.wrap noughts5).tmod (IntKind.u64.wrap (IntKind.i64.wrap (65 - (↑key2.length : Int))))))).toNat (0 : Int)).length) * 1 ≤ 140737488355328))
            (cond (decide (key2.length + (List.replicate (IntKind.i64.wrap (IntKind.i64.wrap ((IntKind.u64.wrap noughts5).tmod (IntKind.u64.wrap (IntKind.i64.wrap (65 - (↑key2.length : Int))))))).toNat (0 : Int)).length ≤ 140737488355328))
             (mmSum R none (cut none 0 (key2 ++ List.replicate (IntKind.i64.wrap (IntKind.i64.wrap ((IntKind.u64.wrap noughts5).tmod (IntKind.u64.wrap (IntKind.i64.wrap (65 - (↑key2.length : Int))))))).toNat (0 : Int))) ([b4])
              (fun v_c6 => mmSum R keyN1 key2 ([b4])
               (fun v_c7 => kr0 (v_c6 == v_c7))))
             (none))
            (none))
           (none))
          (none))
         (none)))))))
theorem tree (malive04 : alive04.Ty) (msSum : sSum.Ty) (mmSum : mSum.Ty) {R : Type} (N : Nat) (κ : AV → List Blk → Option R) (keyN1 : Option Bool) (key2 : List Int) (bN3 : Option Bool) (b4 : List Int) (noughts5 : Int) : evF (g malive04 msSum mmSum) an N Tryd.f10 [AV.isl IntKind.u8 keyN1 key2, AV.isl IntKind.u8 bN3 b4, AV.int IntKind.i64 noughts5] [] κ =
  malive04 R
   (fun v_c2 => cond (!v_c2)
    (κ (AV.bool false) [])
    (cond (decide ((↑key2.length : Int) > 300))
     (κ (AV.bool true) [])
     (cond (decide ((↑b4.length : Int) > 300))
      (κ (AV.bool true) [])
      (cond (decide ((↑key2.length : Int) > 64))
       (msSum R ([key2])
        (fun v_c3 => mmSum R keyN1 key2 ([b4])
         (fun v_c4 => mmSum R none (cut (some 32) 0 v_c3) ([b4])
          (fun v_c5 => κ (AV.bool (v_c4 == v_c5)) []))))
       (cond (decide (IntKind.u64.wrap (IntKind.i64.wrap (65 - (↑key2.length : Int))) = 0))
        (none)
        (cond (decide ((0 + key2.length) * 1 ≤ 140737488355328))
         (cond (decide (0 + key2.length ≤ 140737488355328))
          (cond (decide (0 ≤ IntKind.i64.wrap (IntKind.i64.wrap ((IntKind.u64.wrap noughts5).tmod (IntKind.u64.wrap (IntKind.i64.wrap (65 - (↑key2.length : Int))))))))
           (cond (decide ((key2.length + (List.replicate (IntKind.i64.wrap (IntKind.i64.wrap ((IntKind.u64.wrap noughts5).tmod (IntKind.u64.wrap (IntKind.i64.wrap (65 - (↑key2.length : Int))))))).toNat (0 : Int)).length) * 1 ≤ 140737488355328))
            (cond (decide (key2.length + (List.replicate (IntKind.i64.wrap (IntKind.i64.wrap ((IntKind.u64.wrap noughts5).tmod (IntKind.u64.wrap (IntKind.i64.wrap (65 - (↑key2.length : Int))))))).toNat (0 : Int)).length ≤ 140737488355328))
             (mmSum R none (cut none 0 (key2 ++ List.replicate (IntKind.i64.wrap (IntKind.i64.wrap ((IntKind.u64.wrap noughts5).tmod (IntKind.u64.wrap (IntKind.i64.wrap (65 - (↑key2.length : Int))))))).toNat (0 : Int))) ([b4])
              (fun v_c6 => mmSum R keyN1 key2 ([b4])
               (fun v_c7 => κ (AV.bool (v_c6 == v_c7)) [])))
             (none))
            (none))
           (none))
          (none))
         (none))))))) := by kernel_rfl
theorem eq (malive04 : alive04.Ty) (msSum : sSum.Ty) (mmSum : mSum.Ty) {R : Type} (N : Nat) (κ : AV → List Blk → Option R) (keyN1 : Option Bool) (key2 : List Int) (bN3 : Option Bool) (b4 : List Int) (noughts5 : Int) : evF (g malive04 msSum mmSum) an N Tryd.f10 [AV.isl IntKind.u8 keyN1 key2, AV.isl IntKind.u8 bN3 b4, AV.int IntKind.i64 noughts5] [] κ =
  m malive04 msSum mmSum N keyN1 key2 bN3 b4 noughts5 (fun v => κ (AV.bool v) []) := by
  rw [tree]
  kernel_rfl
abbrev Ty : Type 1 := ∀ R : Type, (Option Bool) → (List Int) → (Option Bool) → (List Int) → Int → (Bool → Option R) → Option R
def con (f : Ty) : Con := fun R args bs κ => match args, bs with
  | [AV.isl IntKind.u8 keyN1 key2, AV.isl IntKind.u8 bN3 b4, AV.int IntKind.i64 noughts5], [] => f R keyN1 key2 bN3 b4 noughts5 (fun v => κ (AV.bool v) [])
  | _, _ => none
theorem con_eq (f : Ty) (R : Type) (κ : AV → List Blk → Option R) (keyN1 : Option Bool) (key2 : List Int) (bN3 : Option Bool) (b4 : List Int) (noughts5 : Int) : con f R [AV.isl IntKind.u8 keyN1 key2, AV.isl IntKind.u8 bN3 b4, AV.int IntKind.i64 noughts5] [] κ = f R keyN1 key2 bN3 b4 noughts5 (fun v => κ (AV.bool v) []) := rfl
noncomputable def M (N : Nat) : Ty := fun R keyN1 key2 bN3 b4 noughts5 kr0 => m (alive04.M N) (sSum.M N) (mSum.M N) (R := R) N keyN1 key2 bN3 b4 noughts5 kr0
def gts : List (Nat × AV) := [(0, .err 1), (19, .ints .u32 64 [1116352408, 1899447441, 3049323471, 3921009573, 961987163, 1508970993, 2453635748, 2870763221, 3624381080, 310598401, 607225278, 1426881987, 1925078388, 2162078206, 2614888103, 3248222580, 3835390401, 4022224774, 264347078, 604807628, 770255983, 1249150122, 1555081692, 1996064986, 2554220882, 2821834349, 2952996808, 3210313671, 3336571891, 3584528711, 113926993, 338241895, 666307205, 773529912, 1294757372, 1396182291, 1695183700, 1986661051, 2177026350, 2456956037, 2730485921, 2820302411, 3259730800, 3345764771, 3516065817, 3600352804, 4094571909, 275423344, 430227734, 506948616, 659060556, 883997877, 958139571, 1322822218, 1537002063, 1747873779, 1955562222, 2024104815, 2227730452, 2361852424, 2428436474, 2756734187, 3204031479, 3329325298])]
theorem gok (N : Nat) : GOk (g (alive04.M N) (sSum.M N) (mSum.M N)) := giD_ok hm (by intro p hp; cases hp) (gtL_ok (by decide)) (ovL_ok (by
    intro p hp
    simp only [List.mem_cons, List.not_mem_nil, or_false] at hp
    rcases hp with rfl | rfl | rfl
    · exact ⟨(alive04.ok N).gt (gtL_sub (by repeat (first | exact subG_nil _ | refine subG_cons (by kernel_rfl) ?_))) (gtL_ok (by decide)), _, Tryd.func30, by kernel_rfl, by kernel_rfl⟩
    · exact ⟨(sSum.ok N).gt (gtL_sub (by repeat (first | exact subG_nil _ | refine subG_cons (by kernel_rfl) ?_))) (gtL_ok (by decide)), _, Tryd.func17, by kernel_rfl, by kernel_rfl⟩
    · exact ⟨(mSum.ok N).gt (gtL_sub (by repeat (first | exact subG_nil _ | refine subG_cons (by kernel_rfl) ?_))) (gtL_ok (by decide)), _, Tryd.func31, by kernel_rfl, by kernel_rfl⟩
)) 1
theorem ok (N : Nat) : SoundC Tryd.prog (gtL gts) 10 (con (M N)) := by
  refine SoundC.mono (evF_ok (gok N) hm an N Tryd.func10) fun R args bs κ r h => ?_
  unfold con at h
  split at h
  · exact (eq (alive04.M N) (sSum.M N) (mSum.M N) N κ _ _ _ _ _).trans h
  · cases h
end MacKeys

end Go.Proofs.YtildbbihjaaloaaDoor.fn
