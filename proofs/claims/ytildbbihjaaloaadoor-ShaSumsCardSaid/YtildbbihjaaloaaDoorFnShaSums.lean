/- What a law of digests computes, with the proof; printed by a program. -/
import Derived.Test.YtildbbihjaaloaaDoorProg
import Derived.Test.YtildbbihjaaloaaDoorEv4
import Derived.Test.YtildbbihjaaloaaDoorFnShaL
namespace Go.Proofs.YtildbbihjaaloaaDoor.fn
open Go Go.Proofs Go.Ev

/-! ### Tryd.f3: ShaSums -/
namespace ShaSums
def an : Anns := ⟨fun i => findA i [], fun i => findA i [], false, fun _ => none, []⟩
noncomputable def g (malive02 : alive02.Ty) (mBytes : Bytes.Ty) (msSum : sSum.Ty) (mrSum : rSum.Ty) (mKept : Kept.Ty) : Gi := giW [19] (giD Tryd.prog (gtL [(0, .err 1), (19, .ints .u32 64 [1116352408, 1899447441, 3049323471, 3921009573, 961987163, 1508970993, 2453635748, 2870763221, 3624381080, 310598401, 607225278, 1426881987, 1925078388, 2162078206, 2614888103, 3248222580, 3835390401, 4022224774, 264347078, 604807628, 770255983, 1249150122, 1555081692, 1996064986, 2554220882, 2821834349, 2952996808, 3210313671, 3336571891, 3584528711, 113926993, 338241895, 666307205, 773529912, 1294757372, 1396182291, 1695183700, 1986661051, 2177026350, 2456956037, 2730485921, 2820302411, 3259730800, 3345764771, 3516065817, 3600352804, 4094571909, 275423344, 430227734, 506948616, 659060556, 883997877, 958139571, 1322822218, 1537002063, 1747873779, 1955562222, 2024104815, 2227730452, 2361852424, 2428436474, 2756734187, 3204031479, 3329325298])]) (fun _ => an) 0 [] (ovL [(15, alive02.con malive02), (16, Bytes.con mBytes), (17, sSum.con msSum), (18, rSum.con mrSum), (19, Kept.con mKept)]) 1)
noncomputable def m (malive02 : alive02.Ty) (mBytes : Bytes.Ty) (msSum : sSum.Ty) (mrSum : rSum.Ty) (mKept : Kept.Ty) {R : Type} (_N : Nat) (bN1 : Option Bool) (b2 : List Int) (kr0 : Bool → Option R) : Option R :=
  malive02 R
   (fun v_c2 => cond (!v_c2)
    (kr0 false)
    (cond (decide ((↑b2.length : Int) > 1000))
     (kr0 true)
     (mBytes R bN1 b2
      (fun v_c3 b_c4 => msSum R ([cut (some v_c3) 0 b_c4])
       (fun v_c5 => mrSum R bN1 b2
        (fun v_c6 => cond (v_c5 == v_c6)
         (mKept R 0 (some v_c3) false b_c4 bN1 b2
          (fun v_c7 b_c8 b_2_c9 => cond (true && false == b_c8 && b_2_c9.length.beq b_c4.length && true && true)
           (kr0 v_c7)
           (none)))
         (kr0 false)))))))
theorem tree (malive02 : alive02.Ty) (mBytes : Bytes.Ty) (msSum : sSum.Ty) (mrSum : rSum.Ty) (mKept : Kept.Ty) {R : Type} (N : Nat) (κ : AV → List Blk → Option R) (bN1 : Option Bool) (b2 : List Int) : evF (g malive02 mBytes msSum mrSum mKept) an N Tryd.f3 [AV.isl IntKind.u8 bN1 b2] [] κ =
  malive02 R
   (fun v_c2 => cond (!v_c2)
    (κ (AV.bool false) [])
    (cond (decide ((↑b2.length : Int) > 1000))
     (κ (AV.bool true) [])
     (mBytes R bN1 b2
      (fun v_c3 b_c4 => msSum R ([cut (some v_c3) 0 b_c4])
       (fun v_c5 => mrSum R bN1 b2
        (fun v_c6 => cond (v_c5 == v_c6)
         (mKept R 0 (some v_c3) false b_c4 bN1 b2
          (fun v_c7 b_c8 b_2_c9 => cond (true && false == b_c8 && b_2_c9.length.beq b_c4.length && true && true)
           (κ (AV.bool v_c7) [])
           (none)))
         (κ (AV.bool false) []))))))) := by kernel_rfl
theorem eq (malive02 : alive02.Ty) (mBytes : Bytes.Ty) (msSum : sSum.Ty) (mrSum : rSum.Ty) (mKept : Kept.Ty) {R : Type} (N : Nat) (κ : AV → List Blk → Option R) (bN1 : Option Bool) (b2 : List Int) : evF (g malive02 mBytes msSum mrSum mKept) an N Tryd.f3 [AV.isl IntKind.u8 bN1 b2] [] κ =
  m malive02 mBytes msSum mrSum mKept N bN1 b2 (fun v => κ (AV.bool v) []) := by
  rw [tree]
  kernel_rfl
abbrev Ty : Type 1 := ∀ R : Type, (Option Bool) → (List Int) → (Bool → Option R) → Option R
def con (f : Ty) : Con := fun R args bs κ => match args, bs with
  | [AV.isl IntKind.u8 bN1 b2], [] => f R bN1 b2 (fun v => κ (AV.bool v) [])
  | _, _ => none
theorem con_eq (f : Ty) (R : Type) (κ : AV → List Blk → Option R) (bN1 : Option Bool) (b2 : List Int) : con f R [AV.isl IntKind.u8 bN1 b2] [] κ = f R bN1 b2 (fun v => κ (AV.bool v) []) := rfl
noncomputable def M (N : Nat) : Ty := fun R bN1 b2 kr0 => m (alive02.M N) (Bytes.M N) (sSum.M N) (rSum.M N) (Kept.M N) (R := R) N bN1 b2 kr0
def gts : List (Nat × AV) := [(0, .err 1), (19, .ints .u32 64 [1116352408, 1899447441, 3049323471, 3921009573, 961987163, 1508970993, 2453635748, 2870763221, 3624381080, 310598401, 607225278, 1426881987, 1925078388, 2162078206, 2614888103, 3248222580, 3835390401, 4022224774, 264347078, 604807628, 770255983, 1249150122, 1555081692, 1996064986, 2554220882, 2821834349, 2952996808, 3210313671, 3336571891, 3584528711, 113926993, 338241895, 666307205, 773529912, 1294757372, 1396182291, 1695183700, 1986661051, 2177026350, 2456956037, 2730485921, 2820302411, 3259730800, 3345764771, 3516065817, 3600352804, 4094571909, 275423344, 430227734, 506948616, 659060556, 883997877, 958139571, 1322822218, 1537002063, 1747873779, 1955562222, 2024104815, 2227730452, 2361852424, 2428436474, 2756734187, 3204031479, 3329325298])]
theorem gok (N : Nat) : GOk (g (alive02.M N) (Bytes.M N) (sSum.M N) (rSum.M N) (Kept.M N)) := giW_ok (giD_ok hm (by intro p hp; cases hp) (gtL_ok (by decide)) (ovL_ok (by
    intro p hp
    simp only [List.mem_cons, List.not_mem_nil, or_false] at hp
    rcases hp with rfl | rfl | rfl | rfl | rfl
    · exact ⟨(alive02.ok N).gt (gtL_sub (by repeat (first | exact subG_nil _ | refine subG_cons (by kernel_rfl) ?_))) (gtL_ok (by decide)), _, Tryd.func15, by kernel_rfl, by kernel_rfl⟩
    · exact ⟨(Bytes.ok N).gt (gtL_sub (by repeat (first | exact subG_nil _ | refine subG_cons (by kernel_rfl) ?_))) (gtL_ok (by decide)), _, Tryd.func16, by kernel_rfl, by kernel_rfl⟩
    · exact ⟨(sSum.ok N).gt (gtL_sub (by repeat (first | exact subG_nil _ | refine subG_cons (by kernel_rfl) ?_))) (gtL_ok (by decide)), _, Tryd.func17, by kernel_rfl, by kernel_rfl⟩
    · exact ⟨(rSum.ok N).gt (gtL_sub (by repeat (first | exact subG_nil _ | refine subG_cons (by kernel_rfl) ?_))) (gtL_ok (by decide)), _, Tryd.func18, by kernel_rfl, by kernel_rfl⟩
    · exact ⟨(Kept.ok N).gt (gtL_sub (by repeat (first | exact subG_nil _ | refine subG_cons (by kernel_rfl) ?_))) (gtL_ok (by decide)), _, Tryd.func19, by kernel_rfl, by kernel_rfl⟩
)) 1)
theorem ok (N : Nat) : SoundC Tryd.prog (gtL gts) 3 (con (M N)) := by
  refine SoundC.mono (evF_ok (gok N) hm an N Tryd.func3) fun R args bs κ r h => ?_
  unfold con at h
  split at h
  · exact (eq (alive02.M N) (Bytes.M N) (sSum.M N) (rSum.M N) (Kept.M N) N κ _ _).trans h
  · cases h
end ShaSums

end Go.Proofs.YtildbbihjaaloaaDoor.fn
