/- What a law of codes computes, with the proof; printed by a program. -/
import Derived.Test.YtildbbihjaaloaaDoorProg
import Derived.Test.YtildbbihjaaloaaDoorEv4
import Derived.Test.YtildbbihjaaloaaDoorFnMacL
namespace Go.Proofs.YtildbbihjaaloaaDoor.fn
open Go Go.Proofs Go.Ev

/-! ### Tryd.f11: MacRight -/
namespace MacRight
def an : Anns := ⟨fun i => findA i [], fun i => findA i [], false, fun _ => none, []⟩
noncomputable def g (malive04 : alive04.Ty) (mm4Sum : m4Sum.Ty) (mmRight : mRight.Ty) : Gi := giD Tryd.prog (gtL [(0, .err 1), (19, .ints .u32 64 [1116352408, 1899447441, 3049323471, 3921009573, 961987163, 1508970993, 2453635748, 2870763221, 3624381080, 310598401, 607225278, 1426881987, 1925078388, 2162078206, 2614888103, 3248222580, 3835390401, 4022224774, 264347078, 604807628, 770255983, 1249150122, 1555081692, 1996064986, 2554220882, 2821834349, 2952996808, 3210313671, 3336571891, 3584528711, 113926993, 338241895, 666307205, 773529912, 1294757372, 1396182291, 1695183700, 1986661051, 2177026350, 2456956037, 2730485921, 2820302411, 3259730800, 3345764771, 3516065817, 3600352804, 4094571909, 275423344, 430227734, 506948616, 659060556, 883997877, 958139571, 1322822218, 1537002063, 1747873779, 1955562222, 2024104815, 2227730452, 2361852424, 2428436474, 2756734187, 3204031479, 3329325298])]) (fun _ => an) 0 [] (ovL [(30, alive04.con malive04), (32, m4Sum.con mm4Sum), (33, mRight.con mmRight)]) 1
noncomputable def m (malive04 : alive04.Ty) (mm4Sum : m4Sum.Ty) (mmRight : mRight.Ty) {R : Type} (_N : Nat) (keyN1 : Option Bool) (key2 : List Int) (tagN3 : Option Bool) (tag4 : List Int) (bN5 : Option Bool) (b6 : List Int) (kr0 : Bool → Option R) : Option R :=
  malive04 R
   (fun v_c2 => cond (!v_c2)
    (kr0 false)
    (cond (decide ((↑key2.length : Int) > 300))
     (kr0 true)
     (cond (decide ((↑tag4.length : Int) > 100))
      (kr0 true)
      (cond (decide ((↑b6.length : Int) > 300))
       (kr0 true)
       (mm4Sum R keyN1 key2 bN5 b6
        (fun v_c3 => mmRight R keyN1 key2 tagN3 tag4 ([b6])
         (fun v_c4 => cond (v_c4 == (toStr tag4 == toStr (cut (some 32) 0 v_c3)))
          (mmRight R keyN1 key2 none (cut (some 32) 0 v_c3) ([b6])
           (fun v_c5 => cond v_c5
            (mmRight R keyN1 key2 none (cut (some 31) 0 v_c3) ([b6])
             (fun v_c6 => kr0 (!v_c6)))
            (kr0 false)))
          (kr0 false))))))))
theorem tree (malive04 : alive04.Ty) (mm4Sum : m4Sum.Ty) (mmRight : mRight.Ty) {R : Type} (N : Nat) (κ : AV → List Blk → Option R) (keyN1 : Option Bool) (key2 : List Int) (tagN3 : Option Bool) (tag4 : List Int) (bN5 : Option Bool) (b6 : List Int) : evF (g malive04 mm4Sum mmRight) an N Tryd.f11 [AV.isl IntKind.u8 keyN1 key2, AV.isl IntKind.u8 tagN3 tag4, AV.isl IntKind.u8 bN5 b6] [] κ =
  malive04 R
   (fun v_c2 => cond (!v_c2)
    (κ (AV.bool false) [])
    (cond (decide ((↑key2.length : Int) > 300))
     (κ (AV.bool true) [])
     (cond (decide ((↑tag4.length : Int) > 100))
      (κ (AV.bool true) [])
      (cond (decide ((↑b6.length : Int) > 300))
       (κ (AV.bool true) [])
       (mm4Sum R keyN1 key2 bN5 b6
        (fun v_c3 => mmRight R keyN1 key2 tagN3 tag4 ([b6])
         (fun v_c4 => cond (v_c4 == (toStr tag4 == toStr (cut (some 32) 0 v_c3)))
          (mmRight R keyN1 key2 none (cut (some 32) 0 v_c3) ([b6])
           (fun v_c5 => cond v_c5
            (mmRight R keyN1 key2 none (cut (some 31) 0 v_c3) ([b6])
             (fun v_c6 => κ (AV.bool !v_c6) []))
            (κ (AV.bool false) [])))
          (κ (AV.bool false) [])))))))) := by kernel_rfl
theorem eq (malive04 : alive04.Ty) (mm4Sum : m4Sum.Ty) (mmRight : mRight.Ty) {R : Type} (N : Nat) (κ : AV → List Blk → Option R) (keyN1 : Option Bool) (key2 : List Int) (tagN3 : Option Bool) (tag4 : List Int) (bN5 : Option Bool) (b6 : List Int) : evF (g malive04 mm4Sum mmRight) an N Tryd.f11 [AV.isl IntKind.u8 keyN1 key2, AV.isl IntKind.u8 tagN3 tag4, AV.isl IntKind.u8 bN5 b6] [] κ =
  m malive04 mm4Sum mmRight N keyN1 key2 tagN3 tag4 bN5 b6 (fun v => κ (AV.bool v) []) := by
  rw [tree]
  kernel_rfl
abbrev Ty : Type 1 := ∀ R : Type, (Option Bool) → (List Int) → (Option Bool) → (List Int) → (Option Bool) → (List Int) → (Bool → Option R) → Option R
def con (f : Ty) : Con := fun R args bs κ => match args, bs with
  | [AV.isl IntKind.u8 keyN1 key2, AV.isl IntKind.u8 tagN3 tag4, AV.isl IntKind.u8 bN5 b6], [] => f R keyN1 key2 tagN3 tag4 bN5 b6 (fun v => κ (AV.bool v) [])
  | _, _ => none
theorem con_eq (f : Ty) (R : Type) (κ : AV → List Blk → Option R) (keyN1 : Option Bool) (key2 : List Int) (tagN3 : Option Bool) (tag4 : List Int) (bN5 : Option Bool) (b6 : List Int) : con f R [AV.isl IntKind.u8 keyN1 key2, AV.isl IntKind.u8 tagN3 tag4, AV.isl IntKind.u8 bN5 b6] [] κ = f R keyN1 key2 tagN3 tag4 bN5 b6 (fun v => κ (AV.bool v) []) := rfl
noncomputable def M (N : Nat) : Ty := fun R keyN1 key2 tagN3 tag4 bN5 b6 kr0 => m (alive04.M N) (m4Sum.M N) (mRight.M N) (R := R) N keyN1 key2 tagN3 tag4 bN5 b6 kr0
def gts : List (Nat × AV) := [(0, .err 1), (19, .ints .u32 64 [1116352408, 1899447441, 3049323471, 3921009573, 961987163, 1508970993, 2453635748, 2870763221, 3624381080, 310598401, 607225278, 1426881987, 1925078388, 2162078206, 2614888103, 3248222580, 3835390401, 4022224774, 264347078, 604807628, 770255983, 1249150122, 1555081692, 1996064986, 2554220882, 2821834349, 2952996808, 3210313671, 3336571891, 3584528711, 113926993, 338241895, 666307205, 773529912, 1294757372, 1396182291, 1695183700, 1986661051, 2177026350, 2456956037, 2730485921, 2820302411, 3259730800, 3345764771, 3516065817, 3600352804, 4094571909, 275423344, 430227734, 506948616, 659060556, 883997877, 958139571, 1322822218, 1537002063, 1747873779, 1955562222, 2024104815, 2227730452, 2361852424, 2428436474, 2756734187, 3204031479, 3329325298])]
theorem gok (N : Nat) : GOk (g (alive04.M N) (m4Sum.M N) (mRight.M N)) := giD_ok hm (by intro p hp; cases hp) (gtL_ok (by decide)) (ovL_ok (by
    intro p hp
    simp only [List.mem_cons, List.not_mem_nil, or_false] at hp
    rcases hp with rfl | rfl | rfl
    · exact ⟨(alive04.ok N).gt (gtL_sub (by repeat (first | exact subG_nil _ | refine subG_cons (by kernel_rfl) ?_))) (gtL_ok (by decide)), _, Tryd.func30, by kernel_rfl, by kernel_rfl⟩
    · exact ⟨(m4Sum.ok N).gt (gtL_sub (by repeat (first | exact subG_nil _ | refine subG_cons (by kernel_rfl) ?_))) (gtL_ok (by decide)), _, Tryd.func32, by kernel_rfl, by kernel_rfl⟩
    · exact ⟨(mRight.ok N).gt (gtL_sub (by repeat (first | exact subG_nil _ | refine subG_cons (by kernel_rfl) ?_))) (gtL_ok (by decide)), _, Tryd.func33, by kernel_rfl, by kernel_rfl⟩
)) 1
theorem ok (N : Nat) : SoundC Tryd.prog (gtL gts) 11 (con (M N)) := by
  refine SoundC.mono (evF_ok (gok N) hm an N Tryd.func11) fun R args bs κ r h => ?_
  unfold con at h
  split at h
  · exact (eq (alive04.M N) (m4Sum.M N) (mRight.M N) N κ _ _ _ _ _ _).trans h
  · cases h
end MacRight

end Go.Proofs.YtildbbihjaaloaaDoor.fn
