/- What a law of derivations computes, with the proof; printed by a program. -/
import Derived.Test.YtildbbihjaaloaaDoorProg
import Derived.Test.YtildbbihjaaloaaDoorEv4
import Derived.Test.YtildbbihjaaloaaDoorFnDerL
namespace Go.Proofs.YtildbbihjaaloaaDoor.fn
open Go Go.Proofs Go.Ev

/-! ### Tryd.f12: DeriveUnlike -/
namespace DeriveUnlike
def an : Anns := ⟨fun i => findA i [], fun i => findA i [], false, fun _ => none, []⟩
noncomputable def g (malive05 : alive05.Ty) (mdInfo : dInfo.Ty) (mdExpand : dExpand.Ty) : Gi := giD Tryd.prog (gtL [(0, .err 1), (2, .err 3), (19, .ints .u32 64 [1116352408, 1899447441, 3049323471, 3921009573, 961987163, 1508970993, 2453635748, 2870763221, 3624381080, 310598401, 607225278, 1426881987, 1925078388, 2162078206, 2614888103, 3248222580, 3835390401, 4022224774, 264347078, 604807628, 770255983, 1249150122, 1555081692, 1996064986, 2554220882, 2821834349, 2952996808, 3210313671, 3336571891, 3584528711, 113926993, 338241895, 666307205, 773529912, 1294757372, 1396182291, 1695183700, 1986661051, 2177026350, 2456956037, 2730485921, 2820302411, 3259730800, 3345764771, 3516065817, 3600352804, 4094571909, 275423344, 430227734, 506948616, 659060556, 883997877, 958139571, 1322822218, 1537002063, 1747873779, 1955562222, 2024104815, 2227730452, 2361852424, 2428436474, 2756734187, 3204031479, 3329325298])]) (fun _ => an) 0 [] (ovL [(34, alive05.con malive05), (35, dInfo.con mdInfo), (36, dExpand.con mdExpand)]) 1
noncomputable def m (malive05 : alive05.Ty) (mdInfo : dInfo.Ty) (mdExpand : dExpand.Ty) {R : Type} (_N : Nat) (names1 : List UInt8) (names2 : List UInt8) (xN3 : Option Bool) (x4 : List Int) (yN5 : Option Bool) (y6 : List Int) (kr0 : Bool → Option R) : Option R :=
  malive05 R
   (fun v_c2 => cond (!v_c2)
    (kr0 false)
    (cond (decide ((↑names1.length : Int) > 200))
     (kr0 true)
     (cond (decide ((↑names2.length : Int) > 200))
      (kr0 true)
      (cond (decide ((↑x4.length : Int) > 300))
       (kr0 true)
       (cond (decide ((↑y6.length : Int) > 300))
        (kr0 true)
        (mdInfo R names1 xN3 x4 32
         (fun _v_c3 v_1_c4 v_2_c5 => mdInfo R names2 yN5 y6 32
          (fun _v_c6 v_1_c7 v_2_c8 => mdInfo R names1 xN3 x4 33
           (fun _v_c9 v_1_c10 v_2_c11 => cond (!v_2_c5.beq 0)
            (kr0 false)
            (cond (!v_2_c8.beq 0)
             (kr0 false)
             (cond (!v_2_c11.beq 0)
              (kr0 false)
              (cond (names1 == names2)
               (cond (!(toStr v_1_c4 == toStr v_1_c7) == (toStr x4 == toStr y6))
                (kr0 false)
                (cond (toStr v_1_c4 == toStr v_1_c10)
                 (kr0 false)
                 (mdExpand R xN3 x4 yN5 y6 20
                  (fun v_c12 => mdExpand R xN3 x4 yN5 y6 70
                   (fun v_c13 => cond (v_c12.beq 0)
                    (cond (v_c13.beq 0)
                     (none)
                     (kr0 false))
                    (kr0 false))
                   (fun _vg1_c14 _b_c15 b_2_c16 => cond (v_c12.beq 0)
                    (cond (decide (20 ≤ (↑b_2_c16.length : Int)))
                     (kr0 (toStr (cut (some 20) 0 b_2_c16) == []))
                     (none))
                    (kr0 false)))
                  (fun vg1_c17 _b_c18 b_2_c19 => mdExpand R xN3 x4 yN5 y6 70
                   (fun v_c20 => cond (v_c20.beq 0)
                    (none)
                    (kr0 false))
                   (fun _vg1_c21 _b_c22 b_2_c23 => cond (decide (20 ≤ (↑b_2_c23.length : Int)))
                    (kr0 (toStr (cut (some 20) 0 b_2_c23) == toStr (cut (some vg1_c17) 0 b_2_c19)))
                    (none))))))
               (cond (!(toStr v_1_c4 == toStr v_1_c7) == false)
                (kr0 false)
                (cond (toStr v_1_c4 == toStr v_1_c10)
                 (kr0 false)
                 (mdExpand R xN3 x4 yN5 y6 20
                  (fun v_c24 => mdExpand R xN3 x4 yN5 y6 70
                   (fun v_c25 => cond (v_c24.beq 0)
                    (cond (v_c25.beq 0)
                     (none)
                     (kr0 false))
                    (kr0 false))
                   (fun _vg1_c26 _b_c27 b_2_c28 => cond (v_c24.beq 0)
                    (cond (decide (20 ≤ (↑b_2_c28.length : Int)))
                     (kr0 (toStr (cut (some 20) 0 b_2_c28) == []))
                     (none))
                    (kr0 false)))
                  (fun vg1_c29 _b_c30 b_2_c31 => mdExpand R xN3 x4 yN5 y6 70
                   (fun v_c32 => cond (v_c32.beq 0)
                    (none)
                    (kr0 false))
                   (fun _vg1_c33 _b_c34 b_2_c35 => cond (decide (20 ≤ (↑b_2_c35.length : Int)))
                    (kr0 (toStr (cut (some 20) 0 b_2_c35) == toStr (cut (some vg1_c29) 0 b_2_c31)))
                    (none))))))))))))))))))
theorem tree (malive05 : alive05.Ty) (mdInfo : dInfo.Ty) (mdExpand : dExpand.Ty) {R : Type} (N : Nat) (κ : AV → List Blk → Option R) (names1 : List UInt8) (names2 : List UInt8) (xN3 : Option Bool) (x4 : List Int) (yN5 : Option Bool) (y6 : List Int) : evF (g malive05 mdInfo mdExpand) an N Tryd.f12 [AV.agg [AV.str names1, AV.str names2], AV.isl IntKind.u8 xN3 x4, AV.isl IntKind.u8 yN5 y6] [] κ =
  malive05 R
   (fun v_c2 => cond (!v_c2)
    (κ (AV.bool false) [])
    (cond (decide ((↑names1.length : Int) > 200))
     (κ (AV.bool true) [])
     (cond (decide ((↑names2.length : Int) > 200))
      (κ (AV.bool true) [])
      (cond (decide ((↑x4.length : Int) > 300))
       (κ (AV.bool true) [])
       (cond (decide ((↑y6.length : Int) > 300))
        (κ (AV.bool true) [])
        (mdInfo R names1 xN3 x4 32
         (fun _v_c3 v_1_c4 v_2_c5 => mdInfo R names2 yN5 y6 32
          (fun _v_c6 v_1_c7 v_2_c8 => mdInfo R names1 xN3 x4 33
           (fun _v_c9 v_1_c10 v_2_c11 => cond (!v_2_c5.beq 0)
            (κ (AV.bool false) [])
            (cond (!v_2_c8.beq 0)
             (κ (AV.bool false) [])
             (cond (!v_2_c11.beq 0)
              (κ (AV.bool false) [])
              (cond (names1 == names2)
               (cond (!(toStr v_1_c4 == toStr v_1_c7) == (toStr x4 == toStr y6))
                (κ (AV.bool false) [])
                (cond (toStr v_1_c4 == toStr v_1_c10)
                 (κ (AV.bool false) [])
                 (mdExpand R xN3 x4 yN5 y6 20
                  (fun v_c12 => mdExpand R xN3 x4 yN5 y6 70
                   (fun v_c13 => cond (v_c12.beq 0)
                    (cond (v_c13.beq 0)
                     (none)
                     (κ (AV.bool false) []))
                    (κ (AV.bool false) []))
                   (fun _vg1_c14 _b_c15 b_2_c16 => cond (v_c12.beq 0)
                    (cond (decide (20 ≤ (↑b_2_c16.length : Int)))
                     (κ (AV.bool (toStr (cut (some 20) 0 b_2_c16) == [])) [])
                     (none))
                    (κ (AV.bool false) [])))
                  (fun vg1_c17 _b_c18 b_2_c19 => mdExpand R xN3 x4 yN5 y6 70
                   (fun v_c20 => cond (v_c20.beq 0)
                    (none)
                    (κ (AV.bool false) []))
                   (fun _vg1_c21 _b_c22 b_2_c23 => cond (decide (20 ≤ (↑b_2_c23.length : Int)))
                    (κ (AV.bool (toStr (cut (some 20) 0 b_2_c23) == toStr (cut (some vg1_c17) 0 b_2_c19))) [])
                    (none))))))
               (cond (!(toStr v_1_c4 == toStr v_1_c7) == false)
                (κ (AV.bool false) [])
                (cond (toStr v_1_c4 == toStr v_1_c10)
                 (κ (AV.bool false) [])
                 (mdExpand R xN3 x4 yN5 y6 20
                  (fun v_c24 => mdExpand R xN3 x4 yN5 y6 70
                   (fun v_c25 => cond (v_c24.beq 0)
                    (cond (v_c25.beq 0)
                     (none)
                     (κ (AV.bool false) []))
                    (κ (AV.bool false) []))
                   (fun _vg1_c26 _b_c27 b_2_c28 => cond (v_c24.beq 0)
                    (cond (decide (20 ≤ (↑b_2_c28.length : Int)))
                     (κ (AV.bool (toStr (cut (some 20) 0 b_2_c28) == [])) [])
                     (none))
                    (κ (AV.bool false) [])))
                  (fun vg1_c29 _b_c30 b_2_c31 => mdExpand R xN3 x4 yN5 y6 70
                   (fun v_c32 => cond (v_c32.beq 0)
                    (none)
                    (κ (AV.bool false) []))
                   (fun _vg1_c33 _b_c34 b_2_c35 => cond (decide (20 ≤ (↑b_2_c35.length : Int)))
                    (κ (AV.bool (toStr (cut (some 20) 0 b_2_c35) == toStr (cut (some vg1_c29) 0 b_2_c31))) [])
                    (none)))))))))))))))))) := by kernel_rfl
theorem eq (malive05 : alive05.Ty) (mdInfo : dInfo.Ty) (mdExpand : dExpand.Ty) {R : Type} (N : Nat) (κ : AV → List Blk → Option R) (names1 : List UInt8) (names2 : List UInt8) (xN3 : Option Bool) (x4 : List Int) (yN5 : Option Bool) (y6 : List Int) : evF (g malive05 mdInfo mdExpand) an N Tryd.f12 [AV.agg [AV.str names1, AV.str names2], AV.isl IntKind.u8 xN3 x4, AV.isl IntKind.u8 yN5 y6] [] κ =
  m malive05 mdInfo mdExpand N names1 names2 xN3 x4 yN5 y6 (fun v => κ (AV.bool v) []) := by
  rw [tree]
  kernel_rfl
abbrev Ty : Type 1 := ∀ R : Type, (List UInt8) → (List UInt8) → (Option Bool) → (List Int) → (Option Bool) → (List Int) → (Bool → Option R) → Option R
def con (f : Ty) : Con := fun R args bs κ => match args, bs with
  | [AV.agg [AV.str names1, AV.str names2], AV.isl IntKind.u8 xN3 x4, AV.isl IntKind.u8 yN5 y6], [] => f R names1 names2 xN3 x4 yN5 y6 (fun v => κ (AV.bool v) [])
  | _, _ => none
theorem con_eq (f : Ty) (R : Type) (κ : AV → List Blk → Option R) (names1 : List UInt8) (names2 : List UInt8) (xN3 : Option Bool) (x4 : List Int) (yN5 : Option Bool) (y6 : List Int) : con f R [AV.agg [AV.str names1, AV.str names2], AV.isl IntKind.u8 xN3 x4, AV.isl IntKind.u8 yN5 y6] [] κ = f R names1 names2 xN3 x4 yN5 y6 (fun v => κ (AV.bool v) []) := rfl
noncomputable def M (N : Nat) : Ty := fun R names1 names2 xN3 x4 yN5 y6 kr0 => m (alive05.M N) (dInfo.M N) (dExpand.M N) (R := R) N names1 names2 xN3 x4 yN5 y6 kr0
def gts : List (Nat × AV) := [(0, .err 1), (2, .err 3), (19, .ints .u32 64 [1116352408, 1899447441, 3049323471, 3921009573, 961987163, 1508970993, 2453635748, 2870763221, 3624381080, 310598401, 607225278, 1426881987, 1925078388, 2162078206, 2614888103, 3248222580, 3835390401, 4022224774, 264347078, 604807628, 770255983, 1249150122, 1555081692, 1996064986, 2554220882, 2821834349, 2952996808, 3210313671, 3336571891, 3584528711, 113926993, 338241895, 666307205, 773529912, 1294757372, 1396182291, 1695183700, 1986661051, 2177026350, 2456956037, 2730485921, 2820302411, 3259730800, 3345764771, 3516065817, 3600352804, 4094571909, 275423344, 430227734, 506948616, 659060556, 883997877, 958139571, 1322822218, 1537002063, 1747873779, 1955562222, 2024104815, 2227730452, 2361852424, 2428436474, 2756734187, 3204031479, 3329325298])]
theorem gok (N : Nat) : GOk (g (alive05.M N) (dInfo.M N) (dExpand.M N)) := giD_ok hm (by intro p hp; cases hp) (gtL_ok (by decide)) (ovL_ok (by
    intro p hp
    simp only [List.mem_cons, List.not_mem_nil, or_false] at hp
    rcases hp with rfl | rfl | rfl
    · exact ⟨(alive05.ok N).gt (gtL_sub (by repeat (first | exact subG_nil _ | refine subG_cons (by kernel_rfl) ?_))) (gtL_ok (by decide)), _, Tryd.func34, by kernel_rfl, by kernel_rfl⟩
    · exact ⟨(dInfo.ok N).gt (gtL_sub (by repeat (first | exact subG_nil _ | refine subG_cons (by kernel_rfl) ?_))) (gtL_ok (by decide)), _, Tryd.func35, by kernel_rfl, by kernel_rfl⟩
    · exact ⟨(dExpand.ok N).gt (gtL_sub (by repeat (first | exact subG_nil _ | refine subG_cons (by kernel_rfl) ?_))) (gtL_ok (by decide)), _, Tryd.func36, by kernel_rfl, by kernel_rfl⟩
)) 1
theorem ok (N : Nat) : SoundC Tryd.prog (gtL gts) 12 (con (M N)) := by
  refine SoundC.mono (evF_ok (gok N) hm an N Tryd.func12) fun R args bs κ r h => ?_
  unfold con at h
  split at h
  · exact (eq (alive05.M N) (dInfo.M N) (dExpand.M N) N κ _ _ _ _ _ _).trans h
  · cases h
end DeriveUnlike

end Go.Proofs.YtildbbihjaaloaaDoor.fn
