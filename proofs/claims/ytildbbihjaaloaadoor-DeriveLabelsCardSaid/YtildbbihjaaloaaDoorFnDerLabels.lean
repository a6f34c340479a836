/- What a law of derivations computes, with the proof; printed by a program. -/
import Derived.Test.YtildbbihjaaloaaDoorProg
import Derived.Test.YtildbbihjaaloaaDoorEv4
import Derived.Test.YtildbbihjaaloaaDoorFnDerL
import Derived.Test.YtildbbihjaaloaaDoorFnDerS
namespace Go.Proofs.YtildbbihjaaloaaDoor.fn
open Go Go.Proofs Go.Ev

/-! ### Tryd.f14: DeriveLabels -/
namespace DeriveLabels
def an : Anns := ⟨fun i => findA i [], fun i => findA i [], false, fun _ => none, []⟩
noncomputable def g (malive05 : alive05.Ty) (mdInfo : dInfo.Ty) (mdLabel : dLabel.Ty) (mdSecret : dSecret.Ty) (mNum : Num.Ty) (mrdInfo : rdInfo.Ty) (mrdLabel : rdLabel.Ty) (mrdSecret : rdSecret.Ty) : Gi := giD Tryd.prog (gtL [(0, .err 1), (1, .err 2), (2, .err 3), (3, .err 4), (4, .err 5), (5, .err 6), (6, .err 7), (7, .err 8), (8, .err 9), (9, .err 10), (10, .err 11), (11, .err 12), (12, .err 13), (13, .err 14), (14, .err 15), (15, .err 16), (16, .err 17), (17, .err 18), (18, .err 19), (19, .ints .u32 64 [1116352408, 1899447441, 3049323471, 3921009573, 961987163, 1508970993, 2453635748, 2870763221, 3624381080, 310598401, 607225278, 1426881987, 1925078388, 2162078206, 2614888103, 3248222580, 3835390401, 4022224774, 264347078, 604807628, 770255983, 1249150122, 1555081692, 1996064986, 2554220882, 2821834349, 2952996808, 3210313671, 3336571891, 3584528711, 113926993, 338241895, 666307205, 773529912, 1294757372, 1396182291, 1695183700, 1986661051, 2177026350, 2456956037, 2730485921, 2820302411, 3259730800, 3345764771, 3516065817, 3600352804, 4094571909, 275423344, 430227734, 506948616, 659060556, 883997877, 958139571, 1322822218, 1537002063, 1747873779, 1955562222, 2024104815, 2227730452, 2361852424, 2428436474, 2756734187, 3204031479, 3329325298])]) (fun _ => an) 0 [] (ovL [(34, alive05.con malive05), (35, dInfo.con mdInfo), (39, dLabel.con mdLabel), (40, dSecret.con mdSecret), (28, Num.con mNum), (41, rdInfo.con mrdInfo), (42, rdLabel.con mrdLabel), (43, rdSecret.con mrdSecret)]) 1
noncomputable def m (malive05 : alive05.Ty) (mdInfo : dInfo.Ty) (mdLabel : dLabel.Ty) (mdSecret : dSecret.Ty) (mNum : Num.Ty) (mrdInfo : rdInfo.Ty) (mrdLabel : rdLabel.Ty) (mrdSecret : rdSecret.Ty) {R : Type} (_N : Nat) (secret1 : List Int) (label2 : List UInt8) (contextN3 : Option Bool) (context4 : List Int) (kr0 : Bool → Option R) : Option R :=
  malive05 R
   (fun v_c2 => cond (!v_c2)
    (kr0 false)
    (cond (decide ((↑label2.length : Int) > 400))
     (kr0 true)
     (cond (decide ((↑context4.length : Int) > 17000))
      (kr0 true)
      (mdInfo R label2 contextN3 context4 40
       (fun _v_c3 v_1_c4 v_2_c5 => mdLabel R secret1 label2 contextN3 context4 40
        (fun _v_c6 v_1_c7 v_2_c8 => mdSecret R secret1 label2 ([context4])
         (fun v_c9 => cond (decide ((↑label2.length : Int) > 200))
          (cond (IntKind.i64.wrap ((↑v_1_c4.length : Int) + (↑v_1_c7.length : Int)) == 0)
           (mNum R v_2_c5
            (fun v_c10 => cond (v_c10 == 3)
             (mNum R v_2_c8
              (fun v_c11 => cond (v_c11 == 3)
               (kr0 (v_c9 == [0, 0, 0, 0, 0, 0, 0, 0, 0, 0, 0, 0, 0, 0, 0, 0, 0, 0, 0, 0, 0, 0, 0, 0, 0, 0, 0, 0, 0, 0, 0, 0]))
               (kr0 false)))
             (kr0 false)))
           (kr0 false))
          (cond (decide ((↑context4.length : Int) > 16384))
           (cond (IntKind.i64.wrap ((↑v_1_c4.length : Int) + (↑v_1_c7.length : Int)) == 0)
            (mNum R v_2_c5
             (fun v_c12 => cond (v_c12 == 3)
              (mNum R v_2_c8
               (fun v_c13 => cond (v_c13 == 3)
                (kr0 (v_c9 == [0, 0, 0, 0, 0, 0, 0, 0, 0, 0, 0, 0, 0, 0, 0, 0, 0, 0, 0, 0, 0, 0, 0, 0, 0, 0, 0, 0, 0, 0, 0, 0]))
                (kr0 false)))
              (kr0 false)))
            (kr0 false))
           (cond (v_2_c5.beq 0)
            (cond (v_2_c8.beq 0)
             (mrdInfo R label2 contextN3 context4 40
              (fun v_c14 => cond (toStr v_1_c4 == toStr v_c14)
               (mrdLabel R secret1 label2 contextN3 context4 40
                (fun v_c15 => cond (toStr v_1_c7 == toStr v_c15)
                 (mrdSecret R secret1 label2 contextN3 context4
                  (fun v_c16 => kr0 (v_c9 == v_c16)))
                 (kr0 false)))
               (kr0 false)))
             (kr0 false))
            (kr0 false))))))))))
theorem tree (malive05 : alive05.Ty) (mdInfo : dInfo.Ty) (mdLabel : dLabel.Ty) (mdSecret : dSecret.Ty) (mNum : Num.Ty) (mrdInfo : rdInfo.Ty) (mrdLabel : rdLabel.Ty) (mrdSecret : rdSecret.Ty) {R : Type} (N : Nat) (κ : AV → List Blk → Option R) (secret1 : List Int) (label2 : List UInt8) (contextN3 : Option Bool) (context4 : List Int) : evF (g malive05 mdInfo mdLabel mdSecret mNum mrdInfo mrdLabel mrdSecret) an N Tryd.f14 [AV.ints IntKind.u8 32 secret1, AV.str label2, AV.isl IntKind.u8 contextN3 context4] [] κ =
  malive05 R
   (fun v_c2 => cond (!v_c2)
    (κ (AV.bool false) [])
    (cond (decide ((↑label2.length : Int) > 400))
     (κ (AV.bool true) [])
     (cond (decide ((↑context4.length : Int) > 17000))
      (κ (AV.bool true) [])
      (mdInfo R label2 contextN3 context4 40
       (fun _v_c3 v_1_c4 v_2_c5 => mdLabel R secret1 label2 contextN3 context4 40
        (fun _v_c6 v_1_c7 v_2_c8 => mdSecret R secret1 label2 ([context4])
         (fun v_c9 => cond (decide ((↑label2.length : Int) > 200))
          (cond (IntKind.i64.wrap ((↑v_1_c4.length : Int) + (↑v_1_c7.length : Int)) == 0)
           (mNum R v_2_c5
            (fun v_c10 => cond (v_c10 == 3)
             (mNum R v_2_c8
              (fun v_c11 => cond (v_c11 == 3)
               (κ (AV.bool (v_c9 == [0, 0, 0, 0, 0, 0, 0, 0, 0, 0, 0, 0, 0, 0, 0, 0, 0, 0, 0, 0, 0, 0, 0, 0, 0, 0, 0, 0, 0, 0, 0, 0])) [])
               (κ (AV.bool false) [])))
             (κ (AV.bool false) [])))
           (κ (AV.bool false) []))
          (cond (decide ((↑context4.length : Int) > 16384))
           (cond (IntKind.i64.wrap ((↑v_1_c4.length : Int) + (↑v_1_c7.length : Int)) == 0)
            (mNum R v_2_c5
             (fun v_c12 => cond (v_c12 == 3)
              (mNum R v_2_c8
               (fun v_c13 => cond (v_c13 == 3)
                (κ (AV.bool (v_c9 == [0, 0, 0, 0, 0, 0, 0, 0, 0, 0, 0, 0, 0, 0, 0, 0, 0, 0, 0, 0, 0, 0, 0, 0, 0, 0, 0, 0, 0, 0, 0, 0])) [])
                (κ (AV.bool false) [])))
              (κ (AV.bool false) [])))
            (κ (AV.bool false) []))
           (cond (v_2_c5.beq 0)
            (cond (v_2_c8.beq 0)
             (mrdInfo R label2 contextN3 context4 40
              (fun v_c14 => cond (toStr v_1_c4 == toStr v_c14)
               (mrdLabel R secret1 label2 contextN3 context4 40
                (fun v_c15 => cond (toStr v_1_c7 == toStr v_c15)
                 (mrdSecret R secret1 label2 contextN3 context4
                  (fun v_c16 => κ (AV.bool (v_c9 == v_c16)) []))
                 (κ (AV.bool false) [])))
               (κ (AV.bool false) [])))
             (κ (AV.bool false) []))
            (κ (AV.bool false) [])))))))))) := by kernel_rfl
theorem eq (malive05 : alive05.Ty) (mdInfo : dInfo.Ty) (mdLabel : dLabel.Ty) (mdSecret : dSecret.Ty) (mNum : Num.Ty) (mrdInfo : rdInfo.Ty) (mrdLabel : rdLabel.Ty) (mrdSecret : rdSecret.Ty) {R : Type} (N : Nat) (κ : AV → List Blk → Option R) (secret1 : List Int) (label2 : List UInt8) (contextN3 : Option Bool) (context4 : List Int) : evF (g malive05 mdInfo mdLabel mdSecret mNum mrdInfo mrdLabel mrdSecret) an N Tryd.f14 [AV.ints IntKind.u8 32 secret1, AV.str label2, AV.isl IntKind.u8 contextN3 context4] [] κ =
  m malive05 mdInfo mdLabel mdSecret mNum mrdInfo mrdLabel mrdSecret N secret1 label2 contextN3 context4 (fun v => κ (AV.bool v) []) := by
  rw [tree]
  kernel_rfl
abbrev Ty : Type 1 := ∀ R : Type, (List Int) → (List UInt8) → (Option Bool) → (List Int) → (Bool → Option R) → Option R
def con (f : Ty) : Con := fun R args bs κ => match args, bs with
  | [AV.ints IntKind.u8 32 secret1, AV.str label2, AV.isl IntKind.u8 contextN3 context4], [] => f R secret1 label2 contextN3 context4 (fun v => κ (AV.bool v) [])
  | _, _ => none
theorem con_eq (f : Ty) (R : Type) (κ : AV → List Blk → Option R) (secret1 : List Int) (label2 : List UInt8) (contextN3 : Option Bool) (context4 : List Int) : con f R [AV.ints IntKind.u8 32 secret1, AV.str label2, AV.isl IntKind.u8 contextN3 context4] [] κ = f R secret1 label2 contextN3 context4 (fun v => κ (AV.bool v) []) := rfl
noncomputable def M (N : Nat) : Ty := fun R secret1 label2 contextN3 context4 kr0 => m (alive05.M N) (dInfo.M N) (dLabel.M N) (dSecret.M N) (Num.M N) (rdInfo.M N) (rdLabel.M N) (rdSecret.M N) (R := R) N secret1 label2 contextN3 context4 kr0
def gts : List (Nat × AV) := [(0, .err 1), (1, .err 2), (2, .err 3), (3, .err 4), (4, .err 5), (5, .err 6), (6, .err 7), (7, .err 8), (8, .err 9), (9, .err 10), (10, .err 11), (11, .err 12), (12, .err 13), (13, .err 14), (14, .err 15), (15, .err 16), (16, .err 17), (17, .err 18), (18, .err 19), (19, .ints .u32 64 [1116352408, 1899447441, 3049323471, 3921009573, 961987163, 1508970993, 2453635748, 2870763221, 3624381080, 310598401, 607225278, 1426881987, 1925078388, 2162078206, 2614888103, 3248222580, 3835390401, 4022224774, 264347078, 604807628, 770255983, 1249150122, 1555081692, 1996064986, 2554220882, 2821834349, 2952996808, 3210313671, 3336571891, 3584528711, 113926993, 338241895, 666307205, 773529912, 1294757372, 1396182291, 1695183700, 1986661051, 2177026350, 2456956037, 2730485921, 2820302411, 3259730800, 3345764771, 3516065817, 3600352804, 4094571909, 275423344, 430227734, 506948616, 659060556, 883997877, 958139571, 1322822218, 1537002063, 1747873779, 1955562222, 2024104815, 2227730452, 2361852424, 2428436474, 2756734187, 3204031479, 3329325298])]
theorem gok (N : Nat) : GOk (g (alive05.M N) (dInfo.M N) (dLabel.M N) (dSecret.M N) (Num.M N) (rdInfo.M N) (rdLabel.M N) (rdSecret.M N)) := giD_ok hm (by intro p hp; cases hp) (gtL_ok (by decide)) (ovL_ok (by
    intro p hp
    simp only [List.mem_cons, List.not_mem_nil, or_false] at hp
    rcases hp with rfl | rfl | rfl | rfl | rfl | rfl | rfl | rfl
    · exact ⟨(alive05.ok N).gt (gtL_sub (by repeat (first | exact subG_nil _ | refine subG_cons (by kernel_rfl) ?_))) (gtL_ok (by decide)), _, Tryd.func34, by kernel_rfl, by kernel_rfl⟩
    · exact ⟨(dInfo.ok N).gt (gtL_sub (by repeat (first | exact subG_nil _ | refine subG_cons (by kernel_rfl) ?_))) (gtL_ok (by decide)), _, Tryd.func35, by kernel_rfl, by kernel_rfl⟩
    · exact ⟨(dLabel.ok N).gt (gtL_sub (by repeat (first | exact subG_nil _ | refine subG_cons (by kernel_rfl) ?_))) (gtL_ok (by decide)), _, Tryd.func39, by kernel_rfl, by kernel_rfl⟩
    · exact ⟨(dSecret.ok N).gt (gtL_sub (by repeat (first | exact subG_nil _ | refine subG_cons (by kernel_rfl) ?_))) (gtL_ok (by decide)), _, Tryd.func40, by kernel_rfl, by kernel_rfl⟩
    · exact ⟨(Num.ok N).gt (gtL_sub (by repeat (first | exact subG_nil _ | refine subG_cons (by kernel_rfl) ?_))) (gtL_ok (by decide)), _, Tryd.func28, by kernel_rfl, by kernel_rfl⟩
    · exact ⟨(rdInfo.ok N).gt (gtL_sub (by repeat (first | exact subG_nil _ | refine subG_cons (by kernel_rfl) ?_))) (gtL_ok (by decide)), _, Tryd.func41, by kernel_rfl, by kernel_rfl⟩
    · exact ⟨(rdLabel.ok N).gt (gtL_sub (by repeat (first | exact subG_nil _ | refine subG_cons (by kernel_rfl) ?_))) (gtL_ok (by decide)), _, Tryd.func42, by kernel_rfl, by kernel_rfl⟩
    · exact ⟨(rdSecret.ok N).gt (gtL_sub (by repeat (first | exact subG_nil _ | refine subG_cons (by kernel_rfl) ?_))) (gtL_ok (by decide)), _, Tryd.func43, by kernel_rfl, by kernel_rfl⟩
)) 1
theorem ok (N : Nat) : SoundC Tryd.prog (gtL gts) 14 (con (M N)) := by
  refine SoundC.mono (evF_ok (gok N) hm an N Tryd.func14) fun R args bs κ r h => ?_
  unfold con at h
  split at h
  · exact (eq (alive05.M N) (dInfo.M N) (dLabel.M N) (dSecret.M N) (Num.M N) (rdInfo.M N) (rdLabel.M N) (rdSecret.M N) N κ _ _ _ _).trans h
  · cases h
end DeriveLabels

end Go.Proofs.YtildbbihjaaloaaDoor.fn
