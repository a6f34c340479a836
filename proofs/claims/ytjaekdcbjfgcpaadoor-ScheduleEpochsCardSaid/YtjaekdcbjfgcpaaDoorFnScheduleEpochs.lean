/- What a law of epochs computes, with the proof; printed by a program. -/
import Derived.Test.YtjaekdcbjfgcpaaDoorProg
import Derived.Test.YtjaekdcbjfgcpaaDoorEv4
import Derived.Test.YtjaekdcbjfgcpaaDoorFnSchedL
import Derived.Test.YtjaekdcbjfgcpaaDoorFnSchedR
namespace Go.Proofs.YtjaekdcbjfgcpaaDoor.fn
open Go Go.Proofs Go.Ev

/-! ### Tryd.f3: ScheduleEpochs -/
namespace ScheduleEpochs
def an : Anns := ⟨fun i => findA i [], fun i => findA i [], false, fun _ => none, []⟩
noncomputable def g (malive22 : alive22.Ty) (msJoiner : sJoiner.Ty) (msBegin : sBegin.Ty) (msOf : sOf.Ty) (mr22Joiner : r22Joiner.Ty) (mr22Begin : r22Begin.Ty) (mr22Of : r22Of.Ty) : Gi := giD Tryd.prog (gtL [(0, .err 1), (1, .err 3), (19, .ints .u32 64 [1116352408, 1899447441, 3049323471, 3921009573, 961987163, 1508970993, 2453635748, 2870763221, 3624381080, 310598401, 607225278, 1426881987, 1925078388, 2162078206, 2614888103, 3248222580, 3835390401, 4022224774, 264347078, 604807628, 770255983, 1249150122, 1555081692, 1996064986, 2554220882, 2821834349, 2952996808, 3210313671, 3336571891, 3584528711, 113926993, 338241895, 666307205, 773529912, 1294757372, 1396182291, 1695183700, 1986661051, 2177026350, 2456956037, 2730485921, 2820302411, 3259730800, 3345764771, 3516065817, 3600352804, 4094571909, 275423344, 430227734, 506948616, 659060556, 883997877, 958139571, 1322822218, 1537002063, 1747873779, 1955562222, 2024104815, 2227730452, 2361852424, 2428436474, 2756734187, 3204031479, 3329325298])]) (fun _ => an) 0 [] (ovL [(7, alive22.con malive22), (8, sJoiner.con msJoiner), (9, sBegin.con msBegin), (10, sOf.con msOf), (11, r22Joiner.con mr22Joiner), (12, r22Begin.con mr22Begin), (13, r22Of.con mr22Of)]) 1
noncomputable def m (malive22 : alive22.Ty) (msJoiner : sJoiner.Ty) (msBegin : sBegin.Ty) (msOf : sOf.Ty) (mr22Joiner : r22Joiner.Ty) (mr22Begin : r22Begin.Ty) (mr22Of : r22Of.Ty) {R : Type} (_N : Nat) (a1 : List Int) (b2 : List Int) (contextN3 : Option Bool) (context4 : List Int) (kr0 : Bool → Option R) : Option R :=
  malive22 R
   (fun v_c2 => cond (!v_c2)
    (kr0 false)
    (cond (decide ((↑context4.length : Int) > 17000))
     (kr0 true)
     (msJoiner R a1 b2 contextN3 context4
      (fun v_c3 => msBegin R a1 contextN3 context4
       (fun v_c4 v_1_c5 v_2_c6 v_3_c7 v_4_c8 v_5_c9 v_6_c10 v_7_c11 => msOf R b2 contextN3 context4
        (fun v_c12 v_1_c13 v_2_c14 v_3_c15 v_4_c16 v_5_c17 v_6_c18 v_7_c19 => mr22Joiner R a1 b2 contextN3 context4
         (fun v_c20 => cond (v_c3 == v_c20)
          (mr22Begin R a1 contextN3 context4
           (fun v_c21 v_1_c22 v_2_c23 v_3_c24 v_4_c25 v_5_c26 v_6_c27 v_7_c28 => cond (eqVal [AV.ints IntKind.u8 32 v_c4, AV.ints IntKind.u8 32 v_1_c5, AV.ints IntKind.u8 32 v_2_c6, AV.ints IntKind.u8 32 v_3_c7, AV.ints IntKind.u8 32 v_4_c8, AV.ints IntKind.u8 32 v_5_c9, AV.ints IntKind.u8 32 v_6_c10, AV.ints IntKind.u8 32 v_7_c11] [AV.ints IntKind.u8 32 v_c21, AV.ints IntKind.u8 32 v_1_c22, AV.ints IntKind.u8 32 v_2_c23, AV.ints IntKind.u8 32 v_3_c24, AV.ints IntKind.u8 32 v_4_c25, AV.ints IntKind.u8 32 v_5_c26, AV.ints IntKind.u8 32 v_6_c27, AV.ints IntKind.u8 32 v_7_c28])
            (mr22Of R b2 contextN3 context4
             (fun v_c29 v_1_c30 v_2_c31 v_3_c32 v_4_c33 v_5_c34 v_6_c35 v_7_c36 => kr0 (eqVal [AV.ints IntKind.u8 32 v_c12, AV.ints IntKind.u8 32 v_1_c13, AV.ints IntKind.u8 32 v_2_c14, AV.ints IntKind.u8 32 v_3_c15, AV.ints IntKind.u8 32 v_4_c16, AV.ints IntKind.u8 32 v_5_c17, AV.ints IntKind.u8 32 v_6_c18, AV.ints IntKind.u8 32 v_7_c19] [AV.ints IntKind.u8 32 v_c29, AV.ints IntKind.u8 32 v_1_c30, AV.ints IntKind.u8 32 v_2_c31, AV.ints IntKind.u8 32 v_3_c32, AV.ints IntKind.u8 32 v_4_c33, AV.ints IntKind.u8 32 v_5_c34, AV.ints IntKind.u8 32 v_6_c35, AV.ints IntKind.u8 32 v_7_c36])))
            (kr0 false)))
          (kr0 false))))))))
theorem tree (malive22 : alive22.Ty) (msJoiner : sJoiner.Ty) (msBegin : sBegin.Ty) (msOf : sOf.Ty) (mr22Joiner : r22Joiner.Ty) (mr22Begin : r22Begin.Ty) (mr22Of : r22Of.Ty) {R : Type} (N : Nat) (κ : AV → List Blk → Option R) (a1 : List Int) (b2 : List Int) (contextN3 : Option Bool) (context4 : List Int) : evF (g malive22 msJoiner msBegin msOf mr22Joiner mr22Begin mr22Of) an N Tryd.f3 [AV.ints IntKind.u8 32 a1, AV.ints IntKind.u8 32 b2, AV.isl IntKind.u8 contextN3 context4] [] κ =
  malive22 R
   (fun v_c2 => cond (!v_c2)
    (κ (AV.bool false) [])
    (cond (decide ((↑context4.length : Int) > 17000))
     (κ (AV.bool true) [])
     (msJoiner R a1 b2 contextN3 context4
      (fun v_c3 => msBegin R a1 contextN3 context4
       (fun v_c4 v_1_c5 v_2_c6 v_3_c7 v_4_c8 v_5_c9 v_6_c10 v_7_c11 => msOf R b2 contextN3 context4
        (fun v_c12 v_1_c13 v_2_c14 v_3_c15 v_4_c16 v_5_c17 v_6_c18 v_7_c19 => mr22Joiner R a1 b2 contextN3 context4
         (fun v_c20 => cond (v_c3 == v_c20)
          (mr22Begin R a1 contextN3 context4
           (fun v_c21 v_1_c22 v_2_c23 v_3_c24 v_4_c25 v_5_c26 v_6_c27 v_7_c28 => cond (eqVal [AV.ints IntKind.u8 32 v_c4, AV.ints IntKind.u8 32 v_1_c5, AV.ints IntKind.u8 32 v_2_c6, AV.ints IntKind.u8 32 v_3_c7, AV.ints IntKind.u8 32 v_4_c8, AV.ints IntKind.u8 32 v_5_c9, AV.ints IntKind.u8 32 v_6_c10, AV.ints IntKind.u8 32 v_7_c11] [AV.ints IntKind.u8 32 v_c21, AV.ints IntKind.u8 32 v_1_c22, AV.ints IntKind.u8 32 v_2_c23, AV.ints IntKind.u8 32 v_3_c24, AV.ints IntKind.u8 32 v_4_c25, AV.ints IntKind.u8 32 v_5_c26, AV.ints IntKind.u8 32 v_6_c27, AV.ints IntKind.u8 32 v_7_c28])
            (mr22Of R b2 contextN3 context4
             (fun v_c29 v_1_c30 v_2_c31 v_3_c32 v_4_c33 v_5_c34 v_6_c35 v_7_c36 => κ (AV.bool (eqVal [AV.ints IntKind.u8 32 v_c12, AV.ints IntKind.u8 32 v_1_c13, AV.ints IntKind.u8 32 v_2_c14, AV.ints IntKind.u8 32 v_3_c15, AV.ints IntKind.u8 32 v_4_c16, AV.ints IntKind.u8 32 v_5_c17, AV.ints IntKind.u8 32 v_6_c18, AV.ints IntKind.u8 32 v_7_c19] [AV.ints IntKind.u8 32 v_c29, AV.ints IntKind.u8 32 v_1_c30, AV.ints IntKind.u8 32 v_2_c31, AV.ints IntKind.u8 32 v_3_c32, AV.ints IntKind.u8 32 v_4_c33, AV.ints IntKind.u8 32 v_5_c34, AV.ints IntKind.u8 32 v_6_c35, AV.ints IntKind.u8 32 v_7_c36])) []))
            (κ (AV.bool false) [])))
          (κ (AV.bool false) [])))))))) := by kernel_rfl
theorem eq (malive22 : alive22.Ty) (msJoiner : sJoiner.Ty) (msBegin : sBegin.Ty) (msOf : sOf.Ty) (mr22Joiner : r22Joiner.Ty) (mr22Begin : r22Begin.Ty) (mr22Of : r22Of.Ty) {R : Type} (N : Nat) (κ : AV → List Blk → Option R) (a1 : List Int) (b2 : List Int) (contextN3 : Option Bool) (context4 : List Int) : evF (g malive22 msJoiner msBegin msOf mr22Joiner mr22Begin mr22Of) an N Tryd.f3 [AV.ints IntKind.u8 32 a1, AV.ints IntKind.u8 32 b2, AV.isl IntKind.u8 contextN3 context4] [] κ =
  m malive22 msJoiner msBegin msOf mr22Joiner mr22Begin mr22Of N a1 b2 contextN3 context4 (fun v => κ (AV.bool v) []) := by
  rw [tree]
  kernel_rfl
abbrev Ty : Type 1 := ∀ R : Type, (List Int) → (List Int) → (Option Bool) → (List Int) → (Bool → Option R) → Option R
def con (f : Ty) : Con := fun R args bs κ => match args, bs with
  | [AV.ints IntKind.u8 32 a1, AV.ints IntKind.u8 32 b2, AV.isl IntKind.u8 contextN3 context4], [] => f R a1 b2 contextN3 context4 (fun v => κ (AV.bool v) [])
  | _, _ => none
theorem con_eq (f : Ty) (R : Type) (κ : AV → List Blk → Option R) (a1 : List Int) (b2 : List Int) (contextN3 : Option Bool) (context4 : List Int) : con f R [AV.ints IntKind.u8 32 a1, AV.ints IntKind.u8 32 b2, AV.isl IntKind.u8 contextN3 context4] [] κ = f R a1 b2 contextN3 context4 (fun v => κ (AV.bool v) []) := rfl
noncomputable def M (N : Nat) : Ty := fun R a1 b2 contextN3 context4 kr0 => m (alive22.M N) (sJoiner.M N) (sBegin.M N) (sOf.M N) (r22Joiner.M N) (r22Begin.M N) (r22Of.M N) (R := R) N a1 b2 contextN3 context4 kr0
def gts : List (Nat × AV) := [(0, .err 1), (1, .err 3), (19, .ints .u32 64 [1116352408, 1899447441, 3049323471, 3921009573, 961987163, 1508970993, 2453635748, 2870763221, 3624381080, 310598401, 607225278, 1426881987, 1925078388, 2162078206, 2614888103, 3248222580, 3835390401, 4022224774, 264347078, 604807628, 770255983, 1249150122, 1555081692, 1996064986, 2554220882, 2821834349, 2952996808, 3210313671, 3336571891, 3584528711, 113926993, 338241895, 666307205, 773529912, 1294757372, 1396182291, 1695183700, 1986661051, 2177026350, 2456956037, 2730485921, 2820302411, 3259730800, 3345764771, 3516065817, 3600352804, 4094571909, 275423344, 430227734, 506948616, 659060556, 883997877, 958139571, 1322822218, 1537002063, 1747873779, 1955562222, 2024104815, 2227730452, 2361852424, 2428436474, 2756734187, 3204031479, 3329325298])]
theorem gok (N : Nat) : GOk (g (alive22.M N) (sJoiner.M N) (sBegin.M N) (sOf.M N) (r22Joiner.M N) (r22Begin.M N) (r22Of.M N)) := giD_ok hm (by intro p hp; cases hp) (gtL_ok (by decide)) (ovL_ok (by
    intro p hp
    simp only [List.mem_cons, List.not_mem_nil, or_false] at hp
    rcases hp with rfl | rfl | rfl | rfl | rfl | rfl | rfl
    · exact ⟨(alive22.ok N).gt (gtL_sub (by repeat (first | exact subG_nil _ | refine subG_cons (by kernel_rfl) ?_))) (gtL_ok (by decide)), _, Tryd.func7, by kernel_rfl, by kernel_rfl⟩
    · exact ⟨(sJoiner.ok N).gt (gtL_sub (by repeat (first | exact subG_nil _ | refine subG_cons (by kernel_rfl) ?_))) (gtL_ok (by decide)), _, Tryd.func8, by kernel_rfl, by kernel_rfl⟩
    · exact ⟨(sBegin.ok N).gt (gtL_sub (by repeat (first | exact subG_nil _ | refine subG_cons (by kernel_rfl) ?_))) (gtL_ok (by decide)), _, Tryd.func9, by kernel_rfl, by kernel_rfl⟩
    · exact ⟨(sOf.ok N).gt (gtL_sub (by repeat (first | exact subG_nil _ | refine subG_cons (by kernel_rfl) ?_))) (gtL_ok (by decide)), _, Tryd.func10, by kernel_rfl, by kernel_rfl⟩
    · exact ⟨(r22Joiner.ok N).gt (gtL_sub (by repeat (first | exact subG_nil _ | refine subG_cons (by kernel_rfl) ?_))) (gtL_ok (by decide)), _, Tryd.func11, by kernel_rfl, by kernel_rfl⟩
    · exact ⟨(r22Begin.ok N).gt (gtL_sub (by repeat (first | exact subG_nil _ | refine subG_cons (by kernel_rfl) ?_))) (gtL_ok (by decide)), _, Tryd.func12, by kernel_rfl, by kernel_rfl⟩
    · exact ⟨(r22Of.ok N).gt (gtL_sub (by repeat (first | exact subG_nil _ | refine subG_cons (by kernel_rfl) ?_))) (gtL_ok (by decide)), _, Tryd.func13, by kernel_rfl, by kernel_rfl⟩
)) 1
theorem ok (N : Nat) : SoundC Tryd.prog (gtL gts) 3 (con (M N)) := by
  refine SoundC.mono (evF_ok (gok N) hm an N Tryd.func3) fun R args bs κ r h => ?_
  unfold con at h
  split at h
  · exact (eq (alive22.M N) (sJoiner.M N) (sBegin.M N) (sOf.M N) (r22Joiner.M N) (r22Begin.M N) (r22Of.M N) N κ _ _ _ _).trans h
  · cases h
end ScheduleEpochs

end Go.Proofs.YtjaekdcbjfgcpaaDoor.fn
