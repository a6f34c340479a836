/- What an epoch's secrets are, with the proof; printed by a program. -/
import Derived.Test.YtjaekdcbjfgcpaaDoorProg
import Derived.Test.YtjaekdcbjfgcpaaDoorEv4
import Derived.Test.YtjaekdcbjfgcpaaDoorFnDerS
namespace Go.Proofs.YtjaekdcbjfgcpaaDoor.fn
open Go Go.Proofs Go.Ev

/-! ### Tryd.f8: sJoiner -/
namespace sJoiner
def an : Anns := ⟨fun i => findA i [], fun i => findA i [], false, fun _ => none, []⟩
noncomputable def g (mdExtract : dExtract.Ty) (mdSecret : dSecret.Ty) : Gi := giD Tryd.prog (gtL [(0, .err 1), (1, .err 3), (19, .ints .u32 64 K256)]) (fun _ => an) 0 [] (ovL [(22, dExtract.con mdExtract), (21, dSecret.con mdSecret)]) 1
noncomputable def m (mdExtract : dExtract.Ty) (mdSecret : dSecret.Ty) {R : Type} (_N : Nat) (init1 : List Int) (way2 : List Int) (_contextN3 : Option Bool) (context4 : List Int) (kr0 : (List Int) → Option R) : Option R :=
  mdExtract R none (cut (some 32) 0 init1) none (cut (some 32) 0 way2)
   (fun v_c2 => mdSecret R v_c2 ([106, 111, 105, 110, 101, 114]) ([context4])
    (fun v_c3 => kr0 v_c3))
theorem tree (mdExtract : dExtract.Ty) (mdSecret : dSecret.Ty) {R : Type} (N : Nat) (κ : AV → List Blk → Option R) (init1 : List Int) (way2 : List Int) (contextN3 : Option Bool) (context4 : List Int) : evF (g mdExtract mdSecret) an N Tryd.f8 [AV.ints IntKind.u8 32 init1, AV.ints IntKind.u8 32 way2, AV.isl IntKind.u8 contextN3 context4] [] κ =
  mdExtract R none (cut (some 32) 0 init1) none (cut (some 32) 0 way2)
   (fun v_c2 => mdSecret R v_c2 ([106, 111, 105, 110, 101, 114]) ([context4])
    (fun v_c3 => κ (AV.ints IntKind.u8 32 v_c3) [])) := by kernel_rfl
theorem eq (mdExtract : dExtract.Ty) (mdSecret : dSecret.Ty) {R : Type} (N : Nat) (κ : AV → List Blk → Option R) (init1 : List Int) (way2 : List Int) (contextN3 : Option Bool) (context4 : List Int) : evF (g mdExtract mdSecret) an N Tryd.f8 [AV.ints IntKind.u8 32 init1, AV.ints IntKind.u8 32 way2, AV.isl IntKind.u8 contextN3 context4] [] κ =
  m mdExtract mdSecret N init1 way2 contextN3 context4 (fun v => κ (AV.ints IntKind.u8 32 v) []) := by
  rw [tree]
  kernel_rfl
abbrev Ty : Type 1 := ∀ R : Type, (List Int) → (List Int) → (Option Bool) → (List Int) → ((List Int) → Option R) → Option R
def con (f : Ty) : Con := fun R args bs κ => match args, bs with
  | [AV.ints IntKind.u8 32 init1, AV.ints IntKind.u8 32 way2, AV.isl IntKind.u8 contextN3 context4], [] => f R init1 way2 contextN3 context4 (fun v => κ (AV.ints IntKind.u8 32 v) [])
  | _, _ => none
theorem con_eq (f : Ty) (R : Type) (κ : AV → List Blk → Option R) (init1 : List Int) (way2 : List Int) (contextN3 : Option Bool) (context4 : List Int) : con f R [AV.ints IntKind.u8 32 init1, AV.ints IntKind.u8 32 way2, AV.isl IntKind.u8 contextN3 context4] [] κ = f R init1 way2 contextN3 context4 (fun v => κ (AV.ints IntKind.u8 32 v) []) := rfl
noncomputable def M (N : Nat) : Ty := fun R init1 way2 contextN3 context4 kr0 => m (dExtract.M N) (dSecret.M N) (R := R) N init1 way2 contextN3 context4 kr0
def gts : List (Nat × AV) := [(0, .err 1), (1, .err 3), (19, .ints .u32 64 K256)]
theorem gok (N : Nat) : GOk (g (dExtract.M N) (dSecret.M N)) := giD_ok hm (by intro p hp; cases hp) (gtL_ok (by decide)) (ovL_ok (by
    intro p hp
    simp only [List.mem_cons, List.not_mem_nil, or_false] at hp
    rcases hp with rfl | rfl
    · exact ⟨(dExtract.ok N).gt (gtL_sub (by repeat (first | exact subG_nil _ | refine subG_cons (by kernel_rfl) ?_))) (gtL_ok (by decide)), _, Tryd.func22, by kernel_rfl, by kernel_rfl⟩
    · exact ⟨(dSecret.ok N).gt (gtL_sub (by repeat (first | exact subG_nil _ | refine subG_cons (by kernel_rfl) ?_))) (gtL_ok (by decide)), _, Tryd.func21, by kernel_rfl, by kernel_rfl⟩
)) 1
theorem ok (N : Nat) : SoundC Tryd.prog (gtL gts) 8 (con (M N)) := by
  refine SoundC.mono (evF_ok (gok N) hm an N Tryd.func8) fun R args bs κ r h => ?_
  unfold con at h
  split at h
  · exact (eq (dExtract.M N) (dSecret.M N) N κ _ _ _ _).trans h
  · cases h
end sJoiner


/-! ### Tryd.f10: sOf -/
namespace sOf
def an : Anns := ⟨fun i => findA i [], fun i => findA i [], false, fun _ => none, []⟩
noncomputable def g (mdExtract : dExtract.Ty) (mdSecret : dSecret.Ty) : Gi := giD Tryd.prog (gtL [(0, .err 1), (1, .err 3), (19, .ints .u32 64 K256)]) (fun _ => an) 0 [] (ovL [(22, dExtract.con mdExtract), (21, dSecret.con mdSecret)]) 1
noncomputable def m (mdExtract : dExtract.Ty) (mdSecret : dSecret.Ty) {R : Type} (_N : Nat) (joiner1 : List Int) (_contextN2 : Option Bool) (context3 : List Int) (kr0 : (List Int) → (List Int) → (List Int) → (List Int) → (List Int) → (List Int) → (List Int) → (List Int) → Option R) : Option R :=
  mdExtract R none (cut (some 32) 0 joiner1) (some true) []
   (fun v_c8 => mdSecret R v_c8 ([101, 112, 111, 99, 104]) ([context3])
    (fun v_c9 => mdSecret R v_c8 ([119, 101, 108, 99, 111, 109, 101]) []
     (fun v_c10 => mdSecret R v_c9 ([99, 111, 110, 102, 105, 114, 109]) []
      (fun v_c11 => mdSecret R v_c9 ([101, 120, 112, 111, 114, 116, 101, 114]) []
       (fun v_c12 => mdSecret R v_c9 ([97, 117, 116, 104, 101, 110, 116, 105, 99, 97, 116, 111, 114]) []
        (fun v_c13 => mdSecret R v_c9 ([105, 100, 101, 110, 116, 105, 102, 105, 101, 114]) []
         (fun v_c14 => mdSecret R v_c9 ([105, 110, 105, 116]) []
          (fun v_c15 => kr0 joiner1 v_c10 v_c9 v_c11 v_c12 v_c13 v_c14 v_c15))))))))
theorem tree (mdExtract : dExtract.Ty) (mdSecret : dSecret.Ty) {R : Type} (N : Nat) (κ : AV → List Blk → Option R) (joiner1 : List Int) (contextN2 : Option Bool) (context3 : List Int) : evF (g mdExtract mdSecret) an N Tryd.f10 [AV.ints IntKind.u8 32 joiner1, AV.isl IntKind.u8 contextN2 context3] [] κ =
  mdExtract R none (cut (some 32) 0 joiner1) (some true) []
   (fun v_c8 => mdSecret R v_c8 ([101, 112, 111, 99, 104]) ([context3])
    (fun v_c9 => mdSecret R v_c8 ([119, 101, 108, 99, 111, 109, 101]) []
     (fun v_c10 => mdSecret R v_c9 ([99, 111, 110, 102, 105, 114, 109]) []
      (fun v_c11 => mdSecret R v_c9 ([101, 120, 112, 111, 114, 116, 101, 114]) []
       (fun v_c12 => mdSecret R v_c9 ([97, 117, 116, 104, 101, 110, 116, 105, 99, 97, 116, 111, 114]) []
        (fun v_c13 => mdSecret R v_c9 ([105, 100, 101, 110, 116, 105, 102, 105, 101, 114]) []
         (fun v_c14 => mdSecret R v_c9 ([105, 110, 105, 116]) []
          (fun v_c15 => κ (AV.agg [AV.ints IntKind.u8 32 joiner1, AV.ints IntKind.u8 32 v_c10, AV.ints IntKind.u8 32 v_c9, AV.ints IntKind.u8 32 v_c11, AV.ints IntKind.u8 32 v_c12, AV.ints IntKind.u8 32 v_c13, AV.ints IntKind.u8 32 v_c14, AV.ints IntKind.u8 32 v_c15]) [])))))))) := by kernel_rfl
theorem eq (mdExtract : dExtract.Ty) (mdSecret : dSecret.Ty) {R : Type} (N : Nat) (κ : AV → List Blk → Option R) (joiner1 : List Int) (contextN2 : Option Bool) (context3 : List Int) : evF (g mdExtract mdSecret) an N Tryd.f10 [AV.ints IntKind.u8 32 joiner1, AV.isl IntKind.u8 contextN2 context3] [] κ =
  m mdExtract mdSecret N joiner1 contextN2 context3 (fun v v_1 v_2 v_3 v_4 v_5 v_6 v_7 => κ (AV.agg [AV.ints IntKind.u8 32 v, AV.ints IntKind.u8 32 v_1, AV.ints IntKind.u8 32 v_2, AV.ints IntKind.u8 32 v_3, AV.ints IntKind.u8 32 v_4, AV.ints IntKind.u8 32 v_5, AV.ints IntKind.u8 32 v_6, AV.ints IntKind.u8 32 v_7]) []) := by
  rw [tree]
  kernel_rfl
abbrev Ty : Type 1 := ∀ R : Type, (List Int) → (Option Bool) → (List Int) → ((List Int) → (List Int) → (List Int) → (List Int) → (List Int) → (List Int) → (List Int) → (List Int) → Option R) → Option R
def con (f : Ty) : Con := fun R args bs κ => match args, bs with
  | [AV.ints IntKind.u8 32 joiner1, AV.isl IntKind.u8 contextN2 context3], [] => f R joiner1 contextN2 context3 (fun v v_1 v_2 v_3 v_4 v_5 v_6 v_7 => κ (AV.agg [AV.ints IntKind.u8 32 v, AV.ints IntKind.u8 32 v_1, AV.ints IntKind.u8 32 v_2, AV.ints IntKind.u8 32 v_3, AV.ints IntKind.u8 32 v_4, AV.ints IntKind.u8 32 v_5, AV.ints IntKind.u8 32 v_6, AV.ints IntKind.u8 32 v_7]) [])
  | _, _ => none
theorem con_eq (f : Ty) (R : Type) (κ : AV → List Blk → Option R) (joiner1 : List Int) (contextN2 : Option Bool) (context3 : List Int) : con f R [AV.ints IntKind.u8 32 joiner1, AV.isl IntKind.u8 contextN2 context3] [] κ = f R joiner1 contextN2 context3 (fun v v_1 v_2 v_3 v_4 v_5 v_6 v_7 => κ (AV.agg [AV.ints IntKind.u8 32 v, AV.ints IntKind.u8 32 v_1, AV.ints IntKind.u8 32 v_2, AV.ints IntKind.u8 32 v_3, AV.ints IntKind.u8 32 v_4, AV.ints IntKind.u8 32 v_5, AV.ints IntKind.u8 32 v_6, AV.ints IntKind.u8 32 v_7]) []) := rfl
noncomputable def M (N : Nat) : Ty := fun R joiner1 contextN2 context3 kr0 => m (dExtract.M N) (dSecret.M N) (R := R) N joiner1 contextN2 context3 kr0
def gts : List (Nat × AV) := [(0, .err 1), (1, .err 3), (19, .ints .u32 64 K256)]
theorem gok (N : Nat) : GOk (g (dExtract.M N) (dSecret.M N)) := giD_ok hm (by intro p hp; cases hp) (gtL_ok (by decide)) (ovL_ok (by
    intro p hp
    simp only [List.mem_cons, List.not_mem_nil, or_false] at hp
    rcases hp with rfl | rfl
    · exact ⟨(dExtract.ok N).gt (gtL_sub (by repeat (first | exact subG_nil _ | refine subG_cons (by kernel_rfl) ?_))) (gtL_ok (by decide)), _, Tryd.func22, by kernel_rfl, by kernel_rfl⟩
    · exact ⟨(dSecret.ok N).gt (gtL_sub (by repeat (first | exact subG_nil _ | refine subG_cons (by kernel_rfl) ?_))) (gtL_ok (by decide)), _, Tryd.func21, by kernel_rfl, by kernel_rfl⟩
)) 1
theorem ok (N : Nat) : SoundC Tryd.prog (gtL gts) 10 (con (M N)) := by
  refine SoundC.mono (evF_ok (gok N) hm an N Tryd.func10) fun R args bs κ r h => ?_
  unfold con at h
  split at h
  · exact (eq (dExtract.M N) (dSecret.M N) N κ _ _ _).trans h
  · cases h
end sOf


/-! ### Tryd.f9: sBegin -/
namespace sBegin
def an : Anns := ⟨fun i => findA i [], fun i => findA i [], false, fun _ => none, []⟩
noncomputable def g (mdSecret : dSecret.Ty) (msJoiner : sJoiner.Ty) (msOf : sOf.Ty) : Gi := giD Tryd.prog (gtL [(0, .err 1), (1, .err 3), (19, .ints .u32 64 K256)]) (fun _ => an) 0 [] (ovL [(21, dSecret.con mdSecret), (8, sJoiner.con msJoiner), (10, sOf.con msOf)]) 1
noncomputable def m (mdSecret : dSecret.Ty) (msJoiner : sJoiner.Ty) (msOf : sOf.Ty) {R : Type} (_N : Nat) (draw1 : List Int) (contextN2 : Option Bool) (context3 : List Int) (kr0 : (List Int) → (List Int) → (List Int) → (List Int) → (List Int) → (List Int) → (List Int) → (List Int) → Option R) : Option R :=
  mdSecret R draw1 ([98, 101, 103, 105, 110]) []
   (fun v_c10 => msJoiner R v_c10 ([0, 0, 0, 0, 0, 0, 0, 0, 0, 0, 0, 0, 0, 0, 0, 0, 0, 0, 0, 0, 0, 0, 0, 0, 0, 0, 0, 0, 0, 0, 0, 0]) contextN2 context3
    (fun v_c11 => msOf R v_c11 contextN2 context3
     (fun v_c12 v_1_c13 v_2_c14 v_3_c15 v_4_c16 v_5_c17 v_6_c18 v_7_c19 => kr0 v_c12 v_1_c13 v_2_c14 v_3_c15 v_4_c16 v_5_c17 v_6_c18 v_7_c19)))
theorem tree (mdSecret : dSecret.Ty) (msJoiner : sJoiner.Ty) (msOf : sOf.Ty) {R : Type} (N : Nat) (κ : AV → List Blk → Option R) (draw1 : List Int) (contextN2 : Option Bool) (context3 : List Int) : evF (g mdSecret msJoiner msOf) an N Tryd.f9 [AV.ints IntKind.u8 32 draw1, AV.isl IntKind.u8 contextN2 context3] [] κ =
  mdSecret R draw1 ([98, 101, 103, 105, 110]) []
   (fun v_c10 => msJoiner R v_c10 ([0, 0, 0, 0, 0, 0, 0, 0, 0, 0, 0, 0, 0, 0, 0, 0, 0, 0, 0, 0, 0, 0, 0, 0, 0, 0, 0, 0, 0, 0, 0, 0]) contextN2 context3
    (fun v_c11 => msOf R v_c11 contextN2 context3
     (fun v_c12 v_1_c13 v_2_c14 v_3_c15 v_4_c16 v_5_c17 v_6_c18 v_7_c19 => κ (AV.agg [AV.ints IntKind.u8 32 v_c12, AV.ints IntKind.u8 32 v_1_c13, AV.ints IntKind.u8 32 v_2_c14, AV.ints IntKind.u8 32 v_3_c15, AV.ints IntKind.u8 32 v_4_c16, AV.ints IntKind.u8 32 v_5_c17, AV.ints IntKind.u8 32 v_6_c18, AV.ints IntKind.u8 32 v_7_c19]) []))) := by kernel_rfl
theorem eq (mdSecret : dSecret.Ty) (msJoiner : sJoiner.Ty) (msOf : sOf.Ty) {R : Type} (N : Nat) (κ : AV → List Blk → Option R) (draw1 : List Int) (contextN2 : Option Bool) (context3 : List Int) : evF (g mdSecret msJoiner msOf) an N Tryd.f9 [AV.ints IntKind.u8 32 draw1, AV.isl IntKind.u8 contextN2 context3] [] κ =
  m mdSecret msJoiner msOf N draw1 contextN2 context3 (fun v v_1 v_2 v_3 v_4 v_5 v_6 v_7 => κ (AV.agg [AV.ints IntKind.u8 32 v, AV.ints IntKind.u8 32 v_1, AV.ints IntKind.u8 32 v_2, AV.ints IntKind.u8 32 v_3, AV.ints IntKind.u8 32 v_4, AV.ints IntKind.u8 32 v_5, AV.ints IntKind.u8 32 v_6, AV.ints IntKind.u8 32 v_7]) []) := by
  rw [tree]
  kernel_rfl
abbrev Ty : Type 1 := ∀ R : Type, (List Int) → (Option Bool) → (List Int) → ((List Int) → (List Int) → (List Int) → (List Int) → (List Int) → (List Int) → (List Int) → (List Int) → Option R) → Option R
def con (f : Ty) : Con := fun R args bs κ => match args, bs with
  | [AV.ints IntKind.u8 32 draw1, AV.isl IntKind.u8 contextN2 context3], [] => f R draw1 contextN2 context3 (fun v v_1 v_2 v_3 v_4 v_5 v_6 v_7 => κ (AV.agg [AV.ints IntKind.u8 32 v, AV.ints IntKind.u8 32 v_1, AV.ints IntKind.u8 32 v_2, AV.ints IntKind.u8 32 v_3, AV.ints IntKind.u8 32 v_4, AV.ints IntKind.u8 32 v_5, AV.ints IntKind.u8 32 v_6, AV.ints IntKind.u8 32 v_7]) [])
  | _, _ => none
theorem con_eq (f : Ty) (R : Type) (κ : AV → List Blk → Option R) (draw1 : List Int) (contextN2 : Option Bool) (context3 : List Int) : con f R [AV.ints IntKind.u8 32 draw1, AV.isl IntKind.u8 contextN2 context3] [] κ = f R draw1 contextN2 context3 (fun v v_1 v_2 v_3 v_4 v_5 v_6 v_7 => κ (AV.agg [AV.ints IntKind.u8 32 v, AV.ints IntKind.u8 32 v_1, AV.ints IntKind.u8 32 v_2, AV.ints IntKind.u8 32 v_3, AV.ints IntKind.u8 32 v_4, AV.ints IntKind.u8 32 v_5, AV.ints IntKind.u8 32 v_6, AV.ints IntKind.u8 32 v_7]) []) := rfl
noncomputable def M (N : Nat) : Ty := fun R draw1 contextN2 context3 kr0 => m (dSecret.M N) (sJoiner.M N) (sOf.M N) (R := R) N draw1 contextN2 context3 kr0
def gts : List (Nat × AV) := [(0, .err 1), (1, .err 3), (19, .ints .u32 64 K256)]
theorem gok (N : Nat) : GOk (g (dSecret.M N) (sJoiner.M N) (sOf.M N)) := giD_ok hm (by intro p hp; cases hp) (gtL_ok (by decide)) (ovL_ok (by
    intro p hp
    simp only [List.mem_cons, List.not_mem_nil, or_false] at hp
    rcases hp with rfl | rfl | rfl
    · exact ⟨(dSecret.ok N).gt (gtL_sub (by repeat (first | exact subG_nil _ | refine subG_cons (by kernel_rfl) ?_))) (gtL_ok (by decide)), _, Tryd.func21, by kernel_rfl, by kernel_rfl⟩
    · exact ⟨(sJoiner.ok N).gt (gtL_sub (by repeat (first | exact subG_nil _ | refine subG_cons (by kernel_rfl) ?_))) (gtL_ok (by decide)), _, Tryd.func8, by kernel_rfl, by kernel_rfl⟩
    · exact ⟨(sOf.ok N).gt (gtL_sub (by repeat (first | exact subG_nil _ | refine subG_cons (by kernel_rfl) ?_))) (gtL_ok (by decide)), _, Tryd.func10, by kernel_rfl, by kernel_rfl⟩
)) 1
theorem ok (N : Nat) : SoundC Tryd.prog (gtL gts) 9 (con (M N)) := by
  refine SoundC.mono (evF_ok (gok N) hm an N Tryd.func9) fun R args bs κ r h => ?_
  unfold con at h
  split at h
  · exact (eq (dSecret.M N) (sJoiner.M N) (sOf.M N) N κ _ _ _).trans h
  · cases h
end sBegin


/-! ### Tryd.f14: sTag -/
namespace sTag
def an : Anns := ⟨fun i => findA i [], fun i => findA i [], false, fun _ => none, []⟩
noncomputable def g (mmSum : mSum.Ty) : Gi := giD Tryd.prog (gtL [(0, .err 1), (19, .ints .u32 64 K256)]) (fun _ => an) 0 [] (ovL [(25, mSum.con mmSum)]) 1
noncomputable def m (mmSum : mSum.Ty) {R : Type} (_N : Nat) (_e1 : List Int) (_e2 : List Int) (_e3 : List Int) (e4 : List Int) (_e5 : List Int) (_e6 : List Int) (_e7 : List Int) (_e8 : List Int) (transcript9 : List Int) (kr0 : (List Int) → Option R) : Option R :=
  mmSum R none (cut (some 32) 0 e4) ([cut (some 32) 0 transcript9])
   (fun v_c1 => kr0 v_c1)
theorem tree (mmSum : mSum.Ty) {R : Type} (N : Nat) (κ : AV → List Blk → Option R) (e1 : List Int) (e2 : List Int) (e3 : List Int) (e4 : List Int) (e5 : List Int) (e6 : List Int) (e7 : List Int) (e8 : List Int) (transcript9 : List Int) : evF (g mmSum) an N Tryd.f14 [AV.agg [AV.ints IntKind.u8 32 e1, AV.ints IntKind.u8 32 e2, AV.ints IntKind.u8 32 e3, AV.ints IntKind.u8 32 e4, AV.ints IntKind.u8 32 e5, AV.ints IntKind.u8 32 e6, AV.ints IntKind.u8 32 e7, AV.ints IntKind.u8 32 e8], AV.ints IntKind.u8 32 transcript9] [] κ =
  mmSum R none (cut (some 32) 0 e4) ([cut (some 32) 0 transcript9])
   (fun v_c1 => κ (AV.ints IntKind.u8 32 v_c1) []) := by kernel_rfl
theorem eq (mmSum : mSum.Ty) {R : Type} (N : Nat) (κ : AV → List Blk → Option R) (e1 : List Int) (e2 : List Int) (e3 : List Int) (e4 : List Int) (e5 : List Int) (e6 : List Int) (e7 : List Int) (e8 : List Int) (transcript9 : List Int) : evF (g mmSum) an N Tryd.f14 [AV.agg [AV.ints IntKind.u8 32 e1, AV.ints IntKind.u8 32 e2, AV.ints IntKind.u8 32 e3, AV.ints IntKind.u8 32 e4, AV.ints IntKind.u8 32 e5, AV.ints IntKind.u8 32 e6, AV.ints IntKind.u8 32 e7, AV.ints IntKind.u8 32 e8], AV.ints IntKind.u8 32 transcript9] [] κ =
  m mmSum N e1 e2 e3 e4 e5 e6 e7 e8 transcript9 (fun v => κ (AV.ints IntKind.u8 32 v) []) := by
  rw [tree]
  kernel_rfl
abbrev Ty : Type 1 := ∀ R : Type, (List Int) → (List Int) → (List Int) → (List Int) → (List Int) → (List Int) → (List Int) → (List Int) → (List Int) → ((List Int) → Option R) → Option R
def con (f : Ty) : Con := fun R args bs κ => match args, bs with
  | [AV.agg [AV.ints IntKind.u8 32 e1, AV.ints IntKind.u8 32 e2, AV.ints IntKind.u8 32 e3, AV.ints IntKind.u8 32 e4, AV.ints IntKind.u8 32 e5, AV.ints IntKind.u8 32 e6, AV.ints IntKind.u8 32 e7, AV.ints IntKind.u8 32 e8], AV.ints IntKind.u8 32 transcript9], [] => f R e1 e2 e3 e4 e5 e6 e7 e8 transcript9 (fun v => κ (AV.ints IntKind.u8 32 v) [])
  | _, _ => none
theorem con_eq (f : Ty) (R : Type) (κ : AV → List Blk → Option R) (e1 : List Int) (e2 : List Int) (e3 : List Int) (e4 : List Int) (e5 : List Int) (e6 : List Int) (e7 : List Int) (e8 : List Int) (transcript9 : List Int) : con f R [AV.agg [AV.ints IntKind.u8 32 e1, AV.ints IntKind.u8 32 e2, AV.ints IntKind.u8 32 e3, AV.ints IntKind.u8 32 e4, AV.ints IntKind.u8 32 e5, AV.ints IntKind.u8 32 e6, AV.ints IntKind.u8 32 e7, AV.ints IntKind.u8 32 e8], AV.ints IntKind.u8 32 transcript9] [] κ = f R e1 e2 e3 e4 e5 e6 e7 e8 transcript9 (fun v => κ (AV.ints IntKind.u8 32 v) []) := rfl
noncomputable def M (N : Nat) : Ty := fun R e1 e2 e3 e4 e5 e6 e7 e8 transcript9 kr0 => m (mSum.M N) (R := R) N e1 e2 e3 e4 e5 e6 e7 e8 transcript9 kr0
def gts : List (Nat × AV) := [(0, .err 1), (19, .ints .u32 64 K256)]
theorem gok (N : Nat) : GOk (g (mSum.M N)) := giD_ok hm (by intro p hp; cases hp) (gtL_ok (by decide)) (ovL_ok (by
    intro p hp
    simp only [List.mem_cons, List.not_mem_nil, or_false] at hp
    rcases hp with rfl
    · exact ⟨(mSum.ok N).gt (gtL_sub (by repeat (first | exact subG_nil _ | refine subG_cons (by kernel_rfl) ?_))) (gtL_ok (by decide)), _, Tryd.func25, by kernel_rfl, by kernel_rfl⟩
)) 1
theorem ok (N : Nat) : SoundC Tryd.prog (gtL gts) 14 (con (M N)) := by
  refine SoundC.mono (evF_ok (gok N) hm an N Tryd.func14) fun R args bs κ r h => ?_
  unfold con at h
  split at h
  · exact (eq (mSum.M N) N κ _ _ _ _ _ _ _ _ _).trans h
  · cases h
end sTag


/-! ### Tryd.f15: sExport -/
namespace sExport
def an : Anns := ⟨fun i => findA i [], fun i => findA i [], true, fun _ => none, []⟩
noncomputable def g (mdSecret : dSecret.Ty) (msSum : sSum.Ty) (mdLabel : dLabel.Ty) : Gi := giD Tryd.prog (gtL [(0, .err 1), (1, .err 3), (19, .ints .u32 64 K256)]) (fun _ => an) 0 [] (ovL [(21, dSecret.con mdSecret), (26, sSum.con msSum), (27, dLabel.con mdLabel)]) 1
noncomputable def m (mdSecret : dSecret.Ty) (msSum : sSum.Ty) (mdLabel : dLabel.Ty) {R : Type} (_N : Nat) (_e1 : List Int) (_e2 : List Int) (_e3 : List Int) (_e4 : List Int) (e5 : List Int) (_e6 : List Int) (_e7 : List Int) (_e8 : List Int) (label9 : List UInt8) (_contextN10 : Option Bool) (context11 : List Int) (n12 : Int) (kr0 : Nat → Option R) (kr1 : (Option Bool) → (List Int) → Nat → Option R) : Option R :=
  cond (decide (n12 < 0))
   (kr0 1)
   (cond (decide (n12 > 1000))
    (kr0 1)
    (cond (decide ((↑label9.length : Int) > 16384))
     (kr0 3)
     (cond (decide ((↑context11.length : Int) > 16384))
      (kr0 3)
      (mdSecret R e5 ([101, 120, 112, 111, 114, 116]) ([cut none 0 (ofStr label9)])
       (fun v_c5 => msSum R ([context11])
        (fun v_c6 => mdLabel R v_c5 ([101, 120, 112, 111, 114, 116, 101, 100]) none (cut (some 32) 0 v_c6) n12
         (fun v_c7 v_1_c8 v_2_c9 => kr1 v_c7 v_1_c8 v_2_c9)))))))
theorem tree (mdSecret : dSecret.Ty) (msSum : sSum.Ty) (mdLabel : dLabel.Ty) {R : Type} (N : Nat) (κ : AV → List Blk → Option R) (e1 : List Int) (e2 : List Int) (e3 : List Int) (e4 : List Int) (e5 : List Int) (e6 : List Int) (e7 : List Int) (e8 : List Int) (label9 : List UInt8) (contextN10 : Option Bool) (context11 : List Int) (n12 : Int) : evF (g mdSecret msSum mdLabel) an N Tryd.f15 [AV.agg [AV.ints IntKind.u8 32 e1, AV.ints IntKind.u8 32 e2, AV.ints IntKind.u8 32 e3, AV.ints IntKind.u8 32 e4, AV.ints IntKind.u8 32 e5, AV.ints IntKind.u8 32 e6, AV.ints IntKind.u8 32 e7, AV.ints IntKind.u8 32 e8], AV.str label9, AV.isl IntKind.u8 contextN10 context11, AV.int IntKind.i64 n12] [] κ =
  cond (decide (n12 < 0))
   (κ (AV.tup [AV.nils, AV.err 1]) [])
   (cond (decide (n12 > 1000))
    (κ (AV.tup [AV.nils, AV.err 1]) [])
    (cond (decide ((↑label9.length : Int) > 16384))
     (κ (AV.tup [AV.nils, AV.err 3]) [])
     (cond (decide ((↑context11.length : Int) > 16384))
      (κ (AV.tup [AV.nils, AV.err 3]) [])
      (mdSecret R e5 ([101, 120, 112, 111, 114, 116]) ([cut none 0 (ofStr label9)])
       (fun v_c5 => msSum R ([context11])
        (fun v_c6 => mdLabel R v_c5 ([101, 120, 112, 111, 114, 116, 101, 100]) none (cut (some 32) 0 v_c6) n12
         (fun v_c7 v_1_c8 v_2_c9 => κ (AV.tup [AV.isl IntKind.u8 v_c7 v_1_c8, AV.err v_2_c9]) []))))))) := by kernel_rfl
theorem eq (mdSecret : dSecret.Ty) (msSum : sSum.Ty) (mdLabel : dLabel.Ty) {R : Type} (N : Nat) (κ : AV → List Blk → Option R) (e1 : List Int) (e2 : List Int) (e3 : List Int) (e4 : List Int) (e5 : List Int) (e6 : List Int) (e7 : List Int) (e8 : List Int) (label9 : List UInt8) (contextN10 : Option Bool) (context11 : List Int) (n12 : Int) : evF (g mdSecret msSum mdLabel) an N Tryd.f15 [AV.agg [AV.ints IntKind.u8 32 e1, AV.ints IntKind.u8 32 e2, AV.ints IntKind.u8 32 e3, AV.ints IntKind.u8 32 e4, AV.ints IntKind.u8 32 e5, AV.ints IntKind.u8 32 e6, AV.ints IntKind.u8 32 e7, AV.ints IntKind.u8 32 e8], AV.str label9, AV.isl IntKind.u8 contextN10 context11, AV.int IntKind.i64 n12] [] κ =
  m mdSecret msSum mdLabel N e1 e2 e3 e4 e5 e6 e7 e8 label9 contextN10 context11 n12 (fun v => κ (AV.tup [AV.nils, AV.err v]) []) (fun vg1 v_1 v_2 => κ (AV.tup [AV.isl IntKind.u8 vg1 v_1, AV.err v_2]) []) := by
  rw [tree]
  kernel_rfl
abbrev Ty : Type 1 := ∀ R : Type, (List Int) → (List Int) → (List Int) → (List Int) → (List Int) → (List Int) → (List Int) → (List Int) → (List UInt8) → (Option Bool) → (List Int) → Int → (Nat → Option R) → ((Option Bool) → (List Int) → Nat → Option R) → Option R
def con (f : Ty) : Con := fun R args bs κ => match args, bs with
  | [AV.agg [AV.ints IntKind.u8 32 e1, AV.ints IntKind.u8 32 e2, AV.ints IntKind.u8 32 e3, AV.ints IntKind.u8 32 e4, AV.ints IntKind.u8 32 e5, AV.ints IntKind.u8 32 e6, AV.ints IntKind.u8 32 e7, AV.ints IntKind.u8 32 e8], AV.str label9, AV.isl IntKind.u8 contextN10 context11, AV.int IntKind.i64 n12], [] => f R e1 e2 e3 e4 e5 e6 e7 e8 label9 contextN10 context11 n12 (fun v => κ (AV.tup [AV.nils, AV.err v]) []) (fun vg1 v_1 v_2 => κ (AV.tup [AV.isl IntKind.u8 vg1 v_1, AV.err v_2]) [])
  | _, _ => none
theorem con_eq (f : Ty) (R : Type) (κ : AV → List Blk → Option R) (e1 : List Int) (e2 : List Int) (e3 : List Int) (e4 : List Int) (e5 : List Int) (e6 : List Int) (e7 : List Int) (e8 : List Int) (label9 : List UInt8) (contextN10 : Option Bool) (context11 : List Int) (n12 : Int) : con f R [AV.agg [AV.ints IntKind.u8 32 e1, AV.ints IntKind.u8 32 e2, AV.ints IntKind.u8 32 e3, AV.ints IntKind.u8 32 e4, AV.ints IntKind.u8 32 e5, AV.ints IntKind.u8 32 e6, AV.ints IntKind.u8 32 e7, AV.ints IntKind.u8 32 e8], AV.str label9, AV.isl IntKind.u8 contextN10 context11, AV.int IntKind.i64 n12] [] κ = f R e1 e2 e3 e4 e5 e6 e7 e8 label9 contextN10 context11 n12 (fun v => κ (AV.tup [AV.nils, AV.err v]) []) (fun vg1 v_1 v_2 => κ (AV.tup [AV.isl IntKind.u8 vg1 v_1, AV.err v_2]) []) := rfl
noncomputable def M (N : Nat) : Ty := fun R e1 e2 e3 e4 e5 e6 e7 e8 label9 contextN10 context11 n12 kr0 kr1 => m (dSecret.M N) (sSum.M N) (dLabel.M N) (R := R) N e1 e2 e3 e4 e5 e6 e7 e8 label9 contextN10 context11 n12 kr0 kr1
def gts : List (Nat × AV) := [(0, .err 1), (1, .err 3), (19, .ints .u32 64 K256)]
theorem gok (N : Nat) : GOk (g (dSecret.M N) (sSum.M N) (dLabel.M N)) := giD_ok hm (by intro p hp; cases hp) (gtL_ok (by decide)) (ovL_ok (by
    intro p hp
    simp only [List.mem_cons, List.not_mem_nil, or_false] at hp
    rcases hp with rfl | rfl | rfl
    · exact ⟨(dSecret.ok N).gt (gtL_sub (by repeat (first | exact subG_nil _ | refine subG_cons (by kernel_rfl) ?_))) (gtL_ok (by decide)), _, Tryd.func21, by kernel_rfl, by kernel_rfl⟩
    · exact ⟨(sSum.ok N).gt (gtL_sub (by repeat (first | exact subG_nil _ | refine subG_cons (by kernel_rfl) ?_))) (gtL_ok (by decide)), _, Tryd.func26, by kernel_rfl, by kernel_rfl⟩
    · exact ⟨(dLabel.ok N).gt (gtL_sub (by repeat (first | exact subG_nil _ | refine subG_cons (by kernel_rfl) ?_))) (gtL_ok (by decide)), _, Tryd.func27, by kernel_rfl, by kernel_rfl⟩
)) 1
theorem ok (N : Nat) : SoundC Tryd.prog (gtL gts) 15 (con (M N)) := by
  refine SoundC.mono (evF_ok (gok N) hm an N Tryd.func15) fun R args bs κ r h => ?_
  unfold con at h
  split at h
  · exact (eq (dSecret.M N) (sSum.M N) (dLabel.M N) N κ _ _ _ _ _ _ _ _ _ _ _ _).trans h
  · cases h
end sExport


/-! ### Tryd.f17: sSealer -/
namespace sSealer
def an : Anns := ⟨fun i => findA i [], fun i => findA i [], false, fun _ => none, []⟩
noncomputable def g (mdLabel : dLabel.Ty) : Gi := giD Tryd.prog (gtL [(0, .err 1), (1, .err 3), (19, .ints .u32 64 K256)]) (fun _ => an) 0 [] (ovL [(27, dLabel.con mdLabel)]) 1
noncomputable def m (mdLabel : dLabel.Ty) {R : Type} (_N : Nat) (_e1 : List Int) (e2 : List Int) (_e3 : List Int) (_e4 : List Int) (_e5 : List Int) (_e6 : List Int) (_e7 : List Int) (_e8 : List Int) (kr0 : (List Int) → (Option Bool) → (List Int) → Option R) : Option R :=
  mdLabel R e2 ([107, 101, 121]) (some true) [] 32
   (fun _v_c12 v_1_c13 v_2_c14 => mdLabel R e2 ([110, 111, 110, 99, 101]) (some true) [] 12
    (fun v_c15 v_1_c16 v_2_c17 => cond (!v_2_c14.beq 0)
     (kr0 ([0, 0, 0, 0, 0, 0, 0, 0, 0, 0, 0, 0, 0, 0, 0, 0, 0, 0, 0, 0, 0, 0, 0, 0, 0, 0, 0, 0, 0, 0, 0, 0]) none ([0, 0, 0, 0, 0, 0, 0, 0, 0, 0, 0, 0]))
     (cond (!v_2_c17.beq 0)
      (kr0 ([0, 0, 0, 0, 0, 0, 0, 0, 0, 0, 0, 0, 0, 0, 0, 0, 0, 0, 0, 0, 0, 0, 0, 0, 0, 0, 0, 0, 0, 0, 0, 0]) none ([0, 0, 0, 0, 0, 0, 0, 0, 0, 0, 0, 0]))
      (cond (true && Nat.ble 32 v_1_c13.length)
       (kr0 (List.take 32 v_1_c13) v_c15 v_1_c16)
       none))))
theorem tree (mdLabel : dLabel.Ty) {R : Type} (N : Nat) (κ : AV → List Blk → Option R) (e1 : List Int) (e2 : List Int) (e3 : List Int) (e4 : List Int) (e5 : List Int) (e6 : List Int) (e7 : List Int) (e8 : List Int) : evF (g mdLabel) an N Tryd.f17 [AV.agg [AV.ints IntKind.u8 32 e1, AV.ints IntKind.u8 32 e2, AV.ints IntKind.u8 32 e3, AV.ints IntKind.u8 32 e4, AV.ints IntKind.u8 32 e5, AV.ints IntKind.u8 32 e6, AV.ints IntKind.u8 32 e7, AV.ints IntKind.u8 32 e8]] [] κ =
  mdLabel R e2 ([107, 101, 121]) (some true) [] 32
   (fun _v_c12 v_1_c13 v_2_c14 => mdLabel R e2 ([110, 111, 110, 99, 101]) (some true) [] 12
    (fun v_c15 v_1_c16 v_2_c17 => cond (!v_2_c14.beq 0)
     (κ (AV.tup [AV.ints IntKind.u8 32 [0, 0, 0, 0, 0, 0, 0, 0, 0, 0, 0, 0, 0, 0, 0, 0, 0, 0, 0, 0, 0, 0, 0, 0, 0, 0, 0, 0, 0, 0, 0, 0], AV.isl IntKind.u8 none [0, 0, 0, 0, 0, 0, 0, 0, 0, 0, 0, 0]]) [])
     (cond (!v_2_c17.beq 0)
      (κ (AV.tup [AV.ints IntKind.u8 32 [0, 0, 0, 0, 0, 0, 0, 0, 0, 0, 0, 0, 0, 0, 0, 0, 0, 0, 0, 0, 0, 0, 0, 0, 0, 0, 0, 0, 0, 0, 0, 0], AV.isl IntKind.u8 none [0, 0, 0, 0, 0, 0, 0, 0, 0, 0, 0, 0]]) [])
      (cond (true && Nat.ble 32 v_1_c13.length)
       (κ (AV.tup [AV.ints IntKind.u8 32 (List.take 32 v_1_c13), AV.isl IntKind.u8 v_c15 v_1_c16]) [])
       none)))) := by kernel_rfl
theorem eq (mdLabel : dLabel.Ty) {R : Type} (N : Nat) (κ : AV → List Blk → Option R) (e1 : List Int) (e2 : List Int) (e3 : List Int) (e4 : List Int) (e5 : List Int) (e6 : List Int) (e7 : List Int) (e8 : List Int) : evF (g mdLabel) an N Tryd.f17 [AV.agg [AV.ints IntKind.u8 32 e1, AV.ints IntKind.u8 32 e2, AV.ints IntKind.u8 32 e3, AV.ints IntKind.u8 32 e4, AV.ints IntKind.u8 32 e5, AV.ints IntKind.u8 32 e6, AV.ints IntKind.u8 32 e7, AV.ints IntKind.u8 32 e8]] [] κ =
  m mdLabel N e1 e2 e3 e4 e5 e6 e7 e8 (fun v v_1 v_2 => κ (AV.tup [AV.ints IntKind.u8 32 v, AV.isl IntKind.u8 v_1 v_2]) []) := by
  rw [tree]
  kernel_rfl
abbrev Ty : Type 1 := ∀ R : Type, (List Int) → (List Int) → (List Int) → (List Int) → (List Int) → (List Int) → (List Int) → (List Int) → ((List Int) → (Option Bool) → (List Int) → Option R) → Option R
def con (f : Ty) : Con := fun R args bs κ => match args, bs with
  | [AV.agg [AV.ints IntKind.u8 32 e1, AV.ints IntKind.u8 32 e2, AV.ints IntKind.u8 32 e3, AV.ints IntKind.u8 32 e4, AV.ints IntKind.u8 32 e5, AV.ints IntKind.u8 32 e6, AV.ints IntKind.u8 32 e7, AV.ints IntKind.u8 32 e8]], [] => f R e1 e2 e3 e4 e5 e6 e7 e8 (fun v v_1 v_2 => κ (AV.tup [AV.ints IntKind.u8 32 v, AV.isl IntKind.u8 v_1 v_2]) [])
  | _, _ => none
theorem con_eq (f : Ty) (R : Type) (κ : AV → List Blk → Option R) (e1 : List Int) (e2 : List Int) (e3 : List Int) (e4 : List Int) (e5 : List Int) (e6 : List Int) (e7 : List Int) (e8 : List Int) : con f R [AV.agg [AV.ints IntKind.u8 32 e1, AV.ints IntKind.u8 32 e2, AV.ints IntKind.u8 32 e3, AV.ints IntKind.u8 32 e4, AV.ints IntKind.u8 32 e5, AV.ints IntKind.u8 32 e6, AV.ints IntKind.u8 32 e7, AV.ints IntKind.u8 32 e8]] [] κ = f R e1 e2 e3 e4 e5 e6 e7 e8 (fun v v_1 v_2 => κ (AV.tup [AV.ints IntKind.u8 32 v, AV.isl IntKind.u8 v_1 v_2]) []) := rfl
noncomputable def M (N : Nat) : Ty := fun R e1 e2 e3 e4 e5 e6 e7 e8 kr0 => m (dLabel.M N) (R := R) N e1 e2 e3 e4 e5 e6 e7 e8 kr0
def gts : List (Nat × AV) := [(0, .err 1), (1, .err 3), (19, .ints .u32 64 K256)]
theorem gok (N : Nat) : GOk (g (dLabel.M N)) := giD_ok hm (by intro p hp; cases hp) (gtL_ok (by decide)) (ovL_ok (by
    intro p hp
    simp only [List.mem_cons, List.not_mem_nil, or_false] at hp
    rcases hp with rfl
    · exact ⟨(dLabel.ok N).gt (gtL_sub (by repeat (first | exact subG_nil _ | refine subG_cons (by kernel_rfl) ?_))) (gtL_ok (by decide)), _, Tryd.func27, by kernel_rfl, by kernel_rfl⟩
)) 1
theorem ok (N : Nat) : SoundC Tryd.prog (gtL gts) 17 (con (M N)) := by
  refine SoundC.mono (evF_ok (gok N) hm an N Tryd.func17) fun R args bs κ r h => ?_
  unfold con at h
  split at h
  · exact (eq (dLabel.M N) N κ _ _ _ _ _ _ _ _).trans h
  · cases h
end sSealer

end Go.Proofs.YtjaekdcbjfgcpaaDoor.fn
