/- What the references of an epoch's secrets are, with the proof; printed by a program. -/
import Derived.Test.YtjaekdcbjfgcpaaDoorProg
import Derived.Test.YtjaekdcbjfgcpaaDoorEv4
import Derived.Test.YtjaekdcbjfgcpaaDoorFnDerR
namespace Go.Proofs.YtjaekdcbjfgcpaaDoor.fn
open Go Go.Proofs Go.Ev

/-! ### Tryd.f23: r22secret -/
namespace r22secret
def an : Anns := ⟨fun i => findA i [], fun i => findA i [], false, fun _ => none, []⟩
noncomputable def g (mrdSecret : rdSecret.Ty) : Gi := giD Tryd.prog (gtL []) (fun _ => an) 0 [] (ovL [(33, rdSecret.con mrdSecret)]) 1
noncomputable def m (mrdSecret : rdSecret.Ty) {R : Type} (_N : Nat) (s1 : List Int) (label2 : List UInt8) (contextN3 : Option Bool) (context4 : List Int) (kr0 : (List Int) → Option R) : Option R :=
  cond (decide ((↑context4.length : Int) > 16384))
   (kr0 ([0, 0, 0, 0, 0, 0, 0, 0, 0, 0, 0, 0, 0, 0, 0, 0, 0, 0, 0, 0, 0, 0, 0, 0, 0, 0, 0, 0, 0, 0, 0, 0]))
   (mrdSecret R s1 label2 contextN3 context4
    (fun v_c1 => kr0 v_c1))
theorem tree (mrdSecret : rdSecret.Ty) {R : Type} (N : Nat) (κ : AV → List Blk → Option R) (s1 : List Int) (label2 : List UInt8) (contextN3 : Option Bool) (context4 : List Int) : evF (g mrdSecret) an N Tryd.f23 [AV.ints IntKind.u8 32 s1, AV.str label2, AV.isl IntKind.u8 contextN3 context4] [] κ =
  cond (decide ((↑context4.length : Int) > 16384))
   (κ (AV.ints IntKind.u8 32 [0, 0, 0, 0, 0, 0, 0, 0, 0, 0, 0, 0, 0, 0, 0, 0, 0, 0, 0, 0, 0, 0, 0, 0, 0, 0, 0, 0, 0, 0, 0, 0]) [])
   (mrdSecret R s1 label2 contextN3 context4
    (fun v_c1 => κ (AV.ints IntKind.u8 32 v_c1) [])) := by kernel_rfl
theorem eq (mrdSecret : rdSecret.Ty) {R : Type} (N : Nat) (κ : AV → List Blk → Option R) (s1 : List Int) (label2 : List UInt8) (contextN3 : Option Bool) (context4 : List Int) : evF (g mrdSecret) an N Tryd.f23 [AV.ints IntKind.u8 32 s1, AV.str label2, AV.isl IntKind.u8 contextN3 context4] [] κ =
  m mrdSecret N s1 label2 contextN3 context4 (fun v => κ (AV.ints IntKind.u8 32 v) []) := by
  rw [tree]
  kernel_rfl
abbrev Ty : Type 1 := ∀ R : Type, (List Int) → (List UInt8) → (Option Bool) → (List Int) → ((List Int) → Option R) → Option R
def con (f : Ty) : Con := fun R args bs κ => match args, bs with
  | [AV.ints IntKind.u8 32 s1, AV.str label2, AV.isl IntKind.u8 contextN3 context4], [] => f R s1 label2 contextN3 context4 (fun v => κ (AV.ints IntKind.u8 32 v) [])
  | _, _ => none
theorem con_eq (f : Ty) (R : Type) (κ : AV → List Blk → Option R) (s1 : List Int) (label2 : List UInt8) (contextN3 : Option Bool) (context4 : List Int) : con f R [AV.ints IntKind.u8 32 s1, AV.str label2, AV.isl IntKind.u8 contextN3 context4] [] κ = f R s1 label2 contextN3 context4 (fun v => κ (AV.ints IntKind.u8 32 v) []) := rfl
noncomputable def M (N : Nat) : Ty := fun R s1 label2 contextN3 context4 kr0 => m (rdSecret.M N) (R := R) N s1 label2 contextN3 context4 kr0
def gts : List (Nat × AV) := []
theorem gok (N : Nat) : GOk (g (rdSecret.M N)) := giD_ok hm (by intro p hp; cases hp) (gtL_ok (by decide)) (ovL_ok (by
    intro p hp
    simp only [List.mem_cons, List.not_mem_nil, or_false] at hp
    rcases hp with rfl
    · exact ⟨(rdSecret.ok N).gt (gtL_sub (by repeat (first | exact subG_nil _ | refine subG_cons (by kernel_rfl) ?_))) (gtL_ok (by decide)), _, Tryd.func33, by kernel_rfl, by kernel_rfl⟩
)) 1
theorem ok (N : Nat) : SoundC Tryd.prog (gtL gts) 23 (con (M N)) := by
  refine SoundC.mono (evF_ok (gok N) hm an N Tryd.func23) fun R args bs κ r h => ?_
  unfold con at h
  split at h
  · exact (eq (rdSecret.M N) N κ _ _ _ _).trans h
  · cases h
end r22secret


/-! ### Tryd.f11: r22Joiner -/
namespace r22Joiner
def an : Anns := ⟨fun i => findA i [], fun i => findA i [], false, fun _ => none, []⟩
noncomputable def g (mm4Sum : m4Sum.Ty) (mr22secret : r22secret.Ty) : Gi := giD Tryd.prog (gtL []) (fun _ => an) 0 [] (ovL [(24, m4Sum.con mm4Sum), (23, r22secret.con mr22secret)]) 1
noncomputable def m (mm4Sum : m4Sum.Ty) (mr22secret : r22secret.Ty) {R : Type} (_N : Nat) (init1 : List Int) (way2 : List Int) (contextN3 : Option Bool) (context4 : List Int) (kr0 : (List Int) → Option R) : Option R :=
  mm4Sum R none (cut (some 32) 0 init1) none (cut (some 32) 0 way2)
   (fun v_c2 => mr22secret R v_c2 ([106, 111, 105, 110, 101, 114]) contextN3 context4
    (fun v_c3 => kr0 v_c3))
theorem tree (mm4Sum : m4Sum.Ty) (mr22secret : r22secret.Ty) {R : Type} (N : Nat) (κ : AV → List Blk → Option R) (init1 : List Int) (way2 : List Int) (contextN3 : Option Bool) (context4 : List Int) : evF (g mm4Sum mr22secret) an N Tryd.f11 [AV.ints IntKind.u8 32 init1, AV.ints IntKind.u8 32 way2, AV.isl IntKind.u8 contextN3 context4] [] κ =
  mm4Sum R none (cut (some 32) 0 init1) none (cut (some 32) 0 way2)
   (fun v_c2 => mr22secret R v_c2 ([106, 111, 105, 110, 101, 114]) contextN3 context4
    (fun v_c3 => κ (AV.ints IntKind.u8 32 v_c3) [])) := by kernel_rfl
theorem eq (mm4Sum : m4Sum.Ty) (mr22secret : r22secret.Ty) {R : Type} (N : Nat) (κ : AV → List Blk → Option R) (init1 : List Int) (way2 : List Int) (contextN3 : Option Bool) (context4 : List Int) : evF (g mm4Sum mr22secret) an N Tryd.f11 [AV.ints IntKind.u8 32 init1, AV.ints IntKind.u8 32 way2, AV.isl IntKind.u8 contextN3 context4] [] κ =
  m mm4Sum mr22secret N init1 way2 contextN3 context4 (fun v => κ (AV.ints IntKind.u8 32 v) []) := by
  rw [tree]
  kernel_rfl
abbrev Ty : Type 1 := ∀ R : Type, (List Int) → (List Int) → (Option Bool) → (List Int) → ((List Int) → Option R) → Option R
def con (f : Ty) : Con := fun R args bs κ => match args, bs with
  | [AV.ints IntKind.u8 32 init1, AV.ints IntKind.u8 32 way2, AV.isl IntKind.u8 contextN3 context4], [] => f R init1 way2 contextN3 context4 (fun v => κ (AV.ints IntKind.u8 32 v) [])
  | _, _ => none
theorem con_eq (f : Ty) (R : Type) (κ : AV → List Blk → Option R) (init1 : List Int) (way2 : List Int) (contextN3 : Option Bool) (context4 : List Int) : con f R [AV.ints IntKind.u8 32 init1, AV.ints IntKind.u8 32 way2, AV.isl IntKind.u8 contextN3 context4] [] κ = f R init1 way2 contextN3 context4 (fun v => κ (AV.ints IntKind.u8 32 v) []) := rfl
noncomputable def M (N : Nat) : Ty := fun R init1 way2 contextN3 context4 kr0 => m (m4Sum.M N) (r22secret.M N) (R := R) N init1 way2 contextN3 context4 kr0
def gts : List (Nat × AV) := []
theorem gok (N : Nat) : GOk (g (m4Sum.M N) (r22secret.M N)) := giD_ok hm (by intro p hp; cases hp) (gtL_ok (by decide)) (ovL_ok (by
    intro p hp
    simp only [List.mem_cons, List.not_mem_nil, or_false] at hp
    rcases hp with rfl | rfl
    · exact ⟨(m4Sum.ok N).gt (gtL_sub (by repeat (first | exact subG_nil _ | refine subG_cons (by kernel_rfl) ?_))) (gtL_ok (by decide)), _, Tryd.func24, by kernel_rfl, by kernel_rfl⟩
    · exact ⟨(r22secret.ok N).gt (gtL_sub (by repeat (first | exact subG_nil _ | refine subG_cons (by kernel_rfl) ?_))) (gtL_ok (by decide)), _, Tryd.func23, by kernel_rfl, by kernel_rfl⟩
)) 1
theorem ok (N : Nat) : SoundC Tryd.prog (gtL gts) 11 (con (M N)) := by
  refine SoundC.mono (evF_ok (gok N) hm an N Tryd.func11) fun R args bs κ r h => ?_
  unfold con at h
  split at h
  · exact (eq (m4Sum.M N) (r22secret.M N) N κ _ _ _ _).trans h
  · cases h
end r22Joiner


/-! ### Tryd.f13: r22Of -/
namespace r22Of
def an : Anns := ⟨fun i => findA i [], fun i => findA i [], false, fun _ => none, []⟩
noncomputable def g (mm4Sum : m4Sum.Ty) (mr22secret : r22secret.Ty) : Gi := giD Tryd.prog (gtL []) (fun _ => an) 0 [] (ovL [(24, m4Sum.con mm4Sum), (23, r22secret.con mr22secret)]) 1
noncomputable def m (mm4Sum : m4Sum.Ty) (mr22secret : r22secret.Ty) {R : Type} (_N : Nat) (joiner1 : List Int) (contextN2 : Option Bool) (context3 : List Int) (kr0 : (List Int) → (List Int) → (List Int) → (List Int) → (List Int) → (List Int) → (List Int) → (List Int) → Option R) : Option R :=
  mm4Sum R none (cut (some 32) 0 joiner1) (some true) []
   (fun v_c8 => mr22secret R v_c8 ([119, 101, 108, 99, 111, 109, 101]) (some true) []
    (fun v_c9 => mr22secret R v_c8 ([101, 112, 111, 99, 104]) contextN2 context3
     (fun v_c10 => mr22secret R v_c10 ([99, 111, 110, 102, 105, 114, 109]) (some true) []
      (fun v_c11 => mr22secret R v_c10 ([101, 120, 112, 111, 114, 116, 101, 114]) (some true) []
       (fun v_c12 => mr22secret R v_c10 ([97, 117, 116, 104, 101, 110, 116, 105, 99, 97, 116, 111, 114]) (some true) []
        (fun v_c13 => mr22secret R v_c10 ([105, 100, 101, 110, 116, 105, 102, 105, 101, 114]) (some true) []
         (fun v_c14 => mr22secret R v_c10 ([105, 110, 105, 116]) (some true) []
          (fun v_c15 => kr0 joiner1 v_c9 v_c10 v_c11 v_c12 v_c13 v_c14 v_c15))))))))
theorem tree (mm4Sum : m4Sum.Ty) (mr22secret : r22secret.Ty) {R : Type} (N : Nat) (κ : AV → List Blk → Option R) (joiner1 : List Int) (contextN2 : Option Bool) (context3 : List Int) : evF (g mm4Sum mr22secret) an N Tryd.f13 [AV.ints IntKind.u8 32 joiner1, AV.isl IntKind.u8 contextN2 context3] [] κ =
  mm4Sum R none (cut (some 32) 0 joiner1) (some true) []
   (fun v_c8 => mr22secret R v_c8 ([119, 101, 108, 99, 111, 109, 101]) (some true) []
    (fun v_c9 => mr22secret R v_c8 ([101, 112, 111, 99, 104]) contextN2 context3
     (fun v_c10 => mr22secret R v_c10 ([99, 111, 110, 102, 105, 114, 109]) (some true) []
      (fun v_c11 => mr22secret R v_c10 ([101, 120, 112, 111, 114, 116, 101, 114]) (some true) []
       (fun v_c12 => mr22secret R v_c10 ([97, 117, 116, 104, 101, 110, 116, 105, 99, 97, 116, 111, 114]) (some true) []
        (fun v_c13 => mr22secret R v_c10 ([105, 100, 101, 110, 116, 105, 102, 105, 101, 114]) (some true) []
         (fun v_c14 => mr22secret R v_c10 ([105, 110, 105, 116]) (some true) []
          (fun v_c15 => κ (AV.agg [AV.ints IntKind.u8 32 joiner1, AV.ints IntKind.u8 32 v_c9, AV.ints IntKind.u8 32 v_c10, AV.ints IntKind.u8 32 v_c11, AV.ints IntKind.u8 32 v_c12, AV.ints IntKind.u8 32 v_c13, AV.ints IntKind.u8 32 v_c14, AV.ints IntKind.u8 32 v_c15]) [])))))))) := by kernel_rfl
theorem eq (mm4Sum : m4Sum.Ty) (mr22secret : r22secret.Ty) {R : Type} (N : Nat) (κ : AV → List Blk → Option R) (joiner1 : List Int) (contextN2 : Option Bool) (context3 : List Int) : evF (g mm4Sum mr22secret) an N Tryd.f13 [AV.ints IntKind.u8 32 joiner1, AV.isl IntKind.u8 contextN2 context3] [] κ =
  m mm4Sum mr22secret N joiner1 contextN2 context3 (fun v v_1 v_2 v_3 v_4 v_5 v_6 v_7 => κ (AV.agg [AV.ints IntKind.u8 32 v, AV.ints IntKind.u8 32 v_1, AV.ints IntKind.u8 32 v_2, AV.ints IntKind.u8 32 v_3, AV.ints IntKind.u8 32 v_4, AV.ints IntKind.u8 32 v_5, AV.ints IntKind.u8 32 v_6, AV.ints IntKind.u8 32 v_7]) []) := by
  rw [tree]
  kernel_rfl
abbrev Ty : Type 1 := ∀ R : Type, (List Int) → (Option Bool) → (List Int) → ((List Int) → (List Int) → (List Int) → (List Int) → (List Int) → (List Int) → (List Int) → (List Int) → Option R) → Option R
def con (f : Ty) : Con := fun R args bs κ => match args, bs with
  | [AV.ints IntKind.u8 32 joiner1, AV.isl IntKind.u8 contextN2 context3], [] => f R joiner1 contextN2 context3 (fun v v_1 v_2 v_3 v_4 v_5 v_6 v_7 => κ (AV.agg [AV.ints IntKind.u8 32 v, AV.ints IntKind.u8 32 v_1, AV.ints IntKind.u8 32 v_2, AV.ints IntKind.u8 32 v_3, AV.ints IntKind.u8 32 v_4, AV.ints IntKind.u8 32 v_5, AV.ints IntKind.u8 32 v_6, AV.ints IntKind.u8 32 v_7]) [])
  | _, _ => none
theorem con_eq (f : Ty) (R : Type) (κ : AV → List Blk → Option R) (joiner1 : List Int) (contextN2 : Option Bool) (context3 : List Int) : con f R [AV.ints IntKind.u8 32 joiner1, AV.isl IntKind.u8 contextN2 context3] [] κ = f R joiner1 contextN2 context3 (fun v v_1 v_2 v_3 v_4 v_5 v_6 v_7 => κ (AV.agg [AV.ints IntKind.u8 32 v, AV.ints IntKind.u8 32 v_1, AV.ints IntKind.u8 32 v_2, AV.ints IntKind.u8 32 v_3, AV.ints IntKind.u8 32 v_4, AV.ints IntKind.u8 32 v_5, AV.ints IntKind.u8 32 v_6, AV.ints IntKind.u8 32 v_7]) []) := rfl
noncomputable def M (N : Nat) : Ty := fun R joiner1 contextN2 context3 kr0 => m (m4Sum.M N) (r22secret.M N) (R := R) N joiner1 contextN2 context3 kr0
def gts : List (Nat × AV) := []
theorem gok (N : Nat) : GOk (g (m4Sum.M N) (r22secret.M N)) := giD_ok hm (by intro p hp; cases hp) (gtL_ok (by decide)) (ovL_ok (by
    intro p hp
    simp only [List.mem_cons, List.not_mem_nil, or_false] at hp
    rcases hp with rfl | rfl
    · exact ⟨(m4Sum.ok N).gt (gtL_sub (by repeat (first | exact subG_nil _ | refine subG_cons (by kernel_rfl) ?_))) (gtL_ok (by decide)), _, Tryd.func24, by kernel_rfl, by kernel_rfl⟩
    · exact ⟨(r22secret.ok N).gt (gtL_sub (by repeat (first | exact subG_nil _ | refine subG_cons (by kernel_rfl) ?_))) (gtL_ok (by decide)), _, Tryd.func23, by kernel_rfl, by kernel_rfl⟩
)) 1
theorem ok (N : Nat) : SoundC Tryd.prog (gtL gts) 13 (con (M N)) := by
  refine SoundC.mono (evF_ok (gok N) hm an N Tryd.func13) fun R args bs κ r h => ?_
  unfold con at h
  split at h
  · exact (eq (m4Sum.M N) (r22secret.M N) N κ _ _ _).trans h
  · cases h
end r22Of


/-! ### Tryd.f12: r22Begin -/
namespace r22Begin
def an : Anns := ⟨fun i => findA i [], fun i => findA i [], false, fun _ => none, []⟩
noncomputable def g (mr22secret : r22secret.Ty) (mr22Joiner : r22Joiner.Ty) (mr22Of : r22Of.Ty) : Gi := giD Tryd.prog (gtL []) (fun _ => an) 0 [] (ovL [(23, r22secret.con mr22secret), (11, r22Joiner.con mr22Joiner), (13, r22Of.con mr22Of)]) 1
noncomputable def m (mr22secret : r22secret.Ty) (mr22Joiner : r22Joiner.Ty) (mr22Of : r22Of.Ty) {R : Type} (_N : Nat) (draw1 : List Int) (contextN2 : Option Bool) (context3 : List Int) (kr0 : (List Int) → (List Int) → (List Int) → (List Int) → (List Int) → (List Int) → (List Int) → (List Int) → Option R) : Option R :=
  mr22secret R draw1 ([98, 101, 103, 105, 110]) (some true) []
   (fun v_c10 => mr22Joiner R v_c10 ([0, 0, 0, 0, 0, 0, 0, 0, 0, 0, 0, 0, 0, 0, 0, 0, 0, 0, 0, 0, 0, 0, 0, 0, 0, 0, 0, 0, 0, 0, 0, 0]) contextN2 context3
    (fun v_c11 => mr22Of R v_c11 contextN2 context3
     (fun v_c12 v_1_c13 v_2_c14 v_3_c15 v_4_c16 v_5_c17 v_6_c18 v_7_c19 => kr0 v_c12 v_1_c13 v_2_c14 v_3_c15 v_4_c16 v_5_c17 v_6_c18 v_7_c19)))
theorem tree (mr22secret : r22secret.Ty) (mr22Joiner : r22Joiner.Ty) (mr22Of : r22Of.Ty) {R : Type} (N : Nat) (κ : AV → List Blk → Option R) (draw1 : List Int) (contextN2 : Option Bool) (context3 : List Int) : evF (g mr22secret mr22Joiner mr22Of) an N Tryd.f12 [AV.ints IntKind.u8 32 draw1, AV.isl IntKind.u8 contextN2 context3] [] κ =
  mr22secret R draw1 ([98, 101, 103, 105, 110]) (some true) []
   (fun v_c10 => mr22Joiner R v_c10 ([0, 0, 0, 0, 0, 0, 0, 0, 0, 0, 0, 0, 0, 0, 0, 0, 0, 0, 0, 0, 0, 0, 0, 0, 0, 0, 0, 0, 0, 0, 0, 0]) contextN2 context3
    (fun v_c11 => mr22Of R v_c11 contextN2 context3
     (fun v_c12 v_1_c13 v_2_c14 v_3_c15 v_4_c16 v_5_c17 v_6_c18 v_7_c19 => κ (AV.agg [AV.ints IntKind.u8 32 v_c12, AV.ints IntKind.u8 32 v_1_c13, AV.ints IntKind.u8 32 v_2_c14, AV.ints IntKind.u8 32 v_3_c15, AV.ints IntKind.u8 32 v_4_c16, AV.ints IntKind.u8 32 v_5_c17, AV.ints IntKind.u8 32 v_6_c18, AV.ints IntKind.u8 32 v_7_c19]) []))) := by kernel_rfl
theorem eq (mr22secret : r22secret.Ty) (mr22Joiner : r22Joiner.Ty) (mr22Of : r22Of.Ty) {R : Type} (N : Nat) (κ : AV → List Blk → Option R) (draw1 : List Int) (contextN2 : Option Bool) (context3 : List Int) : evF (g mr22secret mr22Joiner mr22Of) an N Tryd.f12 [AV.ints IntKind.u8 32 draw1, AV.isl IntKind.u8 contextN2 context3] [] κ =
  m mr22secret mr22Joiner mr22Of N draw1 contextN2 context3 (fun v v_1 v_2 v_3 v_4 v_5 v_6 v_7 => κ (AV.agg [AV.ints IntKind.u8 32 v, AV.ints IntKind.u8 32 v_1, AV.ints IntKind.u8 32 v_2, AV.ints IntKind.u8 32 v_3, AV.ints IntKind.u8 32 v_4, AV.ints IntKind.u8 32 v_5, AV.ints IntKind.u8 32 v_6, AV.ints IntKind.u8 32 v_7]) []) := by
  rw [tree]
  kernel_rfl
abbrev Ty : Type 1 := ∀ R : Type, (List Int) → (Option Bool) → (List Int) → ((List Int) → (List Int) → (List Int) → (List Int) → (List Int) → (List Int) → (List Int) → (List Int) → Option R) → Option R
def con (f : Ty) : Con := fun R args bs κ => match args, bs with
  | [AV.ints IntKind.u8 32 draw1, AV.isl IntKind.u8 contextN2 context3], [] => f R draw1 contextN2 context3 (fun v v_1 v_2 v_3 v_4 v_5 v_6 v_7 => κ (AV.agg [AV.ints IntKind.u8 32 v, AV.ints IntKind.u8 32 v_1, AV.ints IntKind.u8 32 v_2, AV.ints IntKind.u8 32 v_3, AV.ints IntKind.u8 32 v_4, AV.ints IntKind.u8 32 v_5, AV.ints IntKind.u8 32 v_6, AV.ints IntKind.u8 32 v_7]) [])
  | _, _ => none
theorem con_eq (f : Ty) (R : Type) (κ : AV → List Blk → Option R) (draw1 : List Int) (contextN2 : Option Bool) (context3 : List Int) : con f R [AV.ints IntKind.u8 32 draw1, AV.isl IntKind.u8 contextN2 context3] [] κ = f R draw1 contextN2 context3 (fun v v_1 v_2 v_3 v_4 v_5 v_6 v_7 => κ (AV.agg [AV.ints IntKind.u8 32 v, AV.ints IntKind.u8 32 v_1, AV.ints IntKind.u8 32 v_2, AV.ints IntKind.u8 32 v_3, AV.ints IntKind.u8 32 v_4, AV.ints IntKind.u8 32 v_5, AV.ints IntKind.u8 32 v_6, AV.ints IntKind.u8 32 v_7]) []) := rfl
noncomputable def M (N : Nat) : Ty := fun R draw1 contextN2 context3 kr0 => m (r22secret.M N) (r22Joiner.M N) (r22Of.M N) (R := R) N draw1 contextN2 context3 kr0
def gts : List (Nat × AV) := []
theorem gok (N : Nat) : GOk (g (r22secret.M N) (r22Joiner.M N) (r22Of.M N)) := giD_ok hm (by intro p hp; cases hp) (gtL_ok (by decide)) (ovL_ok (by
    intro p hp
    simp only [List.mem_cons, List.not_mem_nil, or_false] at hp
    rcases hp with rfl | rfl | rfl
    · exact ⟨(r22secret.ok N).gt (gtL_sub (by repeat (first | exact subG_nil _ | refine subG_cons (by kernel_rfl) ?_))) (gtL_ok (by decide)), _, Tryd.func23, by kernel_rfl, by kernel_rfl⟩
    · exact ⟨(r22Joiner.ok N).gt (gtL_sub (by repeat (first | exact subG_nil _ | refine subG_cons (by kernel_rfl) ?_))) (gtL_ok (by decide)), _, Tryd.func11, by kernel_rfl, by kernel_rfl⟩
    · exact ⟨(r22Of.ok N).gt (gtL_sub (by repeat (first | exact subG_nil _ | refine subG_cons (by kernel_rfl) ?_))) (gtL_ok (by decide)), _, Tryd.func13, by kernel_rfl, by kernel_rfl⟩
)) 1
theorem ok (N : Nat) : SoundC Tryd.prog (gtL gts) 12 (con (M N)) := by
  refine SoundC.mono (evF_ok (gok N) hm an N Tryd.func12) fun R args bs κ r h => ?_
  unfold con at h
  split at h
  · exact (eq (r22secret.M N) (r22Joiner.M N) (r22Of.M N) N κ _ _ _).trans h
  · cases h
end r22Begin


/-! ### Tryd.f20: r22Tag -/
namespace r22Tag
def an : Anns := ⟨fun i => findA i [], fun i => findA i [], false, fun _ => none, []⟩
noncomputable def g (mm4Sum : m4Sum.Ty) : Gi := giD Tryd.prog (gtL []) (fun _ => an) 0 [] (ovL [(24, m4Sum.con mm4Sum)]) 1
noncomputable def m (mm4Sum : m4Sum.Ty) {R : Type} (_N : Nat) (_e1 : List Int) (_e2 : List Int) (_e3 : List Int) (e4 : List Int) (_e5 : List Int) (_e6 : List Int) (_e7 : List Int) (_e8 : List Int) (t9 : List Int) (kr0 : (List Int) → Option R) : Option R :=
  mm4Sum R none (cut (some 32) 0 e4) none (cut (some 32) 0 t9)
   (fun v_c1 => kr0 v_c1)
theorem tree (mm4Sum : m4Sum.Ty) {R : Type} (N : Nat) (κ : AV → List Blk → Option R) (e1 : List Int) (e2 : List Int) (e3 : List Int) (e4 : List Int) (e5 : List Int) (e6 : List Int) (e7 : List Int) (e8 : List Int) (t9 : List Int) : evF (g mm4Sum) an N Tryd.f20 [AV.agg [AV.ints IntKind.u8 32 e1, AV.ints IntKind.u8 32 e2, AV.ints IntKind.u8 32 e3, AV.ints IntKind.u8 32 e4, AV.ints IntKind.u8 32 e5, AV.ints IntKind.u8 32 e6, AV.ints IntKind.u8 32 e7, AV.ints IntKind.u8 32 e8], AV.ints IntKind.u8 32 t9] [] κ =
  mm4Sum R none (cut (some 32) 0 e4) none (cut (some 32) 0 t9)
   (fun v_c1 => κ (AV.ints IntKind.u8 32 v_c1) []) := by kernel_rfl
theorem eq (mm4Sum : m4Sum.Ty) {R : Type} (N : Nat) (κ : AV → List Blk → Option R) (e1 : List Int) (e2 : List Int) (e3 : List Int) (e4 : List Int) (e5 : List Int) (e6 : List Int) (e7 : List Int) (e8 : List Int) (t9 : List Int) : evF (g mm4Sum) an N Tryd.f20 [AV.agg [AV.ints IntKind.u8 32 e1, AV.ints IntKind.u8 32 e2, AV.ints IntKind.u8 32 e3, AV.ints IntKind.u8 32 e4, AV.ints IntKind.u8 32 e5, AV.ints IntKind.u8 32 e6, AV.ints IntKind.u8 32 e7, AV.ints IntKind.u8 32 e8], AV.ints IntKind.u8 32 t9] [] κ =
  m mm4Sum N e1 e2 e3 e4 e5 e6 e7 e8 t9 (fun v => κ (AV.ints IntKind.u8 32 v) []) := by
  rw [tree]
  kernel_rfl
abbrev Ty : Type 1 := ∀ R : Type, (List Int) → (List Int) → (List Int) → (List Int) → (List Int) → (List Int) → (List Int) → (List Int) → (List Int) → ((List Int) → Option R) → Option R
def con (f : Ty) : Con := fun R args bs κ => match args, bs with
  | [AV.agg [AV.ints IntKind.u8 32 e1, AV.ints IntKind.u8 32 e2, AV.ints IntKind.u8 32 e3, AV.ints IntKind.u8 32 e4, AV.ints IntKind.u8 32 e5, AV.ints IntKind.u8 32 e6, AV.ints IntKind.u8 32 e7, AV.ints IntKind.u8 32 e8], AV.ints IntKind.u8 32 t9], [] => f R e1 e2 e3 e4 e5 e6 e7 e8 t9 (fun v => κ (AV.ints IntKind.u8 32 v) [])
  | _, _ => none
theorem con_eq (f : Ty) (R : Type) (κ : AV → List Blk → Option R) (e1 : List Int) (e2 : List Int) (e3 : List Int) (e4 : List Int) (e5 : List Int) (e6 : List Int) (e7 : List Int) (e8 : List Int) (t9 : List Int) : con f R [AV.agg [AV.ints IntKind.u8 32 e1, AV.ints IntKind.u8 32 e2, AV.ints IntKind.u8 32 e3, AV.ints IntKind.u8 32 e4, AV.ints IntKind.u8 32 e5, AV.ints IntKind.u8 32 e6, AV.ints IntKind.u8 32 e7, AV.ints IntKind.u8 32 e8], AV.ints IntKind.u8 32 t9] [] κ = f R e1 e2 e3 e4 e5 e6 e7 e8 t9 (fun v => κ (AV.ints IntKind.u8 32 v) []) := rfl
noncomputable def M (N : Nat) : Ty := fun R e1 e2 e3 e4 e5 e6 e7 e8 t9 kr0 => m (m4Sum.M N) (R := R) N e1 e2 e3 e4 e5 e6 e7 e8 t9 kr0
def gts : List (Nat × AV) := []
theorem gok (N : Nat) : GOk (g (m4Sum.M N)) := giD_ok hm (by intro p hp; cases hp) (gtL_ok (by decide)) (ovL_ok (by
    intro p hp
    simp only [List.mem_cons, List.not_mem_nil, or_false] at hp
    rcases hp with rfl
    · exact ⟨(m4Sum.ok N).gt (gtL_sub (by repeat (first | exact subG_nil _ | refine subG_cons (by kernel_rfl) ?_))) (gtL_ok (by decide)), _, Tryd.func24, by kernel_rfl, by kernel_rfl⟩
)) 1
theorem ok (N : Nat) : SoundC Tryd.prog (gtL gts) 20 (con (M N)) := by
  refine SoundC.mono (evF_ok (gok N) hm an N Tryd.func20) fun R args bs κ r h => ?_
  unfold con at h
  split at h
  · exact (eq (m4Sum.M N) N κ _ _ _ _ _ _ _ _ _).trans h
  · cases h
end r22Tag


/-! ### Tryd.f19: r22Export -/
namespace r22Export
def an : Anns := ⟨fun i => findA i [], fun i => findA i [], false, fun _ => none, []⟩
noncomputable def g (mrSum : rSum.Ty) (mr22secret : r22secret.Ty) (mrdLabel : rdLabel.Ty) : Gi := giD Tryd.prog (gtL []) (fun _ => an) 0 [] (ovL [(31, rSum.con mrSum), (23, r22secret.con mr22secret), (30, rdLabel.con mrdLabel)]) 1
noncomputable def m (mrSum : rSum.Ty) (mr22secret : r22secret.Ty) (mrdLabel : rdLabel.Ty) {R : Type} (_N : Nat) (_e1 : List Int) (_e2 : List Int) (_e3 : List Int) (_e4 : List Int) (e5 : List Int) (_e6 : List Int) (_e7 : List Int) (_e8 : List Int) (label9 : List UInt8) (contextN10 : Option Bool) (context11 : List Int) (n12 : Int) (kr0 : (Option Bool) → (List Int) → Int → Option R) : Option R :=
  cond (decide (n12 < 0))
   (kr0 (some true) [] 1)
   (cond (decide (n12 > 1000))
    (kr0 (some true) [] 1)
    (cond (decide ((↑label9.length : Int) > 16384))
     (kr0 (some true) [] 3)
     (cond (decide ((↑context11.length : Int) > 16384))
      (kr0 (some true) [] 3)
      (mrSum R contextN10 context11
       (fun v_c3 => mr22secret R e5 ([101, 120, 112, 111, 114, 116]) none (cut none 0 (ofStr label9))
        (fun v_c4 => mrdLabel R v_c4 ([101, 120, 112, 111, 114, 116, 101, 100]) none (cut (some 32) 0 v_c3) n12
         (fun v_c5 => kr0 none v_c5 0)))))))
theorem tree (mrSum : rSum.Ty) (mr22secret : r22secret.Ty) (mrdLabel : rdLabel.Ty) {R : Type} (N : Nat) (κ : AV → List Blk → Option R) (e1 : List Int) (e2 : List Int) (e3 : List Int) (e4 : List Int) (e5 : List Int) (e6 : List Int) (e7 : List Int) (e8 : List Int) (label9 : List UInt8) (contextN10 : Option Bool) (context11 : List Int) (n12 : Int) : evF (g mrSum mr22secret mrdLabel) an N Tryd.f19 [AV.agg [AV.ints IntKind.u8 32 e1, AV.ints IntKind.u8 32 e2, AV.ints IntKind.u8 32 e3, AV.ints IntKind.u8 32 e4, AV.ints IntKind.u8 32 e5, AV.ints IntKind.u8 32 e6, AV.ints IntKind.u8 32 e7, AV.ints IntKind.u8 32 e8], AV.str label9, AV.isl IntKind.u8 contextN10 context11, AV.int IntKind.i64 n12] [] κ =
  cond (decide (n12 < 0))
   (κ (AV.tup [AV.isl IntKind.u8 (some true) [], AV.int IntKind.i64 1]) [])
   (cond (decide (n12 > 1000))
    (κ (AV.tup [AV.isl IntKind.u8 (some true) [], AV.int IntKind.i64 1]) [])
    (cond (decide ((↑label9.length : Int) > 16384))
     (κ (AV.tup [AV.isl IntKind.u8 (some true) [], AV.int IntKind.i64 3]) [])
     (cond (decide ((↑context11.length : Int) > 16384))
      (κ (AV.tup [AV.isl IntKind.u8 (some true) [], AV.int IntKind.i64 3]) [])
      (mrSum R contextN10 context11
       (fun v_c3 => mr22secret R e5 ([101, 120, 112, 111, 114, 116]) none (cut none 0 (ofStr label9))
        (fun v_c4 => mrdLabel R v_c4 ([101, 120, 112, 111, 114, 116, 101, 100]) none (cut (some 32) 0 v_c3) n12
         (fun v_c5 => κ (AV.tup [AV.isl IntKind.u8 none v_c5, AV.int IntKind.i64 0]) []))))))) := by kernel_rfl
theorem eq (mrSum : rSum.Ty) (mr22secret : r22secret.Ty) (mrdLabel : rdLabel.Ty) {R : Type} (N : Nat) (κ : AV → List Blk → Option R) (e1 : List Int) (e2 : List Int) (e3 : List Int) (e4 : List Int) (e5 : List Int) (e6 : List Int) (e7 : List Int) (e8 : List Int) (label9 : List UInt8) (contextN10 : Option Bool) (context11 : List Int) (n12 : Int) : evF (g mrSum mr22secret mrdLabel) an N Tryd.f19 [AV.agg [AV.ints IntKind.u8 32 e1, AV.ints IntKind.u8 32 e2, AV.ints IntKind.u8 32 e3, AV.ints IntKind.u8 32 e4, AV.ints IntKind.u8 32 e5, AV.ints IntKind.u8 32 e6, AV.ints IntKind.u8 32 e7, AV.ints IntKind.u8 32 e8], AV.str label9, AV.isl IntKind.u8 contextN10 context11, AV.int IntKind.i64 n12] [] κ =
  m mrSum mr22secret mrdLabel N e1 e2 e3 e4 e5 e6 e7 e8 label9 contextN10 context11 n12 (fun v v_1 v_2 => κ (AV.tup [AV.isl IntKind.u8 v v_1, AV.int IntKind.i64 v_2]) []) := by
  rw [tree]
  kernel_rfl
abbrev Ty : Type 1 := ∀ R : Type, (List Int) → (List Int) → (List Int) → (List Int) → (List Int) → (List Int) → (List Int) → (List Int) → (List UInt8) → (Option Bool) → (List Int) → Int → ((Option Bool) → (List Int) → Int → Option R) → Option R
def con (f : Ty) : Con := fun R args bs κ => match args, bs with
  | [AV.agg [AV.ints IntKind.u8 32 e1, AV.ints IntKind.u8 32 e2, AV.ints IntKind.u8 32 e3, AV.ints IntKind.u8 32 e4, AV.ints IntKind.u8 32 e5, AV.ints IntKind.u8 32 e6, AV.ints IntKind.u8 32 e7, AV.ints IntKind.u8 32 e8], AV.str label9, AV.isl IntKind.u8 contextN10 context11, AV.int IntKind.i64 n12], [] => f R e1 e2 e3 e4 e5 e6 e7 e8 label9 contextN10 context11 n12 (fun v v_1 v_2 => κ (AV.tup [AV.isl IntKind.u8 v v_1, AV.int IntKind.i64 v_2]) [])
  | _, _ => none
theorem con_eq (f : Ty) (R : Type) (κ : AV → List Blk → Option R) (e1 : List Int) (e2 : List Int) (e3 : List Int) (e4 : List Int) (e5 : List Int) (e6 : List Int) (e7 : List Int) (e8 : List Int) (label9 : List UInt8) (contextN10 : Option Bool) (context11 : List Int) (n12 : Int) : con f R [AV.agg [AV.ints IntKind.u8 32 e1, AV.ints IntKind.u8 32 e2, AV.ints IntKind.u8 32 e3, AV.ints IntKind.u8 32 e4, AV.ints IntKind.u8 32 e5, AV.ints IntKind.u8 32 e6, AV.ints IntKind.u8 32 e7, AV.ints IntKind.u8 32 e8], AV.str label9, AV.isl IntKind.u8 contextN10 context11, AV.int IntKind.i64 n12] [] κ = f R e1 e2 e3 e4 e5 e6 e7 e8 label9 contextN10 context11 n12 (fun v v_1 v_2 => κ (AV.tup [AV.isl IntKind.u8 v v_1, AV.int IntKind.i64 v_2]) []) := rfl
noncomputable def M (N : Nat) : Ty := fun R e1 e2 e3 e4 e5 e6 e7 e8 label9 contextN10 context11 n12 kr0 => m (rSum.M N) (r22secret.M N) (rdLabel.M N) (R := R) N e1 e2 e3 e4 e5 e6 e7 e8 label9 contextN10 context11 n12 kr0
def gts : List (Nat × AV) := []
theorem gok (N : Nat) : GOk (g (rSum.M N) (r22secret.M N) (rdLabel.M N)) := giD_ok hm (by intro p hp; cases hp) (gtL_ok (by decide)) (ovL_ok (by
    intro p hp
    simp only [List.mem_cons, List.not_mem_nil, or_false] at hp
    rcases hp with rfl | rfl | rfl
    · exact ⟨(rSum.ok N).gt (gtL_sub (by repeat (first | exact subG_nil _ | refine subG_cons (by kernel_rfl) ?_))) (gtL_ok (by decide)), _, Tryd.func31, by kernel_rfl, by kernel_rfl⟩
    · exact ⟨(r22secret.ok N).gt (gtL_sub (by repeat (first | exact subG_nil _ | refine subG_cons (by kernel_rfl) ?_))) (gtL_ok (by decide)), _, Tryd.func23, by kernel_rfl, by kernel_rfl⟩
    · exact ⟨(rdLabel.ok N).gt (gtL_sub (by repeat (first | exact subG_nil _ | refine subG_cons (by kernel_rfl) ?_))) (gtL_ok (by decide)), _, Tryd.func30, by kernel_rfl, by kernel_rfl⟩
)) 1
theorem ok (N : Nat) : SoundC Tryd.prog (gtL gts) 19 (con (M N)) := by
  refine SoundC.mono (evF_ok (gok N) hm an N Tryd.func19) fun R args bs κ r h => ?_
  unfold con at h
  split at h
  · exact (eq (rSum.M N) (r22secret.M N) (rdLabel.M N) N κ _ _ _ _ _ _ _ _ _ _ _ _).trans h
  · cases h
end r22Export


/-! ### Tryd.f29: labelled -/
namespace labelled
def an : Anns := ⟨fun i => findA i [(3, ⟨[6, 7, 14, 15, 16], [⟨6, 0, T.int IntKind.u8, none⟩, ⟨7, 1, T.int IntKind.u8, none⟩], 2, []⟩)], fun i => findA i [], false, fun _ => none, []⟩
noncomputable def g (mrdLabel : rdLabel.Ty) : Gi := giD Tryd.prog (gtL []) (fun _ => an) 0 [] (ovL [(30, rdLabel.con mrdLabel)]) 1
noncomputable def c_L3 : Code := loopOf Tryd.f29 0
def s_L3 (t14 : List Int) (t15 : Int) (t16 : Int) (h1 : List Int) : St := ⟨List.replicate 6 .dead ++ [AV.ptr 0 [], AV.ptr 1 []] ++ List.replicate 6 .dead ++ [AV.isl IntKind.u8 none t14, AV.int IntKind.i64 t15, AV.int IntKind.i64 t16] ++ List.replicate 9 .dead, [Blk.var (AV.ints IntKind.u8 32 [0, 0, 0, 0, 0, 0, 0, 0, 0, 0, 0, 0, 0, 0, 0, 0, 0, 0, 0, 0, 0, 0, 0, 0, 0, 0, 0, 0, 0, 0, 0, 0]), Blk.var (AV.ints IntKind.u8 32 h1)]⟩
def x_L3_0 (t14 : List Int) (t15 : Int) (t16 : Int) (h1 : List Int) : St := ⟨List.replicate 6 .dead ++ [AV.ptr 0 [], AV.ptr 1 []] ++ List.replicate 6 .dead ++ [AV.isl IntKind.u8 none t14, AV.int IntKind.i64 t15, AV.int IntKind.i64 t16, AV.bool (decide (t16 < t15))] ++ List.replicate 8 .dead, [Blk.var (AV.ints IntKind.u8 32 [0, 0, 0, 0, 0, 0, 0, 0, 0, 0, 0, 0, 0, 0, 0, 0, 0, 0, 0, 0, 0, 0, 0, 0, 0, 0, 0, 0, 0, 0, 0, 0]), Blk.var (AV.ints IntKind.u8 32 h1)]⟩
noncomputable def L3 (mrdLabel : rdLabel.Ty) {R : Type} (N : Nat) (ke0 : (List Int) → Int → Int → (List Int) → Option R) : Nat → (List Int) → Int → Int → (List Int) → Option R
  | 0, _, _, _, _ => none
  | m + 1, t14, t15, t16, h1 =>
    cond (decide (t16 < t15))
     (cond (decide (0 ≤ t16))
      (cond (decide (t16 < (↑t14.length : Int)))
       (cond (decide (0 ≤ t16))
        (cond (decide (t16 < 32))
         (L3 mrdLabel N ke0 m t14 t15 (IntKind.i64.wrap (t16 + 1)) (h1.set t16.toNat (t14.getD t16.toNat 0)))
         none)
        none)
       none)
      none)
     (ke0 t14 t15 t16 h1)
theorem round_L3 (mrdLabel : rdLabel.Ty) {R : Type} (N : Nat) (Rn : St → Option R) (k : K R) (t14 : List Int) (t15 : Int) (t16 : Int) (h1 : List Int) : evC (g mrdLabel) an 0 N c_L3 none (roundK (nmOf 0 (an.loop 3)) Rn k) (s_L3 t14 t15 t16 h1) =
  cond (decide (t16 < t15))
   (cond (decide (0 ≤ t16))
    (cond (decide (t16 < (↑t14.length : Int)))
     (cond (decide (0 ≤ t16))
      (cond (decide (t16 < 32))
       (Rn (s_L3 t14 t15 (IntKind.i64.wrap (t16 + 1)) (h1.set t16.toNat (t14.getD t16.toNat 0))))
       none)
      none)
     none)
    none)
   (k.ext 0 (x_L3_0 t14 t15 t16 h1)) := by kernel_rfl
theorem run_L3 (mrdLabel : rdLabel.Ty) {R : Type} (N : Nat) (k : K R) : ∀ (m : Nat) (t14 : List Int) (t15 : Int) (t16 : Int) (h1 : List Int), loopN (evC (g mrdLabel) an 0 N c_L3 none) k (nmOf 0 (an.loop 3)) m (s_L3 t14 t15 t16 h1) =
    L3 mrdLabel N (fun t14 t15 t16 h1 => (k).ext 0 (x_L3_0 t14 t15 t16 h1)) m t14 t15 t16 h1 := by
  intro m
  induction m with
  | zero => intros; rfl
  | succ m ih =>
    intros
    rw [loopN_succ, round_L3]
    simp only [ih]
    kernel_rfl
noncomputable def m (mrdLabel : rdLabel.Ty) {R : Type} (N : Nat) (s1 : List Int) (label2 : List UInt8) (n3 : Int) (kr0 : (List Int) → Option R) : Option R :=
  mrdLabel R s1 label2 (some true) [] n3
   (fun v_c6 => L3 mrdLabel N
    (fun _t14_c7 _t15_c8 _t16_c9 h1_c10 => kr0 h1_c10) N v_c6 ((↑v_c6.length : Int)) 0 ([0, 0, 0, 0, 0, 0, 0, 0, 0, 0, 0, 0, 0, 0, 0, 0, 0, 0, 0, 0, 0, 0, 0, 0, 0, 0, 0, 0, 0, 0, 0, 0]))
theorem tree (mrdLabel : rdLabel.Ty) {R : Type} (N : Nat) (κ : AV → List Blk → Option R) (s1 : List Int) (label2 : List UInt8) (n3 : Int) : evF (g mrdLabel) an N Tryd.f29 [AV.ints IntKind.u8 32 s1, AV.str label2, AV.int IntKind.i64 n3] [] κ =
  mrdLabel R s1 label2 (some true) [] n3
   (fun v_c6 => loopN (evC (g mrdLabel) an 0 N c_L3 none) (ctx (g mrdLabel) an 0 N (bodyOf Tryd.f29) [1, 1, 0, 1, 0] (endK (g mrdLabel) an Tryd.f29 [] κ)) (nmOf 0 (an.loop 3)) N (s_L3 v_c6 ((↑v_c6.length : Int)) 0 ([0, 0, 0, 0, 0, 0, 0, 0, 0, 0, 0, 0, 0, 0, 0, 0, 0, 0, 0, 0, 0, 0, 0, 0, 0, 0, 0, 0, 0, 0, 0, 0]))) := by kernel_rfl
theorem eq (mrdLabel : rdLabel.Ty) {R : Type} (N : Nat) (κ : AV → List Blk → Option R) (s1 : List Int) (label2 : List UInt8) (n3 : Int) : evF (g mrdLabel) an N Tryd.f29 [AV.ints IntKind.u8 32 s1, AV.str label2, AV.int IntKind.i64 n3] [] κ =
  m mrdLabel N s1 label2 n3 (fun v => κ (AV.ints IntKind.u8 32 v) []) := by
  rw [tree]
  simp only [run_L3]
  kernel_rfl
abbrev Ty : Type 1 := ∀ R : Type, (List Int) → (List UInt8) → Int → ((List Int) → Option R) → Option R
def con (f : Ty) : Con := fun R args bs κ => match args, bs with
  | [AV.ints IntKind.u8 32 s1, AV.str label2, AV.int IntKind.i64 n3], [] => f R s1 label2 n3 (fun v => κ (AV.ints IntKind.u8 32 v) [])
  | _, _ => none
theorem con_eq (f : Ty) (R : Type) (κ : AV → List Blk → Option R) (s1 : List Int) (label2 : List UInt8) (n3 : Int) : con f R [AV.ints IntKind.u8 32 s1, AV.str label2, AV.int IntKind.i64 n3] [] κ = f R s1 label2 n3 (fun v => κ (AV.ints IntKind.u8 32 v) []) := rfl
noncomputable def M (N : Nat) : Ty := fun R s1 label2 n3 kr0 => m (rdLabel.M N) (R := R) N s1 label2 n3 kr0
def gts : List (Nat × AV) := []
theorem gok (N : Nat) : GOk (g (rdLabel.M N)) := giD_ok hm (by intro p hp; cases hp) (gtL_ok (by decide)) (ovL_ok (by
    intro p hp
    simp only [List.mem_cons, List.not_mem_nil, or_false] at hp
    rcases hp with rfl
    · exact ⟨(rdLabel.ok N).gt (gtL_sub (by repeat (first | exact subG_nil _ | refine subG_cons (by kernel_rfl) ?_))) (gtL_ok (by decide)), _, Tryd.func30, by kernel_rfl, by kernel_rfl⟩
)) 1
theorem ok (N : Nat) : SoundC Tryd.prog (gtL gts) 29 (con (M N)) := by
  refine SoundC.mono (evF_ok (gok N) hm an N Tryd.func29) fun R args bs κ r h => ?_
  unfold con at h
  split at h
  · exact (eq (rdLabel.M N) N κ _ _ _).trans h
  · cases h
end labelled


/-! ### Tryd.f18: r22Sealer -/
namespace r22Sealer
def an : Anns := ⟨fun i => findA i [], fun i => findA i [], false, fun _ => none, []⟩
noncomputable def g (mlabelled : labelled.Ty) (mrdLabel : rdLabel.Ty) : Gi := giD Tryd.prog (gtL []) (fun _ => an) 0 [] (ovL [(29, labelled.con mlabelled), (30, rdLabel.con mrdLabel)]) 1
noncomputable def m (mlabelled : labelled.Ty) (mrdLabel : rdLabel.Ty) {R : Type} (_N : Nat) (_e1 : List Int) (e2 : List Int) (_e3 : List Int) (_e4 : List Int) (_e5 : List Int) (_e6 : List Int) (_e7 : List Int) (_e8 : List Int) (kr0 : (List Int) → (List Int) → Option R) : Option R :=
  mlabelled R e2 ([107, 101, 121]) 32
   (fun v_c2 => mrdLabel R e2 ([110, 111, 110, 99, 101]) (some true) [] 12
    (fun v_c3 => kr0 v_c2 v_c3))
theorem tree (mlabelled : labelled.Ty) (mrdLabel : rdLabel.Ty) {R : Type} (N : Nat) (κ : AV → List Blk → Option R) (e1 : List Int) (e2 : List Int) (e3 : List Int) (e4 : List Int) (e5 : List Int) (e6 : List Int) (e7 : List Int) (e8 : List Int) : evF (g mlabelled mrdLabel) an N Tryd.f18 [AV.agg [AV.ints IntKind.u8 32 e1, AV.ints IntKind.u8 32 e2, AV.ints IntKind.u8 32 e3, AV.ints IntKind.u8 32 e4, AV.ints IntKind.u8 32 e5, AV.ints IntKind.u8 32 e6, AV.ints IntKind.u8 32 e7, AV.ints IntKind.u8 32 e8]] [] κ =
  mlabelled R e2 ([107, 101, 121]) 32
   (fun v_c2 => mrdLabel R e2 ([110, 111, 110, 99, 101]) (some true) [] 12
    (fun v_c3 => κ (AV.tup [AV.ints IntKind.u8 32 v_c2, AV.isl IntKind.u8 none v_c3]) [])) := by kernel_rfl
theorem eq (mlabelled : labelled.Ty) (mrdLabel : rdLabel.Ty) {R : Type} (N : Nat) (κ : AV → List Blk → Option R) (e1 : List Int) (e2 : List Int) (e3 : List Int) (e4 : List Int) (e5 : List Int) (e6 : List Int) (e7 : List Int) (e8 : List Int) : evF (g mlabelled mrdLabel) an N Tryd.f18 [AV.agg [AV.ints IntKind.u8 32 e1, AV.ints IntKind.u8 32 e2, AV.ints IntKind.u8 32 e3, AV.ints IntKind.u8 32 e4, AV.ints IntKind.u8 32 e5, AV.ints IntKind.u8 32 e6, AV.ints IntKind.u8 32 e7, AV.ints IntKind.u8 32 e8]] [] κ =
  m mlabelled mrdLabel N e1 e2 e3 e4 e5 e6 e7 e8 (fun v v_1 => κ (AV.tup [AV.ints IntKind.u8 32 v, AV.isl IntKind.u8 none v_1]) []) := by
  rw [tree]
  kernel_rfl
abbrev Ty : Type 1 := ∀ R : Type, (List Int) → (List Int) → (List Int) → (List Int) → (List Int) → (List Int) → (List Int) → (List Int) → ((List Int) → (List Int) → Option R) → Option R
def con (f : Ty) : Con := fun R args bs κ => match args, bs with
  | [AV.agg [AV.ints IntKind.u8 32 e1, AV.ints IntKind.u8 32 e2, AV.ints IntKind.u8 32 e3, AV.ints IntKind.u8 32 e4, AV.ints IntKind.u8 32 e5, AV.ints IntKind.u8 32 e6, AV.ints IntKind.u8 32 e7, AV.ints IntKind.u8 32 e8]], [] => f R e1 e2 e3 e4 e5 e6 e7 e8 (fun v v_1 => κ (AV.tup [AV.ints IntKind.u8 32 v, AV.isl IntKind.u8 none v_1]) [])
  | _, _ => none
theorem con_eq (f : Ty) (R : Type) (κ : AV → List Blk → Option R) (e1 : List Int) (e2 : List Int) (e3 : List Int) (e4 : List Int) (e5 : List Int) (e6 : List Int) (e7 : List Int) (e8 : List Int) : con f R [AV.agg [AV.ints IntKind.u8 32 e1, AV.ints IntKind.u8 32 e2, AV.ints IntKind.u8 32 e3, AV.ints IntKind.u8 32 e4, AV.ints IntKind.u8 32 e5, AV.ints IntKind.u8 32 e6, AV.ints IntKind.u8 32 e7, AV.ints IntKind.u8 32 e8]] [] κ = f R e1 e2 e3 e4 e5 e6 e7 e8 (fun v v_1 => κ (AV.tup [AV.ints IntKind.u8 32 v, AV.isl IntKind.u8 none v_1]) []) := rfl
noncomputable def M (N : Nat) : Ty := fun R e1 e2 e3 e4 e5 e6 e7 e8 kr0 => m (labelled.M N) (rdLabel.M N) (R := R) N e1 e2 e3 e4 e5 e6 e7 e8 kr0
def gts : List (Nat × AV) := []
theorem gok (N : Nat) : GOk (g (labelled.M N) (rdLabel.M N)) := giD_ok hm (by intro p hp; cases hp) (gtL_ok (by decide)) (ovL_ok (by
    intro p hp
    simp only [List.mem_cons, List.not_mem_nil, or_false] at hp
    rcases hp with rfl | rfl
    · exact ⟨(labelled.ok N).gt (gtL_sub (by repeat (first | exact subG_nil _ | refine subG_cons (by kernel_rfl) ?_))) (gtL_ok (by decide)), _, Tryd.func29, by kernel_rfl, by kernel_rfl⟩
    · exact ⟨(rdLabel.ok N).gt (gtL_sub (by repeat (first | exact subG_nil _ | refine subG_cons (by kernel_rfl) ?_))) (gtL_ok (by decide)), _, Tryd.func30, by kernel_rfl, by kernel_rfl⟩
)) 1
theorem ok (N : Nat) : SoundC Tryd.prog (gtL gts) 18 (con (M N)) := by
  refine SoundC.mono (evF_ok (gok N) hm an N Tryd.func18) fun R args bs κ r h => ?_
  unfold con at h
  split at h
  · exact (eq (labelled.M N) (rdLabel.M N) N κ _ _ _ _ _ _ _ _).trans h
  · cases h
end r22Sealer

end Go.Proofs.YtjaekdcbjfgcpaaDoor.fn
