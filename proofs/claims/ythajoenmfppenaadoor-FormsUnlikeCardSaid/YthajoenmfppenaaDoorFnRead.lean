/- What reading a leaf is, with the proof; printed by a program. -/
import Derived.Test.YthajoenmfppenaaDoorProg
import Derived.Test.YthajoenmfppenaaDoorEv4
import Derived.Test.YthajoenmfppenaaDoorFnFormsA
namespace Go.Proofs.YthajoenmfppenaaDoor.fn
open Go Go.Proofs Go.Ev

/-! ### Tryd.f75: rdnote -/
namespace rdnote
def an : Anns := ⟨fun i => findA i [], fun i => findA i [], false, fun _ => none, []⟩
noncomputable def g : Gi := giD Tryd.prog (gtL [(3, .err 4)]) (fun _ => an) 0 [] (ovL []) 1
noncomputable def m {R : Type} (_N : Nat) (rt : List (List Int)) (ra : Int) (e0 : Nat) (er : Nat) (kr0 : (List (List Int)) → Int → Nat → Option R) : Option R :=
  cond (!er.beq 0)
   (cond (e0.beq 0)
    (kr0 rt ra 4)
    (kr0 rt ra e0))
   (kr0 rt ra e0)
theorem tree {R : Type} (N : Nat) (κ : AV → List Blk → Option R) (rt : List (List Int)) (ra : Int) (e0 : Nat) (er : Nat) : evF (g) an N Tryd.f75 [AV.ptr 0 [], AV.err er] [Blk.var (AV.agg [AV.rsl IntKind.u8 rt, AV.int IntKind.i64 ra, AV.err e0])] κ =
  cond (!er.beq 0)
   (cond (e0.beq 0)
    (κ (AV.tup []) ([Blk.var (AV.agg [AV.rsl IntKind.u8 rt, AV.int IntKind.i64 ra, AV.err 4])]))
    (κ (AV.tup []) ([Blk.var (AV.agg [AV.rsl IntKind.u8 rt, AV.int IntKind.i64 ra, AV.err e0])])))
   (κ (AV.tup []) ([Blk.var (AV.agg [AV.rsl IntKind.u8 rt, AV.int IntKind.i64 ra, AV.err e0])])) := by kernel_rfl
theorem eq {R : Type} (N : Nat) (κ : AV → List Blk → Option R) (rt : List (List Int)) (ra : Int) (e0 : Nat) (er : Nat) : evF (g) an N Tryd.f75 [AV.ptr 0 [], AV.err er] [Blk.var (AV.agg [AV.rsl IntKind.u8 rt, AV.int IntKind.i64 ra, AV.err e0])] κ =
  m N rt ra e0 er (fun b b_1 b_2 => κ (AV.tup []) ([Blk.var (AV.agg [AV.rsl IntKind.u8 b, AV.int IntKind.i64 b_1, AV.err b_2])])) := by
  rw [tree]
  kernel_rfl
abbrev Ty : Type 1 := ∀ R : Type, (List (List Int)) → Int → Nat → Nat → ((List (List Int)) → Int → Nat → Option R) → Option R
def con (f : Ty) : Con := fun R args bs κ => match args, bs with
  | [AV.ptr 0 [], AV.err er], [Blk.var (AV.agg [AV.rsl IntKind.u8 rt, AV.int IntKind.i64 ra, AV.err e0])] => f R rt ra e0 er (fun b b_1 b_2 => κ (AV.tup []) ([Blk.var (AV.agg [AV.rsl IntKind.u8 b, AV.int IntKind.i64 b_1, AV.err b_2])]))
  | _, _ => none
theorem con_eq (f : Ty) (R : Type) (κ : AV → List Blk → Option R) (rt : List (List Int)) (ra : Int) (e0 : Nat) (er : Nat) : con f R [AV.ptr 0 [], AV.err er] [Blk.var (AV.agg [AV.rsl IntKind.u8 rt, AV.int IntKind.i64 ra, AV.err e0])] κ = f R rt ra e0 er (fun b b_1 b_2 => κ (AV.tup []) ([Blk.var (AV.agg [AV.rsl IntKind.u8 b, AV.int IntKind.i64 b_1, AV.err b_2])])) := rfl
noncomputable def M (N : Nat) : Ty := fun R rt ra e0 er kr0 => m (R := R) N rt ra e0 er kr0
def gts : List (Nat × AV) := [(3, .err 4)]
theorem gok (_N : Nat) : GOk (g) := giD_ok hm (by intro p hp; cases hp) (gtL_ok (by decide)) (ovL_ok (by intro p hp; cases hp)) 1
theorem ok (N : Nat) : SoundC Tryd.prog (gtL gts) 75 (con (M N)) := by
  refine SoundC.mono (evF_ok (gok N) hm an N Tryd.func75) fun R args bs κ r h => ?_
  unfold con at h
  split at h
  · exact (eq N κ _ _ _ _).trans h
  · cases h
end rdnote


/-! ### Tryd.f47: rdneed -/
namespace rdneed
def an : Anns := ⟨fun i => findA i [], fun i => findA i [], false, fun _ => none, []⟩
noncomputable def g (mrdnote : rdnote.Ty) : Gi := giD Tryd.prog (gtL [(3, .err 4)]) (fun _ => an) 0 [] (ovL [(75, rdnote.con mrdnote)]) 1
noncomputable def m (mrdnote : rdnote.Ty) {R : Type} (_N : Nat) (rt : List (List Int)) (ra : Int) (e0 : Nat) (ok : Bool) (kr0 : (List (List Int)) → Int → Nat → Option R) : Option R :=
  cond (!ok)
   (mrdnote R rt ra e0 4
    (fun b_c3 b_1_c4 b_2_c5 => kr0 b_c3 b_1_c4 b_2_c5))
   (kr0 rt ra e0)
theorem tree (mrdnote : rdnote.Ty) {R : Type} (N : Nat) (κ : AV → List Blk → Option R) (rt : List (List Int)) (ra : Int) (e0 : Nat) (ok : Bool) : evF (g mrdnote) an N Tryd.f47 [AV.ptr 0 [], AV.bool ok] [Blk.var (AV.agg [AV.rsl IntKind.u8 rt, AV.int IntKind.i64 ra, AV.err e0])] κ =
  cond (!ok)
   (mrdnote R rt ra e0 4
    (fun b_c3 b_1_c4 b_2_c5 => κ (AV.tup []) ([Blk.var (AV.agg [AV.rsl IntKind.u8 b_c3, AV.int IntKind.i64 b_1_c4, AV.err b_2_c5])])))
   (κ (AV.tup []) ([Blk.var (AV.agg [AV.rsl IntKind.u8 rt, AV.int IntKind.i64 ra, AV.err e0])])) := by kernel_rfl
theorem eq (mrdnote : rdnote.Ty) {R : Type} (N : Nat) (κ : AV → List Blk → Option R) (rt : List (List Int)) (ra : Int) (e0 : Nat) (ok : Bool) : evF (g mrdnote) an N Tryd.f47 [AV.ptr 0 [], AV.bool ok] [Blk.var (AV.agg [AV.rsl IntKind.u8 rt, AV.int IntKind.i64 ra, AV.err e0])] κ =
  m mrdnote N rt ra e0 ok (fun b b_1 b_2 => κ (AV.tup []) ([Blk.var (AV.agg [AV.rsl IntKind.u8 b, AV.int IntKind.i64 b_1, AV.err b_2])])) := by
  rw [tree]
  kernel_rfl
abbrev Ty : Type 1 := ∀ R : Type, (List (List Int)) → Int → Nat → Bool → ((List (List Int)) → Int → Nat → Option R) → Option R
def con (f : Ty) : Con := fun R args bs κ => match args, bs with
  | [AV.ptr 0 [], AV.bool ok], [Blk.var (AV.agg [AV.rsl IntKind.u8 rt, AV.int IntKind.i64 ra, AV.err e0])] => f R rt ra e0 ok (fun b b_1 b_2 => κ (AV.tup []) ([Blk.var (AV.agg [AV.rsl IntKind.u8 b, AV.int IntKind.i64 b_1, AV.err b_2])]))
  | _, _ => none
theorem con_eq (f : Ty) (R : Type) (κ : AV → List Blk → Option R) (rt : List (List Int)) (ra : Int) (e0 : Nat) (ok : Bool) : con f R [AV.ptr 0 [], AV.bool ok] [Blk.var (AV.agg [AV.rsl IntKind.u8 rt, AV.int IntKind.i64 ra, AV.err e0])] κ = f R rt ra e0 ok (fun b b_1 b_2 => κ (AV.tup []) ([Blk.var (AV.agg [AV.rsl IntKind.u8 b, AV.int IntKind.i64 b_1, AV.err b_2])])) := rfl
noncomputable def M (N : Nat) : Ty := fun R rt ra e0 ok kr0 => m (rdnote.M N) (R := R) N rt ra e0 ok kr0
def gts : List (Nat × AV) := [(3, .err 4)]
theorem gok (N : Nat) : GOk (g (rdnote.M N)) := giD_ok hm (by intro p hp; cases hp) (gtL_ok (by decide)) (ovL_ok (by
    intro p hp
    simp only [List.mem_cons, List.not_mem_nil, or_false] at hp
    rcases hp with rfl
    · exact ⟨(rdnote.ok N).gt (gtL_sub (by repeat (first | exact subG_nil _ | refine subG_cons (by kernel_rfl) ?_))) (gtL_ok (by decide)), _, Tryd.func75, by kernel_rfl, by kernel_rfl⟩
)) 1
theorem ok (N : Nat) : SoundC Tryd.prog (gtL gts) 47 (con (M N)) := by
  refine SoundC.mono (evF_ok (gok N) hm an N Tryd.func47) fun R args bs κ r h => ?_
  unfold con at h
  split at h
  · exact (eq (rdnote.M N) N κ _ _ _ _).trans h
  · cases h
end rdneed


/-! ### Tryd.f44: rdtext -/
namespace rdtext
def an : Anns := ⟨fun i => findA i [], fun i => findA i [], false, fun _ => none, []⟩
noncomputable def g : Gi := giD Tryd.prog (gtL []) (fun _ => an) 0 [] (ovL []) 1
noncomputable def m {R : Type} (_N : Nat) (rt : List (List Int)) (ra : Int) (e0 : Nat) (kr0 : (Option Bool) → (List Int) → (List (List Int)) → Int → Nat → Option R) : Option R :=
  cond (!e0.beq 0)
   (kr0 (some true) [] rt ra e0)
   (cond (decide (ra ≥ (↑rt.length : Int)))
    (kr0 (some true) [] rt ra e0)
    (cond (decide (0 ≤ IntKind.i64.wrap (IntKind.i64.wrap (ra + 1) - 1)))
     (cond (decide (IntKind.i64.wrap (IntKind.i64.wrap (ra + 1) - 1) < (↑rt.length : Int)))
      (kr0 none (rt.getD (IntKind.i64.wrap (IntKind.i64.wrap (ra + 1) - 1)).toNat []) rt (IntKind.i64.wrap (ra + 1)) e0)
      (none))
     (none)))
theorem tree {R : Type} (N : Nat) (κ : AV → List Blk → Option R) (rt : List (List Int)) (ra : Int) (e0 : Nat) : evF (g) an N Tryd.f44 [AV.ptr 0 []] [Blk.var (AV.agg [AV.rsl IntKind.u8 rt, AV.int IntKind.i64 ra, AV.err e0])] κ =
  cond (!e0.beq 0)
   (κ (AV.isl IntKind.u8 (some true) []) ([Blk.var (AV.agg [AV.rsl IntKind.u8 rt, AV.int IntKind.i64 ra, AV.err e0])]))
   (cond (decide (ra ≥ (↑rt.length : Int)))
    (κ (AV.isl IntKind.u8 (some true) []) ([Blk.var (AV.agg [AV.rsl IntKind.u8 rt, AV.int IntKind.i64 ra, AV.err e0])]))
    (cond (decide (0 ≤ IntKind.i64.wrap (IntKind.i64.wrap (ra + 1) - 1)))
     (cond (decide (IntKind.i64.wrap (IntKind.i64.wrap (ra + 1) - 1) < (↑rt.length : Int)))
      (κ (AV.isl IntKind.u8 none (rt.getD (IntKind.i64.wrap (IntKind.i64.wrap (ra + 1) - 1)).toNat [])) ([Blk.var (AV.agg [AV.rsl IntKind.u8 rt, AV.int IntKind.i64 (IntKind.i64.wrap (ra + 1)), AV.err e0])]))
      (none))
     (none))) := by kernel_rfl
theorem eq {R : Type} (N : Nat) (κ : AV → List Blk → Option R) (rt : List (List Int)) (ra : Int) (e0 : Nat) : evF (g) an N Tryd.f44 [AV.ptr 0 []] [Blk.var (AV.agg [AV.rsl IntKind.u8 rt, AV.int IntKind.i64 ra, AV.err e0])] κ =
  m N rt ra e0 (fun v v_1 b b_3 b_4 => κ (AV.isl IntKind.u8 v v_1) ([Blk.var (AV.agg [AV.rsl IntKind.u8 b, AV.int IntKind.i64 b_3, AV.err b_4])])) := by
  rw [tree]
  kernel_rfl
abbrev Ty : Type 1 := ∀ R : Type, (List (List Int)) → Int → Nat → ((Option Bool) → (List Int) → (List (List Int)) → Int → Nat → Option R) → Option R
def con (f : Ty) : Con := fun R args bs κ => match args, bs with
  | [AV.ptr 0 []], [Blk.var (AV.agg [AV.rsl IntKind.u8 rt, AV.int IntKind.i64 ra, AV.err e0])] => f R rt ra e0 (fun v v_1 b b_3 b_4 => κ (AV.isl IntKind.u8 v v_1) ([Blk.var (AV.agg [AV.rsl IntKind.u8 b, AV.int IntKind.i64 b_3, AV.err b_4])]))
  | _, _ => none
theorem con_eq (f : Ty) (R : Type) (κ : AV → List Blk → Option R) (rt : List (List Int)) (ra : Int) (e0 : Nat) : con f R [AV.ptr 0 []] [Blk.var (AV.agg [AV.rsl IntKind.u8 rt, AV.int IntKind.i64 ra, AV.err e0])] κ = f R rt ra e0 (fun v v_1 b b_3 b_4 => κ (AV.isl IntKind.u8 v v_1) ([Blk.var (AV.agg [AV.rsl IntKind.u8 b, AV.int IntKind.i64 b_3, AV.err b_4])])) := rfl
noncomputable def M (N : Nat) : Ty := fun R rt ra e0 kr0 => m (R := R) N rt ra e0 kr0
def gts : List (Nat × AV) := []
theorem gok (_N : Nat) : GOk (g) := giD_ok hm (by intro p hp; cases hp) (gtL_ok (by decide)) (ovL_ok (by intro p hp; cases hp)) 1
theorem ok (N : Nat) : SoundC Tryd.prog (gtL gts) 44 (con (M N)) := by
  refine SoundC.mono (evF_ok (gok N) hm an N Tryd.func44) fun R args bs κ r h => ?_
  unfold con at h
  split at h
  · exact (eq N κ _ _ _).trans h
  · cases h
end rdtext


/-! ### Tryd.f43: rdkey -/
namespace rdkey
def an : Anns := ⟨fun i => findA i [], fun i => findA i [], false, fun _ => none, []⟩
noncomputable def g (mrdtext : rdtext.Ty) (mwKey : wKey.Ty) (mrdnote : rdnote.Ty) : Gi := giD Tryd.prog (gtL [(3, .err 4)]) (fun _ => an) 0 [] (ovL [(44, rdtext.con mrdtext), (74, wKey.con mwKey), (75, rdnote.con mrdnote)]) 1
noncomputable def m (mrdtext : rdtext.Ty) (mwKey : wKey.Ty) (mrdnote : rdnote.Ty) {R : Type} (_N : Nat) (rt : List (List Int)) (ra : Int) (e0 : Nat) (kr0 : (List Int) → (List (List Int)) → Int → Nat → Option R) : Option R :=
  mrdtext R rt ra e0
   (fun v_c10 v_1_c11 b_c12 b_3_c13 b_4_c14 => mwKey R v_c10 v_1_c11
    (fun v_c15 v_1_c16 => mrdnote R b_c12 b_3_c13 b_4_c14 v_1_c16
     (fun b_c17 b_1_c18 b_2_c19 => kr0 v_c15 b_c17 b_1_c18 b_2_c19)))
theorem tree (mrdtext : rdtext.Ty) (mwKey : wKey.Ty) (mrdnote : rdnote.Ty) {R : Type} (N : Nat) (κ : AV → List Blk → Option R) (rt : List (List Int)) (ra : Int) (e0 : Nat) : evF (g mrdtext mwKey mrdnote) an N Tryd.f43 [AV.ptr 0 []] [Blk.var (AV.agg [AV.rsl IntKind.u8 rt, AV.int IntKind.i64 ra, AV.err e0])] κ =
  mrdtext R rt ra e0
   (fun v_c10 v_1_c11 b_c12 b_3_c13 b_4_c14 => mwKey R v_c10 v_1_c11
    (fun v_c15 v_1_c16 => mrdnote R b_c12 b_3_c13 b_4_c14 v_1_c16
     (fun b_c17 b_1_c18 b_2_c19 => κ (AV.ints IntKind.u8 32 v_c15) ([Blk.var (AV.agg [AV.rsl IntKind.u8 b_c17, AV.int IntKind.i64 b_1_c18, AV.err b_2_c19])])))) := by kernel_rfl
theorem eq (mrdtext : rdtext.Ty) (mwKey : wKey.Ty) (mrdnote : rdnote.Ty) {R : Type} (N : Nat) (κ : AV → List Blk → Option R) (rt : List (List Int)) (ra : Int) (e0 : Nat) : evF (g mrdtext mwKey mrdnote) an N Tryd.f43 [AV.ptr 0 []] [Blk.var (AV.agg [AV.rsl IntKind.u8 rt, AV.int IntKind.i64 ra, AV.err e0])] κ =
  m mrdtext mwKey mrdnote N rt ra e0 (fun v b b_2 b_3 => κ (AV.ints IntKind.u8 32 v) ([Blk.var (AV.agg [AV.rsl IntKind.u8 b, AV.int IntKind.i64 b_2, AV.err b_3])])) := by
  rw [tree]
  kernel_rfl
abbrev Ty : Type 1 := ∀ R : Type, (List (List Int)) → Int → Nat → ((List Int) → (List (List Int)) → Int → Nat → Option R) → Option R
def con (f : Ty) : Con := fun R args bs κ => match args, bs with
  | [AV.ptr 0 []], [Blk.var (AV.agg [AV.rsl IntKind.u8 rt, AV.int IntKind.i64 ra, AV.err e0])] => f R rt ra e0 (fun v b b_2 b_3 => κ (AV.ints IntKind.u8 32 v) ([Blk.var (AV.agg [AV.rsl IntKind.u8 b, AV.int IntKind.i64 b_2, AV.err b_3])]))
  | _, _ => none
theorem con_eq (f : Ty) (R : Type) (κ : AV → List Blk → Option R) (rt : List (List Int)) (ra : Int) (e0 : Nat) : con f R [AV.ptr 0 []] [Blk.var (AV.agg [AV.rsl IntKind.u8 rt, AV.int IntKind.i64 ra, AV.err e0])] κ = f R rt ra e0 (fun v b b_2 b_3 => κ (AV.ints IntKind.u8 32 v) ([Blk.var (AV.agg [AV.rsl IntKind.u8 b, AV.int IntKind.i64 b_2, AV.err b_3])])) := rfl
noncomputable def M (N : Nat) : Ty := fun R rt ra e0 kr0 => m (rdtext.M N) (wKey.M N) (rdnote.M N) (R := R) N rt ra e0 kr0
def gts : List (Nat × AV) := [(3, .err 4)]
theorem gok (N : Nat) : GOk (g (rdtext.M N) (wKey.M N) (rdnote.M N)) := giD_ok hm (by intro p hp; cases hp) (gtL_ok (by decide)) (ovL_ok (by
    intro p hp
    simp only [List.mem_cons, List.not_mem_nil, or_false] at hp
    rcases hp with rfl | rfl | rfl
    · exact ⟨(rdtext.ok N).gt (gtL_sub (by repeat (first | exact subG_nil _ | refine subG_cons (by kernel_rfl) ?_))) (gtL_ok (by decide)), _, Tryd.func44, by kernel_rfl, by kernel_rfl⟩
    · exact ⟨(wKey.ok N).gt (gtL_sub (by repeat (first | exact subG_nil _ | refine subG_cons (by kernel_rfl) ?_))) (gtL_ok (by decide)), _, Tryd.func74, by kernel_rfl, by kernel_rfl⟩
    · exact ⟨(rdnote.ok N).gt (gtL_sub (by repeat (first | exact subG_nil _ | refine subG_cons (by kernel_rfl) ?_))) (gtL_ok (by decide)), _, Tryd.func75, by kernel_rfl, by kernel_rfl⟩
)) 1
theorem ok (N : Nat) : SoundC Tryd.prog (gtL gts) 43 (con (M N)) := by
  refine SoundC.mono (evF_ok (gok N) hm an N Tryd.func43) fun R args bs κ r h => ?_
  unfold con at h
  split at h
  · exact (eq (rdtext.M N) (wKey.M N) (rdnote.M N) N κ _ _ _).trans h
  · cases h
end rdkey


/-! ### Tryd.f45: rdhash -/
namespace rdhash
def an : Anns := ⟨fun i => findA i [], fun i => findA i [], false, fun _ => none, []⟩
noncomputable def g (mrdkey : rdkey.Ty) : Gi := giD Tryd.prog (gtL [(3, .err 4)]) (fun _ => an) 0 [] (ovL [(43, rdkey.con mrdkey)]) 1
noncomputable def m (mrdkey : rdkey.Ty) {R : Type} (_N : Nat) (rt : List (List Int)) (ra : Int) (e0 : Nat) (kr0 : (List Int) → (List (List Int)) → Int → Nat → Option R) : Option R :=
  mrdkey R rt ra e0
   (fun v_c4 b_c5 b_2_c6 b_3_c7 => kr0 v_c4 b_c5 b_2_c6 b_3_c7)
theorem tree (mrdkey : rdkey.Ty) {R : Type} (N : Nat) (κ : AV → List Blk → Option R) (rt : List (List Int)) (ra : Int) (e0 : Nat) : evF (g mrdkey) an N Tryd.f45 [AV.ptr 0 []] [Blk.var (AV.agg [AV.rsl IntKind.u8 rt, AV.int IntKind.i64 ra, AV.err e0])] κ =
  mrdkey R rt ra e0
   (fun v_c4 b_c5 b_2_c6 b_3_c7 => κ (AV.ints IntKind.u8 32 v_c4) ([Blk.var (AV.agg [AV.rsl IntKind.u8 b_c5, AV.int IntKind.i64 b_2_c6, AV.err b_3_c7])])) := by kernel_rfl
theorem eq (mrdkey : rdkey.Ty) {R : Type} (N : Nat) (κ : AV → List Blk → Option R) (rt : List (List Int)) (ra : Int) (e0 : Nat) : evF (g mrdkey) an N Tryd.f45 [AV.ptr 0 []] [Blk.var (AV.agg [AV.rsl IntKind.u8 rt, AV.int IntKind.i64 ra, AV.err e0])] κ =
  m mrdkey N rt ra e0 (fun v b b_2 b_3 => κ (AV.ints IntKind.u8 32 v) ([Blk.var (AV.agg [AV.rsl IntKind.u8 b, AV.int IntKind.i64 b_2, AV.err b_3])])) := by
  rw [tree]
  kernel_rfl
abbrev Ty : Type 1 := ∀ R : Type, (List (List Int)) → Int → Nat → ((List Int) → (List (List Int)) → Int → Nat → Option R) → Option R
def con (f : Ty) : Con := fun R args bs κ => match args, bs with
  | [AV.ptr 0 []], [Blk.var (AV.agg [AV.rsl IntKind.u8 rt, AV.int IntKind.i64 ra, AV.err e0])] => f R rt ra e0 (fun v b b_2 b_3 => κ (AV.ints IntKind.u8 32 v) ([Blk.var (AV.agg [AV.rsl IntKind.u8 b, AV.int IntKind.i64 b_2, AV.err b_3])]))
  | _, _ => none
theorem con_eq (f : Ty) (R : Type) (κ : AV → List Blk → Option R) (rt : List (List Int)) (ra : Int) (e0 : Nat) : con f R [AV.ptr 0 []] [Blk.var (AV.agg [AV.rsl IntKind.u8 rt, AV.int IntKind.i64 ra, AV.err e0])] κ = f R rt ra e0 (fun v b b_2 b_3 => κ (AV.ints IntKind.u8 32 v) ([Blk.var (AV.agg [AV.rsl IntKind.u8 b, AV.int IntKind.i64 b_2, AV.err b_3])])) := rfl
noncomputable def M (N : Nat) : Ty := fun R rt ra e0 kr0 => m (rdkey.M N) (R := R) N rt ra e0 kr0
def gts : List (Nat × AV) := [(3, .err 4)]
theorem gok (N : Nat) : GOk (g (rdkey.M N)) := giD_ok hm (by intro p hp; cases hp) (gtL_ok (by decide)) (ovL_ok (by
    intro p hp
    simp only [List.mem_cons, List.not_mem_nil, or_false] at hp
    rcases hp with rfl
    · exact ⟨(rdkey.ok N).gt (gtL_sub (by repeat (first | exact subG_nil _ | refine subG_cons (by kernel_rfl) ?_))) (gtL_ok (by decide)), _, Tryd.func43, by kernel_rfl, by kernel_rfl⟩
)) 1
theorem ok (N : Nat) : SoundC Tryd.prog (gtL gts) 45 (con (M N)) := by
  refine SoundC.mono (evF_ok (gok N) hm an N Tryd.func45) fun R args bs κ r h => ?_
  unfold con at h
  split at h
  · exact (eq (rdkey.M N) N κ _ _ _).trans h
  · cases h
end rdhash


/-! ### Tryd.f46: rdsig -/
namespace rdsig
def an : Anns := ⟨fun i => findA i [], fun i => findA i [], false, fun _ => none, []⟩
noncomputable def g (mrdtext : rdtext.Ty) (mwSig : wSig.Ty) (mrdnote : rdnote.Ty) : Gi := giD Tryd.prog (gtL [(3, .err 4)]) (fun _ => an) 0 [] (ovL [(44, rdtext.con mrdtext), (76, wSig.con mwSig), (75, rdnote.con mrdnote)]) 1
noncomputable def m (mrdtext : rdtext.Ty) (mwSig : wSig.Ty) (mrdnote : rdnote.Ty) {R : Type} (_N : Nat) (rt : List (List Int)) (ra : Int) (e0 : Nat) (kr0 : (List Int) → (List (List Int)) → Int → Nat → Option R) : Option R :=
  mrdtext R rt ra e0
   (fun v_c10 v_1_c11 b_c12 b_3_c13 b_4_c14 => mwSig R v_c10 v_1_c11
    (fun v_c15 v_1_c16 => mrdnote R b_c12 b_3_c13 b_4_c14 v_1_c16
     (fun b_c17 b_1_c18 b_2_c19 => kr0 v_c15 b_c17 b_1_c18 b_2_c19)))
theorem tree (mrdtext : rdtext.Ty) (mwSig : wSig.Ty) (mrdnote : rdnote.Ty) {R : Type} (N : Nat) (κ : AV → List Blk → Option R) (rt : List (List Int)) (ra : Int) (e0 : Nat) : evF (g mrdtext mwSig mrdnote) an N Tryd.f46 [AV.ptr 0 []] [Blk.var (AV.agg [AV.rsl IntKind.u8 rt, AV.int IntKind.i64 ra, AV.err e0])] κ =
  mrdtext R rt ra e0
   (fun v_c10 v_1_c11 b_c12 b_3_c13 b_4_c14 => mwSig R v_c10 v_1_c11
    (fun v_c15 v_1_c16 => mrdnote R b_c12 b_3_c13 b_4_c14 v_1_c16
     (fun b_c17 b_1_c18 b_2_c19 => κ (AV.ints IntKind.u8 64 v_c15) ([Blk.var (AV.agg [AV.rsl IntKind.u8 b_c17, AV.int IntKind.i64 b_1_c18, AV.err b_2_c19])])))) := by kernel_rfl
theorem eq (mrdtext : rdtext.Ty) (mwSig : wSig.Ty) (mrdnote : rdnote.Ty) {R : Type} (N : Nat) (κ : AV → List Blk → Option R) (rt : List (List Int)) (ra : Int) (e0 : Nat) : evF (g mrdtext mwSig mrdnote) an N Tryd.f46 [AV.ptr 0 []] [Blk.var (AV.agg [AV.rsl IntKind.u8 rt, AV.int IntKind.i64 ra, AV.err e0])] κ =
  m mrdtext mwSig mrdnote N rt ra e0 (fun v b b_2 b_3 => κ (AV.ints IntKind.u8 64 v) ([Blk.var (AV.agg [AV.rsl IntKind.u8 b, AV.int IntKind.i64 b_2, AV.err b_3])])) := by
  rw [tree]
  kernel_rfl
abbrev Ty : Type 1 := ∀ R : Type, (List (List Int)) → Int → Nat → ((List Int) → (List (List Int)) → Int → Nat → Option R) → Option R
def con (f : Ty) : Con := fun R args bs κ => match args, bs with
  | [AV.ptr 0 []], [Blk.var (AV.agg [AV.rsl IntKind.u8 rt, AV.int IntKind.i64 ra, AV.err e0])] => f R rt ra e0 (fun v b b_2 b_3 => κ (AV.ints IntKind.u8 64 v) ([Blk.var (AV.agg [AV.rsl IntKind.u8 b, AV.int IntKind.i64 b_2, AV.err b_3])]))
  | _, _ => none
theorem con_eq (f : Ty) (R : Type) (κ : AV → List Blk → Option R) (rt : List (List Int)) (ra : Int) (e0 : Nat) : con f R [AV.ptr 0 []] [Blk.var (AV.agg [AV.rsl IntKind.u8 rt, AV.int IntKind.i64 ra, AV.err e0])] κ = f R rt ra e0 (fun v b b_2 b_3 => κ (AV.ints IntKind.u8 64 v) ([Blk.var (AV.agg [AV.rsl IntKind.u8 b, AV.int IntKind.i64 b_2, AV.err b_3])])) := rfl
noncomputable def M (N : Nat) : Ty := fun R rt ra e0 kr0 => m (rdtext.M N) (wSig.M N) (rdnote.M N) (R := R) N rt ra e0 kr0
def gts : List (Nat × AV) := [(3, .err 4)]
theorem gok (N : Nat) : GOk (g (rdtext.M N) (wSig.M N) (rdnote.M N)) := giD_ok hm (by intro p hp; cases hp) (gtL_ok (by decide)) (ovL_ok (by
    intro p hp
    simp only [List.mem_cons, List.not_mem_nil, or_false] at hp
    rcases hp with rfl | rfl | rfl
    · exact ⟨(rdtext.ok N).gt (gtL_sub (by repeat (first | exact subG_nil _ | refine subG_cons (by kernel_rfl) ?_))) (gtL_ok (by decide)), _, Tryd.func44, by kernel_rfl, by kernel_rfl⟩
    · exact ⟨(wSig.ok N).gt (gtL_sub (by repeat (first | exact subG_nil _ | refine subG_cons (by kernel_rfl) ?_))) (gtL_ok (by decide)), _, Tryd.func76, by kernel_rfl, by kernel_rfl⟩
    · exact ⟨(rdnote.ok N).gt (gtL_sub (by repeat (first | exact subG_nil _ | refine subG_cons (by kernel_rfl) ?_))) (gtL_ok (by decide)), _, Tryd.func75, by kernel_rfl, by kernel_rfl⟩
)) 1
theorem ok (N : Nat) : SoundC Tryd.prog (gtL gts) 46 (con (M N)) := by
  refine SoundC.mono (evF_ok (gok N) hm an N Tryd.func46) fun R args bs κ r h => ?_
  unfold con at h
  split at h
  · exact (eq (rdtext.M N) (wSig.M N) (rdnote.M N) N κ _ _ _).trans h
  · cases h
end rdsig


/-! ### Tryd.f42: rdopen -/
namespace rdopen
def an : Anns := ⟨fun i => findA i [], fun i => findA i [], true, fun _ => none, []⟩
noncomputable def g (mwUnrow : wUnrow.Ty) : Gi := giD Tryd.prog (gtL [(1, .err 2), (2, .err 3), (3, .err 4)]) (fun _ => an) 0 [] (ovL [(73, wUnrow.con mwUnrow)]) 1
noncomputable def m (mwUnrow : wUnrow.Ty) {R : Type} (_N : Nat) (bN1 : Option Bool) (b2 : List Int) (n3 : Int) (kr0 : (List (List Int)) → Nat → Option R) : Option R :=
  mwUnrow R bN1 b2
   (fun v_c4 v_1_c5 => cond (v_1_c5.beq 0)
    (cond ((↑v_c4.length : Int) != n3)
     (kr0 v_c4 4)
     (kr0 v_c4 v_1_c5))
    (kr0 v_c4 v_1_c5))
theorem tree (mwUnrow : wUnrow.Ty) {R : Type} (N : Nat) (κ : AV → List Blk → Option R) (bN1 : Option Bool) (b2 : List Int) (n3 : Int) : evF (g mwUnrow) an N Tryd.f42 [AV.isl IntKind.u8 bN1 b2, AV.int IntKind.i64 n3] [] κ =
  mwUnrow R bN1 b2
   (fun v_c4 v_1_c5 => cond (v_1_c5.beq 0)
    (cond ((↑v_c4.length : Int) != n3)
     (κ (AV.ptr 0 []) ([Blk.var (AV.agg [AV.rsl IntKind.u8 v_c4, AV.int IntKind.i64 0, AV.err 4])]))
     (κ (AV.ptr 0 []) ([Blk.var (AV.agg [AV.rsl IntKind.u8 v_c4, AV.int IntKind.i64 0, AV.err v_1_c5])])))
    (κ (AV.ptr 0 []) ([Blk.var (AV.agg [AV.rsl IntKind.u8 v_c4, AV.int IntKind.i64 0, AV.err v_1_c5])]))) := by kernel_rfl
theorem eq (mwUnrow : wUnrow.Ty) {R : Type} (N : Nat) (κ : AV → List Blk → Option R) (bN1 : Option Bool) (b2 : List Int) (n3 : Int) : evF (g mwUnrow) an N Tryd.f42 [AV.isl IntKind.u8 bN1 b2, AV.int IntKind.i64 n3] [] κ =
  m mwUnrow N bN1 b2 n3 (fun b b_1 => κ (AV.ptr 0 []) ([Blk.var (AV.agg [AV.rsl IntKind.u8 b, AV.int IntKind.i64 0, AV.err b_1])])) := by
  rw [tree]
  kernel_rfl
abbrev Ty : Type 1 := ∀ R : Type, (Option Bool) → (List Int) → Int → ((List (List Int)) → Nat → Option R) → Option R
def con (f : Ty) : Con := fun R args bs κ => match args, bs with
  | [AV.isl IntKind.u8 bN1 b2, AV.int IntKind.i64 n3], [] => f R bN1 b2 n3 (fun b b_1 => κ (AV.ptr 0 []) ([Blk.var (AV.agg [AV.rsl IntKind.u8 b, AV.int IntKind.i64 0, AV.err b_1])]))
  | _, _ => none
theorem con_eq (f : Ty) (R : Type) (κ : AV → List Blk → Option R) (bN1 : Option Bool) (b2 : List Int) (n3 : Int) : con f R [AV.isl IntKind.u8 bN1 b2, AV.int IntKind.i64 n3] [] κ = f R bN1 b2 n3 (fun b b_1 => κ (AV.ptr 0 []) ([Blk.var (AV.agg [AV.rsl IntKind.u8 b, AV.int IntKind.i64 0, AV.err b_1])])) := rfl
noncomputable def M (N : Nat) : Ty := fun R bN1 b2 n3 kr0 => m (wUnrow.M N) (R := R) N bN1 b2 n3 kr0
def gts : List (Nat × AV) := [(1, .err 2), (2, .err 3), (3, .err 4)]
theorem gok (N : Nat) : GOk (g (wUnrow.M N)) := giD_ok hm (by intro p hp; cases hp) (gtL_ok (by decide)) (ovL_ok (by
    intro p hp
    simp only [List.mem_cons, List.not_mem_nil, or_false] at hp
    rcases hp with rfl
    · exact ⟨(wUnrow.ok N).gt (gtL_sub (by repeat (first | exact subG_nil _ | refine subG_cons (by kernel_rfl) ?_))) (gtL_ok (by decide)), _, Tryd.func73, by kernel_rfl, by kernel_rfl⟩
)) 1
theorem ok (N : Nat) : SoundC Tryd.prog (gtL gts) 42 (con (M N)) := by
  refine SoundC.mono (evF_ok (gok N) hm an N Tryd.func42) fun R args bs κ r h => ?_
  unfold con at h
  split at h
  · exact (eq (wUnrow.M N) N κ _ _ _).trans h
  · cases h
end rdopen


/-! ### Tryd.f48: rdendLeaf -/
namespace rdendLeaf
def an : Anns := ⟨fun i => findA i [], fun i => findA i [], false, fun _ => none, []⟩
noncomputable def g : Gi := giD Tryd.prog (gtL []) (fun _ => an) 0 [] (ovL []) 1
noncomputable def m {R : Type} (_N : Nat) (rt : List (List Int)) (ra : Int) (e0 : Nat) (x1 : List Int) (x2 : List Int) (xn : Option Bool) (x3 : List Int) (x4 : List Int) (x5 : List Int) (kr0 : (List Int) → (List Int) → (Option Bool) → (List Int) → (List Int) → (List Int) → Nat → (List (List Int)) → Int → Nat → Option R) : Option R :=
  cond (!e0.beq 0)
   (kr0 ([0, 0, 0, 0, 0, 0, 0, 0, 0, 0, 0, 0, 0, 0, 0, 0, 0, 0, 0, 0, 0, 0, 0, 0, 0, 0, 0, 0, 0, 0, 0, 0]) ([0, 0, 0, 0, 0, 0, 0, 0, 0, 0, 0, 0, 0, 0, 0, 0, 0, 0, 0, 0, 0, 0, 0, 0, 0, 0, 0, 0, 0, 0, 0, 0]) (some true) [] ([0, 0, 0, 0, 0, 0, 0, 0, 0, 0, 0, 0, 0, 0, 0, 0, 0, 0, 0, 0, 0, 0, 0, 0, 0, 0, 0, 0, 0, 0, 0, 0]) ([0, 0, 0, 0, 0, 0, 0, 0, 0, 0, 0, 0, 0, 0, 0, 0, 0, 0, 0, 0, 0, 0, 0, 0, 0, 0, 0, 0, 0, 0, 0, 0, 0, 0, 0, 0, 0, 0, 0, 0, 0, 0, 0, 0, 0, 0, 0, 0, 0, 0, 0, 0, 0, 0, 0, 0, 0, 0, 0, 0, 0, 0, 0, 0]) e0 rt ra e0)
   (kr0 x1 x2 xn x3 x4 x5 0 rt ra e0)
theorem tree {R : Type} (N : Nat) (κ : AV → List Blk → Option R) (rt : List (List Int)) (ra : Int) (e0 : Nat) (x1 : List Int) (x2 : List Int) (xn : Option Bool) (x3 : List Int) (x4 : List Int) (x5 : List Int) : evF (g) an N Tryd.f48 [AV.ptr 0 [], AV.agg [AV.ints IntKind.u8 32 x1, AV.ints IntKind.u8 32 x2, AV.isl IntKind.u8 xn x3, AV.ints IntKind.u8 32 x4, AV.ints IntKind.u8 64 x5]] [Blk.var (AV.agg [AV.rsl IntKind.u8 rt, AV.int IntKind.i64 ra, AV.err e0])] κ =
  cond (!e0.beq 0)
   (κ (AV.tup [AV.agg [AV.ints IntKind.u8 32 [0, 0, 0, 0, 0, 0, 0, 0, 0, 0, 0, 0, 0, 0, 0, 0, 0, 0, 0, 0, 0, 0, 0, 0, 0, 0, 0, 0, 0, 0, 0, 0], AV.ints IntKind.u8 32 [0, 0, 0, 0, 0, 0, 0, 0, 0, 0, 0, 0, 0, 0, 0, 0, 0, 0, 0, 0, 0, 0, 0, 0, 0, 0, 0, 0, 0, 0, 0, 0], AV.isl IntKind.u8 (some true) [], AV.ints IntKind.u8 32 [0, 0, 0, 0, 0, 0, 0, 0, 0, 0, 0, 0, 0, 0, 0, 0, 0, 0, 0, 0, 0, 0, 0, 0, 0, 0, 0, 0, 0, 0, 0, 0], AV.ints IntKind.u8 64 [0, 0, 0, 0, 0, 0, 0, 0, 0, 0, 0, 0, 0, 0, 0, 0, 0, 0, 0, 0, 0, 0, 0, 0, 0, 0, 0, 0, 0, 0, 0, 0, 0, 0, 0, 0, 0, 0, 0, 0, 0, 0, 0, 0, 0, 0, 0, 0, 0, 0, 0, 0, 0, 0, 0, 0, 0, 0, 0, 0, 0, 0, 0, 0]], AV.err e0]) ([Blk.var (AV.agg [AV.rsl IntKind.u8 rt, AV.int IntKind.i64 ra, AV.err e0])]))
   (κ (AV.tup [AV.agg [AV.ints IntKind.u8 32 x1, AV.ints IntKind.u8 32 x2, AV.isl IntKind.u8 xn x3, AV.ints IntKind.u8 32 x4, AV.ints IntKind.u8 64 x5], AV.err 0]) ([Blk.var (AV.agg [AV.rsl IntKind.u8 rt, AV.int IntKind.i64 ra, AV.err e0])])) := by kernel_rfl
theorem eq {R : Type} (N : Nat) (κ : AV → List Blk → Option R) (rt : List (List Int)) (ra : Int) (e0 : Nat) (x1 : List Int) (x2 : List Int) (xn : Option Bool) (x3 : List Int) (x4 : List Int) (x5 : List Int) : evF (g) an N Tryd.f48 [AV.ptr 0 [], AV.agg [AV.ints IntKind.u8 32 x1, AV.ints IntKind.u8 32 x2, AV.isl IntKind.u8 xn x3, AV.ints IntKind.u8 32 x4, AV.ints IntKind.u8 64 x5]] [Blk.var (AV.agg [AV.rsl IntKind.u8 rt, AV.int IntKind.i64 ra, AV.err e0])] κ =
  m N rt ra e0 x1 x2 xn x3 x4 x5 (fun v v_1 v_2 v_3 v_4 v_5 v_6 b b_8 b_9 => κ (AV.tup [AV.agg [AV.ints IntKind.u8 32 v, AV.ints IntKind.u8 32 v_1, AV.isl IntKind.u8 v_2 v_3, AV.ints IntKind.u8 32 v_4, AV.ints IntKind.u8 64 v_5], AV.err v_6]) ([Blk.var (AV.agg [AV.rsl IntKind.u8 b, AV.int IntKind.i64 b_8, AV.err b_9])])) := by
  rw [tree]
  kernel_rfl
abbrev Ty : Type 1 := ∀ R : Type, (List (List Int)) → Int → Nat → (List Int) → (List Int) → (Option Bool) → (List Int) → (List Int) → (List Int) → ((List Int) → (List Int) → (Option Bool) → (List Int) → (List Int) → (List Int) → Nat → (List (List Int)) → Int → Nat → Option R) → Option R
def con (f : Ty) : Con := fun R args bs κ => match args, bs with
  | [AV.ptr 0 [], AV.agg [AV.ints IntKind.u8 32 x1, AV.ints IntKind.u8 32 x2, AV.isl IntKind.u8 xn x3, AV.ints IntKind.u8 32 x4, AV.ints IntKind.u8 64 x5]], [Blk.var (AV.agg [AV.rsl IntKind.u8 rt, AV.int IntKind.i64 ra, AV.err e0])] => f R rt ra e0 x1 x2 xn x3 x4 x5 (fun v v_1 v_2 v_3 v_4 v_5 v_6 b b_8 b_9 => κ (AV.tup [AV.agg [AV.ints IntKind.u8 32 v, AV.ints IntKind.u8 32 v_1, AV.isl IntKind.u8 v_2 v_3, AV.ints IntKind.u8 32 v_4, AV.ints IntKind.u8 64 v_5], AV.err v_6]) ([Blk.var (AV.agg [AV.rsl IntKind.u8 b, AV.int IntKind.i64 b_8, AV.err b_9])]))
  | _, _ => none
theorem con_eq (f : Ty) (R : Type) (κ : AV → List Blk → Option R) (rt : List (List Int)) (ra : Int) (e0 : Nat) (x1 : List Int) (x2 : List Int) (xn : Option Bool) (x3 : List Int) (x4 : List Int) (x5 : List Int) : con f R [AV.ptr 0 [], AV.agg [AV.ints IntKind.u8 32 x1, AV.ints IntKind.u8 32 x2, AV.isl IntKind.u8 xn x3, AV.ints IntKind.u8 32 x4, AV.ints IntKind.u8 64 x5]] [Blk.var (AV.agg [AV.rsl IntKind.u8 rt, AV.int IntKind.i64 ra, AV.err e0])] κ = f R rt ra e0 x1 x2 xn x3 x4 x5 (fun v v_1 v_2 v_3 v_4 v_5 v_6 b b_8 b_9 => κ (AV.tup [AV.agg [AV.ints IntKind.u8 32 v, AV.ints IntKind.u8 32 v_1, AV.isl IntKind.u8 v_2 v_3, AV.ints IntKind.u8 32 v_4, AV.ints IntKind.u8 64 v_5], AV.err v_6]) ([Blk.var (AV.agg [AV.rsl IntKind.u8 b, AV.int IntKind.i64 b_8, AV.err b_9])])) := rfl
noncomputable def M (N : Nat) : Ty := fun R rt ra e0 x1 x2 xn x3 x4 x5 kr0 => m (R := R) N rt ra e0 x1 x2 xn x3 x4 x5 kr0
def gts : List (Nat × AV) := []
theorem gok (_N : Nat) : GOk (g) := giD_ok hm (by intro p hp; cases hp) (gtL_ok (by decide)) (ovL_ok (by intro p hp; cases hp)) 1
theorem ok (N : Nat) : SoundC Tryd.prog (gtL gts) 48 (con (M N)) := by
  refine SoundC.mono (evF_ok (gok N) hm an N Tryd.func48) fun R args bs κ r h => ?_
  unfold con at h
  split at h
  · exact (eq N κ _ _ _ _ _ _ _ _ _).trans h
  · cases h
end rdendLeaf


/-! ### Tryd.f12: ReadLeaf -/
namespace ReadLeaf
def an : Anns := ⟨fun i => findA i [], fun i => findA i [], false, fun _ => none, []⟩
noncomputable def g (mrdopen : rdopen.Ty) (mrdkey : rdkey.Ty) (mrdtext : rdtext.Ty) (mrdhash : rdhash.Ty) (mrdsig : rdsig.Ty) (misName : isName.Ty) (mrdneed : rdneed.Ty) (mrdendLeaf : rdendLeaf.Ty) : Gi := giD Tryd.prog (gtL [(1, .err 2), (2, .err 3), (3, .err 4)]) (fun _ => an) 0 [] (ovL [(42, rdopen.con mrdopen), (43, rdkey.con mrdkey), (44, rdtext.con mrdtext), (45, rdhash.con mrdhash), (46, rdsig.con mrdsig), (35, isName.con misName), (47, rdneed.con mrdneed), (48, rdendLeaf.con mrdendLeaf)]) 1
noncomputable def m (mrdopen : rdopen.Ty) (mrdkey : rdkey.Ty) (mrdtext : rdtext.Ty) (mrdhash : rdhash.Ty) (mrdsig : rdsig.Ty) (misName : isName.Ty) (mrdneed : rdneed.Ty) (mrdendLeaf : rdendLeaf.Ty) {R : Type} (_N : Nat) (bN1 : Option Bool) (b2 : List Int) (kr0 : (List Int) → (List Int) → (Option Bool) → (List Int) → (List Int) → (List Int) → Nat → Option R) : Option R :=
  mrdopen R bN1 b2 5
   (fun b_c37 b_1_c38 => mrdkey R b_c37 0 b_1_c38
    (fun v_c39 b_c40 b_2_c41 b_3_c42 => mrdkey R b_c40 b_2_c41 b_3_c42
     (fun v_c43 b_c44 b_2_c45 b_3_c46 => mrdtext R b_c44 b_2_c45 b_3_c46
      (fun v_c47 v_1_c48 b_c49 b_3_c50 b_4_c51 => mrdhash R b_c49 b_3_c50 b_4_c51
       (fun v_c52 b_c53 b_2_c54 b_3_c55 => mrdsig R b_c53 b_2_c54 b_3_c55
        (fun v_c56 b_c57 b_2_c58 b_3_c59 => misName R v_c47 v_1_c48
         (fun v_c60 => mrdneed R b_c57 b_2_c58 b_3_c59 v_c60
          (fun b_c61 b_1_c62 b_2_c63 => mrdendLeaf R b_c61 b_1_c62 b_2_c63 v_c39 v_c43 v_c47 v_1_c48 v_c52 v_c56
           (fun v_c64 v_1_c65 v_2_c66 v_3_c67 v_4_c68 v_5_c69 v_6_c70 _b_c71 _b_8_c72 _b_9_c73 => kr0 v_c64 v_1_c65 v_2_c66 v_3_c67 v_4_c68 v_5_c69 v_6_c70)))))))))
theorem tree (mrdopen : rdopen.Ty) (mrdkey : rdkey.Ty) (mrdtext : rdtext.Ty) (mrdhash : rdhash.Ty) (mrdsig : rdsig.Ty) (misName : isName.Ty) (mrdneed : rdneed.Ty) (mrdendLeaf : rdendLeaf.Ty) {R : Type} (N : Nat) (κ : AV → List Blk → Option R) (bN1 : Option Bool) (b2 : List Int) : evF (g mrdopen mrdkey mrdtext mrdhash mrdsig misName mrdneed mrdendLeaf) an N Tryd.f12 [AV.isl IntKind.u8 bN1 b2] [] κ =
  mrdopen R bN1 b2 5
   (fun b_c37 b_1_c38 => mrdkey R b_c37 0 b_1_c38
    (fun v_c39 b_c40 b_2_c41 b_3_c42 => mrdkey R b_c40 b_2_c41 b_3_c42
     (fun v_c43 b_c44 b_2_c45 b_3_c46 => mrdtext R b_c44 b_2_c45 b_3_c46
      (fun v_c47 v_1_c48 b_c49 b_3_c50 b_4_c51 => mrdhash R b_c49 b_3_c50 b_4_c51
       (fun v_c52 b_c53 b_2_c54 b_3_c55 => mrdsig R b_c53 b_2_c54 b_3_c55
        (fun v_c56 b_c57 b_2_c58 b_3_c59 => misName R v_c47 v_1_c48
         (fun v_c60 => mrdneed R b_c57 b_2_c58 b_3_c59 v_c60
          (fun b_c61 b_1_c62 b_2_c63 => mrdendLeaf R b_c61 b_1_c62 b_2_c63 v_c39 v_c43 v_c47 v_1_c48 v_c52 v_c56
           (fun v_c64 v_1_c65 v_2_c66 v_3_c67 v_4_c68 v_5_c69 v_6_c70 _b_c71 _b_8_c72 _b_9_c73 => κ (AV.tup [AV.agg [AV.ints IntKind.u8 32 v_c64, AV.ints IntKind.u8 32 v_1_c65, AV.isl IntKind.u8 v_2_c66 v_3_c67, AV.ints IntKind.u8 32 v_4_c68, AV.ints IntKind.u8 64 v_5_c69], AV.err v_6_c70]) []))))))))) := by kernel_rfl
theorem eq (mrdopen : rdopen.Ty) (mrdkey : rdkey.Ty) (mrdtext : rdtext.Ty) (mrdhash : rdhash.Ty) (mrdsig : rdsig.Ty) (misName : isName.Ty) (mrdneed : rdneed.Ty) (mrdendLeaf : rdendLeaf.Ty) {R : Type} (N : Nat) (κ : AV → List Blk → Option R) (bN1 : Option Bool) (b2 : List Int) : evF (g mrdopen mrdkey mrdtext mrdhash mrdsig misName mrdneed mrdendLeaf) an N Tryd.f12 [AV.isl IntKind.u8 bN1 b2] [] κ =
  m mrdopen mrdkey mrdtext mrdhash mrdsig misName mrdneed mrdendLeaf N bN1 b2 (fun v v_1 v_2 v_3 v_4 v_5 v_6 => κ (AV.tup [AV.agg [AV.ints IntKind.u8 32 v, AV.ints IntKind.u8 32 v_1, AV.isl IntKind.u8 v_2 v_3, AV.ints IntKind.u8 32 v_4, AV.ints IntKind.u8 64 v_5], AV.err v_6]) []) := by
  rw [tree]
  kernel_rfl
abbrev Ty : Type 1 := ∀ R : Type, (Option Bool) → (List Int) → ((List Int) → (List Int) → (Option Bool) → (List Int) → (List Int) → (List Int) → Nat → Option R) → Option R
def con (f : Ty) : Con := fun R args bs κ => match args, bs with
  | [AV.isl IntKind.u8 bN1 b2], [] => f R bN1 b2 (fun v v_1 v_2 v_3 v_4 v_5 v_6 => κ (AV.tup [AV.agg [AV.ints IntKind.u8 32 v, AV.ints IntKind.u8 32 v_1, AV.isl IntKind.u8 v_2 v_3, AV.ints IntKind.u8 32 v_4, AV.ints IntKind.u8 64 v_5], AV.err v_6]) [])
  | _, _ => none
theorem con_eq (f : Ty) (R : Type) (κ : AV → List Blk → Option R) (bN1 : Option Bool) (b2 : List Int) : con f R [AV.isl IntKind.u8 bN1 b2] [] κ = f R bN1 b2 (fun v v_1 v_2 v_3 v_4 v_5 v_6 => κ (AV.tup [AV.agg [AV.ints IntKind.u8 32 v, AV.ints IntKind.u8 32 v_1, AV.isl IntKind.u8 v_2 v_3, AV.ints IntKind.u8 32 v_4, AV.ints IntKind.u8 64 v_5], AV.err v_6]) []) := rfl
noncomputable def M (N : Nat) : Ty := fun R bN1 b2 kr0 => m (rdopen.M N) (rdkey.M N) (rdtext.M N) (rdhash.M N) (rdsig.M N) (isName.M N) (rdneed.M N) (rdendLeaf.M N) (R := R) N bN1 b2 kr0
def gts : List (Nat × AV) := [(1, .err 2), (2, .err 3), (3, .err 4)]
theorem gok (N : Nat) : GOk (g (rdopen.M N) (rdkey.M N) (rdtext.M N) (rdhash.M N) (rdsig.M N) (isName.M N) (rdneed.M N) (rdendLeaf.M N)) := giD_ok hm (by intro p hp; cases hp) (gtL_ok (by decide)) (ovL_ok (by
    intro p hp
    simp only [List.mem_cons, List.not_mem_nil, or_false] at hp
    rcases hp with rfl | rfl | rfl | rfl | rfl | rfl | rfl | rfl
    · exact ⟨(rdopen.ok N).gt (gtL_sub (by repeat (first | exact subG_nil _ | refine subG_cons (by kernel_rfl) ?_))) (gtL_ok (by decide)), _, Tryd.func42, by kernel_rfl, by kernel_rfl⟩
    · exact ⟨(rdkey.ok N).gt (gtL_sub (by repeat (first | exact subG_nil _ | refine subG_cons (by kernel_rfl) ?_))) (gtL_ok (by decide)), _, Tryd.func43, by kernel_rfl, by kernel_rfl⟩
    · exact ⟨(rdtext.ok N).gt (gtL_sub (by repeat (first | exact subG_nil _ | refine subG_cons (by kernel_rfl) ?_))) (gtL_ok (by decide)), _, Tryd.func44, by kernel_rfl, by kernel_rfl⟩
    · exact ⟨(rdhash.ok N).gt (gtL_sub (by repeat (first | exact subG_nil _ | refine subG_cons (by kernel_rfl) ?_))) (gtL_ok (by decide)), _, Tryd.func45, by kernel_rfl, by kernel_rfl⟩
    · exact ⟨(rdsig.ok N).gt (gtL_sub (by repeat (first | exact subG_nil _ | refine subG_cons (by kernel_rfl) ?_))) (gtL_ok (by decide)), _, Tryd.func46, by kernel_rfl, by kernel_rfl⟩
    · exact ⟨(isName.ok N).gt (gtL_sub (by repeat (first | exact subG_nil _ | refine subG_cons (by kernel_rfl) ?_))) (gtL_ok (by decide)), _, Tryd.func35, by kernel_rfl, by kernel_rfl⟩
    · exact ⟨(rdneed.ok N).gt (gtL_sub (by repeat (first | exact subG_nil _ | refine subG_cons (by kernel_rfl) ?_))) (gtL_ok (by decide)), _, Tryd.func47, by kernel_rfl, by kernel_rfl⟩
    · exact ⟨(rdendLeaf.ok N).gt (gtL_sub (by repeat (first | exact subG_nil _ | refine subG_cons (by kernel_rfl) ?_))) (gtL_ok (by decide)), _, Tryd.func48, by kernel_rfl, by kernel_rfl⟩
)) 1
theorem ok (N : Nat) : SoundC Tryd.prog (gtL gts) 12 (con (M N)) := by
  refine SoundC.mono (evF_ok (gok N) hm an N Tryd.func12) fun R args bs κ r h => ?_
  unfold con at h
  split at h
  · exact (eq (rdopen.M N) (rdkey.M N) (rdtext.M N) (rdhash.M N) (rdsig.M N) (isName.M N) (rdneed.M N) (rdendLeaf.M N) N κ _ _).trans h
  · cases h
end ReadLeaf

end Go.Proofs.YthajoenmfppenaaDoor.fn
