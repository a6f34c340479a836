/- What a secret by a label is, with the proof; printed by a program. -/
import Derived.Test.YtjaekdcbjfgcpaaDoorProg
import Derived.Test.YtjaekdcbjfgcpaaDoorEv4
import Derived.Test.YtjaekdcbjfgcpaaDoorFnDer
import Derived.Test.YtjaekdcbjfgcpaaDoorFnCat
namespace Go.Proofs.YtjaekdcbjfgcpaaDoor.fn
open Go Go.Proofs Go.Ev

/-! ### Tryd.f21: dSecret -/
namespace dSecret
def an : Anns := ⟨fun i => findA i [], fun i => findA i [], false, fun _ => none, []⟩
noncomputable def g (mConcat : Concat.Ty) (mdLabel : dLabel.Ty) : Gi := giD Tryd.prog (gtL [(0, .err 1), (1, .err 3), (19, .ints .u32 64 K256)]) (fun _ => an) 0 [] (ovL [(32, Concat.con mConcat), (27, dLabel.con mdLabel)]) 1
noncomputable def m (mConcat : Concat.Ty) (mdLabel : dLabel.Ty) {R : Type} (_N : Nat) (secret1 : List Int) (label2 : List UInt8) (context3 : List (List Int)) (kr0 : (List Int) → Option R) : Option R :=
  mConcat R context3
   (fun v_c6 _b_c7 b_2_c8 => mdLabel R secret1 label2 none (cut v_c6 0 b_2_c8) 32
    (fun _v_c9 v_1_c10 v_2_c11 => cond (v_2_c11.beq 0)
     (kr0 ([] ++ (List.take (min v_1_c10.length 32) v_1_c10 ++ List.drop (0 + min v_1_c10.length 32) [0, 0, 0, 0, 0, 0, 0, 0, 0, 0, 0, 0, 0, 0, 0, 0, 0, 0, 0, 0, 0, 0, 0, 0, 0, 0, 0, 0, 0, 0, 0, 0])))
     (kr0 ([0, 0, 0, 0, 0, 0, 0, 0, 0, 0, 0, 0, 0, 0, 0, 0, 0, 0, 0, 0, 0, 0, 0, 0, 0, 0, 0, 0, 0, 0, 0, 0]))))
theorem tree (mConcat : Concat.Ty) (mdLabel : dLabel.Ty) {R : Type} (N : Nat) (κ : AV → List Blk → Option R) (secret1 : List Int) (label2 : List UInt8) (context3 : List (List Int)) : evF (g mConcat mdLabel) an N Tryd.f21 [AV.ints IntKind.u8 32 secret1, AV.str label2, AV.rsl IntKind.u8 context3] [] κ =
  mConcat R context3
   (fun v_c6 _b_c7 b_2_c8 => mdLabel R secret1 label2 none (cut v_c6 0 b_2_c8) 32
    (fun _v_c9 v_1_c10 v_2_c11 => cond (v_2_c11.beq 0)
     (κ (AV.ints IntKind.u8 32 ([] ++ (List.take (min v_1_c10.length 32) v_1_c10 ++ List.drop (0 + min v_1_c10.length 32) [0, 0, 0, 0, 0, 0, 0, 0, 0, 0, 0, 0, 0, 0, 0, 0, 0, 0, 0, 0, 0, 0, 0, 0, 0, 0, 0, 0, 0, 0, 0, 0]))) [])
     (κ (AV.ints IntKind.u8 32 [0, 0, 0, 0, 0, 0, 0, 0, 0, 0, 0, 0, 0, 0, 0, 0, 0, 0, 0, 0, 0, 0, 0, 0, 0, 0, 0, 0, 0, 0, 0, 0]) []))) := by kernel_rfl
theorem eq (mConcat : Concat.Ty) (mdLabel : dLabel.Ty) {R : Type} (N : Nat) (κ : AV → List Blk → Option R) (secret1 : List Int) (label2 : List UInt8) (context3 : List (List Int)) : evF (g mConcat mdLabel) an N Tryd.f21 [AV.ints IntKind.u8 32 secret1, AV.str label2, AV.rsl IntKind.u8 context3] [] κ =
  m mConcat mdLabel N secret1 label2 context3 (fun v => κ (AV.ints IntKind.u8 32 v) []) := by
  rw [tree]
  kernel_rfl
abbrev Ty : Type 1 := ∀ R : Type, (List Int) → (List UInt8) → (List (List Int)) → ((List Int) → Option R) → Option R
def con (f : Ty) : Con := fun R args bs κ => match args, bs with
  | [AV.ints IntKind.u8 32 secret1, AV.str label2, AV.rsl IntKind.u8 context3], [] => f R secret1 label2 context3 (fun v => κ (AV.ints IntKind.u8 32 v) [])
  | _, _ => none
theorem con_eq (f : Ty) (R : Type) (κ : AV → List Blk → Option R) (secret1 : List Int) (label2 : List UInt8) (context3 : List (List Int)) : con f R [AV.ints IntKind.u8 32 secret1, AV.str label2, AV.rsl IntKind.u8 context3] [] κ = f R secret1 label2 context3 (fun v => κ (AV.ints IntKind.u8 32 v) []) := rfl
noncomputable def M (N : Nat) : Ty := fun R secret1 label2 context3 kr0 => m (Concat.M N) (dLabel.M N) (R := R) N secret1 label2 context3 kr0
def gts : List (Nat × AV) := [(0, .err 1), (1, .err 3), (19, .ints .u32 64 K256)]
theorem gok (N : Nat) : GOk (g (Concat.M N) (dLabel.M N)) := giD_ok hm (by intro p hp; cases hp) (gtL_ok (by decide)) (ovL_ok (by
    intro p hp
    simp only [List.mem_cons, List.not_mem_nil, or_false] at hp
    rcases hp with rfl | rfl
    · exact ⟨(Concat.ok N).gt (gtL_sub (by repeat (first | exact subG_nil _ | refine subG_cons (by kernel_rfl) ?_))) (gtL_ok (by decide)), _, Tryd.func32, by kernel_rfl, by kernel_rfl⟩
    · exact ⟨(dLabel.ok N).gt (gtL_sub (by repeat (first | exact subG_nil _ | refine subG_cons (by kernel_rfl) ?_))) (gtL_ok (by decide)), _, Tryd.func27, by kernel_rfl, by kernel_rfl⟩
)) 1
theorem ok (N : Nat) : SoundC Tryd.prog (gtL gts) 21 (con (M N)) := by
  refine SoundC.mono (evF_ok (gok N) hm an N Tryd.func21) fun R args bs κ r h => ?_
  unfold con at h
  split at h
  · exact (eq (Concat.M N) (dLabel.M N) N κ _ _ _).trans h
  · cases h
end dSecret

end Go.Proofs.YtjaekdcbjfgcpaaDoor.fn
