/- What a secret by a label is, with the proof; printed by a program. -/
import Derived.Test.YtjaekdcbjfgcpaaDoorProg
import Derived.Test.YtjaekdcbjfgcpaaDoorEv4
import Derived.Test.YtjaekdcbjfgcpaaDoorFnDer
import Derived.Test.YtjaekdcbjfgcpaaDoorFnCat
namespace Go.Proofs.YtjaekdcbjfgcpaaDoor.fn
open Go Go.Proofs Go.Ev

/-! ### Tryd.f21: dSecret -/
namespace dSecret
def an : Anns := ⟨fun i => findA i [], fun i => findA i [], false, fun _ => none, []⟩
noncomputable def g (mConcat : Concat.Ty) (mdLabel : dLabel.Ty) : Gi := giD Tryd.prog (gtL [(0, .err 1), (1, .err 3), (19, .ints .u32 64 [1116352408, 1899447441, 3049323471, 3921009573, 961987163, 1508970993, 2453635748, 2870763221, 3624381080, 310598401, 607225278, 1426881987, 1925078388, 2162078206, 2614888103, 3248222580, 3835390401, 4022224774, 264347078, 604807628, 770255983, 1249150122, 1555081692, 1996064986, 2554220882, 2821834349, 2952996808, 3210313671, 3336571891, 3584528711, 113926993, 338241895, 666307205, 773529912, 1294757372, 1396182291, 1695183700, 1986661051, 2177026350, 2456956037, 2730485921, 2820302411, 3259730800, 3345764771, 3516065817, 3600352804, 4094571909, 275423344, 430227734, 506948616, 659060556, 883997877, 958139571, 1322822218, 1537002063, 1747873779, 1955562222, 2024104815, 2227730452, 2361852424, 2428436474, 2756734187, 3204031479, 3329325298])]) (fun _ => an) 0 [] (ovL [(32, Concat.con mConcat), (27, dLabel.con mdLabel)]) 1
noncomputable def m (mConcat : Concat.Ty) (mdLabel : dLabel.Ty) {R : Type} (_N : Nat) (secret1 : List Int) (label2 : List UInt8) (context3 : List (List Int)) (kr0 : (List Int) → Option R) : Option R :=
  mConcat R context3
   (fun v_c6 _b_c7 b_2_c8 => mdLabel R secret1 label2 none (cut v_c6 0 b_2_c8) 32
    (fun _v_c9 v_1_c10 v_2_c11 => cond (v_2_c11.beq 0)
     (kr0 ([] ++ (List.take (min v_1_c10.length 32) v_1_c10 ++ List.drop (0 + min v_1_c10.length 32) [0, 0, 0, 0, 0, 0, 0, 0, 0, 0, 0, 0, 0, 0, 0, 0, 0, 0, 0, 0, 0, 0, 0, 0, 0, 0, 0, 0, 0, 0, 0, 0])))
     (kr0 ([0, 0, 0, 0, 0, 0, 0, 0, 0, 0, 0, 0, 0, 0, 0, 0, 0, 0, 0, 0, 0, 0, 0, 0, 0, 0, 0, 0, 0, 0, 0, 0]))))
theorem tree (mConcat : Concat.Ty) (mdLabel : dLabel.Ty) {R : Type} (N : Nat) (κ : AV → List Blk → Option R) (secret1 : List Int) (label2 : List UInt8) (context3 : List (List Int)) : evF (g mConcat mdLabel) an N Tryd.f21 [AV.ints IntKind.u8 32 secret1, AV.str label2, AV.rsl IntKind.u8 context3] [] κ =
  mConcat R context3
   (fun v_c6 _b_c7 b_2_c8 => mdLabel R secret1 label2 none (cut v_c6 0 b_2_c8) 32
    (fun _v_c9 v_1_c10 v_2_c11 => cond (v_2_c11.beq 0)
     (κ (AV.ints IntKind.u8 32 ([] ++ (List.take (min v_1_c10.length 32) v_1_c10 ++ List.drop (0 + min v_1_c10.length 32) [0, 0, 0, 0, 0, 0, 0, 0, 0, 0, 0, 0, 0, 0, 0, 0, 0, 0, 0, 0, 0, 0, 0, 0, 0, 0, 0, 0, 0, 0, 0, 0]))) [])
     (κ (AV.ints IntKind.u8 32 [0, 0, 0, 0, 0, 0, 0, 0, 0, 0, 0, 0, 0, 0, 0, 0, 0, 0, 0, 0, 0, 0, 0, 0, 0, 0, 0, 0, 0, 0, 0, 0]) []))) := by kernel_rfl
theorem eq (mConcat : Concat.Ty) (mdLabel : dLabel.Ty) {R : Type} (N : Nat) (κ : AV → List Blk → Option R) (secret1 : List Int) (label2 : List UInt8) (context3 : List (List Int)) : evF (g mConcat mdLabel) an N Tryd.f21 [AV.ints IntKind.u8 32 secret1, AV.str label2, AV.rsl IntKind.u8 context3] [] κ =
  m mConcat mdLabel N secret1 label2 context3 (fun v => κ (AV.ints IntKind.u8 32 v) []) := by
  rw [tree]
  kernel_rfl
abbrev Ty : Type 1 := ∀ R : Type, (List Int) → (List UInt8) → (List (List Int)) → ((List Int) → Option R) → Option R
def con (f : Ty) : Con := fun R args bs κ => match args, bs with
  | [AV.ints IntKind.u8 32 secret1, AV.str label2, AV.rsl IntKind.u8 context3], [] => f R secret1 label2 context3 (fun v => κ (AV.ints IntKind.u8 32 v) [])
  | _, _ => none
theorem con_eq (f : Ty) (R : Type) (κ : AV → List Blk → Option R) (secret1 : List Int) (label2 : List UInt8) (context3 : List (List Int)) : con f R [AV.ints IntKind.u8 32 secret1, AV.str label2, AV.rsl IntKind.u8 context3] [] κ = f R secret1 label2 context3 (fun v => κ (AV.ints IntKind.u8 32 v) []) := rfl
noncomputable def M (N : Nat) : Ty := fun R secret1 label2 context3 kr0 => m (Concat.M N) (dLabel.M N) (R := R) N secret1 label2 context3 kr0
def gts : List (Nat × AV) := [(0, .err 1), (1, .err 3), (19, .ints .u32 64 [1116352408, 1899447441, 3049323471, 3921009573, 961987163, 1508970993, 2453635748, 2870763221, 3624381080, 310598401, 607225278, 1426881987, 1925078388, 2162078206, 2614888103, 3248222580, 3835390401, 4022224774, 264347078, 604807628, 770255983, 1249150122, 1555081692, 1996064986, 2554220882, 2821834349, 2952996808, 3210313671, 3336571891, 3584528711, 113926993, 338241895, 666307205, 773529912, 1294757372, 1396182291, 1695183700, 1986661051, 2177026350, 2456956037, 2730485921, 2820302411, 3259730800, 3345764771, 3516065817, 3600352804, 4094571909, 275423344, 430227734, 506948616, 659060556, 883997877, 958139571, 1322822218, 1537002063, 1747873779, 1955562222, 2024104815, 2227730452, 2361852424, 2428436474, 2756734187, 3204031479, 3329325298])]
theorem gok (N : Nat) : GOk (g (Concat.M N) (dLabel.M N)) := giD_ok hm (by intro p hp; cases hp) (gtL_ok (by decide)) (ovL_ok (by
    intro p hp
    simp only [List.mem_cons, List.not_mem_nil, or_false] at hp
    rcases hp with rfl | rfl
    · exact ⟨(Concat.ok N).gt (gtL_sub (by repeat (first | exact subG_nil _ | refine subG_cons (by kernel_rfl) ?_))) (gtL_ok (by decide)), _, Tryd.func32, by kernel_rfl, by kernel_rfl⟩
    · exact ⟨(dLabel.ok N).gt (gtL_sub (by repeat (first | exact subG_nil _ | refine subG_cons (by kernel_rfl) ?_))) (gtL_ok (by decide)), _, Tryd.func27, by kernel_rfl, by kernel_rfl⟩
)) 1
theorem ok (N : Nat) : SoundC Tryd.prog (gtL gts) 21 (con (M N)) := by
  refine SoundC.mono (evF_ok (gok N) hm an N Tryd.func21) fun R args bs κ r h => ?_
  unfold con at h
  split at h
  · exact (eq (Concat.M N) (dLabel.M N) N κ _ _ _).trans h
  · cases h
end dSecret

end Go.Proofs.YtjaekdcbjfgcpaaDoor.fn
