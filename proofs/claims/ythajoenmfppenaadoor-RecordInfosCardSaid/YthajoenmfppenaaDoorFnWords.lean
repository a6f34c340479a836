/- What the words' functions compute, with the proof; printed by a program. -/
import Derived.Test.YthajoenmfppenaaDoorProg
import Derived.Test.YthajoenmfppenaaDoorEv4
namespace Go.Proofs.YthajoenmfppenaaDoor.fn
open Go Go.Proofs Go.Ev

def K256 : List Int := [1116352408, 1899447441, 3049323471, 3921009573, 961987163, 1508970993, 2453635748, 2870763221, 3624381080, 310598401, 607225278, 1426881987, 1925078388, 2162078206, 2614888103, 3248222580, 3835390401, 4022224774, 264347078, 604807628, 770255983, 1249150122, 1555081692, 1996064986, 2554220882, 2821834349, 2952996808, 3210313671, 3336571891, 3584528711, 113926993, 338241895, 666307205, 773529912, 1294757372, 1396182291, 1695183700, 1986661051, 2177026350, 2456956037, 2730485921, 2820302411, 3259730800, 3345764771, 3516065817, 3600352804, 4094571909, 275423344, 430227734, 506948616, 659060556, 883997877, 958139571, 1322822218, 1537002063, 1747873779, 1955562222, 2024104815, 2227730452, 2361852424, 2428436474, 2756734187, 3204031479, 3329325298]
abbrev SlotT : Type := Int × (List Int × List Int × List Int × List Int × List Int × Unit) × (List Int × List Int × List Int × Unit) × Unit
@[match_pattern] abbrev slotTy : T := T.st [T.int IntKind.i64, T.st [T.arr IntKind.u8 32, T.arr IntKind.u8 32, T.sl IntKind.u8, T.arr IntKind.u8 32, T.arr IntKind.u8 64], T.st [T.arr IntKind.u8 32, T.arr IntKind.u8 32, T.sl IntKind.i64]]
theorem hm : Tryd.prog.follows .mixedOrders = true := by kernel_rfl
/-! ### Tryd.f117: Right -/
namespace Right
def an : Anns := ⟨fun i => findA i [], fun i => findA i [], false, fun _ => none, []⟩
noncomputable def g : Gi := giD Tryd.prog (gtL []) (fun _ => an) 0 [] (ovL []) 1
noncomputable def m {R : Type} (_N : Nat) (x1 : Int) (n2 : Int) (kr0 : Int → Option R) : Option R :=
  kr0 (ior IntKind.u32 (ishr IntKind.u32 x1 ((IntKind.u64.wrap n2).tmod 32)) (ishl IntKind.u32 x1 (IntKind.u64.wrap (32 - (IntKind.u64.wrap n2).tmod 32))))
theorem tree {R : Type} (N : Nat) (κ : AV → List Blk → Option R) (x1 : Int) (n2 : Int) : evF g an N Tryd.f117 [AV.int IntKind.u32 x1, AV.int IntKind.i64 n2] [] κ =
  κ (AV.int IntKind.u32 (ior IntKind.u32 (ishr IntKind.u32 x1 ((IntKind.u64.wrap n2).tmod 32)) (ishl IntKind.u32 x1 (IntKind.u64.wrap (32 - (IntKind.u64.wrap n2).tmod 32))))) [] := by kernel_rfl
theorem eq {R : Type} (N : Nat) (κ : AV → List Blk → Option R) (x1 : Int) (n2 : Int) : evF g an N Tryd.f117 [AV.int IntKind.u32 x1, AV.int IntKind.i64 n2] [] κ =
  m N x1 n2 (fun v => κ (AV.int IntKind.u32 v) []) := by
  rw [tree]
  kernel_rfl
abbrev Ty : Type 1 := ∀ R : Type, Int → Int → (Int → Option R) → Option R
def con (f : Ty) : Con := fun R args bs κ => match args, bs with
  | [AV.int IntKind.u32 x1, AV.int IntKind.i64 n2], [] => f R x1 n2 (fun v => κ (AV.int IntKind.u32 v) [])
  | _, _ => none
theorem con_eq (f : Ty) (R : Type) (κ : AV → List Blk → Option R) (x1 : Int) (n2 : Int) : con f R [AV.int IntKind.u32 x1, AV.int IntKind.i64 n2] [] κ = f R x1 n2 (fun v => κ (AV.int IntKind.u32 v) []) := rfl
noncomputable def M (N : Nat) : Ty := fun R x1 n2 kr0 => m (R := R) N x1 n2 kr0
def gts : List (Nat × AV) := []
theorem gok (_N : Nat) : GOk g := giD_ok hm (by intro p hp; cases hp) (gtL_ok (by decide)) (ovL_ok (by intro p hp; cases hp)) 1
theorem ok (N : Nat) : SoundC Tryd.prog (gtL gts) 117 (con (M N)) := by
  refine SoundC.mono (evF_ok (gok N) hm an N Tryd.func117) fun R args bs κ r h => ?_
  unfold con at h
  split at h
  · exact (eq N κ _ _).trans h
  · cases h
end Right

end Go.Proofs.YthajoenmfppenaaDoor.fn
