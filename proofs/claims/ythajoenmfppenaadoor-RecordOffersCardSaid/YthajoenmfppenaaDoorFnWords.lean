/- What the words' functions compute, with the proof; printed by a program. -/
import Derived.Test.YthajoenmfppenaaDoorProg
import Derived.Test.YthajoenmfppenaaDoorEv4
namespace Go.Proofs.YthajoenmfppenaaDoor.fn
open Go Go.Proofs Go.Ev

def K256 : List Int := [1116352408, 1899447441, 3049323471, 3921009573, 961987163, 1508970993, 2453635748, 2870763221, 3624381080, 310598401, 607225278, 1426881987, 1925078388, 2162078206, 2614888103, 3248222580, 3835390401, 4022224774, 264347078, 604807628, 770255983, 1249150122, 1555081692, 1996064986, 2554220882, 2821834349, 2952996808, 3210313671, 3336571891, 3584528711, 113926993, 338241895, 666307205, 773529912, 1294757372, 1396182291, 1695183700, 1986661051, 2177026350, 2456956037, 2730485921, 2820302411, 3259730800, 3345764771, 3516065817, 3600352804, 4094571909, 275423344, 430227734, 506948616, 659060556, 883997877, 958139571, 1322822218, 1537002063, 1747873779, 1955562222, 2024104815, 2227730452, 2361852424, 2428436474, 2756734187, 3204031479, 3329325298]
theorem hm : Tryd.prog.follows .mixedOrders = true := by kernel_rfl

/-! ### Tryd.f103: Big -/
namespace Big
def an : Anns := ⟨fun i => findA i [(5, ⟨[4, 11, 12, 13], [], 0, []⟩)], fun i => findA i [], false, fun _ => none, []⟩
noncomputable def g : Gi := giD Tryd.prog (gtL [(2, .err 3)]) (fun _ => an) 0 [] (ovL []) 1
noncomputable def c_L5 : Code := loopOf Tryd.f103 0
def s_L5 (x4 : Int) (t11 : Option Bool) (t11_2 : List Int) (t12 : Int) (t13 : Int) : St := ⟨List.replicate 4 .dead ++ [AV.int IntKind.u64 x4] ++ List.replicate 6 .dead ++ [AV.isl IntKind.u8 t11 t11_2, AV.int IntKind.i64 t12, AV.int IntKind.i64 t13] ++ List.replicate 10 .dead, []⟩
def x_L5_0 (x4 : Int) (t11 : Option Bool) (t11_2 : List Int) (t12 : Int) (t13 : Int) : St := ⟨List.replicate 4 .dead ++ [AV.int IntKind.u64 x4] ++ List.replicate 6 .dead ++ [AV.isl IntKind.u8 t11 t11_2, AV.int IntKind.i64 t12, AV.int IntKind.i64 t13, AV.bool (decide (t13 < t12))] ++ List.replicate 9 .dead, []⟩
noncomputable def L5 {R : Type} (N : Nat) (ke0 : Int → (Option Bool) → (List Int) → Int → Int → Option R) : Nat → Int → (Option Bool) → (List Int) → Int → Int → Option R
  | 0, _, _, _, _, _ => none
  | m + 1, x4, t11, t11_2, t12, t13 =>
    cond (decide (t13 < t12))
     (cond (decide (0 ≤ t13))
      (cond (decide (t13 < (↑t11_2.length : Int)))
       (L5 N ke0 m (ior IntKind.u64 (ishl IntKind.u64 x4 8) (IntKind.u64.wrap (t11_2.getD t13.toNat 0))) t11 t11_2 t12 (IntKind.i64.wrap (t13 + 1)))
       none)
      none)
     (ke0 x4 t11 t11_2 t12 t13)
theorem round_L5 {R : Type} (N : Nat) (Rn : St → Option R) (k : K R) (x4 : Int) (t11 : Option Bool) (t11_2 : List Int) (t12 : Int) (t13 : Int) : evC g an 0 N c_L5 none (roundK (nmOf 0 (an.loop 5)) Rn k) (s_L5 x4 t11 t11_2 t12 t13) =
  cond (decide (t13 < t12))
   (cond (decide (0 ≤ t13))
    (cond (decide (t13 < (↑t11_2.length : Int)))
     (Rn (s_L5 (ior IntKind.u64 (ishl IntKind.u64 x4 8) (IntKind.u64.wrap (t11_2.getD t13.toNat 0))) t11 t11_2 t12 (IntKind.i64.wrap (t13 + 1))))
     none)
    none)
   (k.ext 0 (x_L5_0 x4 t11 t11_2 t12 t13)) := by kernel_rfl
theorem run_L5 {R : Type} (N : Nat) (k : K R) : ∀ (m : Nat) (x4 : Int) (t11 : Option Bool) (t11_2 : List Int) (t12 : Int) (t13 : Int), loopN (evC g an 0 N c_L5 none) k (nmOf 0 (an.loop 5)) m (s_L5 x4 t11 t11_2 t12 t13) =
    L5 N (fun x4 t11 t11_2 t12 t13 => (k).ext 0 (x_L5_0 x4 t11 t11_2 t12 t13)) m x4 t11 t11_2 t12 t13 := by
  intro m
  induction m with
  | zero => intros; rfl
  | succ m ih =>
    intros
    rw [loopN_succ, round_L5]
    simp only [ih]
    kernel_rfl
noncomputable def m {R : Type} (N : Nat) (bN1 : Option Bool) (b2 : List Int) (kr0 : Int → Nat → Option R) : Option R :=
  cond (decide ((↑b2.length : Int) > 8))
   (kr0 0 3)
   (L5 N
    (fun x4_c5 _t11_c6 _t11_2_c7 _t12_c8 _t13_c9 => kr0 x4_c5 0) N 0 bN1 b2 ((↑b2.length : Int)) 0)
theorem tree {R : Type} (N : Nat) (κ : AV → List Blk → Option R) (bN1 : Option Bool) (b2 : List Int) : evF g an N Tryd.f103 [AV.isl IntKind.u8 bN1 b2] [] κ =
  cond (decide ((↑b2.length : Int) > 8))
   (κ (AV.tup [AV.int IntKind.u64 0, AV.err 3]) [])
   (loopN (evC g an 0 N c_L5 none) (ctx g an 0 N (bodyOf Tryd.f103) [1, 1, 1, 0, 1, 0] (endK g an Tryd.f103 [] κ)) (nmOf 0 (an.loop 5)) N (s_L5 0 bN1 b2 ((↑b2.length : Int)) 0)) := by kernel_rfl
theorem eq {R : Type} (N : Nat) (κ : AV → List Blk → Option R) (bN1 : Option Bool) (b2 : List Int) : evF g an N Tryd.f103 [AV.isl IntKind.u8 bN1 b2] [] κ =
  m N bN1 b2 (fun v v_1 => κ (AV.tup [AV.int IntKind.u64 v, AV.err v_1]) []) := by
  rw [tree]
  simp only [run_L5]
  kernel_rfl
abbrev Ty : Type 1 := ∀ R : Type, (Option Bool) → (List Int) → (Int → Nat → Option R) → Option R
def con (f : Ty) : Con := fun R args bs κ => match args, bs with
  | [AV.isl IntKind.u8 bN1 b2], [] => f R bN1 b2 (fun v v_1 => κ (AV.tup [AV.int IntKind.u64 v, AV.err v_1]) [])
  | _, _ => none
theorem con_eq (f : Ty) (R : Type) (κ : AV → List Blk → Option R) (bN1 : Option Bool) (b2 : List Int) : con f R [AV.isl IntKind.u8 bN1 b2] [] κ = f R bN1 b2 (fun v v_1 => κ (AV.tup [AV.int IntKind.u64 v, AV.err v_1]) []) := rfl
noncomputable def M (N : Nat) : Ty := fun R bN1 b2 kr0 => m (R := R) N bN1 b2 kr0
def gts : List (Nat × AV) := [(2, .err 3)]
theorem gok (_N : Nat) : GOk g := giD_ok hm (by intro p hp; cases hp) (gtL_ok (by decide)) (ovL_ok (by intro p hp; cases hp)) 1
theorem ok (N : Nat) : SoundC Tryd.prog (gtL gts) 103 (con (M N)) := by
  refine SoundC.mono (evF_ok (gok N) hm an N Tryd.func103) fun R args bs κ r h => ?_
  unfold con at h
  split at h
  · exact (eq N κ _ _).trans h
  · cases h
end Big


/-! ### Tryd.f117: Right -/
namespace Right
def an : Anns := ⟨fun i => findA i [], fun i => findA i [], false, fun _ => none, []⟩
noncomputable def g : Gi := giD Tryd.prog (gtL []) (fun _ => an) 0 [] (ovL []) 1
noncomputable def m {R : Type} (_N : Nat) (x1 : Int) (n2 : Int) (kr0 : Int → Option R) : Option R :=
  kr0 (ior IntKind.u32 (ishr IntKind.u32 x1 ((IntKind.u64.wrap n2).tmod 32)) (ishl IntKind.u32 x1 (IntKind.u64.wrap (32 - (IntKind.u64.wrap n2).tmod 32))))
theorem tree {R : Type} (N : Nat) (κ : AV → List Blk → Option R) (x1 : Int) (n2 : Int) : evF g an N Tryd.f117 [AV.int IntKind.u32 x1, AV.int IntKind.i64 n2] [] κ =
  κ (AV.int IntKind.u32 (ior IntKind.u32 (ishr IntKind.u32 x1 ((IntKind.u64.wrap n2).tmod 32)) (ishl IntKind.u32 x1 (IntKind.u64.wrap (32 - (IntKind.u64.wrap n2).tmod 32))))) [] := by kernel_rfl
theorem eq {R : Type} (N : Nat) (κ : AV → List Blk → Option R) (x1 : Int) (n2 : Int) : evF g an N Tryd.f117 [AV.int IntKind.u32 x1, AV.int IntKind.i64 n2] [] κ =
  m N x1 n2 (fun v => κ (AV.int IntKind.u32 v) []) := by
  rw [tree]
  kernel_rfl
abbrev Ty : Type 1 := ∀ R : Type, Int → Int → (Int → Option R) → Option R
def con (f : Ty) : Con := fun R args bs κ => match args, bs with
  | [AV.int IntKind.u32 x1, AV.int IntKind.i64 n2], [] => f R x1 n2 (fun v => κ (AV.int IntKind.u32 v) [])
  | _, _ => none
theorem con_eq (f : Ty) (R : Type) (κ : AV → List Blk → Option R) (x1 : Int) (n2 : Int) : con f R [AV.int IntKind.u32 x1, AV.int IntKind.i64 n2] [] κ = f R x1 n2 (fun v => κ (AV.int IntKind.u32 v) []) := rfl
noncomputable def M (N : Nat) : Ty := fun R x1 n2 kr0 => m (R := R) N x1 n2 kr0
def gts : List (Nat × AV) := []
theorem gok (_N : Nat) : GOk g := giD_ok hm (by intro p hp; cases hp) (gtL_ok (by decide)) (ovL_ok (by intro p hp; cases hp)) 1
theorem ok (N : Nat) : SoundC Tryd.prog (gtL gts) 117 (con (M N)) := by
  refine SoundC.mono (evF_ok (gok N) hm an N Tryd.func117) fun R args bs κ r h => ?_
  unfold con at h
  split at h
  · exact (eq N κ _ _).trans h
  · cases h
end Right

end Go.Proofs.YthajoenmfppenaaDoor.fn
