/- What the scalars' functions compute, with the proof; printed by a program. -/
import Derived.Test.YtganankiiipkgaaProg
import Derived.Test.YtganankiiipkgaaEv4
namespace Go.Proofs.Ytganankiiipkgaa.fn
open Go Go.Proofs Go.Ev

theorem hm : Try.prog.follows .mixedOrders = true := by kernel_rfl

/-! ### Try.f26: Pick -/
namespace Pick
def an : Anns := ⟨fun i => findA i [], fun i => findA i [], false, fun _ => none⟩
noncomputable def g : Gi := giD Try.prog (gtL []) (fun _ => an) 0 [] (ovL []) 1
noncomputable def m {R : Type} (_N : Nat) (yes1 : Bool) (a2 : Int) (b3 : Int) (kr0 : Int → Option R) : Option R :=
  cond yes1
   (kr0 (ior IntKind.u64 (iand IntKind.u64 a2 18446744073709551615) (iandn IntKind.u64 b3 18446744073709551615)))
   (kr0 (ior IntKind.u64 (iand IntKind.u64 a2 0) (iandn IntKind.u64 b3 0)))
theorem tree {R : Type} (N : Nat) (κ : AV → List Blk → Option R) (yes1 : Bool) (a2 : Int) (b3 : Int) : evF (g) an N Try.f26 [AV.bool yes1, AV.int IntKind.u64 a2, AV.int IntKind.u64 b3] [] κ =
  cond yes1
   (κ (AV.int IntKind.u64 (ior IntKind.u64 (iand IntKind.u64 a2 18446744073709551615) (iandn IntKind.u64 b3 18446744073709551615))) [])
   (κ (AV.int IntKind.u64 (ior IntKind.u64 (iand IntKind.u64 a2 0) (iandn IntKind.u64 b3 0))) []) := by kernel_rfl
theorem eq {R : Type} (N : Nat) (κ : AV → List Blk → Option R) (yes1 : Bool) (a2 : Int) (b3 : Int) : evF (g) an N Try.f26 [AV.bool yes1, AV.int IntKind.u64 a2, AV.int IntKind.u64 b3] [] κ =
  m N yes1 a2 b3 (fun v => κ (AV.int IntKind.u64 v) []) := by
  rw [tree]
  kernel_rfl
abbrev Ty : Type 1 := ∀ R : Type, Bool → Int → Int → (Int → Option R) → Option R
def con (f : Ty) : Con := fun R args bs κ => match args, bs with
  | [AV.bool yes1, AV.int IntKind.u64 a2, AV.int IntKind.u64 b3], [] => f R yes1 a2 b3 (fun v => κ (AV.int IntKind.u64 v) [])
  | _, _ => none
theorem con_eq (f : Ty) (R : Type) (κ : AV → List Blk → Option R) (yes1 : Bool) (a2 : Int) (b3 : Int) : con f R [AV.bool yes1, AV.int IntKind.u64 a2, AV.int IntKind.u64 b3] [] κ = f R yes1 a2 b3 (fun v => κ (AV.int IntKind.u64 v) []) := rfl
noncomputable def M (N : Nat) : Ty := fun R yes1 a2 b3 kr0 => m (R := R) N yes1 a2 b3 kr0
def gts : List (Nat × AV) := []
theorem gok (_N : Nat) : GOk (g) := giD_ok hm (by intro p hp; cases hp) (gtL_ok (by decide)) (ovL_ok (by intro p hp; cases hp)) 1
theorem ok (N : Nat) : SoundC Try.prog (gtL gts) 26 (con (M N)) := by
  refine SoundC.mono (evF_ok (gok N) hm an N Try.func26) fun R args bs κ r h => ?_
  unfold con at h
  split at h
  · exact (eq N κ _ _ _).trans h
  · cases h
end Pick


/-! ### Try.f21: wEqual -/
namespace wEqual
def an : Anns := ⟨fun i => findA i [(5, ⟨[0, 1, 5, 13, 14], [], 0⟩)], fun i => findA i [], false, fun _ => none⟩
noncomputable def g : Gi := giD Try.prog (gtL []) (fun _ => an) 0 [] (ovL []) 1
noncomputable def c_L5 : Code := loopOf Try.f21 0
def s_L5 (a0 : Option Bool) (a0_1 : List Int) (b1 : Option Bool) (b1_3 : List Int) (parts5 : Int) (t13 : Int) (t14 : Int) : St := ⟨[AV.isl IntKind.u8 a0 a0_1, AV.isl IntKind.u8 b1 b1_3, AV.dead, AV.dead, AV.dead, AV.int IntKind.u8 parts5] ++ List.replicate 7 .dead ++ [AV.int IntKind.i64 t13, AV.int IntKind.i64 t14] ++ List.replicate 16 .dead, []⟩
def x_L5_0 (a0 : Option Bool) (a0_1 : List Int) (b1 : Option Bool) (b1_3 : List Int) (parts5 : Int) (t13 : Int) (t14 : Int) : St := ⟨[AV.isl IntKind.u8 a0 a0_1, AV.isl IntKind.u8 b1 b1_3, AV.dead, AV.dead, AV.dead, AV.int IntKind.u8 parts5] ++ List.replicate 7 .dead ++ [AV.int IntKind.i64 t13, AV.int IntKind.i64 t14, AV.bool (decide (t14 < t13))] ++ List.replicate 15 .dead, []⟩
noncomputable def L5 {R : Type} (N : Nat) (ke0 : (Option Bool) → (List Int) → (Option Bool) → (List Int) → Int → Int → Int → Option R) : Nat → (Option Bool) → (List Int) → (Option Bool) → (List Int) → Int → Int → Int → Option R
  | 0, _, _, _, _, _, _, _ => none
  | m + 1, a0, a0_1, b1, b1_3, parts5, t13, t14 =>
    cond (decide (t14 < t13))
     (cond (decide (0 ≤ t14))
      (cond (decide (t14 < (↑a0_1.length : Int)))
       (cond (decide (0 ≤ t14))
        (cond (decide (t14 < (↑b1_3.length : Int)))
         (L5 N ke0 m a0 a0_1 b1 b1_3 (ior IntKind.u8 parts5 (ixor IntKind.u8 (a0_1.getD t14.toNat 0) (b1_3.getD t14.toNat 0))) t13 (IntKind.i64.wrap (t14 + 1)))
         (none))
        (none))
       (none))
      (none))
     (ke0 a0 a0_1 b1 b1_3 parts5 t13 t14)
theorem round_L5 {R : Type} (N : Nat) (Rn : St → Option R) (k : K R) (a0 : Option Bool) (a0_1 : List Int) (b1 : Option Bool) (b1_3 : List Int) (parts5 : Int) (t13 : Int) (t14 : Int) : evC (g) an 0 N c_L5 none (roundK (nmOf 0 (an.loop 5)) Rn k) (s_L5 a0 a0_1 b1 b1_3 parts5 t13 t14) =
  cond (decide (t14 < t13))
   (cond (decide (0 ≤ t14))
    (cond (decide (t14 < (↑a0_1.length : Int)))
     (cond (decide (0 ≤ t14))
      (cond (decide (t14 < (↑b1_3.length : Int)))
       (Rn (s_L5 a0 a0_1 b1 b1_3 (ior IntKind.u8 parts5 (ixor IntKind.u8 (a0_1.getD t14.toNat 0) (b1_3.getD t14.toNat 0))) t13 (IntKind.i64.wrap (t14 + 1))))
       (none))
      (none))
     (none))
    (none))
   (k.ext 0 (x_L5_0 a0 a0_1 b1 b1_3 parts5 t13 t14)) := by kernel_rfl
theorem run_L5 {R : Type} (N : Nat) (k : K R) : ∀ (m : Nat) (a0 : Option Bool) (a0_1 : List Int) (b1 : Option Bool) (b1_3 : List Int) (parts5 : Int) (t13 : Int) (t14 : Int), loopN (evC (g) an 0 N c_L5 none) k (nmOf 0 (an.loop 5)) m (s_L5 a0 a0_1 b1 b1_3 parts5 t13 t14) =
    L5 N (fun a0 a0_1 b1 b1_3 parts5 t13 t14 => (k).ext 0 (x_L5_0 a0 a0_1 b1 b1_3 parts5 t13 t14)) m a0 a0_1 b1 b1_3 parts5 t13 t14 := by
  intro m
  induction m with
  | zero => intros; rfl
  | succ m ih =>
    intros
    rw [loopN_succ, round_L5]
    simp only [ih]
    kernel_rfl
noncomputable def m {R : Type} (N : Nat) (aN1 : Option Bool) (a2 : List Int) (bN3 : Option Bool) (b4 : List Int) (kr0 : Bool → Option R) : Option R :=
  cond ((↑a2.length : Int) != (↑b4.length : Int))
   (kr0 false)
   (L5 N
    (fun _a0_c7 _a0_1_c8 _b1_c9 _b1_3_c10 parts5_c11 _t13_c12 _t14_c13 => kr0 (parts5_c11 == 0)) N aN1 a2 bN3 b4 0 ((↑a2.length : Int)) 0)
theorem tree {R : Type} (N : Nat) (κ : AV → List Blk → Option R) (aN1 : Option Bool) (a2 : List Int) (bN3 : Option Bool) (b4 : List Int) : evF (g) an N Try.f21 [AV.isl IntKind.u8 aN1 a2, AV.isl IntKind.u8 bN3 b4] [] κ =
  cond ((↑a2.length : Int) != (↑b4.length : Int))
   (κ (AV.bool false) [])
   (loopN (evC (g) an 0 N c_L5 none) (ctx (g) an 0 N (bodyOf Try.f21) [1, 1, 1, 0, 1, 0] (endK (g) an Try.f21 [] κ)) (nmOf 0 (an.loop 5)) N (s_L5 aN1 a2 bN3 b4 0 ((↑a2.length : Int)) 0)) := by kernel_rfl
theorem eq {R : Type} (N : Nat) (κ : AV → List Blk → Option R) (aN1 : Option Bool) (a2 : List Int) (bN3 : Option Bool) (b4 : List Int) : evF (g) an N Try.f21 [AV.isl IntKind.u8 aN1 a2, AV.isl IntKind.u8 bN3 b4] [] κ =
  m N aN1 a2 bN3 b4 (fun v => κ (AV.bool v) []) := by
  rw [tree]
  simp only [run_L5]
  kernel_rfl
abbrev Ty : Type 1 := ∀ R : Type, (Option Bool) → (List Int) → (Option Bool) → (List Int) → (Bool → Option R) → Option R
def con (f : Ty) : Con := fun R args bs κ => match args, bs with
  | [AV.isl IntKind.u8 aN1 a2, AV.isl IntKind.u8 bN3 b4], [] => f R aN1 a2 bN3 b4 (fun v => κ (AV.bool v) [])
  | _, _ => none
theorem con_eq (f : Ty) (R : Type) (κ : AV → List Blk → Option R) (aN1 : Option Bool) (a2 : List Int) (bN3 : Option Bool) (b4 : List Int) : con f R [AV.isl IntKind.u8 aN1 a2, AV.isl IntKind.u8 bN3 b4] [] κ = f R aN1 a2 bN3 b4 (fun v => κ (AV.bool v) []) := rfl
noncomputable def M (N : Nat) : Ty := fun R aN1 a2 bN3 b4 kr0 => m (R := R) N aN1 a2 bN3 b4 kr0
def gts : List (Nat × AV) := []
theorem gok (_N : Nat) : GOk (g) := giD_ok hm (by intro p hp; cases hp) (gtL_ok (by decide)) (ovL_ok (by intro p hp; cases hp)) 1
theorem ok (N : Nat) : SoundC Try.prog (gtL gts) 21 (con (M N)) := by
  refine SoundC.mono (evF_ok (gok N) hm an N Try.func21) fun R args bs κ r h => ?_
  unfold con at h
  split at h
  · exact (eq N κ _ _ _ _).trans h
  · cases h
end wEqual


/-! ### Try.f23: smodulus -/
namespace smodulus
def an : Anns := ⟨fun i => findA i [], fun i => findA i [], false, fun _ => none⟩
noncomputable def g : Gi := giD Try.prog (gtL []) (fun _ => an) 0 [] (ovL []) 1
noncomputable def m {R : Type} (_N : Nat) (kr0 : Option R) : Option R :=
  kr0
theorem tree {R : Type} (N : Nat) (κ : AV → List Blk → Option R) : evF (g) an N Try.f23 [] [] κ =
  κ (AV.ints IntKind.u64 8 [1559614445, 1477600026, 2734136534, 350157278, 0, 0, 0, 268435456]) [] := by kernel_rfl
theorem eq {R : Type} (N : Nat) (κ : AV → List Blk → Option R) : evF (g) an N Try.f23 [] [] κ =
  m N (κ (AV.ints IntKind.u64 8 [1559614445, 1477600026, 2734136534, 350157278, 0, 0, 0, 268435456]) []) := by
  rw [tree]
  kernel_rfl
abbrev Ty : Type 1 := ∀ R : Type, Option R → Option R
def con (f : Ty) : Con := fun R args bs κ => match args, bs with
  | [], [] => f R (κ (AV.ints IntKind.u64 8 [1559614445, 1477600026, 2734136534, 350157278, 0, 0, 0, 268435456]) [])
  | _, _ => none
theorem con_eq (f : Ty) (R : Type) (κ : AV → List Blk → Option R) : con f R [] [] κ = f R (κ (AV.ints IntKind.u64 8 [1559614445, 1477600026, 2734136534, 350157278, 0, 0, 0, 268435456]) []) := rfl
noncomputable def M (N : Nat) : Ty := fun R kr0 => m (R := R) N kr0
def gts : List (Nat × AV) := []
theorem gok (_N : Nat) : GOk (g) := giD_ok hm (by intro p hp; cases hp) (gtL_ok (by decide)) (ovL_ok (by intro p hp; cases hp)) 1
theorem ok (N : Nat) : SoundC Try.prog (gtL gts) 23 (con (M N)) := by
  refine SoundC.mono (evF_ok (gok N) hm an N Try.func23) fun R args bs κ r h => ?_
  unfold con at h
  split at h
  · exact (eq N κ).trans h
  · cases h
end smodulus


/-! ### Try.f25: sless -/
namespace sless
def an : Anns := ⟨fun i => findA i [(5, ⟨[1, 2, 4, 5, 6, 10], [⟨1, 0, .u8⟩, ⟨2, 1, .u8⟩, ⟨4, 2, .u8⟩, ⟨5, 3, .u8⟩], 4⟩)], fun i => findA i [], false, fun _ => none⟩
noncomputable def g (msmodulus : smodulus.Ty) : Gi := giD Try.prog (gtL []) (fun _ => an) 0 [] (ovL [(23, smodulus.con msmodulus)]) 1
noncomputable def c_L5 : Code := loopOf Try.f25 0
def s_L5 (owe6 : Int) (t10 : Int) (h0 : List Int) (h3 : List Int) : St := ⟨[AV.dead, AV.ptr 0 [], AV.ptr 1 [], AV.dead, AV.ptr 2 [], AV.ptr 3 [], AV.int IntKind.u64 owe6, AV.dead, AV.dead, AV.dead, AV.int IntKind.i64 t10] ++ List.replicate 23 .dead, [Blk.var (AV.ints IntKind.u64 8 h0), Blk.var (AV.ints IntKind.u64 8 [0, 0, 0, 0, 0, 0, 0, 0]), Blk.var (AV.ints IntKind.u64 8 [1559614445, 1477600026, 2734136534, 350157278, 0, 0, 0, 268435456]), Blk.var (AV.ints IntKind.u64 8 h3)]⟩
def x_L5_0 (owe6 : Int) (t10 : Int) (h0 : List Int) (h3 : List Int) : St := ⟨[AV.dead, AV.ptr 0 [], AV.ptr 1 [], AV.dead, AV.ptr 2 [], AV.ptr 3 [], AV.int IntKind.u64 owe6, AV.dead, AV.dead, AV.dead, AV.int IntKind.i64 t10, AV.bool (decide (t10 < 8))] ++ List.replicate 22 .dead, [Blk.var (AV.ints IntKind.u64 8 h0), Blk.var (AV.ints IntKind.u64 8 [0, 0, 0, 0, 0, 0, 0, 0]), Blk.var (AV.ints IntKind.u64 8 [1559614445, 1477600026, 2734136534, 350157278, 0, 0, 0, 268435456]), Blk.var (AV.ints IntKind.u64 8 h3)]⟩
noncomputable def L5 (msmodulus : smodulus.Ty) {R : Type} (N : Nat) (ke0 : Int → Int → (List Int) → (List Int) → Option R) : Nat → Int → Int → (List Int) → (List Int) → Option R
  | 0, _, _, _, _ => none
  | m + 1, owe6, t10, h0, h3 =>
    cond (decide (t10 < 8))
     (cond (decide (0 ≤ t10))
      (cond (decide (t10 < 8))
       (cond (decide (0 ≤ t10))
        (cond (decide (t10 < 8))
         (cond (decide (0 ≤ t10))
          (cond (decide (t10 < 8))
           (L5 msmodulus N ke0 m (IntKind.u64.wrap (1 - ishr IntKind.u64 (IntKind.u64.wrap (IntKind.u64.wrap (IntKind.u64.wrap (h0.getD t10.toNat 0 + 4294967296) - [1559614445, 1477600026, 2734136534, 350157278, 0, 0, 0, 268435456].getD t10.toNat 0) - owe6)) 32)) (IntKind.i64.wrap (t10 + 1)) h0 (h3.set t10.toNat (iand IntKind.u64 (IntKind.u64.wrap (IntKind.u64.wrap (IntKind.u64.wrap (h0.getD t10.toNat 0 + 4294967296) - [1559614445, 1477600026, 2734136534, 350157278, 0, 0, 0, 268435456].getD t10.toNat 0) - owe6)) 4294967295)))
           (none))
          (none))
         (none))
        (none))
       (none))
      (none))
     (ke0 owe6 t10 h0 h3)
theorem round_L5 (msmodulus : smodulus.Ty) {R : Type} (N : Nat) (Rn : St → Option R) (k : K R) (owe6 : Int) (t10 : Int) (h0 : List Int) (h3 : List Int) : evC (g msmodulus) an 0 N c_L5 none (roundK (nmOf 0 (an.loop 5)) Rn k) (s_L5 owe6 t10 h0 h3) =
  cond (decide (t10 < 8))
   (cond (decide (0 ≤ t10))
    (cond (decide (t10 < 8))
     (cond (decide (0 ≤ t10))
      (cond (decide (t10 < 8))
       (cond (decide (0 ≤ t10))
        (cond (decide (t10 < 8))
         (Rn (s_L5 (IntKind.u64.wrap (1 - ishr IntKind.u64 (IntKind.u64.wrap (IntKind.u64.wrap (IntKind.u64.wrap (h0.getD t10.toNat 0 + 4294967296) - [1559614445, 1477600026, 2734136534, 350157278, 0, 0, 0, 268435456].getD t10.toNat 0) - owe6)) 32)) (IntKind.i64.wrap (t10 + 1)) h0 (h3.set t10.toNat (iand IntKind.u64 (IntKind.u64.wrap (IntKind.u64.wrap (IntKind.u64.wrap (h0.getD t10.toNat 0 + 4294967296) - [1559614445, 1477600026, 2734136534, 350157278, 0, 0, 0, 268435456].getD t10.toNat 0) - owe6)) 4294967295))))
         (none))
        (none))
       (none))
      (none))
     (none))
    (none))
   (k.ext 0 (x_L5_0 owe6 t10 h0 h3)) := by kernel_rfl
theorem run_L5 (msmodulus : smodulus.Ty) {R : Type} (N : Nat) (k : K R) : ∀ (m : Nat) (owe6 : Int) (t10 : Int) (h0 : List Int) (h3 : List Int), loopN (evC (g msmodulus) an 0 N c_L5 none) k (nmOf 0 (an.loop 5)) m (s_L5 owe6 t10 h0 h3) =
    L5 msmodulus N (fun owe6 t10 h0 h3 => (k).ext 0 (x_L5_0 owe6 t10 h0 h3)) m owe6 t10 h0 h3 := by
  intro m
  induction m with
  | zero => intros; rfl
  | succ m ih =>
    intros
    rw [loopN_succ, round_L5]
    simp only [ih]
    kernel_rfl
noncomputable def m (msmodulus : smodulus.Ty) {R : Type} (N : Nat) (n1 : List Int) (kr0 : (List Int) → Bool → Option R) : Option R :=
  msmodulus R
   (L5 msmodulus N
    (fun owe6_c4 _t10_c5 _h0_c6 h3_c7 => kr0 h3_c7 (owe6_c4 == 1)) N 0 0 n1 ([0, 0, 0, 0, 0, 0, 0, 0]))
theorem tree (msmodulus : smodulus.Ty) {R : Type} (N : Nat) (κ : AV → List Blk → Option R) (n1 : List Int) : evF (g msmodulus) an N Try.f25 [AV.ints IntKind.u64 8 n1] [] κ =
  msmodulus R
   (loopN (evC (g msmodulus) an 0 N c_L5 none) (ctx (g msmodulus) an 0 N (bodyOf Try.f25) [1, 1, 1, 1, 0, 1, 0] (endK (g msmodulus) an Try.f25 [] κ)) (nmOf 0 (an.loop 5)) N (s_L5 0 0 n1 ([0, 0, 0, 0, 0, 0, 0, 0]))) := by kernel_rfl
theorem eq (msmodulus : smodulus.Ty) {R : Type} (N : Nat) (κ : AV → List Blk → Option R) (n1 : List Int) : evF (g msmodulus) an N Try.f25 [AV.ints IntKind.u64 8 n1] [] κ =
  m msmodulus N n1 (fun v v_1 => κ (AV.tup [AV.ints IntKind.u64 8 v, AV.bool v_1]) []) := by
  rw [tree]
  simp only [run_L5]
  kernel_rfl
abbrev Ty : Type 1 := ∀ R : Type, (List Int) → ((List Int) → Bool → Option R) → Option R
def con (f : Ty) : Con := fun R args bs κ => match args, bs with
  | [AV.ints IntKind.u64 8 n1], [] => f R n1 (fun v v_1 => κ (AV.tup [AV.ints IntKind.u64 8 v, AV.bool v_1]) [])
  | _, _ => none
theorem con_eq (f : Ty) (R : Type) (κ : AV → List Blk → Option R) (n1 : List Int) : con f R [AV.ints IntKind.u64 8 n1] [] κ = f R n1 (fun v v_1 => κ (AV.tup [AV.ints IntKind.u64 8 v, AV.bool v_1]) []) := rfl
noncomputable def M (N : Nat) : Ty := fun R n1 kr0 => m (smodulus.M N) (R := R) N n1 kr0
def gts : List (Nat × AV) := []
theorem gok (N : Nat) : GOk (g (smodulus.M N)) := giD_ok hm (by intro p hp; cases hp) (gtL_ok (by decide)) (ovL_ok (by
    intro p hp
    simp only [List.mem_cons, List.not_mem_nil, or_false] at hp
    rcases hp with rfl
    · exact ⟨(smodulus.ok N).gt (gtL_sub (by repeat (first | exact subG_nil _ | refine subG_cons (by kernel_rfl) ?_))) (gtL_ok (by decide)), _, Try.func23, by kernel_rfl, by kernel_rfl⟩
)) 1
theorem ok (N : Nat) : SoundC Try.prog (gtL gts) 25 (con (M N)) := by
  refine SoundC.mono (evF_ok (gok N) hm an N Try.func25) fun R args bs κ r h => ?_
  unfold con at h
  split at h
  · exact (eq (smodulus.M N) N κ _).trans h
  · cases h
end sless


/-! ### Try.f22: sleast -/
namespace sleast
def an : Anns := ⟨fun i => findA i [(3, ⟨[1, 2, 3, 4, 11], [⟨1, 0, .u8⟩, ⟨2, 1, .u8⟩, ⟨3, 2, .u8⟩], 3⟩)], fun i => findA i [], false, fun _ => none⟩
noncomputable def g (msless : sless.Ty) (mPick : Pick.Ty) : Gi := giD Try.prog (gtL []) (fun _ => an) 0 [] (ovL [(25, sless.con msless), (26, Pick.con mPick)]) 1
noncomputable def c_L3 : Code := loopOf Try.f22 0
def s_L3 (below4 : Bool) (t11 : Int) (h0 : List Int) (h2 : List Int) : St := ⟨[AV.dead, AV.ptr 0 [], AV.ptr 1 [], AV.ptr 2 [], AV.bool below4] ++ List.replicate 6 .dead ++ [AV.int IntKind.i64 t11] ++ List.replicate 14 .dead, [Blk.var (AV.ints IntKind.u64 8 h0), Blk.var (AV.ints IntKind.u64 8 [0, 0, 0, 0, 0, 0, 0, 0]), Blk.var (AV.ints IntKind.u64 8 h2)]⟩
def x_L3_0 (below4 : Bool) (t11 : Int) (h0 : List Int) (h2 : List Int) : St := ⟨[AV.dead, AV.ptr 0 [], AV.ptr 1 [], AV.ptr 2 [], AV.bool below4] ++ List.replicate 6 .dead ++ [AV.int IntKind.i64 t11, AV.bool (decide (t11 < 8))] ++ List.replicate 13 .dead, [Blk.var (AV.ints IntKind.u64 8 h0), Blk.var (AV.ints IntKind.u64 8 [0, 0, 0, 0, 0, 0, 0, 0]), Blk.var (AV.ints IntKind.u64 8 h2)]⟩
noncomputable def L3 (msless : sless.Ty) (mPick : Pick.Ty) {R : Type} (N : Nat) (ke0 : Bool → Int → (List Int) → (List Int) → Option R) : Nat → Bool → Int → (List Int) → (List Int) → Option R
  | 0, _, _, _, _ => none
  | m + 1, below4, t11, h0, h2 =>
    cond (decide (t11 < 8))
     (cond (decide (0 ≤ t11))
      (cond (decide (t11 < 8))
       (cond (decide (0 ≤ t11))
        (cond (decide (t11 < 8))
         (mPick R below4 (h0.getD t11.toNat 0) (h2.getD t11.toNat 0)
          (fun v_c12 => cond (decide (0 ≤ t11))
           (cond (decide (t11 < 8))
            (L3 msless mPick N ke0 m below4 (IntKind.i64.wrap (t11 + 1)) (h0.set t11.toNat v_c12) h2)
            (none))
           (none)))
         (none))
        (none))
       (none))
      (none))
     (ke0 below4 t11 h0 h2)
theorem round_L3 (msless : sless.Ty) (mPick : Pick.Ty) {R : Type} (N : Nat) (Rn : St → Option R) (k : K R) (below4 : Bool) (t11 : Int) (h0 : List Int) (h2 : List Int) : evC (g msless mPick) an 0 N c_L3 none (roundK (nmOf 0 (an.loop 3)) Rn k) (s_L3 below4 t11 h0 h2) =
  cond (decide (t11 < 8))
   (cond (decide (0 ≤ t11))
    (cond (decide (t11 < 8))
     (cond (decide (0 ≤ t11))
      (cond (decide (t11 < 8))
       (mPick R below4 (h0.getD t11.toNat 0) (h2.getD t11.toNat 0)
        (fun v_c12 => cond (decide (0 ≤ t11))
         (cond (decide (t11 < 8))
          (Rn (s_L3 below4 (IntKind.i64.wrap (t11 + 1)) (h0.set t11.toNat v_c12) h2))
          (none))
         (none)))
       (none))
      (none))
     (none))
    (none))
   (k.ext 0 (x_L3_0 below4 t11 h0 h2)) := by kernel_rfl
theorem run_L3 (msless : sless.Ty) (mPick : Pick.Ty) {R : Type} (N : Nat) (k : K R) : ∀ (m : Nat) (below4 : Bool) (t11 : Int) (h0 : List Int) (h2 : List Int), loopN (evC (g msless mPick) an 0 N c_L3 none) k (nmOf 0 (an.loop 3)) m (s_L3 below4 t11 h0 h2) =
    L3 msless mPick N (fun below4 t11 h0 h2 => (k).ext 0 (x_L3_0 below4 t11 h0 h2)) m below4 t11 h0 h2 := by
  intro m
  induction m with
  | zero => intros; rfl
  | succ m ih =>
    intros
    rw [loopN_succ, round_L3]
    simp only [ih]
    kernel_rfl
noncomputable def m (msless : sless.Ty) (mPick : Pick.Ty) {R : Type} (N : Nat) (n1 : List Int) (kr0 : (List Int) → Option R) : Option R :=
  msless R n1
   (fun v_c10 v_1_c11 => L3 msless mPick N
    (fun _below4_c13 _t11_c14 h0_c15 _h2_c16 => kr0 h0_c15) N v_1_c11 0 n1 v_c10)
theorem tree (msless : sless.Ty) (mPick : Pick.Ty) {R : Type} (N : Nat) (κ : AV → List Blk → Option R) (n1 : List Int) : evF (g msless mPick) an N Try.f22 [AV.ints IntKind.u64 8 n1] [] κ =
  msless R n1
   (fun v_c10 v_1_c11 => loopN (evC (g msless mPick) an 0 N c_L3 none) (ctx (g msless mPick) an 0 N (bodyOf Try.f22) [1, 1, 0, 1, 0] (endK (g msless mPick) an Try.f22 [] κ)) (nmOf 0 (an.loop 3)) N (s_L3 v_1_c11 0 n1 v_c10)) := by kernel_rfl
theorem eq (msless : sless.Ty) (mPick : Pick.Ty) {R : Type} (N : Nat) (κ : AV → List Blk → Option R) (n1 : List Int) : evF (g msless mPick) an N Try.f22 [AV.ints IntKind.u64 8 n1] [] κ =
  m msless mPick N n1 (fun v => κ (AV.ints IntKind.u64 8 v) []) := by
  rw [tree]
  simp only [run_L3]
  kernel_rfl
abbrev Ty : Type 1 := ∀ R : Type, (List Int) → ((List Int) → Option R) → Option R
def con (f : Ty) : Con := fun R args bs κ => match args, bs with
  | [AV.ints IntKind.u64 8 n1], [] => f R n1 (fun v => κ (AV.ints IntKind.u64 8 v) [])
  | _, _ => none
theorem con_eq (f : Ty) (R : Type) (κ : AV → List Blk → Option R) (n1 : List Int) : con f R [AV.ints IntKind.u64 8 n1] [] κ = f R n1 (fun v => κ (AV.ints IntKind.u64 8 v) []) := rfl
noncomputable def M (N : Nat) : Ty := fun R n1 kr0 => m (sless.M N) (Pick.M N) (R := R) N n1 kr0
def gts : List (Nat × AV) := []
theorem gok (N : Nat) : GOk (g (sless.M N) (Pick.M N)) := giD_ok hm (by intro p hp; cases hp) (gtL_ok (by decide)) (ovL_ok (by
    intro p hp
    simp only [List.mem_cons, List.not_mem_nil, or_false] at hp
    rcases hp with rfl | rfl
    · exact ⟨(sless.ok N).gt (gtL_sub (by repeat (first | exact subG_nil _ | refine subG_cons (by kernel_rfl) ?_))) (gtL_ok (by decide)), _, Try.func25, by kernel_rfl, by kernel_rfl⟩
    · exact ⟨(Pick.ok N).gt (gtL_sub (by repeat (first | exact subG_nil _ | refine subG_cons (by kernel_rfl) ?_))) (gtL_ok (by decide)), _, Try.func26, by kernel_rfl, by kernel_rfl⟩
)) 1
theorem ok (N : Nat) : SoundC Try.prog (gtL gts) 22 (con (M N)) := by
  refine SoundC.mono (evF_ok (gok N) hm an N Try.func22) fun R args bs κ r h => ?_
  unfold con at h
  split at h
  · exact (eq (sless.M N) (Pick.M N) N κ _).trans h
  · cases h
end sleast


/-! ### Try.f24: grown -/
namespace grown
def an : Anns := ⟨fun i => findA i [(3, ⟨[2, 4, 5, 9], [⟨2, 0, .u8⟩, ⟨4, 1, .u8⟩], 2⟩)], fun i => findA i [], false, fun _ => none⟩
noncomputable def g (msleast : sleast.Ty) : Gi := giD Try.prog (gtL []) (fun _ => an) 0 [] (ovL [(22, sleast.con msleast)]) 1
noncomputable def c_L3 : Code := loopOf Try.f24 0
def s_L3 (over5 : Int) (t9 : Int) (h0 : List Int) : St := ⟨[AV.dead, AV.dead, AV.ptr 0 [], AV.dead, AV.ptr 1 [], AV.int IntKind.u64 over5, AV.dead, AV.dead, AV.dead, AV.int IntKind.i64 t9] ++ List.replicate 17 .dead, [Blk.var (AV.ints IntKind.u64 8 h0), Blk.var (AV.ints IntKind.u64 8 [0, 0, 0, 0, 0, 0, 0, 0])]⟩
def x_L3_0 (over5 : Int) (t9 : Int) (h0 : List Int) : St := ⟨[AV.dead, AV.dead, AV.ptr 0 [], AV.dead, AV.ptr 1 [], AV.int IntKind.u64 over5, AV.dead, AV.dead, AV.dead, AV.int IntKind.i64 t9, AV.bool (decide (t9 < 8))] ++ List.replicate 16 .dead, [Blk.var (AV.ints IntKind.u64 8 h0), Blk.var (AV.ints IntKind.u64 8 [0, 0, 0, 0, 0, 0, 0, 0])]⟩
noncomputable def L3 (msleast : sleast.Ty) {R : Type} (N : Nat) (ke0 : Int → Int → (List Int) → Option R) : Nat → Int → Int → (List Int) → Option R
  | 0, _, _, _ => none
  | m + 1, over5, t9, h0 =>
    cond (decide (t9 < 8))
     (cond (decide (0 ≤ t9))
      (cond (decide (t9 < 8))
       (cond (decide (0 ≤ t9))
        (cond (decide (t9 < 8))
         (L3 msleast N ke0 m (ishr IntKind.u64 (ior IntKind.u64 (ishl IntKind.u64 (h0.getD t9.toNat 0) 1) over5) 32) (IntKind.i64.wrap (t9 + 1)) (h0.set t9.toNat (iand IntKind.u64 (ior IntKind.u64 (ishl IntKind.u64 (h0.getD t9.toNat 0) 1) over5) 4294967295)))
         (none))
        (none))
       (none))
      (none))
     (ke0 over5 t9 h0)
theorem round_L3 (msleast : sleast.Ty) {R : Type} (N : Nat) (Rn : St → Option R) (k : K R) (over5 : Int) (t9 : Int) (h0 : List Int) : evC (g msleast) an 0 N c_L3 none (roundK (nmOf 0 (an.loop 3)) Rn k) (s_L3 over5 t9 h0) =
  cond (decide (t9 < 8))
   (cond (decide (0 ≤ t9))
    (cond (decide (t9 < 8))
     (cond (decide (0 ≤ t9))
      (cond (decide (t9 < 8))
       (Rn (s_L3 (ishr IntKind.u64 (ior IntKind.u64 (ishl IntKind.u64 (h0.getD t9.toNat 0) 1) over5) 32) (IntKind.i64.wrap (t9 + 1)) (h0.set t9.toNat (iand IntKind.u64 (ior IntKind.u64 (ishl IntKind.u64 (h0.getD t9.toNat 0) 1) over5) 4294967295))))
       (none))
      (none))
     (none))
    (none))
   (k.ext 0 (x_L3_0 over5 t9 h0)) := by kernel_rfl
theorem run_L3 (msleast : sleast.Ty) {R : Type} (N : Nat) (k : K R) : ∀ (m : Nat) (over5 : Int) (t9 : Int) (h0 : List Int), loopN (evC (g msleast) an 0 N c_L3 none) k (nmOf 0 (an.loop 3)) m (s_L3 over5 t9 h0) =
    L3 msleast N (fun over5 t9 h0 => (k).ext 0 (x_L3_0 over5 t9 h0)) m over5 t9 h0 := by
  intro m
  induction m with
  | zero => intros; rfl
  | succ m ih =>
    intros
    rw [loopN_succ, round_L3]
    simp only [ih]
    kernel_rfl
noncomputable def m (msleast : sleast.Ty) {R : Type} (N : Nat) (n1 : List Int) (one2 : Int) (kr0 : (List Int) → Option R) : Option R :=
  L3 msleast N
   (fun _over5_c4 _t9_c5 h0_c6 => msleast R h0_c6
    (fun v_c7 => kr0 v_c7)) N one2 0 n1
theorem tree (msleast : sleast.Ty) {R : Type} (N : Nat) (κ : AV → List Blk → Option R) (n1 : List Int) (one2 : Int) : evF (g msleast) an N Try.f24 [AV.ints IntKind.u64 8 n1, AV.int IntKind.u64 one2] [] κ =
  loopN (evC (g msleast) an 0 N c_L3 none) (ctx (g msleast) an 0 N (bodyOf Try.f24) [1, 1, 0, 1, 0] (endK (g msleast) an Try.f24 [] κ)) (nmOf 0 (an.loop 3)) N (s_L3 one2 0 n1) := by kernel_rfl
theorem eq (msleast : sleast.Ty) {R : Type} (N : Nat) (κ : AV → List Blk → Option R) (n1 : List Int) (one2 : Int) : evF (g msleast) an N Try.f24 [AV.ints IntKind.u64 8 n1, AV.int IntKind.u64 one2] [] κ =
  m msleast N n1 one2 (fun v => κ (AV.ints IntKind.u64 8 v) []) := by
  rw [tree]
  simp only [run_L3]
  kernel_rfl
abbrev Ty : Type 1 := ∀ R : Type, (List Int) → Int → ((List Int) → Option R) → Option R
def con (f : Ty) : Con := fun R args bs κ => match args, bs with
  | [AV.ints IntKind.u64 8 n1, AV.int IntKind.u64 one2], [] => f R n1 one2 (fun v => κ (AV.ints IntKind.u64 8 v) [])
  | _, _ => none
theorem con_eq (f : Ty) (R : Type) (κ : AV → List Blk → Option R) (n1 : List Int) (one2 : Int) : con f R [AV.ints IntKind.u64 8 n1, AV.int IntKind.u64 one2] [] κ = f R n1 one2 (fun v => κ (AV.ints IntKind.u64 8 v) []) := rfl
noncomputable def M (N : Nat) : Ty := fun R n1 one2 kr0 => m (sleast.M N) (R := R) N n1 one2 kr0
def gts : List (Nat × AV) := []
theorem gok (N : Nat) : GOk (g (sleast.M N)) := giD_ok hm (by intro p hp; cases hp) (gtL_ok (by decide)) (ovL_ok (by
    intro p hp
    simp only [List.mem_cons, List.not_mem_nil, or_false] at hp
    rcases hp with rfl
    · exact ⟨(sleast.ok N).gt (gtL_sub (by repeat (first | exact subG_nil _ | refine subG_cons (by kernel_rfl) ?_))) (gtL_ok (by decide)), _, Try.func22, by kernel_rfl, by kernel_rfl⟩
)) 1
theorem ok (N : Nat) : SoundC Try.prog (gtL gts) 24 (con (M N)) := by
  refine SoundC.mono (evF_ok (gok N) hm an N Try.func24) fun R args bs κ r h => ?_
  unfold con at h
  split at h
  · exact (eq (sleast.M N) N κ _ _).trans h
  · cases h
end grown


/-! ### Try.f17: smod -/
namespace smod
def an : Anns := ⟨fun i => findA i [], fun i => findA i [(0, ⟨[0, 2, 3, 4], [⟨2, 0, .u8⟩, ⟨3, 1, .u8⟩], 2⟩)], false, fun _ => none⟩
noncomputable def g (mgrown : grown.Ty) : Gi := giD Try.prog (gtL []) (fun _ => an) 0 [] (ovL [(24, grown.con mgrown)]) 1
noncomputable def c_S1 : Code := scopeOf Try.f17 0
def s_J1_0 (b0 : Option Bool) (b0_1 : List Int) (i4 : Int) (h1 : List Int) : St := ⟨[AV.isl IntKind.u8 b0 b0_1, AV.dead, AV.ptr 0 [], AV.ptr 1 [], AV.int IntKind.i64 i4] ++ List.replicate 21 .dead, [Blk.var (AV.ints IntKind.u64 8 [0, 0, 0, 0, 0, 0, 0, 0]), Blk.var (AV.ints IntKind.u64 8 h1)]⟩
def x_S1_0 (b0 : Option Bool) (b0_1 : List Int) (i4 : Int) (h1 : List Int) : St := ⟨[AV.isl IntKind.u8 b0 b0_1, AV.dead, AV.ptr 0 [], AV.ptr 1 [], AV.int IntKind.i64 i4] ++ List.replicate 4 .dead ++ [AV.int IntKind.i64 i4, AV.bool (decide (i4 ≥ 0))] ++ List.replicate 14 .dead ++ [AV.ints IntKind.u64 8 h1], [Blk.var (AV.ints IntKind.u64 8 h1), Blk.var (AV.ints IntKind.u64 8 h1)]⟩
noncomputable def J1_0 (mgrown : grown.Ty) {R : Type} (N : Nat) (ke0 : (Option Bool) → (List Int) → Int → (List Int) → Option R) : Nat → (Option Bool) → (List Int) → Int → (List Int) → Option R
  | 0, _, _, _, _ => none
  | m + 1, b0, b0_1, i4, h1 =>
    cond (decide (i4 ≥ 0))
     (cond (decide (0 ≤ IntKind.i64.wrap (i4.tdiv 8)))
      (cond (decide (IntKind.i64.wrap (i4.tdiv 8) < (↑b0_1.length : Int)))
       (cond (true && decide (i4.tmod 8 < 0))
        (none)
        (mgrown R h1 (IntKind.u64.wrap (iand IntKind.u8 (ishr IntKind.u8 (b0_1.getD (IntKind.i64.wrap (i4.tdiv 8)).toNat 0) (i4.tmod 8)) 1))
         (fun v_c7 => J1_0 mgrown N ke0 m b0 b0_1 (IntKind.i64.wrap (i4 - 1)) v_c7)))
       (none))
      (none))
     (ke0 b0 b0_1 i4 h1)
theorem round_J1_0 (mgrown : grown.Ty) {R : Type} (N : Nat) (J : Nat → St → Option R) (k : K R) (b0 : Option Bool) (b0_1 : List Int) (i4 : Int) (h1 : List Int) : evC (g mgrown) an 0 N c_S1 (some 0) { k with gto := gotoK (hasL c_S1) (fun l => nmOf 0 (an.label l)) k J } (s_J1_0 b0 b0_1 i4 h1) =
  cond (decide (i4 ≥ 0))
   (cond (decide (0 ≤ IntKind.i64.wrap (i4.tdiv 8)))
    (cond (decide (IntKind.i64.wrap (i4.tdiv 8) < (↑b0_1.length : Int)))
     (cond (true && decide (i4.tmod 8 < 0))
      (none)
      (mgrown R h1 (IntKind.u64.wrap (iand IntKind.u8 (ishr IntKind.u8 (b0_1.getD (IntKind.i64.wrap (i4.tdiv 8)).toNat 0) (i4.tmod 8)) 1))
       (fun v_c7 => J 0 (s_J1_0 b0 b0_1 (IntKind.i64.wrap (i4 - 1)) v_c7))))
     (none))
    (none))
   (k.ret (x_S1_0 b0 b0_1 i4 h1)) := by kernel_rfl
theorem run_S1 (mgrown : grown.Ty) {R : Type} (N : Nat) (k : K R) : ∀ (m : Nat), (∀ (b0 : Option Bool) (b0_1 : List Int) (i4 : Int) (h1 : List Int), jumpN (fun l => evC (g mgrown) an 0 N c_S1 (some l)) (hasL c_S1) k (fun l => nmOf 0 (an.label l)) m 0 (s_J1_0 b0 b0_1 i4 h1) =
    J1_0 mgrown N (fun b0 b0_1 i4 h1 => (k).ret (x_S1_0 b0 b0_1 i4 h1)) m b0 b0_1 i4 h1) := by
  intro m
  induction m with
  | zero => exact by intros; rfl
  | succ m ih =>
    · intros; rw [jumpN_succ, round_J1_0]
      simp only [ih]
      kernel_rfl
theorem run_J1_0 (mgrown : grown.Ty) {R : Type} (N : Nat) (k : K R) (m : Nat) : (∀ (b0 : Option Bool) (b0_1 : List Int) (i4 : Int) (h1 : List Int), jumpN (fun l => evC (g mgrown) an 0 N c_S1 (some l)) (hasL c_S1) k (fun l => nmOf 0 (an.label l)) m 0 (s_J1_0 b0 b0_1 i4 h1) =
    J1_0 mgrown N (fun b0 b0_1 i4 h1 => (k).ret (x_S1_0 b0 b0_1 i4 h1)) m b0 b0_1 i4 h1) := (run_S1 mgrown N k m)
noncomputable def m (mgrown : grown.Ty) {R : Type} (N : Nat) (bN1 : Option Bool) (b2 : List Int) (kr0 : (List Int) → Option R) : Option R :=
  cond (decide (IntKind.i64.wrap (IntKind.i64.wrap (8 * (↑b2.length : Int)) - 1) ≥ 0))
   (cond (decide (0 ≤ IntKind.i64.wrap ((IntKind.i64.wrap (IntKind.i64.wrap (8 * (↑b2.length : Int)) - 1)).tdiv 8)))
    (cond (decide (IntKind.i64.wrap ((IntKind.i64.wrap (IntKind.i64.wrap (8 * (↑b2.length : Int)) - 1)).tdiv 8) < (↑b2.length : Int)))
     (cond (true && decide ((IntKind.i64.wrap (IntKind.i64.wrap (8 * (↑b2.length : Int)) - 1)).tmod 8 < 0))
      (none)
      (mgrown R ([0, 0, 0, 0, 0, 0, 0, 0]) (IntKind.u64.wrap (iand IntKind.u8 (ishr IntKind.u8 (b2.getD (IntKind.i64.wrap ((IntKind.i64.wrap (IntKind.i64.wrap (8 * (↑b2.length : Int)) - 1)).tdiv 8)).toNat 0) ((IntKind.i64.wrap (IntKind.i64.wrap (8 * (↑b2.length : Int)) - 1)).tmod 8)) 1))
       (fun v_c6 => J1_0 mgrown N
        (fun _b0_c8 _b0_1_c9 _i4_c10 h1_c11 => kr0 h1_c11) N bN1 b2 (IntKind.i64.wrap (IntKind.i64.wrap (IntKind.i64.wrap (8 * (↑b2.length : Int)) - 1) - 1)) v_c6)))
     (none))
    (none))
   (kr0 ([0, 0, 0, 0, 0, 0, 0, 0]))
theorem tree (mgrown : grown.Ty) {R : Type} (N : Nat) (κ : AV → List Blk → Option R) (bN1 : Option Bool) (b2 : List Int) : evF (g mgrown) an N Try.f17 [AV.isl IntKind.u8 bN1 b2] [] κ =
  cond (decide (IntKind.i64.wrap (IntKind.i64.wrap (8 * (↑b2.length : Int)) - 1) ≥ 0))
   (cond (decide (0 ≤ IntKind.i64.wrap ((IntKind.i64.wrap (IntKind.i64.wrap (8 * (↑b2.length : Int)) - 1)).tdiv 8)))
    (cond (decide (IntKind.i64.wrap ((IntKind.i64.wrap (IntKind.i64.wrap (8 * (↑b2.length : Int)) - 1)).tdiv 8) < (↑b2.length : Int)))
     (cond (true && decide ((IntKind.i64.wrap (IntKind.i64.wrap (8 * (↑b2.length : Int)) - 1)).tmod 8 < 0))
      (none)
      (mgrown R ([0, 0, 0, 0, 0, 0, 0, 0]) (IntKind.u64.wrap (iand IntKind.u8 (ishr IntKind.u8 (b2.getD (IntKind.i64.wrap ((IntKind.i64.wrap (IntKind.i64.wrap (8 * (↑b2.length : Int)) - 1)).tdiv 8)).toNat 0) ((IntKind.i64.wrap (IntKind.i64.wrap (8 * (↑b2.length : Int)) - 1)).tmod 8)) 1))
       (fun v_c6 => jumpN (fun l => evC (g mgrown) an 0 N c_S1 (some l)) (hasL c_S1) (ctx (g mgrown) an 0 N (bodyOf Try.f17) [1] (endK (g mgrown) an Try.f17 [] κ)) (fun l => nmOf 0 (an.label l)) N 0 (s_J1_0 bN1 b2 (IntKind.i64.wrap (IntKind.i64.wrap (IntKind.i64.wrap (8 * (↑b2.length : Int)) - 1) - 1)) v_c6))))
     (none))
    (none))
   (κ (AV.ints IntKind.u64 8 [0, 0, 0, 0, 0, 0, 0, 0]) []) := by kernel_rfl
theorem eq (mgrown : grown.Ty) {R : Type} (N : Nat) (κ : AV → List Blk → Option R) (bN1 : Option Bool) (b2 : List Int) : evF (g mgrown) an N Try.f17 [AV.isl IntKind.u8 bN1 b2] [] κ =
  m mgrown N bN1 b2 (fun v => κ (AV.ints IntKind.u64 8 v) []) := by
  rw [tree]
  simp only [run_J1_0]
  kernel_rfl
abbrev Ty : Type 1 := ∀ R : Type, (Option Bool) → (List Int) → ((List Int) → Option R) → Option R
def con (f : Ty) : Con := fun R args bs κ => match args, bs with
  | [AV.isl IntKind.u8 bN1 b2], [] => f R bN1 b2 (fun v => κ (AV.ints IntKind.u64 8 v) [])
  | _, _ => none
theorem con_eq (f : Ty) (R : Type) (κ : AV → List Blk → Option R) (bN1 : Option Bool) (b2 : List Int) : con f R [AV.isl IntKind.u8 bN1 b2] [] κ = f R bN1 b2 (fun v => κ (AV.ints IntKind.u64 8 v) []) := rfl
noncomputable def M (N : Nat) : Ty := fun R bN1 b2 kr0 => m (grown.M N) (R := R) N bN1 b2 kr0
def gts : List (Nat × AV) := []
theorem gok (N : Nat) : GOk (g (grown.M N)) := giD_ok hm (by intro p hp; cases hp) (gtL_ok (by decide)) (ovL_ok (by
    intro p hp
    simp only [List.mem_cons, List.not_mem_nil, or_false] at hp
    rcases hp with rfl
    · exact ⟨(grown.ok N).gt (gtL_sub (by repeat (first | exact subG_nil _ | refine subG_cons (by kernel_rfl) ?_))) (gtL_ok (by decide)), _, Try.func24, by kernel_rfl, by kernel_rfl⟩
)) 1
theorem ok (N : Nat) : SoundC Try.prog (gtL gts) 17 (con (M N)) := by
  refine SoundC.mono (evF_ok (gok N) hm an N Try.func17) fun R args bs κ r h => ?_
  unfold con at h
  split at h
  · exact (eq (grown.M N) N κ _ _).trans h
  · cases h
end smod


/-! ### Try.f18: sbytes -/
namespace sbytes
def an : Anns := ⟨fun i => findA i [(3, ⟨[1, 2, 3, 5], [⟨1, 0, .u8⟩, ⟨2, 1, .u8⟩, ⟨3, 2, .u8⟩], 3⟩)], fun i => findA i [], false, fun _ => none⟩
noncomputable def g : Gi := giD Try.prog (gtL []) (fun _ => an) 0 [] (ovL []) 1
noncomputable def c_L3 : Code := loopOf Try.f18 0
def s_L3 (t5 : Int) (h0 : List Int) (h2 : List Int) : St := ⟨[AV.dead, AV.ptr 0 [], AV.ptr 1 [], AV.ptr 2 [], AV.dead, AV.int IntKind.i64 t5] ++ List.replicate 15 .dead, [Blk.var (AV.ints IntKind.u64 8 h0), Blk.var (AV.ints IntKind.u8 32 [0, 0, 0, 0, 0, 0, 0, 0, 0, 0, 0, 0, 0, 0, 0, 0, 0, 0, 0, 0, 0, 0, 0, 0, 0, 0, 0, 0, 0, 0, 0, 0]), Blk.var (AV.ints IntKind.u8 32 h2)]⟩
def x_L3_0 (t5 : Int) (h0 : List Int) (h2 : List Int) : St := ⟨[AV.dead, AV.ptr 0 [], AV.ptr 1 [], AV.ptr 2 [], AV.dead, AV.int IntKind.i64 t5, AV.bool (decide (t5 < 32))] ++ List.replicate 14 .dead, [Blk.var (AV.ints IntKind.u64 8 h0), Blk.var (AV.ints IntKind.u8 32 [0, 0, 0, 0, 0, 0, 0, 0, 0, 0, 0, 0, 0, 0, 0, 0, 0, 0, 0, 0, 0, 0, 0, 0, 0, 0, 0, 0, 0, 0, 0, 0]), Blk.var (AV.ints IntKind.u8 32 h2)]⟩
noncomputable def L3 {R : Type} (N : Nat) (ke0 : Int → (List Int) → (List Int) → Option R) : Nat → Int → (List Int) → (List Int) → Option R
  | 0, _, _, _ => none
  | m + 1, t5, h0, h2 =>
    cond (decide (t5 < 32))
     (cond (decide (0 ≤ IntKind.i64.wrap (t5.tdiv 4)))
      (cond (decide (IntKind.i64.wrap (t5.tdiv 4) < 8))
       (cond (true && decide (IntKind.i64.wrap (8 * t5.tmod 4) < 0))
        (none)
        (cond (decide (0 ≤ t5))
         (cond (decide (t5 < 32))
          (L3 N ke0 m (IntKind.i64.wrap (t5 + 1)) h0 (h2.set t5.toNat (IntKind.u8.wrap (ishr IntKind.u64 (h0.getD (IntKind.i64.wrap (t5.tdiv 4)).toNat 0) (IntKind.i64.wrap (8 * t5.tmod 4))))))
          (none))
         (none)))
       (none))
      (none))
     (ke0 t5 h0 h2)
theorem round_L3 {R : Type} (N : Nat) (Rn : St → Option R) (k : K R) (t5 : Int) (h0 : List Int) (h2 : List Int) : evC (g) an 0 N c_L3 none (roundK (nmOf 0 (an.loop 3)) Rn k) (s_L3 t5 h0 h2) =
  cond (decide (t5 < 32))
   (cond (decide (0 ≤ IntKind.i64.wrap (t5.tdiv 4)))
    (cond (decide (IntKind.i64.wrap (t5.tdiv 4) < 8))
     (cond (true && decide (IntKind.i64.wrap (8 * t5.tmod 4) < 0))
      (none)
      (cond (decide (0 ≤ t5))
       (cond (decide (t5 < 32))
        (Rn (s_L3 (IntKind.i64.wrap (t5 + 1)) h0 (h2.set t5.toNat (IntKind.u8.wrap (ishr IntKind.u64 (h0.getD (IntKind.i64.wrap (t5.tdiv 4)).toNat 0) (IntKind.i64.wrap (8 * t5.tmod 4)))))))
        (none))
       (none)))
     (none))
    (none))
   (k.ext 0 (x_L3_0 t5 h0 h2)) := by kernel_rfl
theorem run_L3 {R : Type} (N : Nat) (k : K R) : ∀ (m : Nat) (t5 : Int) (h0 : List Int) (h2 : List Int), loopN (evC (g) an 0 N c_L3 none) k (nmOf 0 (an.loop 3)) m (s_L3 t5 h0 h2) =
    L3 N (fun t5 h0 h2 => (k).ext 0 (x_L3_0 t5 h0 h2)) m t5 h0 h2 := by
  intro m
  induction m with
  | zero => intros; rfl
  | succ m ih =>
    intros
    rw [loopN_succ, round_L3]
    simp only [ih]
    kernel_rfl
noncomputable def m {R : Type} (N : Nat) (n1 : List Int) (kr0 : (List Int) → Option R) : Option R :=
  L3 N
   (fun _t5_c3 _h0_c4 h2_c5 => kr0 h2_c5) N 0 n1 ([0, 0, 0, 0, 0, 0, 0, 0, 0, 0, 0, 0, 0, 0, 0, 0, 0, 0, 0, 0, 0, 0, 0, 0, 0, 0, 0, 0, 0, 0, 0, 0])
theorem tree {R : Type} (N : Nat) (κ : AV → List Blk → Option R) (n1 : List Int) : evF (g) an N Try.f18 [AV.ints IntKind.u64 8 n1] [] κ =
  loopN (evC (g) an 0 N c_L3 none) (ctx (g) an 0 N (bodyOf Try.f18) [1, 1, 0, 1, 0] (endK (g) an Try.f18 [] κ)) (nmOf 0 (an.loop 3)) N (s_L3 0 n1 ([0, 0, 0, 0, 0, 0, 0, 0, 0, 0, 0, 0, 0, 0, 0, 0, 0, 0, 0, 0, 0, 0, 0, 0, 0, 0, 0, 0, 0, 0, 0, 0])) := by kernel_rfl
theorem eq {R : Type} (N : Nat) (κ : AV → List Blk → Option R) (n1 : List Int) : evF (g) an N Try.f18 [AV.ints IntKind.u64 8 n1] [] κ =
  m N n1 (fun v => κ (AV.ints IntKind.u8 32 v) []) := by
  rw [tree]
  simp only [run_L3]
  kernel_rfl
abbrev Ty : Type 1 := ∀ R : Type, (List Int) → ((List Int) → Option R) → Option R
def con (f : Ty) : Con := fun R args bs κ => match args, bs with
  | [AV.ints IntKind.u64 8 n1], [] => f R n1 (fun v => κ (AV.ints IntKind.u8 32 v) [])
  | _, _ => none
theorem con_eq (f : Ty) (R : Type) (κ : AV → List Blk → Option R) (n1 : List Int) : con f R [AV.ints IntKind.u64 8 n1] [] κ = f R n1 (fun v => κ (AV.ints IntKind.u8 32 v) []) := rfl
noncomputable def M (N : Nat) : Ty := fun R n1 kr0 => m (R := R) N n1 kr0
def gts : List (Nat × AV) := []
theorem gok (_N : Nat) : GOk (g) := giD_ok hm (by intro p hp; cases hp) (gtL_ok (by decide)) (ovL_ok (by intro p hp; cases hp)) 1
theorem ok (N : Nat) : SoundC Try.prog (gtL gts) 18 (con (M N)) := by
  refine SoundC.mono (evF_ok (gok N) hm an N Try.func18) fun R args bs κ r h => ?_
  unfold con at h
  split at h
  · exact (eq N κ _).trans h
  · cases h
end sbytes


/-! ### Try.f7: Reduce -/
namespace Reduce
def an : Anns := ⟨fun i => findA i [], fun i => findA i [], false, fun _ => none⟩
noncomputable def g (msmod : smod.Ty) (msbytes : sbytes.Ty) : Gi := giD Try.prog (gtL []) (fun _ => an) 0 [] (ovL [(17, smod.con msmod), (18, sbytes.con msbytes)]) 1
noncomputable def m (msmod : smod.Ty) (msbytes : sbytes.Ty) {R : Type} (_N : Nat) (w1 : List Int) (kr0 : (List Int) → Option R) : Option R :=
  msmod R none (cut (some 64) 0 w1)
   (fun v_c2 => msbytes R v_c2
    (fun v_c3 => kr0 v_c3))
theorem tree (msmod : smod.Ty) (msbytes : sbytes.Ty) {R : Type} (N : Nat) (κ : AV → List Blk → Option R) (w1 : List Int) : evF (g msmod msbytes) an N Try.f7 [AV.ints IntKind.u8 64 w1] [] κ =
  msmod R none (cut (some 64) 0 w1)
   (fun v_c2 => msbytes R v_c2
    (fun v_c3 => κ (AV.ints IntKind.u8 32 v_c3) [])) := by kernel_rfl
theorem eq (msmod : smod.Ty) (msbytes : sbytes.Ty) {R : Type} (N : Nat) (κ : AV → List Blk → Option R) (w1 : List Int) : evF (g msmod msbytes) an N Try.f7 [AV.ints IntKind.u8 64 w1] [] κ =
  m msmod msbytes N w1 (fun v => κ (AV.ints IntKind.u8 32 v) []) := by
  rw [tree]
  kernel_rfl
abbrev Ty : Type 1 := ∀ R : Type, (List Int) → ((List Int) → Option R) → Option R
def con (f : Ty) : Con := fun R args bs κ => match args, bs with
  | [AV.ints IntKind.u8 64 w1], [] => f R w1 (fun v => κ (AV.ints IntKind.u8 32 v) [])
  | _, _ => none
theorem con_eq (f : Ty) (R : Type) (κ : AV → List Blk → Option R) (w1 : List Int) : con f R [AV.ints IntKind.u8 64 w1] [] κ = f R w1 (fun v => κ (AV.ints IntKind.u8 32 v) []) := rfl
noncomputable def M (N : Nat) : Ty := fun R w1 kr0 => m (smod.M N) (sbytes.M N) (R := R) N w1 kr0
def gts : List (Nat × AV) := []
theorem gok (N : Nat) : GOk (g (smod.M N) (sbytes.M N)) := giD_ok hm (by intro p hp; cases hp) (gtL_ok (by decide)) (ovL_ok (by
    intro p hp
    simp only [List.mem_cons, List.not_mem_nil, or_false] at hp
    rcases hp with rfl | rfl
    · exact ⟨(smod.ok N).gt (gtL_sub (by repeat (first | exact subG_nil _ | refine subG_cons (by kernel_rfl) ?_))) (gtL_ok (by decide)), _, Try.func17, by kernel_rfl, by kernel_rfl⟩
    · exact ⟨(sbytes.ok N).gt (gtL_sub (by repeat (first | exact subG_nil _ | refine subG_cons (by kernel_rfl) ?_))) (gtL_ok (by decide)), _, Try.func18, by kernel_rfl, by kernel_rfl⟩
)) 1
theorem ok (N : Nat) : SoundC Try.prog (gtL gts) 7 (con (M N)) := by
  refine SoundC.mono (evF_ok (gok N) hm an N Try.func7) fun R args bs κ r h => ?_
  unfold con at h
  split at h
  · exact (eq (smod.M N) (sbytes.M N) N κ _).trans h
  · cases h
end Reduce


/-! ### Try.f9: sRight -/
namespace sRight
def an : Anns := ⟨fun i => findA i [], fun i => findA i [], false, fun _ => none⟩
noncomputable def g (msmod : smod.Ty) (msbytes : sbytes.Ty) (mwEqual : wEqual.Ty) : Gi := giD Try.prog (gtL []) (fun _ => an) 0 [] (ovL [(17, smod.con msmod), (18, sbytes.con msbytes), (21, wEqual.con mwEqual)]) 1
noncomputable def m (msmod : smod.Ty) (msbytes : sbytes.Ty) (mwEqual : wEqual.Ty) {R : Type} (_N : Nat) (s1 : List Int) (kr0 : Bool → Option R) : Option R :=
  msmod R none (cut (some 32) 0 s1)
   (fun v_c3 => msbytes R v_c3
    (fun v_c4 => mwEqual R none (cut (some 32) 0 v_c4) none (cut (some 32) 0 s1)
     (fun v_c5 => kr0 v_c5)))
theorem tree (msmod : smod.Ty) (msbytes : sbytes.Ty) (mwEqual : wEqual.Ty) {R : Type} (N : Nat) (κ : AV → List Blk → Option R) (s1 : List Int) : evF (g msmod msbytes mwEqual) an N Try.f9 [AV.ints IntKind.u8 32 s1] [] κ =
  msmod R none (cut (some 32) 0 s1)
   (fun v_c3 => msbytes R v_c3
    (fun v_c4 => mwEqual R none (cut (some 32) 0 v_c4) none (cut (some 32) 0 s1)
     (fun v_c5 => κ (AV.bool v_c5) []))) := by kernel_rfl
theorem eq (msmod : smod.Ty) (msbytes : sbytes.Ty) (mwEqual : wEqual.Ty) {R : Type} (N : Nat) (κ : AV → List Blk → Option R) (s1 : List Int) : evF (g msmod msbytes mwEqual) an N Try.f9 [AV.ints IntKind.u8 32 s1] [] κ =
  m msmod msbytes mwEqual N s1 (fun v => κ (AV.bool v) []) := by
  rw [tree]
  kernel_rfl
abbrev Ty : Type 1 := ∀ R : Type, (List Int) → (Bool → Option R) → Option R
def con (f : Ty) : Con := fun R args bs κ => match args, bs with
  | [AV.ints IntKind.u8 32 s1], [] => f R s1 (fun v => κ (AV.bool v) [])
  | _, _ => none
theorem con_eq (f : Ty) (R : Type) (κ : AV → List Blk → Option R) (s1 : List Int) : con f R [AV.ints IntKind.u8 32 s1] [] κ = f R s1 (fun v => κ (AV.bool v) []) := rfl
noncomputable def M (N : Nat) : Ty := fun R s1 kr0 => m (smod.M N) (sbytes.M N) (wEqual.M N) (R := R) N s1 kr0
def gts : List (Nat × AV) := []
theorem gok (N : Nat) : GOk (g (smod.M N) (sbytes.M N) (wEqual.M N)) := giD_ok hm (by intro p hp; cases hp) (gtL_ok (by decide)) (ovL_ok (by
    intro p hp
    simp only [List.mem_cons, List.not_mem_nil, or_false] at hp
    rcases hp with rfl | rfl | rfl
    · exact ⟨(smod.ok N).gt (gtL_sub (by repeat (first | exact subG_nil _ | refine subG_cons (by kernel_rfl) ?_))) (gtL_ok (by decide)), _, Try.func17, by kernel_rfl, by kernel_rfl⟩
    · exact ⟨(sbytes.ok N).gt (gtL_sub (by repeat (first | exact subG_nil _ | refine subG_cons (by kernel_rfl) ?_))) (gtL_ok (by decide)), _, Try.func18, by kernel_rfl, by kernel_rfl⟩
    · exact ⟨(wEqual.ok N).gt (gtL_sub (by repeat (first | exact subG_nil _ | refine subG_cons (by kernel_rfl) ?_))) (gtL_ok (by decide)), _, Try.func21, by kernel_rfl, by kernel_rfl⟩
)) 1
theorem ok (N : Nat) : SoundC Try.prog (gtL gts) 9 (con (M N)) := by
  refine SoundC.mono (evF_ok (gok N) hm an N Try.func9) fun R args bs κ r h => ?_
  unfold con at h
  split at h
  · exact (eq (smod.M N) (sbytes.M N) (wEqual.M N) N κ _).trans h
  · cases h
end sRight


/-! ### Try.f10: Bit -/
namespace Bit
def an : Anns := ⟨fun i => findA i [], fun i => findA i [], false, fun _ => none⟩
noncomputable def g : Gi := giD Try.prog (gtL []) (fun _ => an) 0 [] (ovL []) 1
noncomputable def m {R : Type} (_N : Nat) (s1 : List Int) (i2 : Int) (kr0 : Bool → Option R) : Option R :=
  cond (decide (i2 ≥ 0))
   (cond (decide (i2 < 256))
    (cond (decide (0 ≤ IntKind.i64.wrap (i2.tdiv 8)))
     (cond (decide (IntKind.i64.wrap (i2.tdiv 8) < 32))
      (cond (true && decide (i2.tmod 8 < 0))
       (none)
       (kr0 (iand IntKind.u8 (ishr IntKind.u8 (s1.getD (IntKind.i64.wrap (i2.tdiv 8)).toNat 0) (i2.tmod 8)) 1 == 1)))
      (none))
     (none))
    (kr0 false))
   (kr0 false)
theorem tree {R : Type} (N : Nat) (κ : AV → List Blk → Option R) (s1 : List Int) (i2 : Int) : evF (g) an N Try.f10 [AV.ints IntKind.u8 32 s1, AV.int IntKind.i64 i2] [] κ =
  cond (decide (i2 ≥ 0))
   (cond (decide (i2 < 256))
    (cond (decide (0 ≤ IntKind.i64.wrap (i2.tdiv 8)))
     (cond (decide (IntKind.i64.wrap (i2.tdiv 8) < 32))
      (cond (true && decide (i2.tmod 8 < 0))
       (none)
       (κ (AV.bool (iand IntKind.u8 (ishr IntKind.u8 (s1.getD (IntKind.i64.wrap (i2.tdiv 8)).toNat 0) (i2.tmod 8)) 1 == 1)) []))
      (none))
     (none))
    (κ (AV.bool false) []))
   (κ (AV.bool false) []) := by kernel_rfl
theorem eq {R : Type} (N : Nat) (κ : AV → List Blk → Option R) (s1 : List Int) (i2 : Int) : evF (g) an N Try.f10 [AV.ints IntKind.u8 32 s1, AV.int IntKind.i64 i2] [] κ =
  m N s1 i2 (fun v => κ (AV.bool v) []) := by
  rw [tree]
  kernel_rfl
abbrev Ty : Type 1 := ∀ R : Type, (List Int) → Int → (Bool → Option R) → Option R
def con (f : Ty) : Con := fun R args bs κ => match args, bs with
  | [AV.ints IntKind.u8 32 s1, AV.int IntKind.i64 i2], [] => f R s1 i2 (fun v => κ (AV.bool v) [])
  | _, _ => none
theorem con_eq (f : Ty) (R : Type) (κ : AV → List Blk → Option R) (s1 : List Int) (i2 : Int) : con f R [AV.ints IntKind.u8 32 s1, AV.int IntKind.i64 i2] [] κ = f R s1 i2 (fun v => κ (AV.bool v) []) := rfl
noncomputable def M (N : Nat) : Ty := fun R s1 i2 kr0 => m (R := R) N s1 i2 kr0
def gts : List (Nat × AV) := []
theorem gok (_N : Nat) : GOk (g) := giD_ok hm (by intro p hp; cases hp) (gtL_ok (by decide)) (ovL_ok (by intro p hp; cases hp)) 1
theorem ok (N : Nat) : SoundC Try.prog (gtL gts) 10 (con (M N)) := by
  refine SoundC.mono (evF_ok (gok N) hm an N Try.func10) fun R args bs κ r h => ?_
  unfold con at h
  split at h
  · exact (eq N κ _ _).trans h
  · cases h
end Bit


/-! ### Try.f11: sAdd -/
namespace sAdd
def an : Anns := ⟨fun i => findA i [(4, ⟨[4, 5, 6, 7, 13], [⟨4, 0, .u8⟩, ⟨5, 1, .u8⟩, ⟨6, 2, .u8⟩], 3⟩)], fun i => findA i [], false, fun _ => none⟩
noncomputable def g (msmod : smod.Ty) (msleast : sleast.Ty) (msbytes : sbytes.Ty) : Gi := giD Try.prog (gtL []) (fun _ => an) 0 [] (ovL [(17, smod.con msmod), (22, sleast.con msleast), (18, sbytes.con msbytes)]) 1
noncomputable def c_L4 : Code := loopOf Try.f11 0
def s_L4 (over7 : Int) (t13 : Int) (h1 : List Int) (h2 : List Int) : St := ⟨List.replicate 4 .dead ++ [AV.ptr 0 [], AV.ptr 1 [], AV.ptr 2 [], AV.int IntKind.u64 over7] ++ List.replicate 5 .dead ++ [AV.int IntKind.i64 t13] ++ List.replicate 21 .dead, [Blk.var (AV.ints IntKind.u8 32 [0, 0, 0, 0, 0, 0, 0, 0, 0, 0, 0, 0, 0, 0, 0, 0, 0, 0, 0, 0, 0, 0, 0, 0, 0, 0, 0, 0, 0, 0, 0, 0]), Blk.var (AV.ints IntKind.u64 8 h1), Blk.var (AV.ints IntKind.u64 8 h2)]⟩
def x_L4_0 (over7 : Int) (t13 : Int) (h1 : List Int) (h2 : List Int) : St := ⟨List.replicate 4 .dead ++ [AV.ptr 0 [], AV.ptr 1 [], AV.ptr 2 [], AV.int IntKind.u64 over7] ++ List.replicate 5 .dead ++ [AV.int IntKind.i64 t13, AV.bool (decide (t13 < 8))] ++ List.replicate 20 .dead, [Blk.var (AV.ints IntKind.u8 32 [0, 0, 0, 0, 0, 0, 0, 0, 0, 0, 0, 0, 0, 0, 0, 0, 0, 0, 0, 0, 0, 0, 0, 0, 0, 0, 0, 0, 0, 0, 0, 0]), Blk.var (AV.ints IntKind.u64 8 h1), Blk.var (AV.ints IntKind.u64 8 h2)]⟩
noncomputable def L4 (msmod : smod.Ty) (msleast : sleast.Ty) (msbytes : sbytes.Ty) {R : Type} (N : Nat) (ke0 : Int → Int → (List Int) → (List Int) → Option R) : Nat → Int → Int → (List Int) → (List Int) → Option R
  | 0, _, _, _, _ => none
  | m + 1, over7, t13, h1, h2 =>
    cond (decide (t13 < 8))
     (cond (decide (0 ≤ t13))
      (cond (decide (t13 < 8))
       (cond (decide (0 ≤ t13))
        (cond (decide (t13 < 8))
         (cond (decide (0 ≤ t13))
          (cond (decide (t13 < 8))
           (L4 msmod msleast msbytes N ke0 m (ishr IntKind.u64 (IntKind.u64.wrap (over7 + IntKind.u64.wrap (h1.getD t13.toNat 0 + h2.getD t13.toNat 0))) 32) (IntKind.i64.wrap (t13 + 1)) (h1.set t13.toNat (iand IntKind.u64 (IntKind.u64.wrap (over7 + IntKind.u64.wrap (h1.getD t13.toNat 0 + h2.getD t13.toNat 0))) 4294967295)) h2)
           (none))
          (none))
         (none))
        (none))
       (none))
      (none))
     (ke0 over7 t13 h1 h2)
theorem round_L4 (msmod : smod.Ty) (msleast : sleast.Ty) (msbytes : sbytes.Ty) {R : Type} (N : Nat) (Rn : St → Option R) (k : K R) (over7 : Int) (t13 : Int) (h1 : List Int) (h2 : List Int) : evC (g msmod msleast msbytes) an 0 N c_L4 none (roundK (nmOf 0 (an.loop 4)) Rn k) (s_L4 over7 t13 h1 h2) =
  cond (decide (t13 < 8))
   (cond (decide (0 ≤ t13))
    (cond (decide (t13 < 8))
     (cond (decide (0 ≤ t13))
      (cond (decide (t13 < 8))
       (cond (decide (0 ≤ t13))
        (cond (decide (t13 < 8))
         (Rn (s_L4 (ishr IntKind.u64 (IntKind.u64.wrap (over7 + IntKind.u64.wrap (h1.getD t13.toNat 0 + h2.getD t13.toNat 0))) 32) (IntKind.i64.wrap (t13 + 1)) (h1.set t13.toNat (iand IntKind.u64 (IntKind.u64.wrap (over7 + IntKind.u64.wrap (h1.getD t13.toNat 0 + h2.getD t13.toNat 0))) 4294967295)) h2))
         (none))
        (none))
       (none))
      (none))
     (none))
    (none))
   (k.ext 0 (x_L4_0 over7 t13 h1 h2)) := by kernel_rfl
theorem run_L4 (msmod : smod.Ty) (msleast : sleast.Ty) (msbytes : sbytes.Ty) {R : Type} (N : Nat) (k : K R) : ∀ (m : Nat) (over7 : Int) (t13 : Int) (h1 : List Int) (h2 : List Int), loopN (evC (g msmod msleast msbytes) an 0 N c_L4 none) k (nmOf 0 (an.loop 4)) m (s_L4 over7 t13 h1 h2) =
    L4 msmod msleast msbytes N (fun over7 t13 h1 h2 => (k).ext 0 (x_L4_0 over7 t13 h1 h2)) m over7 t13 h1 h2 := by
  intro m
  induction m with
  | zero => intros; rfl
  | succ m ih =>
    intros
    rw [loopN_succ, round_L4]
    simp only [ih]
    kernel_rfl
noncomputable def m (msmod : smod.Ty) (msleast : sleast.Ty) (msbytes : sbytes.Ty) {R : Type} (N : Nat) (a1 : List Int) (b2 : List Int) (kr0 : (List Int) → Option R) : Option R :=
  msmod R none (cut (some 32) 0 a1)
   (fun v_c10 => msmod R none (cut (some 32) 0 b2)
    (fun v_c11 => L4 msmod msleast msbytes N
     (fun _over7_c12 _t13_c13 h1_c14 _h2_c15 => msleast R h1_c14
      (fun v_c16 => msbytes R v_c16
       (fun v_c17 => kr0 v_c17))) N 0 0 v_c10 v_c11))
theorem tree (msmod : smod.Ty) (msleast : sleast.Ty) (msbytes : sbytes.Ty) {R : Type} (N : Nat) (κ : AV → List Blk → Option R) (a1 : List Int) (b2 : List Int) : evF (g msmod msleast msbytes) an N Try.f11 [AV.ints IntKind.u8 32 a1, AV.ints IntKind.u8 32 b2] [] κ =
  msmod R none (cut (some 32) 0 a1)
   (fun v_c10 => msmod R none (cut (some 32) 0 b2)
    (fun v_c11 => loopN (evC (g msmod msleast msbytes) an 0 N c_L4 none) (ctx (g msmod msleast msbytes) an 0 N (bodyOf Try.f11) [1, 1, 1, 0, 1, 0] (endK (g msmod msleast msbytes) an Try.f11 [] κ)) (nmOf 0 (an.loop 4)) N (s_L4 0 0 v_c10 v_c11))) := by kernel_rfl
theorem eq (msmod : smod.Ty) (msleast : sleast.Ty) (msbytes : sbytes.Ty) {R : Type} (N : Nat) (κ : AV → List Blk → Option R) (a1 : List Int) (b2 : List Int) : evF (g msmod msleast msbytes) an N Try.f11 [AV.ints IntKind.u8 32 a1, AV.ints IntKind.u8 32 b2] [] κ =
  m msmod msleast msbytes N a1 b2 (fun v => κ (AV.ints IntKind.u8 32 v) []) := by
  rw [tree]
  simp only [run_L4]
  kernel_rfl
abbrev Ty : Type 1 := ∀ R : Type, (List Int) → (List Int) → ((List Int) → Option R) → Option R
def con (f : Ty) : Con := fun R args bs κ => match args, bs with
  | [AV.ints IntKind.u8 32 a1, AV.ints IntKind.u8 32 b2], [] => f R a1 b2 (fun v => κ (AV.ints IntKind.u8 32 v) [])
  | _, _ => none
theorem con_eq (f : Ty) (R : Type) (κ : AV → List Blk → Option R) (a1 : List Int) (b2 : List Int) : con f R [AV.ints IntKind.u8 32 a1, AV.ints IntKind.u8 32 b2] [] κ = f R a1 b2 (fun v => κ (AV.ints IntKind.u8 32 v) []) := rfl
noncomputable def M (N : Nat) : Ty := fun R a1 b2 kr0 => m (smod.M N) (sleast.M N) (sbytes.M N) (R := R) N a1 b2 kr0
def gts : List (Nat × AV) := []
theorem gok (N : Nat) : GOk (g (smod.M N) (sleast.M N) (sbytes.M N)) := giD_ok hm (by intro p hp; cases hp) (gtL_ok (by decide)) (ovL_ok (by
    intro p hp
    simp only [List.mem_cons, List.not_mem_nil, or_false] at hp
    rcases hp with rfl | rfl | rfl
    · exact ⟨(smod.ok N).gt (gtL_sub (by repeat (first | exact subG_nil _ | refine subG_cons (by kernel_rfl) ?_))) (gtL_ok (by decide)), _, Try.func17, by kernel_rfl, by kernel_rfl⟩
    · exact ⟨(sleast.ok N).gt (gtL_sub (by repeat (first | exact subG_nil _ | refine subG_cons (by kernel_rfl) ?_))) (gtL_ok (by decide)), _, Try.func22, by kernel_rfl, by kernel_rfl⟩
    · exact ⟨(sbytes.ok N).gt (gtL_sub (by repeat (first | exact subG_nil _ | refine subG_cons (by kernel_rfl) ?_))) (gtL_ok (by decide)), _, Try.func18, by kernel_rfl, by kernel_rfl⟩
)) 1
theorem ok (N : Nat) : SoundC Try.prog (gtL gts) 11 (con (M N)) := by
  refine SoundC.mono (evF_ok (gok N) hm an N Try.func11) fun R args bs κ r h => ?_
  unfold con at h
  split at h
  · exact (eq (smod.M N) (sleast.M N) (sbytes.M N) N κ _ _).trans h
  · cases h
end sAdd


/-! ### Try.f13: sTimes -/
namespace sTimes
def an : Anns := ⟨fun i => findA i [(7, ⟨[3, 4, 5, 6, 7, 8, 11, 12, 16, 17], [⟨3, 0, .u8⟩, ⟨4, 1, .u8⟩, ⟨5, 2, .u8⟩], 3⟩), (3, ⟨[3, 4, 5, 11, 12], [⟨3, 0, .u8⟩, ⟨4, 1, .u8⟩, ⟨5, 2, .u8⟩], 3⟩)], fun i => findA i [], false, fun _ => none⟩
noncomputable def g (mReduce : Reduce.Ty) : Gi := giD Try.prog (gtL []) (fun _ => an) 0 [] (ovL [(7, Reduce.con mReduce)]) 1
noncomputable def c_L7 : Code := loopOf Try.f13 1
noncomputable def c_L3 : Code := loopOf Try.f13 0
def s_L7 (i6 : Int) (x7 : Int) (over8 : Int) (t11 : List Int) (t12 : Int) (t16 : List Int) (t17 : Int) (h0 : List Int) (h2 : List Int) : St := ⟨[AV.dead, AV.dead, AV.dead, AV.ptr 0 [], AV.ptr 1 [], AV.ptr 2 [], AV.int IntKind.i64 i6, AV.int IntKind.u8 x7, AV.int IntKind.u64 over8, AV.dead, AV.dead, AV.ints IntKind.u8 32 t11, AV.int IntKind.i64 t12, AV.dead, AV.dead, AV.dead, AV.ints IntKind.u8 32 t16, AV.int IntKind.i64 t17] ++ List.replicate 34 .dead, [Blk.var (AV.ints IntKind.u8 32 h0), Blk.var (AV.ints IntKind.u8 32 [0, 0, 0, 0, 0, 0, 0, 0, 0, 0, 0, 0, 0, 0, 0, 0, 0, 0, 0, 0, 0, 0, 0, 0, 0, 0, 0, 0, 0, 0, 0, 0]), Blk.var (AV.ints IntKind.u8 64 h2)]⟩
def s_L3 (t11v1 : List Int) (t12v1 : Int) (h0v1 : List Int) (h2v1 : List Int) : St := ⟨[AV.dead, AV.dead, AV.dead, AV.ptr 0 [], AV.ptr 1 [], AV.ptr 2 []] ++ List.replicate 5 .dead ++ [AV.ints IntKind.u8 32 t11v1, AV.int IntKind.i64 t12v1] ++ List.replicate 39 .dead, [Blk.var (AV.ints IntKind.u8 32 h0v1), Blk.var (AV.ints IntKind.u8 32 [0, 0, 0, 0, 0, 0, 0, 0, 0, 0, 0, 0, 0, 0, 0, 0, 0, 0, 0, 0, 0, 0, 0, 0, 0, 0, 0, 0, 0, 0, 0, 0]), Blk.var (AV.ints IntKind.u8 64 h2v1)]⟩
def x_L7_0 (i6 : Int) (x7 : Int) (over8 : Int) (t11 : List Int) (t12 : Int) (t16 : List Int) (t17 : Int) (h0 : List Int) (h2 : List Int) : St := ⟨[AV.dead, AV.dead, AV.dead, AV.ptr 0 [], AV.ptr 1 [], AV.ptr 2 [], AV.int IntKind.i64 i6, AV.int IntKind.u8 x7, AV.int IntKind.u64 over8, AV.dead, AV.dead, AV.ints IntKind.u8 32 t11, AV.int IntKind.i64 t12, AV.dead, AV.dead, AV.dead, AV.ints IntKind.u8 32 t16, AV.int IntKind.i64 t17, AV.bool (decide (t17 < 32))] ++ List.replicate 33 .dead, [Blk.var (AV.ints IntKind.u8 32 h0), Blk.var (AV.ints IntKind.u8 32 [0, 0, 0, 0, 0, 0, 0, 0, 0, 0, 0, 0, 0, 0, 0, 0, 0, 0, 0, 0, 0, 0, 0, 0, 0, 0, 0, 0, 0, 0, 0, 0]), Blk.var (AV.ints IntKind.u8 64 h2)]⟩
def x_L3_0 (t11v1 : List Int) (t12v1 : Int) (h0v1 : List Int) (h2v1 : List Int) : St := ⟨[AV.dead, AV.dead, AV.dead, AV.ptr 0 [], AV.ptr 1 [], AV.ptr 2 []] ++ List.replicate 5 .dead ++ [AV.ints IntKind.u8 32 t11v1, AV.int IntKind.i64 t12v1, AV.bool (decide (t12v1 < 32))] ++ List.replicate 38 .dead, [Blk.var (AV.ints IntKind.u8 32 h0v1), Blk.var (AV.ints IntKind.u8 32 [0, 0, 0, 0, 0, 0, 0, 0, 0, 0, 0, 0, 0, 0, 0, 0, 0, 0, 0, 0, 0, 0, 0, 0, 0, 0, 0, 0, 0, 0, 0, 0]), Blk.var (AV.ints IntKind.u8 64 h2v1)]⟩
noncomputable def L7 (mReduce : Reduce.Ty) {R : Type} (N : Nat) (ke0 : Int → Int → Int → (List Int) → Int → (List Int) → Int → (List Int) → (List Int) → Option R) : Nat → Int → Int → Int → (List Int) → Int → (List Int) → Int → (List Int) → (List Int) → Option R
  | 0, _, _, _, _, _, _, _, _, _ => none
  | m + 1, i6, x7, over8, t11, t12, t16, t17, h0, h2 =>
    cond (decide (t17 < 32))
     (cond (decide (0 ≤ t17))
      (cond (decide (t17 < 32))
       (cond (decide (0 ≤ IntKind.i64.wrap (i6 + t17)))
        (cond (decide (IntKind.i64.wrap (i6 + t17) < 64))
         (cond (decide (0 ≤ IntKind.i64.wrap (i6 + t17)))
          (cond (decide (IntKind.i64.wrap (i6 + t17) < 64))
           (L7 mReduce N ke0 m i6 x7 (ishr IntKind.u64 (IntKind.u64.wrap (over8 + IntKind.u64.wrap (IntKind.u64.wrap (h2.getD (IntKind.i64.wrap (i6 + t17)).toNat 0) + IntKind.u64.wrap (IntKind.u64.wrap x7 * IntKind.u64.wrap (t16.getD t17.toNat 0))))) 8) t11 t12 t16 (IntKind.i64.wrap (t17 + 1)) h0 (h2.set (IntKind.i64.wrap (i6 + t17)).toNat (IntKind.u8.wrap (IntKind.u64.wrap (over8 + IntKind.u64.wrap (IntKind.u64.wrap (h2.getD (IntKind.i64.wrap (i6 + t17)).toNat 0) + IntKind.u64.wrap (IntKind.u64.wrap x7 * IntKind.u64.wrap (t16.getD t17.toNat 0))))))))
           (none))
          (none))
         (none))
        (none))
       (none))
      (none))
     (ke0 i6 x7 over8 t11 t12 t16 t17 h0 h2)
theorem round_L7 (mReduce : Reduce.Ty) {R : Type} (N : Nat) (Rn : St → Option R) (k : K R) (i6 : Int) (x7 : Int) (over8 : Int) (t11 : List Int) (t12 : Int) (t16 : List Int) (t17 : Int) (h0 : List Int) (h2 : List Int) : evC (g mReduce) an 0 N c_L7 none (roundK (nmOf 0 (an.loop 7)) Rn k) (s_L7 i6 x7 over8 t11 t12 t16 t17 h0 h2) =
  cond (decide (t17 < 32))
   (cond (decide (0 ≤ t17))
    (cond (decide (t17 < 32))
     (cond (decide (0 ≤ IntKind.i64.wrap (i6 + t17)))
      (cond (decide (IntKind.i64.wrap (i6 + t17) < 64))
       (cond (decide (0 ≤ IntKind.i64.wrap (i6 + t17)))
        (cond (decide (IntKind.i64.wrap (i6 + t17) < 64))
         (Rn (s_L7 i6 x7 (ishr IntKind.u64 (IntKind.u64.wrap (over8 + IntKind.u64.wrap (IntKind.u64.wrap (h2.getD (IntKind.i64.wrap (i6 + t17)).toNat 0) + IntKind.u64.wrap (IntKind.u64.wrap x7 * IntKind.u64.wrap (t16.getD t17.toNat 0))))) 8) t11 t12 t16 (IntKind.i64.wrap (t17 + 1)) h0 (h2.set (IntKind.i64.wrap (i6 + t17)).toNat (IntKind.u8.wrap (IntKind.u64.wrap (over8 + IntKind.u64.wrap (IntKind.u64.wrap (h2.getD (IntKind.i64.wrap (i6 + t17)).toNat 0) + IntKind.u64.wrap (IntKind.u64.wrap x7 * IntKind.u64.wrap (t16.getD t17.toNat 0)))))))))
         (none))
        (none))
       (none))
      (none))
     (none))
    (none))
   (k.ext 2 (x_L7_0 i6 x7 over8 t11 t12 t16 t17 h0 h2)) := by kernel_rfl
theorem run_L7 (mReduce : Reduce.Ty) {R : Type} (N : Nat) (k : K R) : ∀ (m : Nat) (i6 : Int) (x7 : Int) (over8 : Int) (t11 : List Int) (t12 : Int) (t16 : List Int) (t17 : Int) (h0 : List Int) (h2 : List Int), loopN (evC (g mReduce) an 0 N c_L7 none) k (nmOf 0 (an.loop 7)) m (s_L7 i6 x7 over8 t11 t12 t16 t17 h0 h2) =
    L7 mReduce N (fun i6 x7 over8 t11 t12 t16 t17 h0 h2 => (k).ext 2 (x_L7_0 i6 x7 over8 t11 t12 t16 t17 h0 h2)) m i6 x7 over8 t11 t12 t16 t17 h0 h2 := by
  intro m
  induction m with
  | zero => intros; rfl
  | succ m ih =>
    intros
    rw [loopN_succ, round_L7]
    simp only [ih]
    kernel_rfl
noncomputable def L3 (mReduce : Reduce.Ty) {R : Type} (N : Nat) (ke0 : (List Int) → Int → (List Int) → (List Int) → Option R) : Nat → (List Int) → Int → (List Int) → (List Int) → Option R
  | 0, _, _, _, _ => none
  | m + 1, t11v1, t12v1, h0v1, h2v1 =>
    cond (decide (t12v1 < 32))
     (cond (decide (0 ≤ t12v1))
      (cond (decide (t12v1 < 32))
       (L7 mReduce N
        (fun i6_c21 _x7_c22 over8_c23 t11_c24 t12_c25 _t16_c26 _t17_c27 h0_c28 h2_c29 => cond (decide (0 ≤ IntKind.i64.wrap (i6_c21 + 32)))
         (cond (decide (IntKind.i64.wrap (i6_c21 + 32) < 64))
          (L3 mReduce N ke0 m t11_c24 (IntKind.i64.wrap (t12_c25 + 1)) h0_c28 (h2_c29.set (IntKind.i64.wrap (i6_c21 + 32)).toNat (IntKind.u8.wrap over8_c23)))
          (none))
         (none)) N t12v1 (t11v1.getD t12v1.toNat 0) 0 t11v1 t12v1 h0v1 0 h0v1 h2v1)
       (none))
      (none))
     (ke0 t11v1 t12v1 h0v1 h2v1)
theorem round_L3 (mReduce : Reduce.Ty) {R : Type} (N : Nat) (Rn : St → Option R) (k : K R) (t11v1 : List Int) (t12v1 : Int) (h0v1 : List Int) (h2v1 : List Int) : evC (g mReduce) an 0 N c_L3 none (roundK (nmOf 0 (an.loop 3)) Rn k) (s_L3 t11v1 t12v1 h0v1 h2v1) =
  cond (decide (t12v1 < 32))
   (cond (decide (0 ≤ t12v1))
    (cond (decide (t12v1 < 32))
     (loopN (evC (g mReduce) an 0 N c_L7 none) (ctx (g mReduce) an 0 N c_L3 [1, 1, 0, 0, 1, 1, 0, 1, 0] (roundK (nmOf 0 (an.loop 3)) Rn k)) (nmOf 0 (an.loop 7)) N (s_L7 t12v1 (t11v1.getD t12v1.toNat 0) 0 t11v1 t12v1 h0v1 0 h0v1 h2v1))
     (none))
    (none))
   (k.ext 0 (x_L3_0 t11v1 t12v1 h0v1 h2v1)) := by kernel_rfl
theorem round_L3_e0 (mReduce : Reduce.Ty) {R : Type} (N : Nat) (Rn : St → Option R) (k : K R) (i6_c21 : Int) (x7_c22 : Int) (over8_c23 : Int) (t11_c24 : List Int) (t12_c25 : Int) (t16_c26 : List Int) (t17_c27 : Int) (h0_c28 : List Int) (h2_c29 : List Int) : (ctx (g mReduce) an 0 N c_L3 [1, 1, 0, 0, 1, 1, 0, 1, 0] (roundK (nmOf 0 (an.loop 3)) Rn k)).ext 2 (x_L7_0 i6_c21 x7_c22 over8_c23 t11_c24 t12_c25 t16_c26 t17_c27 h0_c28 h2_c29) =
  cond (decide (0 ≤ IntKind.i64.wrap (i6_c21 + 32)))
   (cond (decide (IntKind.i64.wrap (i6_c21 + 32) < 64))
    (Rn (s_L3 t11_c24 (IntKind.i64.wrap (t12_c25 + 1)) h0_c28 (h2_c29.set (IntKind.i64.wrap (i6_c21 + 32)).toNat (IntKind.u8.wrap over8_c23))))
    (none))
   (none) := by kernel_rfl
theorem run_L3 (mReduce : Reduce.Ty) {R : Type} (N : Nat) (k : K R) : ∀ (m : Nat) (t11v1 : List Int) (t12v1 : Int) (h0v1 : List Int) (h2v1 : List Int), loopN (evC (g mReduce) an 0 N c_L3 none) k (nmOf 0 (an.loop 3)) m (s_L3 t11v1 t12v1 h0v1 h2v1) =
    L3 mReduce N (fun t11v1 t12v1 h0v1 h2v1 => (k).ext 0 (x_L3_0 t11v1 t12v1 h0v1 h2v1)) m t11v1 t12v1 h0v1 h2v1 := by
  intro m
  induction m with
  | zero => intros; rfl
  | succ m ih =>
    intros
    rw [loopN_succ, round_L3]
    simp only [run_L7, round_L3_e0, ih]
    kernel_rfl
noncomputable def m (mReduce : Reduce.Ty) {R : Type} (N : Nat) (a1 : List Int) (b2 : List Int) (kr0 : (List Int) → Option R) : Option R :=
  L3 mReduce N
   (fun _t11_c30 _t12_c31 _h0_c32 h2_c33 => mReduce R h2_c33
    (fun v_c34 => kr0 v_c34)) N a1 0 b2 ([0, 0, 0, 0, 0, 0, 0, 0, 0, 0, 0, 0, 0, 0, 0, 0, 0, 0, 0, 0, 0, 0, 0, 0, 0, 0, 0, 0, 0, 0, 0, 0, 0, 0, 0, 0, 0, 0, 0, 0, 0, 0, 0, 0, 0, 0, 0, 0, 0, 0, 0, 0, 0, 0, 0, 0, 0, 0, 0, 0, 0, 0, 0, 0])
theorem tree (mReduce : Reduce.Ty) {R : Type} (N : Nat) (κ : AV → List Blk → Option R) (a1 : List Int) (b2 : List Int) : evF (g mReduce) an N Try.f13 [AV.ints IntKind.u8 32 a1, AV.ints IntKind.u8 32 b2] [] κ =
  loopN (evC (g mReduce) an 0 N c_L3 none) (ctx (g mReduce) an 0 N (bodyOf Try.f13) [1, 1, 0, 1, 0] (endK (g mReduce) an Try.f13 [] κ)) (nmOf 0 (an.loop 3)) N (s_L3 a1 0 b2 ([0, 0, 0, 0, 0, 0, 0, 0, 0, 0, 0, 0, 0, 0, 0, 0, 0, 0, 0, 0, 0, 0, 0, 0, 0, 0, 0, 0, 0, 0, 0, 0, 0, 0, 0, 0, 0, 0, 0, 0, 0, 0, 0, 0, 0, 0, 0, 0, 0, 0, 0, 0, 0, 0, 0, 0, 0, 0, 0, 0, 0, 0, 0, 0])) := by kernel_rfl
theorem eq (mReduce : Reduce.Ty) {R : Type} (N : Nat) (κ : AV → List Blk → Option R) (a1 : List Int) (b2 : List Int) : evF (g mReduce) an N Try.f13 [AV.ints IntKind.u8 32 a1, AV.ints IntKind.u8 32 b2] [] κ =
  m mReduce N a1 b2 (fun v => κ (AV.ints IntKind.u8 32 v) []) := by
  rw [tree]
  simp only [run_L7, run_L3]
  kernel_rfl
abbrev Ty : Type 1 := ∀ R : Type, (List Int) → (List Int) → ((List Int) → Option R) → Option R
def con (f : Ty) : Con := fun R args bs κ => match args, bs with
  | [AV.ints IntKind.u8 32 a1, AV.ints IntKind.u8 32 b2], [] => f R a1 b2 (fun v => κ (AV.ints IntKind.u8 32 v) [])
  | _, _ => none
theorem con_eq (f : Ty) (R : Type) (κ : AV → List Blk → Option R) (a1 : List Int) (b2 : List Int) : con f R [AV.ints IntKind.u8 32 a1, AV.ints IntKind.u8 32 b2] [] κ = f R a1 b2 (fun v => κ (AV.ints IntKind.u8 32 v) []) := rfl
noncomputable def M (N : Nat) : Ty := fun R a1 b2 kr0 => m (Reduce.M N) (R := R) N a1 b2 kr0
def gts : List (Nat × AV) := []
theorem gok (N : Nat) : GOk (g (Reduce.M N)) := giD_ok hm (by intro p hp; cases hp) (gtL_ok (by decide)) (ovL_ok (by
    intro p hp
    simp only [List.mem_cons, List.not_mem_nil, or_false] at hp
    rcases hp with rfl
    · exact ⟨(Reduce.ok N).gt (gtL_sub (by repeat (first | exact subG_nil _ | refine subG_cons (by kernel_rfl) ?_))) (gtL_ok (by decide)), _, Try.func7, by kernel_rfl, by kernel_rfl⟩
)) 1
theorem ok (N : Nat) : SoundC Try.prog (gtL gts) 13 (con (M N)) := by
  refine SoundC.mono (evF_ok (gok N) hm an N Try.func13) fun R args bs κ r h => ?_
  unfold con at h
  split at h
  · exact (eq (Reduce.M N) N κ _ _).trans h
  · cases h
end sTimes


/-! ### Try.f15: sNegate -/
namespace sNegate
def an : Anns := ⟨fun i => findA i [], fun i => findA i [], false, fun _ => none⟩
noncomputable def g (msmodulus : smodulus.Ty) (msbytes : sbytes.Ty) (msTimes : sTimes.Ty) : Gi := giD Try.prog (gtL []) (fun _ => an) 0 [] (ovL [(23, smodulus.con msmodulus), (18, sbytes.con msbytes), (13, sTimes.con msTimes)]) 1
noncomputable def m (msmodulus : smodulus.Ty) (msbytes : sbytes.Ty) (msTimes : sTimes.Ty) {R : Type} (_N : Nat) (a1 : List Int) (kr0 : (List Int) → Option R) : Option R :=
  msmodulus R
   (msbytes R ([1559614444, 1477600026, 2734136534, 350157278, 0, 0, 0, 268435456])
    (fun v_c2 => msTimes R a1 v_c2
     (fun v_c3 => kr0 v_c3)))
theorem tree (msmodulus : smodulus.Ty) (msbytes : sbytes.Ty) (msTimes : sTimes.Ty) {R : Type} (N : Nat) (κ : AV → List Blk → Option R) (a1 : List Int) : evF (g msmodulus msbytes msTimes) an N Try.f15 [AV.ints IntKind.u8 32 a1] [] κ =
  msmodulus R
   (msbytes R ([1559614444, 1477600026, 2734136534, 350157278, 0, 0, 0, 268435456])
    (fun v_c2 => msTimes R a1 v_c2
     (fun v_c3 => κ (AV.ints IntKind.u8 32 v_c3) []))) := by kernel_rfl
theorem eq (msmodulus : smodulus.Ty) (msbytes : sbytes.Ty) (msTimes : sTimes.Ty) {R : Type} (N : Nat) (κ : AV → List Blk → Option R) (a1 : List Int) : evF (g msmodulus msbytes msTimes) an N Try.f15 [AV.ints IntKind.u8 32 a1] [] κ =
  m msmodulus msbytes msTimes N a1 (fun v => κ (AV.ints IntKind.u8 32 v) []) := by
  rw [tree]
  kernel_rfl
abbrev Ty : Type 1 := ∀ R : Type, (List Int) → ((List Int) → Option R) → Option R
def con (f : Ty) : Con := fun R args bs κ => match args, bs with
  | [AV.ints IntKind.u8 32 a1], [] => f R a1 (fun v => κ (AV.ints IntKind.u8 32 v) [])
  | _, _ => none
theorem con_eq (f : Ty) (R : Type) (κ : AV → List Blk → Option R) (a1 : List Int) : con f R [AV.ints IntKind.u8 32 a1] [] κ = f R a1 (fun v => κ (AV.ints IntKind.u8 32 v) []) := rfl
noncomputable def M (N : Nat) : Ty := fun R a1 kr0 => m (smodulus.M N) (sbytes.M N) (sTimes.M N) (R := R) N a1 kr0
def gts : List (Nat × AV) := []
theorem gok (N : Nat) : GOk (g (smodulus.M N) (sbytes.M N) (sTimes.M N)) := giD_ok hm (by intro p hp; cases hp) (gtL_ok (by decide)) (ovL_ok (by
    intro p hp
    simp only [List.mem_cons, List.not_mem_nil, or_false] at hp
    rcases hp with rfl | rfl | rfl
    · exact ⟨(smodulus.ok N).gt (gtL_sub (by repeat (first | exact subG_nil _ | refine subG_cons (by kernel_rfl) ?_))) (gtL_ok (by decide)), _, Try.func23, by kernel_rfl, by kernel_rfl⟩
    · exact ⟨(sbytes.ok N).gt (gtL_sub (by repeat (first | exact subG_nil _ | refine subG_cons (by kernel_rfl) ?_))) (gtL_ok (by decide)), _, Try.func18, by kernel_rfl, by kernel_rfl⟩
    · exact ⟨(sTimes.ok N).gt (gtL_sub (by repeat (first | exact subG_nil _ | refine subG_cons (by kernel_rfl) ?_))) (gtL_ok (by decide)), _, Try.func13, by kernel_rfl, by kernel_rfl⟩
)) 1
theorem ok (N : Nat) : SoundC Try.prog (gtL gts) 15 (con (M N)) := by
  refine SoundC.mono (evF_ok (gok N) hm an N Try.func15) fun R args bs κ r h => ?_
  unfold con at h
  split at h
  · exact (eq (smodulus.M N) (sbytes.M N) (sTimes.M N) N κ _).trans h
  · cases h
end sNegate

end Go.Proofs.Ytganankiiipkgaa.fn
