/- What reading rows of texts does to a row of one's own, with the proof; printed by a program. -/
import Derived.Test.YtbliikcgcgalmaaDoorProg
import Derived.Test.YtbliikcgcgalmaaDoorEv4
import Derived.Test.YtbliikcgcgalmaaDoorFnWords
import Derived.Test.YtbliikcgcgalmaaDoorClone
namespace Go.Proofs.YtbliikcgcgalmaaDoor.fn
open Go Go.Proofs Go.Ev

/-! ### Tryd.f14: wUnrow2 -/
namespace wUnrow2
def an : Anns := ⟨fun i => findA i [], fun i => findA i [(1, ⟨[0, 4], [⟨4, 1, T.sl IntKind.u8, none⟩], 2, []⟩), (0, ⟨[], [], 1, []⟩), (2, ⟨[0, 4, 7], [⟨4, 1, T.sl IntKind.u8, none⟩], 2, []⟩)], false, fun _ => none, []⟩
noncomputable def g (mBig : Big.Ty) (mClone : Clone.Ty) : Gi := giD Tryd.prog (gtL [(0, .err 3), (1, .err 4), (2, .err 2)]) (fun _ => an) 0 [] (ovL [(40, Big.con mBig), (41, Clone.con mClone)]) 1
noncomputable def c_S1 : Code := scopeOf Tryd.f14 0
def s_J1_1 (b0 : Nat) (b0_1 : Nat) (h0 : Bool) (h0_3 : List Int) (h1 : Bool) (h1_5 : List (List Int)) : St := ⟨[AV.own 0 [] b0 (some b0_1), AV.dead, AV.dead, AV.dead, AV.own 1 [] 0 none] ++ List.replicate 58 .dead, [Blk.row IntKind.u8 h0 h0_3, Blk.gro (T.sl IntKind.u8) h1 h1_5]⟩
def s_J1_0 (h0v1 : Bool) (h0_1 : List Int) : St := ⟨List.replicate 63 .dead, [Blk.row IntKind.u8 h0v1 h0_1]⟩
def s_J1_2 (b0v1 : Nat) (b0_1v1 : Nat) (left7 : Int) (h0v2 : Bool) (h0_4 : List Int) (h1v1 : List (List Int)) : St := ⟨[AV.own 0 [] b0v1 (some b0_1v1), AV.dead, AV.dead, AV.dead, AV.own 1 [] 0 none, AV.dead, AV.dead, AV.int IntKind.i64 left7] ++ List.replicate 55 .dead, [Blk.row IntKind.u8 h0v2 h0_4, Blk.gro (T.sl IntKind.u8) false h1v1]⟩
def x_S1_0 (h0v1 : Bool) (h0_1 : List Int) : St := ⟨[AV.dead, AV.dead, AV.nils, AV.err 2] ++ List.replicate 58 .dead ++ [AV.err 2], [Blk.row IntKind.u8 h0v1 h0_1]⟩
def x_S1_1 (b0 : Nat) (b0_1 : Nat) (h0 : Bool) (h0_3 : List Int) (h1 : Bool) (h1_5 : List (List Int)) : St := ⟨[AV.own 0 [] b0 (some b0_1), AV.dead, AV.nils, AV.err 4, AV.own 1 [] 0 none] ++ List.replicate 52 .dead ++ [AV.own 0 [] b0 (some b0_1), AV.int IntKind.i64 (↑(olen (some b0_1) h0_3.length b0) : Int), AV.bool (decide ((↑(olen (some b0_1) h0_3.length b0) : Int) > 0)), AV.err 4, AV.dead, AV.dead], [Blk.row IntKind.u8 h0 h0_3, Blk.gro (T.sl IntKind.u8) h1 h1_5]⟩
def x_S1_2 (b0 : Nat) (b0_1 : Nat) (h0 : Bool) (h0_3 : List Int) (h1 : Bool) (h1_5 : List (List Int)) : St := ⟨[AV.own 0 [] b0 (some b0_1), AV.dead, AV.own 1 [] 0 none, AV.err 0, AV.own 1 [] 0 none] ++ List.replicate 52 .dead ++ [AV.own 0 [] b0 (some b0_1), AV.int IntKind.i64 (↑(olen (some b0_1) h0_3.length b0) : Int), AV.bool (decide ((↑(olen (some b0_1) h0_3.length b0) : Int) > 0)), AV.dead, AV.own 1 [] 0 none, AV.dead], [Blk.row IntKind.u8 h0 h0_3, Blk.gro (T.sl IntKind.u8) h1 h1_5]⟩
mutual
noncomputable def J1_1 (_mBig : Big.Ty) (_mClone : Clone.Ty) {R : Type} (_N : Nat) (_ke0 : Bool → (List Int) → Option R) (ke1 : Nat → Nat → Bool → (List Int) → Bool → (List (List Int)) → Option R) (ke2 : Nat → Nat → Bool → (List Int) → Bool → (List (List Int)) → Option R) : Nat → Nat → Nat → Bool → (List Int) → Bool → (List (List Int)) → Option R
  | 0, _, _, _, _, _, _ => none
  | m + 1, b0, b0_1, h0, h0_3, h1, h1_5 =>
    cond (decide ((↑(olen (some b0_1) h0_3.length b0) : Int) > 0))
     (ke1 b0 b0_1 h0 h0_3 h1 h1_5)
     (ke2 b0 b0_1 h0 h0_3 h1 h1_5)
noncomputable def J1_0 (_mBig : Big.Ty) (_mClone : Clone.Ty) {R : Type} (_N : Nat) (ke0 : Bool → (List Int) → Option R) (_ke1 : Nat → Nat → Bool → (List Int) → Bool → (List (List Int)) → Option R) (_ke2 : Nat → Nat → Bool → (List Int) → Bool → (List (List Int)) → Option R) : Nat → Bool → (List Int) → Option R
  | 0, _, _ => none
  | m + 1, h0v1, h0_1 =>
    ke0 h0v1 h0_1
noncomputable def J1_2 (mBig : Big.Ty) (mClone : Clone.Ty) {R : Type} (N : Nat) (ke0 : Bool → (List Int) → Option R) (ke1 : Nat → Nat → Bool → (List Int) → Bool → (List (List Int)) → Option R) (ke2 : Nat → Nat → Bool → (List Int) → Bool → (List (List Int)) → Option R) : Nat → Nat → Nat → Int → Bool → (List Int) → (List (List Int)) → Option R
  | 0, _, _, _, _, _, _ => none
  | m + 1, b0v1, b0_1v1, left7, h0v2, h0_4, h1v1 =>
    cond (left7 == 0)
     (J1_1 mBig mClone N ke0 ke1 ke2 m b0v1 b0_1v1 h0v2 h0_4 false h1v1)
     (cond (decide ((↑(olen (some b0_1v1) h0_4.length b0v1) : Int) < 4))
      (J1_0 mBig mClone N ke0 ke1 ke2 m h0v2 h0_4)
      (cond (decide (4 ≤ (↑(h0_4.length - b0v1) : Int)))
       (mBig R none (cut (some 4) (b0v1 + 0) h0_4)
        (fun v_c74 v_1_c75 => cond (decide (4 ≤ (↑(olen (some b0_1v1) h0_4.length b0v1) : Int)))
         (cond (!v_1_c75.beq 0)
          (J1_0 mBig mClone N ke0 ke1 ke2 m h0v2 h0_4)
          (cond (decide (v_c74 > IntKind.u64.wrap (↑(olen (some (olen (some b0_1v1) h0_4.length b0v1 - 4)) h0_4.length (b0v1 + 4)) : Int)))
           (J1_0 mBig mClone N ke0 ke1 ke2 m h0v2 h0_4)
           (cond (decide (0 ≤ v_c74))
            (cond (decide (v_c74 ≤ (↑(h0_4.length - (b0v1 + 4)) : Int)))
             (mClone R (cut (some v_c74.toNat) (b0v1 + 4 + 0) h0_4)
              (cond (decide ((h1v1.length + 1) * 24 ≤ 140737488355328))
               (cond (decide (h1v1.length + 1 ≤ 140737488355328))
                (cond (decide (0 ≤ v_c74))
                 (cond (decide (v_c74 ≤ (↑(olen (some (olen (some b0_1v1) h0_4.length b0v1 - 4)) h0_4.length (b0v1 + 4)) : Int)))
                  (J1_2 mBig mClone N ke0 ke1 ke2 m (b0v1 + 4 + v_c74.toNat) (olen (some (olen (some b0_1v1) h0_4.length b0v1 - 4)) h0_4.length (b0v1 + 4) - v_c74.toNat) (IntKind.i64.wrap (left7 - 1)) h0v2 h0_4 (h1v1 ++ [cut none 0 (cut (some v_c74.toNat) (b0v1 + 4 + 0) h0_4)]))
                  (none))
                 (none))
                (none))
               (none)))
             (none))
            (none))))
         (none)))
       (none)))
end
theorem round_J1_1 (mBig : Big.Ty) (mClone : Clone.Ty) {R : Type} (N : Nat) (J : Nat → St → Option R) (k : K R) (b0 : Nat) (b0_1 : Nat) (h0 : Bool) (h0_3 : List Int) (h1 : Bool) (h1_5 : List (List Int)) : evC (g mBig mClone) an 1 N c_S1 (some 1) { k with gto := gotoK (hasL c_S1) (fun l => nmOf 1 (an.label l)) k J } (s_J1_1 b0 b0_1 h0 h0_3 h1 h1_5) =
  cond (decide ((↑(olen (some b0_1) h0_3.length b0) : Int) > 0))
   (k.ret (x_S1_1 b0 b0_1 h0 h0_3 h1 h1_5))
   (k.ret (x_S1_2 b0 b0_1 h0 h0_3 h1 h1_5)) := by kernel_rfl
theorem round_J1_0 (mBig : Big.Ty) (mClone : Clone.Ty) {R : Type} (N : Nat) (J : Nat → St → Option R) (k : K R) (h0v1 : Bool) (h0_1 : List Int) : evC (g mBig mClone) an 1 N c_S1 (some 0) { k with gto := gotoK (hasL c_S1) (fun l => nmOf 1 (an.label l)) k J } (s_J1_0 h0v1 h0_1) =
  k.ret (x_S1_0 h0v1 h0_1) := by kernel_rfl
theorem round_J1_2 (mBig : Big.Ty) (mClone : Clone.Ty) {R : Type} (N : Nat) (J : Nat → St → Option R) (k : K R) (b0v1 : Nat) (b0_1v1 : Nat) (left7 : Int) (h0v2 : Bool) (h0_4 : List Int) (h1v1 : List (List Int)) : evC (g mBig mClone) an 1 N c_S1 (some 2) { k with gto := gotoK (hasL c_S1) (fun l => nmOf 1 (an.label l)) k J } (s_J1_2 b0v1 b0_1v1 left7 h0v2 h0_4 h1v1) =
  cond (left7 == 0)
   (J 1 (s_J1_1 b0v1 b0_1v1 h0v2 h0_4 false h1v1))
   (cond (decide ((↑(olen (some b0_1v1) h0_4.length b0v1) : Int) < 4))
    (J 0 (s_J1_0 h0v2 h0_4))
    (cond (decide (4 ≤ (↑(h0_4.length - b0v1) : Int)))
     (mBig R none (cut (some 4) (b0v1 + 0) h0_4)
      (fun v_c74 v_1_c75 => cond (decide (4 ≤ (↑(olen (some b0_1v1) h0_4.length b0v1) : Int)))
       (cond (!v_1_c75.beq 0)
        (J 0 (s_J1_0 h0v2 h0_4))
        (cond (decide (v_c74 > IntKind.u64.wrap (↑(olen (some (olen (some b0_1v1) h0_4.length b0v1 - 4)) h0_4.length (b0v1 + 4)) : Int)))
         (J 0 (s_J1_0 h0v2 h0_4))
         (cond (decide (0 ≤ v_c74))
          (cond (decide (v_c74 ≤ (↑(h0_4.length - (b0v1 + 4)) : Int)))
           (mClone R (cut (some v_c74.toNat) (b0v1 + 4 + 0) h0_4)
            (cond (decide ((h1v1.length + 1) * 24 ≤ 140737488355328))
             (cond (decide (h1v1.length + 1 ≤ 140737488355328))
              (cond (decide (0 ≤ v_c74))
               (cond (decide (v_c74 ≤ (↑(olen (some (olen (some b0_1v1) h0_4.length b0v1 - 4)) h0_4.length (b0v1 + 4)) : Int)))
                (J 2 (s_J1_2 (b0v1 + 4 + v_c74.toNat) (olen (some (olen (some b0_1v1) h0_4.length b0v1 - 4)) h0_4.length (b0v1 + 4) - v_c74.toNat) (IntKind.i64.wrap (left7 - 1)) h0v2 h0_4 (h1v1 ++ [cut none 0 (cut (some v_c74.toNat) (b0v1 + 4 + 0) h0_4)])))
                (none))
               (none))
              (none))
             (none)))
           (none))
          (none))))
       (none)))
     (none))) := by kernel_rfl
theorem run_S1 (mBig : Big.Ty) (mClone : Clone.Ty) {R : Type} (N : Nat) (k : K R) : ∀ (m : Nat), (∀ (b0 : Nat) (b0_1 : Nat) (h0 : Bool) (h0_3 : List Int) (h1 : Bool) (h1_5 : List (List Int)), jumpN (fun l => evC (g mBig mClone) an 1 N c_S1 (some l)) (hasL c_S1) k (fun l => nmOf 1 (an.label l)) m 1 (s_J1_1 b0 b0_1 h0 h0_3 h1 h1_5) =
    J1_1 mBig mClone N (fun h0v1 h0_1 => (k).ret (x_S1_0 h0v1 h0_1)) (fun b0 b0_1 h0 h0_3 h1 h1_5 => (k).ret (x_S1_1 b0 b0_1 h0 h0_3 h1 h1_5)) (fun b0 b0_1 h0 h0_3 h1 h1_5 => (k).ret (x_S1_2 b0 b0_1 h0 h0_3 h1 h1_5)) m b0 b0_1 h0 h0_3 h1 h1_5) ∧ (∀ (h0v1 : Bool) (h0_1 : List Int), jumpN (fun l => evC (g mBig mClone) an 1 N c_S1 (some l)) (hasL c_S1) k (fun l => nmOf 1 (an.label l)) m 0 (s_J1_0 h0v1 h0_1) =
    J1_0 mBig mClone N (fun h0v1 h0_1 => (k).ret (x_S1_0 h0v1 h0_1)) (fun b0 b0_1 h0 h0_3 h1 h1_5 => (k).ret (x_S1_1 b0 b0_1 h0 h0_3 h1 h1_5)) (fun b0 b0_1 h0 h0_3 h1 h1_5 => (k).ret (x_S1_2 b0 b0_1 h0 h0_3 h1 h1_5)) m h0v1 h0_1) ∧ (∀ (b0v1 : Nat) (b0_1v1 : Nat) (left7 : Int) (h0v2 : Bool) (h0_4 : List Int) (h1v1 : List (List Int)), jumpN (fun l => evC (g mBig mClone) an 1 N c_S1 (some l)) (hasL c_S1) k (fun l => nmOf 1 (an.label l)) m 2 (s_J1_2 b0v1 b0_1v1 left7 h0v2 h0_4 h1v1) =
    J1_2 mBig mClone N (fun h0v1 h0_1 => (k).ret (x_S1_0 h0v1 h0_1)) (fun b0 b0_1 h0 h0_3 h1 h1_5 => (k).ret (x_S1_1 b0 b0_1 h0 h0_3 h1 h1_5)) (fun b0 b0_1 h0 h0_3 h1 h1_5 => (k).ret (x_S1_2 b0 b0_1 h0 h0_3 h1 h1_5)) m b0v1 b0_1v1 left7 h0v2 h0_4 h1v1) := by
  intro m
  induction m with
  | zero => exact ⟨by intros; rfl, by intros; rfl, by intros; rfl⟩
  | succ m ih =>
    obtain ⟨ih0, ih1, ih2⟩ := ih
    refine ⟨?_, ?_, ?_⟩
    · intros; rw [jumpN_succ, round_J1_1]
      try simp only [ih0, ih1, ih2]
      kernel_rfl
    · intros; rw [jumpN_succ, round_J1_0]
      try simp only [ih0, ih1, ih2]
      kernel_rfl
    · intros; rw [jumpN_succ, round_J1_2]
      try simp only [ih0, ih1, ih2]
      kernel_rfl
theorem run_J1_1 (mBig : Big.Ty) (mClone : Clone.Ty) {R : Type} (N : Nat) (k : K R) (m : Nat) : (∀ (b0 : Nat) (b0_1 : Nat) (h0 : Bool) (h0_3 : List Int) (h1 : Bool) (h1_5 : List (List Int)), jumpN (fun l => evC (g mBig mClone) an 1 N c_S1 (some l)) (hasL c_S1) k (fun l => nmOf 1 (an.label l)) m 1 (s_J1_1 b0 b0_1 h0 h0_3 h1 h1_5) =
    J1_1 mBig mClone N (fun h0v1 h0_1 => (k).ret (x_S1_0 h0v1 h0_1)) (fun b0 b0_1 h0 h0_3 h1 h1_5 => (k).ret (x_S1_1 b0 b0_1 h0 h0_3 h1 h1_5)) (fun b0 b0_1 h0 h0_3 h1 h1_5 => (k).ret (x_S1_2 b0 b0_1 h0 h0_3 h1 h1_5)) m b0 b0_1 h0 h0_3 h1 h1_5) := (run_S1 mBig mClone N k m).1
theorem run_J1_0 (mBig : Big.Ty) (mClone : Clone.Ty) {R : Type} (N : Nat) (k : K R) (m : Nat) : (∀ (h0v1 : Bool) (h0_1 : List Int), jumpN (fun l => evC (g mBig mClone) an 1 N c_S1 (some l)) (hasL c_S1) k (fun l => nmOf 1 (an.label l)) m 0 (s_J1_0 h0v1 h0_1) =
    J1_0 mBig mClone N (fun h0v1 h0_1 => (k).ret (x_S1_0 h0v1 h0_1)) (fun b0 b0_1 h0 h0_3 h1 h1_5 => (k).ret (x_S1_1 b0 b0_1 h0 h0_3 h1 h1_5)) (fun b0 b0_1 h0 h0_3 h1 h1_5 => (k).ret (x_S1_2 b0 b0_1 h0 h0_3 h1 h1_5)) m h0v1 h0_1) := (run_S1 mBig mClone N k m).2.1
theorem run_J1_2 (mBig : Big.Ty) (mClone : Clone.Ty) {R : Type} (N : Nat) (k : K R) (m : Nat) : (∀ (b0v1 : Nat) (b0_1v1 : Nat) (left7 : Int) (h0v2 : Bool) (h0_4 : List Int) (h1v1 : List (List Int)), jumpN (fun l => evC (g mBig mClone) an 1 N c_S1 (some l)) (hasL c_S1) k (fun l => nmOf 1 (an.label l)) m 2 (s_J1_2 b0v1 b0_1v1 left7 h0v2 h0_4 h1v1) =
    J1_2 mBig mClone N (fun h0v1 h0_1 => (k).ret (x_S1_0 h0v1 h0_1)) (fun b0 b0_1 h0 h0_3 h1 h1_5 => (k).ret (x_S1_1 b0 b0_1 h0 h0_3 h1 h1_5)) (fun b0 b0_1 h0 h0_3 h1 h1_5 => (k).ret (x_S1_2 b0 b0_1 h0 h0_3 h1 h1_5)) m b0v1 b0_1v1 left7 h0v2 h0_4 h1v1) := (run_S1 mBig mClone N k m).2.2
noncomputable def m (mBig : Big.Ty) (mClone : Clone.Ty) {R : Type} (N : Nat) (b1 : Nat) (b2 : Option Nat) (b3 : Bool) (b4 : List Int) (kr0 : (List (List Int)) → Nat → Bool → (List Int) → Option R) : Option R :=
  cond (decide ((↑(olen b2 b4.length b1) : Int) > 65536))
   (kr0 [] 3 b3 b4)
   (cond ((↑(olen b2 b4.length b1) : Int) == 0)
    (J1_0 mBig mClone N
     (fun h0_c76 h0_1_c77 => kr0 [] 2 h0_c76 h0_1_c77)
     (fun _b0_c78 _b0_1_c79 h0_c80 h0_3_c81 _h1_c82 _h1_5_c83 => kr0 [] 4 h0_c80 h0_3_c81)
     (fun _b0_c84 _b0_1_c85 h0_c86 h0_3_c87 _h1_c88 h1_5_c89 => kr0 h1_5_c89 0 h0_c86 h0_3_c87) N b3 b4)
    (cond (decide (0 < (↑(olen b2 b4.length b1) : Int)))
     (cond (decide (1 ≤ (↑(olen b2 b4.length b1) : Int)))
      (cond (IntKind.i64.wrap (b4.getD (b1 + 0) 0) == 0)
       (J1_1 mBig mClone N
        (fun h0_c90 h0_1_c91 => kr0 [] 2 h0_c90 h0_1_c91)
        (fun _b0_c92 _b0_1_c93 h0_c94 h0_3_c95 _h1_c96 _h1_5_c97 => kr0 [] 4 h0_c94 h0_3_c95)
        (fun _b0_c98 _b0_1_c99 h0_c100 h0_3_c101 _h1_c102 h1_5_c103 => kr0 h1_5_c103 0 h0_c100 h0_3_c101) N (b1 + 1) (olen b2 b4.length b1 - 1) b3 b4 true [])
       (cond (decide ((↑(olen (some (olen b2 b4.length b1 - 1)) b4.length (b1 + 1)) : Int) < 4))
        (J1_0 mBig mClone N
         (fun h0_c104 h0_1_c105 => kr0 [] 2 h0_c104 h0_1_c105)
         (fun _b0_c106 _b0_1_c107 h0_c108 h0_3_c109 _h1_c110 _h1_5_c111 => kr0 [] 4 h0_c108 h0_3_c109)
         (fun _b0_c112 _b0_1_c113 h0_c114 h0_3_c115 _h1_c116 h1_5_c117 => kr0 h1_5_c117 0 h0_c114 h0_3_c115) N b3 b4)
        (cond (decide (4 ≤ (↑(b4.length - (b1 + 1)) : Int)))
         (mBig R none (cut (some 4) (b1 + 1 + 0) b4)
          (fun v_c118 v_1_c119 => cond (decide (4 ≤ (↑(olen (some (olen b2 b4.length b1 - 1)) b4.length (b1 + 1)) : Int)))
           (cond (!v_1_c119.beq 0)
            (J1_0 mBig mClone N
             (fun h0_c120 h0_1_c121 => kr0 [] 2 h0_c120 h0_1_c121)
             (fun _b0_c122 _b0_1_c123 h0_c124 h0_3_c125 _h1_c126 _h1_5_c127 => kr0 [] 4 h0_c124 h0_3_c125)
             (fun _b0_c128 _b0_1_c129 h0_c130 h0_3_c131 _h1_c132 h1_5_c133 => kr0 h1_5_c133 0 h0_c130 h0_3_c131) N b3 b4)
            (cond (decide (v_c118 > IntKind.u64.wrap (↑(olen (some (olen (some (olen b2 b4.length b1 - 1)) b4.length (b1 + 1) - 4)) b4.length (b1 + 1 + 4)) : Int)))
             (J1_0 mBig mClone N
              (fun h0_c134 h0_1_c135 => kr0 [] 2 h0_c134 h0_1_c135)
              (fun _b0_c136 _b0_1_c137 h0_c138 h0_3_c139 _h1_c140 _h1_5_c141 => kr0 [] 4 h0_c138 h0_3_c139)
              (fun _b0_c142 _b0_1_c143 h0_c144 h0_3_c145 _h1_c146 h1_5_c147 => kr0 h1_5_c147 0 h0_c144 h0_3_c145) N b3 b4)
             (cond (decide (0 ≤ v_c118))
              (cond (decide (v_c118 ≤ (↑(b4.length - (b1 + 1 + 4)) : Int)))
               (mClone R (cut (some v_c118.toNat) (b1 + 1 + 4 + 0) b4)
                (cond (decide (0 ≤ v_c118))
                 (cond (decide (v_c118 ≤ (↑(olen (some (olen (some (olen b2 b4.length b1 - 1)) b4.length (b1 + 1) - 4)) b4.length (b1 + 1 + 4)) : Int)))
                  (J1_2 mBig mClone N
                   (fun h0_c148 h0_1_c149 => kr0 [] 2 h0_c148 h0_1_c149)
                   (fun _b0_c150 _b0_1_c151 h0_c152 h0_3_c153 _h1_c154 _h1_5_c155 => kr0 [] 4 h0_c152 h0_3_c153)
                   (fun _b0_c156 _b0_1_c157 h0_c158 h0_3_c159 _h1_c160 h1_5_c161 => kr0 h1_5_c161 0 h0_c158 h0_3_c159) N (b1 + 1 + 4 + v_c118.toNat) (olen (some (olen (some (olen b2 b4.length b1 - 1)) b4.length (b1 + 1) - 4)) b4.length (b1 + 1 + 4) - v_c118.toNat) (IntKind.i64.wrap (IntKind.i64.wrap (b4.getD (b1 + 0) 0) - 1)) b3 b4 ([cut none 0 (cut (some v_c118.toNat) (b1 + 1 + 4 + 0) b4)]))
                  (none))
                 (none)))
               (none))
              (none))))
           (none)))
         (none))))
      (none))
     (none)))
theorem tree (mBig : Big.Ty) (mClone : Clone.Ty) {R : Type} (N : Nat) (κ : AV → List Blk → Option R) (b1 : Nat) (b2 : Option Nat) (b3 : Bool) (b4 : List Int) : evF (g mBig mClone) an N Tryd.f14 [AV.own 0 [] b1 b2] [Blk.row IntKind.u8 b3 b4] κ =
  cond (decide ((↑(olen b2 b4.length b1) : Int) > 65536))
   (κ (AV.tup [AV.rsl IntKind.u8 [], AV.err 3]) ([Blk.row IntKind.u8 b3 b4]))
   (cond ((↑(olen b2 b4.length b1) : Int) == 0)
    (jumpN (fun l => evC (g mBig mClone) an 1 N c_S1 (some l)) (hasL c_S1) (ctx (g mBig mClone) an 1 N (bodyOf Tryd.f14) [1] (endK (g mBig mClone) an Tryd.f14 [Blk.row IntKind.u8 b3 b4] κ)) (fun l => nmOf 1 (an.label l)) N 0 (s_J1_0 b3 b4))
    (cond (decide (0 < (↑(olen b2 b4.length b1) : Int)))
     (cond (decide (1 ≤ (↑(olen b2 b4.length b1) : Int)))
      (cond (IntKind.i64.wrap (b4.getD (b1 + 0) 0) == 0)
       (jumpN (fun l => evC (g mBig mClone) an 1 N c_S1 (some l)) (hasL c_S1) (ctx (g mBig mClone) an 1 N (bodyOf Tryd.f14) [1] (endK (g mBig mClone) an Tryd.f14 [Blk.row IntKind.u8 b3 b4] κ)) (fun l => nmOf 1 (an.label l)) N 1 (s_J1_1 (b1 + 1) (olen b2 b4.length b1 - 1) b3 b4 true []))
       (cond (decide ((↑(olen (some (olen b2 b4.length b1 - 1)) b4.length (b1 + 1)) : Int) < 4))
        (jumpN (fun l => evC (g mBig mClone) an 1 N c_S1 (some l)) (hasL c_S1) (ctx (g mBig mClone) an 1 N (bodyOf Tryd.f14) [1] (endK (g mBig mClone) an Tryd.f14 [Blk.row IntKind.u8 b3 b4] κ)) (fun l => nmOf 1 (an.label l)) N 0 (s_J1_0 b3 b4))
        (cond (decide (4 ≤ (↑(b4.length - (b1 + 1)) : Int)))
         (mBig R none (cut (some 4) (b1 + 1 + 0) b4)
          (fun v_c118 v_1_c119 => cond (decide (4 ≤ (↑(olen (some (olen b2 b4.length b1 - 1)) b4.length (b1 + 1)) : Int)))
           (cond (!v_1_c119.beq 0)
            (jumpN (fun l => evC (g mBig mClone) an 1 N c_S1 (some l)) (hasL c_S1) (ctx (g mBig mClone) an 1 N (bodyOf Tryd.f14) [1] (endK (g mBig mClone) an Tryd.f14 [Blk.row IntKind.u8 b3 b4] κ)) (fun l => nmOf 1 (an.label l)) N 0 (s_J1_0 b3 b4))
            (cond (decide (v_c118 > IntKind.u64.wrap (↑(olen (some (olen (some (olen b2 b4.length b1 - 1)) b4.length (b1 + 1) - 4)) b4.length (b1 + 1 + 4)) : Int)))
             (jumpN (fun l => evC (g mBig mClone) an 1 N c_S1 (some l)) (hasL c_S1) (ctx (g mBig mClone) an 1 N (bodyOf Tryd.f14) [1] (endK (g mBig mClone) an Tryd.f14 [Blk.row IntKind.u8 b3 b4] κ)) (fun l => nmOf 1 (an.label l)) N 0 (s_J1_0 b3 b4))
             (cond (decide (0 ≤ v_c118))
              (cond (decide (v_c118 ≤ (↑(b4.length - (b1 + 1 + 4)) : Int)))
               (mClone R (cut (some v_c118.toNat) (b1 + 1 + 4 + 0) b4)
                (cond (decide (0 ≤ v_c118))
                 (cond (decide (v_c118 ≤ (↑(olen (some (olen (some (olen b2 b4.length b1 - 1)) b4.length (b1 + 1) - 4)) b4.length (b1 + 1 + 4)) : Int)))
                  (jumpN (fun l => evC (g mBig mClone) an 1 N c_S1 (some l)) (hasL c_S1) (ctx (g mBig mClone) an 1 N (bodyOf Tryd.f14) [1] (endK (g mBig mClone) an Tryd.f14 [Blk.row IntKind.u8 b3 b4] κ)) (fun l => nmOf 1 (an.label l)) N 2 (s_J1_2 (b1 + 1 + 4 + v_c118.toNat) (olen (some (olen (some (olen b2 b4.length b1 - 1)) b4.length (b1 + 1) - 4)) b4.length (b1 + 1 + 4) - v_c118.toNat) (IntKind.i64.wrap (IntKind.i64.wrap (b4.getD (b1 + 0) 0) - 1)) b3 b4 ([cut none 0 (cut (some v_c118.toNat) (b1 + 1 + 4 + 0) b4)])))
                  (none))
                 (none)))
               (none))
              (none))))
           (none)))
         (none))))
      (none))
     (none))) := by kernel_rfl
theorem eq (mBig : Big.Ty) (mClone : Clone.Ty) {R : Type} (N : Nat) (κ : AV → List Blk → Option R) (b1 : Nat) (b2 : Option Nat) (b3 : Bool) (b4 : List Int) : evF (g mBig mClone) an N Tryd.f14 [AV.own 0 [] b1 b2] [Blk.row IntKind.u8 b3 b4] κ =
  m mBig mClone N b1 b2 b3 b4 (fun v v_1 b b_3 => κ (AV.tup [AV.rsl IntKind.u8 v, AV.err v_1]) ([Blk.row IntKind.u8 b b_3])) := by
  rw [tree]
  simp only [run_J1_1, run_J1_0, run_J1_2]
  kernel_rfl
abbrev Ty : Type 1 := ∀ R : Type, Nat → (Option Nat) → Bool → (List Int) → ((List (List Int)) → Nat → Bool → (List Int) → Option R) → Option R
def con (f : Ty) : Con := fun R args bs κ => match args, bs with
  | [AV.own 0 [] b1 b2], [Blk.row IntKind.u8 b3 b4] => f R b1 b2 b3 b4 (fun v v_1 b b_3 => κ (AV.tup [AV.rsl IntKind.u8 v, AV.err v_1]) ([Blk.row IntKind.u8 b b_3]))
  | _, _ => none
theorem con_eq (f : Ty) (R : Type) (κ : AV → List Blk → Option R) (b1 : Nat) (b2 : Option Nat) (b3 : Bool) (b4 : List Int) : con f R [AV.own 0 [] b1 b2] [Blk.row IntKind.u8 b3 b4] κ = f R b1 b2 b3 b4 (fun v v_1 b b_3 => κ (AV.tup [AV.rsl IntKind.u8 v, AV.err v_1]) ([Blk.row IntKind.u8 b b_3])) := rfl
noncomputable def M (N : Nat) : Ty := fun R b1 b2 b3 b4 kr0 => m (Big.M N) (Clone.M N) (R := R) N b1 b2 b3 b4 kr0
def gts : List (Nat × AV) := [(0, .err 3), (1, .err 4), (2, .err 2)]
theorem gok (N : Nat) : GOk (g (Big.M N) (Clone.M N)) := giD_ok hm (by intro p hp; cases hp) (gtL_ok (by decide)) (ovL_ok (by
    intro p hp
    simp only [List.mem_cons, List.not_mem_nil, or_false] at hp
    rcases hp with rfl | rfl
    · exact ⟨(Big.ok N).gt (gtL_sub (by repeat (first | exact subG_nil _ | refine subG_cons (by kernel_rfl) ?_))) (gtL_ok (by decide)), _, Tryd.func40, by kernel_rfl, by kernel_rfl⟩
    · exact ⟨(Clone.ok N).gt (gtL_sub (by repeat (first | exact subG_nil _ | refine subG_cons (by kernel_rfl) ?_))) (gtL_ok (by decide)), _, Tryd.func41, by kernel_rfl, by kernel_rfl⟩
)) 1
theorem ok (N : Nat) : SoundC Tryd.prog (gtL gts) 14 (con (M N)) := by
  refine SoundC.mono (evF_ok (gok N) hm an N Tryd.func14) fun R args bs κ r h => ?_
  unfold con at h
  split at h
  · exact (eq (Big.M N) (Clone.M N) N κ _ _ _ _).trans h
  · cases h
end wUnrow2

end Go.Proofs.YtbliikcgcgalmaaDoor.fn
