/- What the derivations' references compute, with the proof; printed by a program. -/
import Derived.Test.YtjaekdcbjfgcpaaDoorProg
import Derived.Test.YtjaekdcbjfgcpaaDoorEv4
import Derived.Test.YtjaekdcbjfgcpaaDoorFnMacR
namespace Go.Proofs.YtjaekdcbjfgcpaaDoor.fn
open Go Go.Proofs Go.Ev

/-! ### Tryd.f42: rdExpand -/
namespace rdExpand
def an : Anns := ⟨fun i => findA i [(4, ⟨[0, 1, 2, 7, 8, 9], [⟨7, 0, T.int IntKind.u8, none⟩], 1, [.frz 8 (.int .u8)]⟩)], fun i => findA i [], false, fun _ => none, [.frz 8 (.int .u8)]⟩
noncomputable def g (mm4Sum : m4Sum.Ty) : Gi := giD Tryd.prog (gtL []) (fun _ => an) 0 [] (ovL [(24, m4Sum.con mm4Sum)]) 1
noncomputable def c_L4 : Code := loopOf Tryd.f42 0
def s_L4 (key0 : Option Bool) (key0_1 : List Int) (info1 : Option Bool) (info1_3 : List Int) (n2 : Int) (last8 : List Int) (i9 : Int) (h0 : Bool) (h0_8 : List Int) : St := ⟨[AV.isl IntKind.u8 key0 key0_1, AV.isl IntKind.u8 info1 info1_3, AV.int IntKind.i64 n2] ++ List.replicate 4 .dead ++ [AV.own 0 [] 0 none, AV.isl IntKind.u8 none last8, AV.int IntKind.i64 i9] ++ List.replicate 27 .dead, [Blk.row IntKind.u8 h0 h0_8]⟩
def x_L4_0 (key0 : Option Bool) (key0_1 : List Int) (info1 : Option Bool) (info1_3 : List Int) (n2 : Int) (last8 : List Int) (i9 : Int) (h0 : Bool) (h0_8 : List Int) : St := ⟨[AV.isl IntKind.u8 key0 key0_1, AV.isl IntKind.u8 info1 info1_3, AV.int IntKind.i64 n2] ++ List.replicate 4 .dead ++ [AV.own 0 [] 0 none, AV.isl IntKind.u8 none last8, AV.int IntKind.i64 i9, AV.dead, AV.dead, AV.dead, AV.own 0 [] 0 none, AV.int IntKind.i64 (↑(olen none h0_8.length 0) : Int), AV.int IntKind.i64 n2, AV.bool (decide ((↑(olen none h0_8.length 0) : Int) < n2))] ++ List.replicate 20 .dead, [Blk.row IntKind.u8 h0 h0_8]⟩
noncomputable def L4 (mm4Sum : m4Sum.Ty) {R : Type} (N : Nat) (ke0 : (Option Bool) → (List Int) → (Option Bool) → (List Int) → Int → (List Int) → Int → Bool → (List Int) → Option R) : Nat → (Option Bool) → (List Int) → (Option Bool) → (List Int) → Int → (List Int) → Int → Bool → (List Int) → Option R
  | 0, _, _, _, _, _, _, _, _, _ => none
  | m + 1, key0, key0_1, info1, info1_3, n2, last8, i9, h0, h0_8 =>
    cond (decide ((↑(olen none h0_8.length 0) : Int) < n2))
     (cond (decide ((0 + last8.length) * 1 ≤ 140737488355328))
      (cond (decide (0 + last8.length ≤ 140737488355328))
       (cond (decide ((last8.length + info1_3.length) * 1 ≤ 140737488355328))
        (cond (decide (last8.length + info1_3.length ≤ 140737488355328))
         (cond (decide (((cut none 0 (last8 ++ info1_3)).length + 1) * 1 ≤ 140737488355328))
          (cond (decide ((cut none 0 (last8 ++ info1_3)).length + 1 ≤ 140737488355328))
           (mm4Sum R key0 key0_1 none (cut none 0 (cut none 0 (last8 ++ info1_3) ++ [IntKind.u8.wrap i9]))
            (fun v_c11 => cond (decide ((h0_8.length + (cut (some 32) 0 v_c11).length) * 1 ≤ 140737488355328))
             (cond (decide (h0_8.length + (cut (some 32) 0 v_c11).length ≤ 140737488355328))
              (L4 mm4Sum N ke0 m key0 key0_1 info1 info1_3 n2 (cut (some 32) 0 v_c11) (IntKind.i64.wrap (i9 + 1)) ((cut (some 32) 0 v_c11).isEmpty && h0) (h0_8 ++ cut (some 32) 0 v_c11))
              none)
             none))
           none)
          none)
         none)
        none)
       none)
      none)
     (ke0 key0 key0_1 info1 info1_3 n2 last8 i9 h0 h0_8)
theorem round_L4 (mm4Sum : m4Sum.Ty) {R : Type} (N : Nat) (Rn : St → Option R) (k : K R) (key0 : Option Bool) (key0_1 : List Int) (info1 : Option Bool) (info1_3 : List Int) (n2 : Int) (last8 : List Int) (i9 : Int) (h0 : Bool) (h0_8 : List Int) : evC (g mm4Sum) an 0 N c_L4 none (roundK (nmOf 0 (an.loop 4)) Rn k) (s_L4 key0 key0_1 info1 info1_3 n2 last8 i9 h0 h0_8) =
  cond (decide ((↑(olen none h0_8.length 0) : Int) < n2))
   (cond (decide ((0 + last8.length) * 1 ≤ 140737488355328))
    (cond (decide (0 + last8.length ≤ 140737488355328))
     (cond (decide ((last8.length + info1_3.length) * 1 ≤ 140737488355328))
      (cond (decide (last8.length + info1_3.length ≤ 140737488355328))
       (cond (decide (((cut none 0 (last8 ++ info1_3)).length + 1) * 1 ≤ 140737488355328))
        (cond (decide ((cut none 0 (last8 ++ info1_3)).length + 1 ≤ 140737488355328))
         (mm4Sum R key0 key0_1 none (cut none 0 (cut none 0 (last8 ++ info1_3) ++ [IntKind.u8.wrap i9]))
          (fun v_c11 => cond (decide ((h0_8.length + (cut (some 32) 0 v_c11).length) * 1 ≤ 140737488355328))
           (cond (decide (h0_8.length + (cut (some 32) 0 v_c11).length ≤ 140737488355328))
            (Rn (s_L4 key0 key0_1 info1 info1_3 n2 (cut (some 32) 0 v_c11) (IntKind.i64.wrap (i9 + 1)) ((cut (some 32) 0 v_c11).isEmpty && h0) (h0_8 ++ cut (some 32) 0 v_c11)))
            none)
           none))
         none)
        none)
       none)
      none)
     none)
    none)
   (k.ext 0 (x_L4_0 key0 key0_1 info1 info1_3 n2 last8 i9 h0 h0_8)) := by kernel_rfl
theorem run_L4 (mm4Sum : m4Sum.Ty) {R : Type} (N : Nat) (k : K R) : ∀ (m : Nat) (key0 : Option Bool) (key0_1 : List Int) (info1 : Option Bool) (info1_3 : List Int) (n2 : Int) (last8 : List Int) (i9 : Int) (h0 : Bool) (h0_8 : List Int), loopN (evC (g mm4Sum) an 0 N c_L4 none) k (nmOf 0 (an.loop 4)) m (s_L4 key0 key0_1 info1 info1_3 n2 last8 i9 h0 h0_8) =
    L4 mm4Sum N (fun key0 key0_1 info1 info1_3 n2 last8 i9 h0 h0_8 => (k).ext 0 (x_L4_0 key0 key0_1 info1 info1_3 n2 last8 i9 h0 h0_8)) m key0 key0_1 info1 info1_3 n2 last8 i9 h0 h0_8 := by
  intro m
  induction m with
  | zero => intros; rfl
  | succ m ih =>
    intros
    rw [loopN_succ, round_L4]
    simp only [ih]
    kernel_rfl
noncomputable def m (mm4Sum : m4Sum.Ty) {R : Type} (N : Nat) (keyN1 : Option Bool) (key2 : List Int) (infoN3 : Option Bool) (info4 : List Int) (n5 : Int) (kr0 : (List Int) → Option R) : Option R :=
  L4 mm4Sum N
   (fun _key0_c12 _key0_1_c13 _info1_c14 _info1_3_c15 n2_c16 _last8_c17 _i9_c18 _h0_c19 h0_8_c20 => cond (decide (0 ≤ n2_c16))
    (cond (decide (n2_c16 ≤ (↑h0_8_c20.length : Int)))
     (kr0 (cut (some n2_c16.toNat) 0 h0_8_c20))
     none)
    none) N keyN1 key2 infoN3 info4 n5 [] 1 false []
theorem tree (mm4Sum : m4Sum.Ty) {R : Type} (N : Nat) (κ : AV → List Blk → Option R) (keyN1 : Option Bool) (key2 : List Int) (infoN3 : Option Bool) (info4 : List Int) (n5 : Int) : evF (g mm4Sum) an N Tryd.f42 [AV.isl IntKind.u8 keyN1 key2, AV.isl IntKind.u8 infoN3 info4, AV.int IntKind.i64 n5] [] κ =
  loopN (evC (g mm4Sum) an 0 N c_L4 none) (ctx (g mm4Sum) an 0 N (bodyOf Tryd.f42) [1, 1, 1, 0, 1, 0] (endK (g mm4Sum) an Tryd.f42 [] κ)) (nmOf 0 (an.loop 4)) N (s_L4 keyN1 key2 infoN3 info4 n5 [] 1 false []) := by kernel_rfl
theorem eq (mm4Sum : m4Sum.Ty) {R : Type} (N : Nat) (κ : AV → List Blk → Option R) (keyN1 : Option Bool) (key2 : List Int) (infoN3 : Option Bool) (info4 : List Int) (n5 : Int) : evF (g mm4Sum) an N Tryd.f42 [AV.isl IntKind.u8 keyN1 key2, AV.isl IntKind.u8 infoN3 info4, AV.int IntKind.i64 n5] [] κ =
  m mm4Sum N keyN1 key2 infoN3 info4 n5 (fun v => κ (AV.isl IntKind.u8 none v) []) := by
  rw [tree]
  simp only [run_L4]
  kernel_rfl
abbrev Ty : Type 1 := ∀ R : Type, (Option Bool) → (List Int) → (Option Bool) → (List Int) → Int → ((List Int) → Option R) → Option R
def con (f : Ty) : Con := fun R args bs κ => match args, bs with
  | [AV.isl IntKind.u8 keyN1 key2, AV.isl IntKind.u8 infoN3 info4, AV.int IntKind.i64 n5], [] => f R keyN1 key2 infoN3 info4 n5 (fun v => κ (AV.isl IntKind.u8 none v) [])
  | _, _ => none
theorem con_eq (f : Ty) (R : Type) (κ : AV → List Blk → Option R) (keyN1 : Option Bool) (key2 : List Int) (infoN3 : Option Bool) (info4 : List Int) (n5 : Int) : con f R [AV.isl IntKind.u8 keyN1 key2, AV.isl IntKind.u8 infoN3 info4, AV.int IntKind.i64 n5] [] κ = f R keyN1 key2 infoN3 info4 n5 (fun v => κ (AV.isl IntKind.u8 none v) []) := rfl
noncomputable def M (N : Nat) : Ty := fun R keyN1 key2 infoN3 info4 n5 kr0 => m (m4Sum.M N) (R := R) N keyN1 key2 infoN3 info4 n5 kr0
def gts : List (Nat × AV) := []
theorem gok (N : Nat) : GOk (g (m4Sum.M N)) := giD_ok hm (by intro p hp; cases hp) (gtL_ok (by decide)) (ovL_ok (by
    intro p hp
    simp only [List.mem_cons, List.not_mem_nil, or_false] at hp
    rcases hp with rfl
    · exact ⟨(m4Sum.ok N).gt (gtL_sub (by repeat (first | exact subG_nil _ | refine subG_cons (by kernel_rfl) ?_))) (gtL_ok (by decide)), _, Tryd.func24, by kernel_rfl, by kernel_rfl⟩
)) 1
theorem ok (N : Nat) : SoundC Tryd.prog (gtL gts) 42 (con (M N)) := by
  refine SoundC.mono (evF_ok (gok N) hm an N Tryd.func42) fun R args bs κ r h => ?_
  unfold con at h
  split at h
  · exact (eq (m4Sum.M N) N κ _ _ _ _ _).trans h
  · cases h
end rdExpand


/-! ### Tryd.f43: rdInfo -/
namespace rdInfo
def an : Anns := ⟨fun i => findA i [], fun i => findA i [], false, fun _ => none, []⟩
noncomputable def g : Gi := giD Tryd.prog (gtL []) (fun _ => an) 0 [] (ovL []) 1
noncomputable def m {R : Type} (_N : Nat) (label1 : List UInt8) (_contextN2 : Option Bool) (context3 : List Int) (n4 : Int) (kr0 : (List Int) → Option R) : Option R :=
  cond (decide ((↑(11 + label1.length) : Int) ≤ 9223372036854775807))
   (cond (decide ((3 + (ofStr ([102, 101, 108, 108, 111, 119, 115, 104, 105, 112, 32] ++ label1)).length) * 1 ≤ 140737488355328))
    (cond (decide (3 + (ofStr ([102, 101, 108, 108, 111, 119, 115, 104, 105, 112, 32] ++ label1)).length ≤ 140737488355328))
     (cond (decide (((cut none 0 ([IntKind.u8.wrap (IntKind.i64.wrap (n4.tdiv 256)), IntKind.u8.wrap (n4.tmod 256), IntKind.u8.wrap (↑([102, 101, 108, 108, 111, 119, 115, 104, 105, 112, 32] ++ label1).length : Int)] ++ ofStr ([102, 101, 108, 108, 111, 119, 115, 104, 105, 112, 32] ++ label1))).length + 2) * 1 ≤ 140737488355328))
      (cond (decide ((cut none 0 ([IntKind.u8.wrap (IntKind.i64.wrap (n4.tdiv 256)), IntKind.u8.wrap (n4.tmod 256), IntKind.u8.wrap (↑([102, 101, 108, 108, 111, 119, 115, 104, 105, 112, 32] ++ label1).length : Int)] ++ ofStr ([102, 101, 108, 108, 111, 119, 115, 104, 105, 112, 32] ++ label1))).length + 2 ≤ 140737488355328))
       (cond (decide (((cut none 0 (cut none 0 ([IntKind.u8.wrap (IntKind.i64.wrap (n4.tdiv 256)), IntKind.u8.wrap (n4.tmod 256), IntKind.u8.wrap (↑([102, 101, 108, 108, 111, 119, 115, 104, 105, 112, 32] ++ label1).length : Int)] ++ ofStr ([102, 101, 108, 108, 111, 119, 115, 104, 105, 112, 32] ++ label1)) ++ [IntKind.u8.wrap (IntKind.i64.wrap ((↑context3.length : Int).tdiv 256)), IntKind.u8.wrap ((↑context3.length : Int).tmod 256)])).length + context3.length) * 1 ≤ 140737488355328))
        (cond (decide ((cut none 0 (cut none 0 ([IntKind.u8.wrap (IntKind.i64.wrap (n4.tdiv 256)), IntKind.u8.wrap (n4.tmod 256), IntKind.u8.wrap (↑([102, 101, 108, 108, 111, 119, 115, 104, 105, 112, 32] ++ label1).length : Int)] ++ ofStr ([102, 101, 108, 108, 111, 119, 115, 104, 105, 112, 32] ++ label1)) ++ [IntKind.u8.wrap (IntKind.i64.wrap ((↑context3.length : Int).tdiv 256)), IntKind.u8.wrap ((↑context3.length : Int).tmod 256)])).length + context3.length ≤ 140737488355328))
         (kr0 (cut none 0 (cut none 0 (cut none 0 ([IntKind.u8.wrap (IntKind.i64.wrap (n4.tdiv 256)), IntKind.u8.wrap (n4.tmod 256), IntKind.u8.wrap (↑([102, 101, 108, 108, 111, 119, 115, 104, 105, 112, 32] ++ label1).length : Int)] ++ ofStr ([102, 101, 108, 108, 111, 119, 115, 104, 105, 112, 32] ++ label1)) ++ [IntKind.u8.wrap (IntKind.i64.wrap ((↑context3.length : Int).tdiv 256)), IntKind.u8.wrap ((↑context3.length : Int).tmod 256)]) ++ context3)))
         none)
        none)
       none)
      none)
     none)
    none)
   none
theorem tree {R : Type} (N : Nat) (κ : AV → List Blk → Option R) (label1 : List UInt8) (contextN2 : Option Bool) (context3 : List Int) (n4 : Int) : evF g an N Tryd.f43 [AV.str label1, AV.isl IntKind.u8 contextN2 context3, AV.int IntKind.i64 n4] [] κ =
  cond (decide ((↑(11 + label1.length) : Int) ≤ 9223372036854775807))
   (cond (decide ((3 + (ofStr ([102, 101, 108, 108, 111, 119, 115, 104, 105, 112, 32] ++ label1)).length) * 1 ≤ 140737488355328))
    (cond (decide (3 + (ofStr ([102, 101, 108, 108, 111, 119, 115, 104, 105, 112, 32] ++ label1)).length ≤ 140737488355328))
     (cond (decide (((cut none 0 ([IntKind.u8.wrap (IntKind.i64.wrap (n4.tdiv 256)), IntKind.u8.wrap (n4.tmod 256), IntKind.u8.wrap (↑([102, 101, 108, 108, 111, 119, 115, 104, 105, 112, 32] ++ label1).length : Int)] ++ ofStr ([102, 101, 108, 108, 111, 119, 115, 104, 105, 112, 32] ++ label1))).length + 2) * 1 ≤ 140737488355328))
      (cond (decide ((cut none 0 ([IntKind.u8.wrap (IntKind.i64.wrap (n4.tdiv 256)), IntKind.u8.wrap (n4.tmod 256), IntKind.u8.wrap (↑([102, 101, 108, 108, 111, 119, 115, 104, 105, 112, 32] ++ label1).length : Int)] ++ ofStr ([102, 101, 108, 108, 111, 119, 115, 104, 105, 112, 32] ++ label1))).length + 2 ≤ 140737488355328))
       (cond (decide (((cut none 0 (cut none 0 ([IntKind.u8.wrap (IntKind.i64.wrap (n4.tdiv 256)), IntKind.u8.wrap (n4.tmod 256), IntKind.u8.wrap (↑([102, 101, 108, 108, 111, 119, 115, 104, 105, 112, 32] ++ label1).length : Int)] ++ ofStr ([102, 101, 108, 108, 111, 119, 115, 104, 105, 112, 32] ++ label1)) ++ [IntKind.u8.wrap (IntKind.i64.wrap ((↑context3.length : Int).tdiv 256)), IntKind.u8.wrap ((↑context3.length : Int).tmod 256)])).length + context3.length) * 1 ≤ 140737488355328))
        (cond (decide ((cut none 0 (cut none 0 ([IntKind.u8.wrap (IntKind.i64.wrap (n4.tdiv 256)), IntKind.u8.wrap (n4.tmod 256), IntKind.u8.wrap (↑([102, 101, 108, 108, 111, 119, 115, 104, 105, 112, 32] ++ label1).length : Int)] ++ ofStr ([102, 101, 108, 108, 111, 119, 115, 104, 105, 112, 32] ++ label1)) ++ [IntKind.u8.wrap (IntKind.i64.wrap ((↑context3.length : Int).tdiv 256)), IntKind.u8.wrap ((↑context3.length : Int).tmod 256)])).length + context3.length ≤ 140737488355328))
         (κ (AV.isl IntKind.u8 none (cut none 0 (cut none 0 (cut none 0 ([IntKind.u8.wrap (IntKind.i64.wrap (n4.tdiv 256)), IntKind.u8.wrap (n4.tmod 256), IntKind.u8.wrap (↑([102, 101, 108, 108, 111, 119, 115, 104, 105, 112, 32] ++ label1).length : Int)] ++ ofStr ([102, 101, 108, 108, 111, 119, 115, 104, 105, 112, 32] ++ label1)) ++ [IntKind.u8.wrap (IntKind.i64.wrap ((↑context3.length : Int).tdiv 256)), IntKind.u8.wrap ((↑context3.length : Int).tmod 256)]) ++ context3))) [])
         none)
        none)
       none)
      none)
     none)
    none)
   none := by kernel_rfl
theorem eq {R : Type} (N : Nat) (κ : AV → List Blk → Option R) (label1 : List UInt8) (contextN2 : Option Bool) (context3 : List Int) (n4 : Int) : evF g an N Tryd.f43 [AV.str label1, AV.isl IntKind.u8 contextN2 context3, AV.int IntKind.i64 n4] [] κ =
  m N label1 contextN2 context3 n4 (fun v => κ (AV.isl IntKind.u8 none v) []) := by
  rw [tree]
  kernel_rfl
abbrev Ty : Type 1 := ∀ R : Type, (List UInt8) → (Option Bool) → (List Int) → Int → ((List Int) → Option R) → Option R
def con (f : Ty) : Con := fun R args bs κ => match args, bs with
  | [AV.str label1, AV.isl IntKind.u8 contextN2 context3, AV.int IntKind.i64 n4], [] => f R label1 contextN2 context3 n4 (fun v => κ (AV.isl IntKind.u8 none v) [])
  | _, _ => none
theorem con_eq (f : Ty) (R : Type) (κ : AV → List Blk → Option R) (label1 : List UInt8) (contextN2 : Option Bool) (context3 : List Int) (n4 : Int) : con f R [AV.str label1, AV.isl IntKind.u8 contextN2 context3, AV.int IntKind.i64 n4] [] κ = f R label1 contextN2 context3 n4 (fun v => κ (AV.isl IntKind.u8 none v) []) := rfl
noncomputable def M (N : Nat) : Ty := fun R label1 contextN2 context3 n4 kr0 => m (R := R) N label1 contextN2 context3 n4 kr0
def gts : List (Nat × AV) := []
theorem gok (_N : Nat) : GOk g := giD_ok hm (by intro p hp; cases hp) (gtL_ok (by decide)) (ovL_ok (by intro p hp; cases hp)) 1
theorem ok (N : Nat) : SoundC Tryd.prog (gtL gts) 43 (con (M N)) := by
  refine SoundC.mono (evF_ok (gok N) hm an N Tryd.func43) fun R args bs κ r h => ?_
  unfold con at h
  split at h
  · exact (eq N κ _ _ _ _).trans h
  · cases h
end rdInfo


/-! ### Tryd.f30: rdLabel -/
namespace rdLabel
def an : Anns := ⟨fun i => findA i [], fun i => findA i [], false, fun _ => none, []⟩
noncomputable def g (mrdInfo : rdInfo.Ty) (mrdExpand : rdExpand.Ty) : Gi := giD Tryd.prog (gtL []) (fun _ => an) 0 [] (ovL [(43, rdInfo.con mrdInfo), (42, rdExpand.con mrdExpand)]) 1
noncomputable def m (mrdInfo : rdInfo.Ty) (mrdExpand : rdExpand.Ty) {R : Type} (_N : Nat) (secret1 : List Int) (label2 : List UInt8) (contextN3 : Option Bool) (context4 : List Int) (n5 : Int) (kr0 : (List Int) → Option R) : Option R :=
  mrdInfo R label2 contextN3 context4 n5
   (fun v_c2 => mrdExpand R none (cut (some 32) 0 secret1) none v_c2 n5
    (fun v_c3 => kr0 v_c3))
theorem tree (mrdInfo : rdInfo.Ty) (mrdExpand : rdExpand.Ty) {R : Type} (N : Nat) (κ : AV → List Blk → Option R) (secret1 : List Int) (label2 : List UInt8) (contextN3 : Option Bool) (context4 : List Int) (n5 : Int) : evF (g mrdInfo mrdExpand) an N Tryd.f30 [AV.ints IntKind.u8 32 secret1, AV.str label2, AV.isl IntKind.u8 contextN3 context4, AV.int IntKind.i64 n5] [] κ =
  mrdInfo R label2 contextN3 context4 n5
   (fun v_c2 => mrdExpand R none (cut (some 32) 0 secret1) none v_c2 n5
    (fun v_c3 => κ (AV.isl IntKind.u8 none v_c3) [])) := by kernel_rfl
theorem eq (mrdInfo : rdInfo.Ty) (mrdExpand : rdExpand.Ty) {R : Type} (N : Nat) (κ : AV → List Blk → Option R) (secret1 : List Int) (label2 : List UInt8) (contextN3 : Option Bool) (context4 : List Int) (n5 : Int) : evF (g mrdInfo mrdExpand) an N Tryd.f30 [AV.ints IntKind.u8 32 secret1, AV.str label2, AV.isl IntKind.u8 contextN3 context4, AV.int IntKind.i64 n5] [] κ =
  m mrdInfo mrdExpand N secret1 label2 contextN3 context4 n5 (fun v => κ (AV.isl IntKind.u8 none v) []) := by
  rw [tree]
  kernel_rfl
abbrev Ty : Type 1 := ∀ R : Type, (List Int) → (List UInt8) → (Option Bool) → (List Int) → Int → ((List Int) → Option R) → Option R
def con (f : Ty) : Con := fun R args bs κ => match args, bs with
  | [AV.ints IntKind.u8 32 secret1, AV.str label2, AV.isl IntKind.u8 contextN3 context4, AV.int IntKind.i64 n5], [] => f R secret1 label2 contextN3 context4 n5 (fun v => κ (AV.isl IntKind.u8 none v) [])
  | _, _ => none
theorem con_eq (f : Ty) (R : Type) (κ : AV → List Blk → Option R) (secret1 : List Int) (label2 : List UInt8) (contextN3 : Option Bool) (context4 : List Int) (n5 : Int) : con f R [AV.ints IntKind.u8 32 secret1, AV.str label2, AV.isl IntKind.u8 contextN3 context4, AV.int IntKind.i64 n5] [] κ = f R secret1 label2 contextN3 context4 n5 (fun v => κ (AV.isl IntKind.u8 none v) []) := rfl
noncomputable def M (N : Nat) : Ty := fun R secret1 label2 contextN3 context4 n5 kr0 => m (rdInfo.M N) (rdExpand.M N) (R := R) N secret1 label2 contextN3 context4 n5 kr0
def gts : List (Nat × AV) := []
theorem gok (N : Nat) : GOk (g (rdInfo.M N) (rdExpand.M N)) := giD_ok hm (by intro p hp; cases hp) (gtL_ok (by decide)) (ovL_ok (by
    intro p hp
    simp only [List.mem_cons, List.not_mem_nil, or_false] at hp
    rcases hp with rfl | rfl
    · exact ⟨(rdInfo.ok N).gt (gtL_sub (by repeat (first | exact subG_nil _ | refine subG_cons (by kernel_rfl) ?_))) (gtL_ok (by decide)), _, Tryd.func43, by kernel_rfl, by kernel_rfl⟩
    · exact ⟨(rdExpand.ok N).gt (gtL_sub (by repeat (first | exact subG_nil _ | refine subG_cons (by kernel_rfl) ?_))) (gtL_ok (by decide)), _, Tryd.func42, by kernel_rfl, by kernel_rfl⟩
)) 1
theorem ok (N : Nat) : SoundC Tryd.prog (gtL gts) 30 (con (M N)) := by
  refine SoundC.mono (evF_ok (gok N) hm an N Tryd.func30) fun R args bs κ r h => ?_
  unfold con at h
  split at h
  · exact (eq (rdInfo.M N) (rdExpand.M N) N κ _ _ _ _ _).trans h
  · cases h
end rdLabel


/-! ### Tryd.f33: rdSecret -/
namespace rdSecret
def an : Anns := ⟨fun i => findA i [(3, ⟨[6, 7, 14, 15, 16], [⟨6, 0, T.int IntKind.u8, none⟩, ⟨7, 1, T.int IntKind.u8, none⟩], 2, []⟩)], fun i => findA i [], false, fun _ => none, []⟩
noncomputable def g (mrdLabel : rdLabel.Ty) : Gi := giD Tryd.prog (gtL []) (fun _ => an) 0 [] (ovL [(30, rdLabel.con mrdLabel)]) 1
noncomputable def c_L3 : Code := loopOf Tryd.f33 0
def s_L3 (t14 : List Int) (t15 : Int) (t16 : Int) (h1 : List Int) : St := ⟨List.replicate 6 .dead ++ [AV.ptr 0 [], AV.ptr 1 []] ++ List.replicate 6 .dead ++ [AV.isl IntKind.u8 none t14, AV.int IntKind.i64 t15, AV.int IntKind.i64 t16] ++ List.replicate 9 .dead, [Blk.var (AV.ints IntKind.u8 32 [0, 0, 0, 0, 0, 0, 0, 0, 0, 0, 0, 0, 0, 0, 0, 0, 0, 0, 0, 0, 0, 0, 0, 0, 0, 0, 0, 0, 0, 0, 0, 0]), Blk.var (AV.ints IntKind.u8 32 h1)]⟩
def x_L3_0 (t14 : List Int) (t15 : Int) (t16 : Int) (h1 : List Int) : St := ⟨List.replicate 6 .dead ++ [AV.ptr 0 [], AV.ptr 1 []] ++ List.replicate 6 .dead ++ [AV.isl IntKind.u8 none t14, AV.int IntKind.i64 t15, AV.int IntKind.i64 t16, AV.bool (decide (t16 < t15))] ++ List.replicate 8 .dead, [Blk.var (AV.ints IntKind.u8 32 [0, 0, 0, 0, 0, 0, 0, 0, 0, 0, 0, 0, 0, 0, 0, 0, 0, 0, 0, 0, 0, 0, 0, 0, 0, 0, 0, 0, 0, 0, 0, 0]), Blk.var (AV.ints IntKind.u8 32 h1)]⟩
noncomputable def L3 (mrdLabel : rdLabel.Ty) {R : Type} (N : Nat) (ke0 : (List Int) → Int → Int → (List Int) → Option R) : Nat → (List Int) → Int → Int → (List Int) → Option R
  | 0, _, _, _, _ => none
  | m + 1, t14, t15, t16, h1 =>
    cond (decide (t16 < t15))
     (cond (decide (0 ≤ t16))
      (cond (decide (t16 < (↑t14.length : Int)))
       (cond (decide (0 ≤ t16))
        (cond (decide (t16 < 32))
         (L3 mrdLabel N ke0 m t14 t15 (IntKind.i64.wrap (t16 + 1)) (h1.set t16.toNat (t14.getD t16.toNat 0)))
         none)
        none)
       none)
      none)
     (ke0 t14 t15 t16 h1)
theorem round_L3 (mrdLabel : rdLabel.Ty) {R : Type} (N : Nat) (Rn : St → Option R) (k : K R) (t14 : List Int) (t15 : Int) (t16 : Int) (h1 : List Int) : evC (g mrdLabel) an 0 N c_L3 none (roundK (nmOf 0 (an.loop 3)) Rn k) (s_L3 t14 t15 t16 h1) =
  cond (decide (t16 < t15))
   (cond (decide (0 ≤ t16))
    (cond (decide (t16 < (↑t14.length : Int)))
     (cond (decide (0 ≤ t16))
      (cond (decide (t16 < 32))
       (Rn (s_L3 t14 t15 (IntKind.i64.wrap (t16 + 1)) (h1.set t16.toNat (t14.getD t16.toNat 0))))
       none)
      none)
     none)
    none)
   (k.ext 0 (x_L3_0 t14 t15 t16 h1)) := by kernel_rfl
theorem run_L3 (mrdLabel : rdLabel.Ty) {R : Type} (N : Nat) (k : K R) : ∀ (m : Nat) (t14 : List Int) (t15 : Int) (t16 : Int) (h1 : List Int), loopN (evC (g mrdLabel) an 0 N c_L3 none) k (nmOf 0 (an.loop 3)) m (s_L3 t14 t15 t16 h1) =
    L3 mrdLabel N (fun t14 t15 t16 h1 => (k).ext 0 (x_L3_0 t14 t15 t16 h1)) m t14 t15 t16 h1 := by
  intro m
  induction m with
  | zero => intros; rfl
  | succ m ih =>
    intros
    rw [loopN_succ, round_L3]
    simp only [ih]
    kernel_rfl
noncomputable def m (mrdLabel : rdLabel.Ty) {R : Type} (N : Nat) (secret1 : List Int) (label2 : List UInt8) (contextN3 : Option Bool) (context4 : List Int) (kr0 : (List Int) → Option R) : Option R :=
  mrdLabel R secret1 label2 contextN3 context4 32
   (fun v_c6 => L3 mrdLabel N
    (fun _t14_c7 _t15_c8 _t16_c9 h1_c10 => kr0 h1_c10) N v_c6 ((↑v_c6.length : Int)) 0 ([0, 0, 0, 0, 0, 0, 0, 0, 0, 0, 0, 0, 0, 0, 0, 0, 0, 0, 0, 0, 0, 0, 0, 0, 0, 0, 0, 0, 0, 0, 0, 0]))
theorem tree (mrdLabel : rdLabel.Ty) {R : Type} (N : Nat) (κ : AV → List Blk → Option R) (secret1 : List Int) (label2 : List UInt8) (contextN3 : Option Bool) (context4 : List Int) : evF (g mrdLabel) an N Tryd.f33 [AV.ints IntKind.u8 32 secret1, AV.str label2, AV.isl IntKind.u8 contextN3 context4] [] κ =
  mrdLabel R secret1 label2 contextN3 context4 32
   (fun v_c6 => loopN (evC (g mrdLabel) an 0 N c_L3 none) (ctx (g mrdLabel) an 0 N (bodyOf Tryd.f33) [1, 1, 0, 1, 0] (endK (g mrdLabel) an Tryd.f33 [] κ)) (nmOf 0 (an.loop 3)) N (s_L3 v_c6 ((↑v_c6.length : Int)) 0 ([0, 0, 0, 0, 0, 0, 0, 0, 0, 0, 0, 0, 0, 0, 0, 0, 0, 0, 0, 0, 0, 0, 0, 0, 0, 0, 0, 0, 0, 0, 0, 0]))) := by kernel_rfl
theorem eq (mrdLabel : rdLabel.Ty) {R : Type} (N : Nat) (κ : AV → List Blk → Option R) (secret1 : List Int) (label2 : List UInt8) (contextN3 : Option Bool) (context4 : List Int) : evF (g mrdLabel) an N Tryd.f33 [AV.ints IntKind.u8 32 secret1, AV.str label2, AV.isl IntKind.u8 contextN3 context4] [] κ =
  m mrdLabel N secret1 label2 contextN3 context4 (fun v => κ (AV.ints IntKind.u8 32 v) []) := by
  rw [tree]
  simp only [run_L3]
  kernel_rfl
abbrev Ty : Type 1 := ∀ R : Type, (List Int) → (List UInt8) → (Option Bool) → (List Int) → ((List Int) → Option R) → Option R
def con (f : Ty) : Con := fun R args bs κ => match args, bs with
  | [AV.ints IntKind.u8 32 secret1, AV.str label2, AV.isl IntKind.u8 contextN3 context4], [] => f R secret1 label2 contextN3 context4 (fun v => κ (AV.ints IntKind.u8 32 v) [])
  | _, _ => none
theorem con_eq (f : Ty) (R : Type) (κ : AV → List Blk → Option R) (secret1 : List Int) (label2 : List UInt8) (contextN3 : Option Bool) (context4 : List Int) : con f R [AV.ints IntKind.u8 32 secret1, AV.str label2, AV.isl IntKind.u8 contextN3 context4] [] κ = f R secret1 label2 contextN3 context4 (fun v => κ (AV.ints IntKind.u8 32 v) []) := rfl
noncomputable def M (N : Nat) : Ty := fun R secret1 label2 contextN3 context4 kr0 => m (rdLabel.M N) (R := R) N secret1 label2 contextN3 context4 kr0
def gts : List (Nat × AV) := []
theorem gok (N : Nat) : GOk (g (rdLabel.M N)) := giD_ok hm (by intro p hp; cases hp) (gtL_ok (by decide)) (ovL_ok (by
    intro p hp
    simp only [List.mem_cons, List.not_mem_nil, or_false] at hp
    rcases hp with rfl
    · exact ⟨(rdLabel.ok N).gt (gtL_sub (by repeat (first | exact subG_nil _ | refine subG_cons (by kernel_rfl) ?_))) (gtL_ok (by decide)), _, Tryd.func30, by kernel_rfl, by kernel_rfl⟩
)) 1
theorem ok (N : Nat) : SoundC Tryd.prog (gtL gts) 33 (con (M N)) := by
  refine SoundC.mono (evF_ok (gok N) hm an N Tryd.func33) fun R args bs κ r h => ?_
  unfold con at h
  split at h
  · exact (eq (rdLabel.M N) N κ _ _ _ _).trans h
  · cases h
end rdSecret

end Go.Proofs.YtjaekdcbjfgcpaaDoor.fn
