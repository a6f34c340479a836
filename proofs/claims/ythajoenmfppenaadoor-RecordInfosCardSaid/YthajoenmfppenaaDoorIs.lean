/- What errors.Is answers over errors that errors.New made: whether they are the same. -/
import Derived.Test.YthajoenmfppenaaDoorSeat
import Derived.WalkKit
import Derived.LaidEql
import Derived.Stop.Asserts
import Derived.RowKitTokens
namespace Go.Proofs.YthajoenmfppenaaDoor.errIs
open Go Go.Proofs Go.RowKit Go.Extern.Stop Go.Stop Go.Extern Go.Ev

theorem isTypeOf (v : Value) (w : World) : (Extern.ReflectliteType.typeOf #[.iface 195 v]).run Tryd.prog w = .ok (.iface 169 (.agg #[.pointer (some ⟨20, 195, none⟩)])) w := by kernel_rfl
def cmp : Array Value → Sem Value := Extern.ReflectliteType.method fun t => do Extern.Rtype.noPackHeld "Comparable" t; pure (.bool (← typeInfo t).comparable)
theorem isComparable (w : World) : (cmp #[.agg #[.pointer (some ⟨20, 195, none⟩)]]).run Tryd.prog w = .ok (.bool true) w := by kernel_rfl
theorem isMethodComparable (v : Value) (w : World) : (Go.method 332 169 v "Comparable").run Tryd.prog w = .ok (140, v) w := by kernel_rfl
theorem isComp : (Tryd.prog.info? 195).map (·.comparable) = some true := by kernel_rfl
theorem isSize : (Tryd.prog.info? 220).map (·.size) = some 1 := by kernel_rfl
theorem noIsE (v : Value) (xT : TypeId) (w : World) : (Instr.typeAssert (.iface 195 v) xT 171 true).run Tryd.prog w = .ok (.tuple #[.nilIface, .bool false]) w := run_typeAssert_lacksB Tryd.underlying171 (by kernel_rfl) (by kernel_rfl) v xT w
theorem noUnwrapE (v : Value) (xT : TypeId) (w : World) : (Instr.typeAssert (.iface 195 v) xT 174 true).run Tryd.prog w = .ok (.tuple #[.nilIface, .bool false]) w := run_typeAssert_lacksB Tryd.underlying174 (by kernel_rfl) (by kernel_rfl) v xT w
theorem noUnwrapsE (v : Value) (xT : TypeId) (w : World) : (Instr.typeAssert (.iface 195 v) xT 176 true).run Tryd.prog w = .ok (.tuple #[.nilIface, .bool false]) w := run_typeAssert_lacksB Tryd.underlying176 (by kernel_rfl) (by kernel_rfl) v xT w

theorem is_same (a : Addr) (w : World) :
    Calls Tryd.prog 49 #[.iface 195 (.pointer (some a)), .iface 195 (.pointer (some a))] w fun e w' => e = .returned (.bool true) ∧ w' = w := by
  obtain ⟨i, hi, hcmp⟩ := Option.map_eq_some_iff.1 isComp
  obtain ⟨j, hj, hjs⟩ := Option.map_eq_some_iff.1 isSize
  have h8 := @run_callFunc_extern Tryd.prog 77 _ Extern.ReflectliteType.typeOf Tryd.func77 (by kernel_rfl) (by kernel_rfl) (by kernel_rfl) (by kernel_rfl)
  have h32 := @run_callFunc_extern Tryd.prog 140 _ cmp Tryd.func140 (by kernel_rfl) (by kernel_rfl) (by kernel_rfl) (by kernel_rfl)
  have tT := isTypeOf
  have cT := isComparable
  have mR := isMethodComparable
  have heq := run_eql_iface_ptr_same (P := Tryd.prog) w a Tryd.underlying33 Tryd.underlying195 hi hcmp hj
  go_enter Tryd.func49, Tryd.ntmps49
  go_wp2
  refine wp_loop_rounds 1 ?_
  rw [rounds_succ]
  go_wp2
  go_ret
  exact ⟨rfl, rfl⟩

theorem is_nil (b : Addr) (w : World) :
    Calls Tryd.prog 49 #[.nilIface, .iface 195 (.pointer (some b))] w fun e w' => e = .returned (.bool false) ∧ w' = w := by
  have hn := run_eql_iface_nil_left (P := Tryd.prog) w 195 (.pointer (some b)) Tryd.underlying33
  go_enter Tryd.func49, Tryd.ntmps49
  go_wp2
  go_ret
  exact ⟨rfl, rfl⟩

theorem is_other (a b : Addr) (ca cb : Array Value) (ta tb : TypeId) (w : World) (hne : a ≠ b) (ha : w.heap[a.block]? = some (.cells ca ta (0, 0))) (hb : w.heap[b.block]? = some (.cells cb tb (0, 0))) :
    Calls Tryd.prog 49 #[.iface 195 (.pointer (some a)), .iface 195 (.pointer (some b))] w fun e w' => e = .returned (.bool false) ∧ w' = w := by
  obtain ⟨i, hi, hcmp⟩ := Option.map_eq_some_iff.1 isComp
  obtain ⟨j, hj, hjs⟩ := Option.map_eq_some_iff.1 isSize
  have h8 := @run_callFunc_extern Tryd.prog 77 _ Extern.ReflectliteType.typeOf Tryd.func77 (by kernel_rfl) (by kernel_rfl) (by kernel_rfl) (by kernel_rfl)
  have h32 := @run_callFunc_extern Tryd.prog 140 _ cmp Tryd.func140 (by kernel_rfl) (by kernel_rfl) (by kernel_rfl) (by kernel_rfl)
  have tT := isTypeOf
  have cT := isComparable
  have mR := isMethodComparable
  have nE := noIsE
  have uE := noUnwrapE
  have vE := noUnwrapsE
  have heq := run_eql_iface_ptr_other (P := Tryd.prog) w Tryd.underlying33 Tryd.underlying195 hi hcmp hj (by rw [hjs]; decide) hne ha hb
  go_enter Tryd.func49, Tryd.ntmps49
  go_wp2
  refine wp_loop_rounds 1 ?_
  rw [rounds_succ]
  go_wp2
  go_ret
  exact ⟨rfl, rfl⟩

end Go.Proofs.YthajoenmfppenaaDoor.errIs

namespace Go.Proofs.YthajoenmfppenaaDoor.fn.Is
open Go Go.Proofs Go.Ev
abbrev Ty : Type 1 := ∀ R : Type, Nat → Nat → (Bool → Option R) → Option R
/-- Errors of the codes 1 to 19, and nil, told from one another. -/
def con (f : Ty) : Con := fun R args bs κ => match args, bs with
  | [AV.err a, AV.err b], [] => f R a b (fun v => κ (AV.bool v) [])
  | _, _ => none
def M (_N : Nat) : Ty := fun _ a b r => cond (Nat.ble a 19 && Nat.ble b 19 && !Nat.beq b 0) (r (Nat.beq a b)) none
def gts : List (Nat × AV) := [(0, .err 1), (1, .err 2), (2, .err 3), (3, .err 4), (4, .err 5), (5, .err 6), (6, .err 7), (7, .err 8), (8, .err 9), (9, .err 10), (10, .err 11), (11, .err 12), (12, .err 13), (13, .err 14), (14, .err 15), (15, .err 16), (16, .err 17), (17, .err 18), (18, .err 19)]
theorem gt_all : ∀ n, n ≤ 19 → n ≠ 0 → ∃ g, gtL gts g = some (.err n) := by
  intro n h h0
  match n, h, h0 with
  | 0, _, h => exact absurd rfl h
  | 1, _, _ => exact ⟨0, rfl⟩
  | 2, _, _ => exact ⟨1, rfl⟩
  | 3, _, _ => exact ⟨2, rfl⟩
  | 4, _, _ => exact ⟨3, rfl⟩
  | 5, _, _ => exact ⟨4, rfl⟩
  | 6, _, _ => exact ⟨5, rfl⟩
  | 7, _, _ => exact ⟨6, rfl⟩
  | 8, _, _ => exact ⟨7, rfl⟩
  | 9, _, _ => exact ⟨8, rfl⟩
  | 10, _, _ => exact ⟨9, rfl⟩
  | 11, _, _ => exact ⟨10, rfl⟩
  | 12, _, _ => exact ⟨11, rfl⟩
  | 13, _, _ => exact ⟨12, rfl⟩
  | 14, _, _ => exact ⟨13, rfl⟩
  | 15, _, _ => exact ⟨14, rfl⟩
  | 16, _, _ => exact ⟨15, rfl⟩
  | 17, _, _ => exact ⟨16, rfl⟩
  | 18, _, _ => exact ⟨17, rfl⟩
  | 19, _, _ => exact ⟨18, rfl⟩
  | n + 20, h, _ => omega

theorem ok (N : Nat) : SoundC Tryd.prog (gtL gts) 49 (con (M N)) := by
  intro R args bs κ r h
  unfold con at h
  split at h
  · rename_i a b
    simp only [M] at h
    cases hc : (Nat.ble a 19 && Nat.ble b 19 && !Nat.beq b 0) with
    | false => rw [hc] at h; cases h
    | true =>
      rw [hc] at h
      simp only [cond_true] at h
      simp only [Bool.and_eq_true] at hc
      obtain ⟨⟨h1, h2⟩, h3⟩ := hc
      have h1 := Nat.le_of_ble_eq_true h1
      have h2 := Nat.le_of_ble_eq_true h2
      have h3 : b ≠ 0 := by rintro rfl; simp at h3
      refine ⟨_, _, h, fun X L w cargs hP hgt hw hpin I hargs => ?_⟩
      have E := I.eok
      rw [hP, hgt, hw] at E
      obtain ⟨gb, hgb⟩ := gt_all b h2 h3
      obtain ⟨pb, cb, tb, eb, kb⟩ := E.blk gb b hgb h3
      rw [seat.errT_is] at eb
      match cargs, hargs with
      | ⟨[x, y]⟩, ⟨hx, hy, _⟩ =>
        have hx : x = X.eps a := hx
        have hy : y = X.eps b := hy
        subst hx; subst hy
        have fin : ∀ (v : Bool), v = Nat.beq a b → (Calls Tryd.prog 49 #[X.eps a, X.eps b] w fun e w' => e = .returned (.bool v) ∧ w' = w) → Calls Tryd.prog 49 #[X.eps a, X.eps b] w (Back X [] L (.bool (Nat.beq a b)) []) := by
          intro v hv hcl
          refine hcl.mono fun e w' ⟨he, hw'⟩ => ?_
          subst he; subst hw'
          exact ⟨L, I, fun i v hi => by simp at hi, fun i k nl l hi => by simp at hi, congrArg Value.bool hv⟩
        by_cases ha0 : a = 0
        · subst ha0
          refine fin false ?_ ?_
          · cases hb : Nat.beq 0 b with
            | false => rfl
            | true => exact absurd (Nat.eq_of_beq_eq_true hb).symm h3
          · rw [E.zero, eb]; exact errIs.is_nil pb w
        · obtain ⟨ga, hga⟩ := gt_all a h1 ha0
          obtain ⟨pa, ca, ta, ea, ka⟩ := E.blk ga a hga ha0
          rw [seat.errT_is] at ea
          by_cases hab : a = b
          · subst hab
            refine fin true (by simp) ?_
            rw [ea]; exact errIs.is_same pa w
          · refine fin false ?_ ?_
            · cases hb : Nat.beq a b with
              | false => rfl
              | true => exact absurd (Nat.eq_of_beq_eq_true hb) hab
            · have hne : pa ≠ pb := by
                rintro rfl
                exact hab (E.inj a b (ea.trans eb.symm))
              rw [ea, eb]; exact errIs.is_other pa pb ca cb ta tb w hne ka kb
      | ⟨[]⟩, h => exact h.elim
      | ⟨[_]⟩, h => exact h.2.elim
      | ⟨_ :: _ :: _ :: _⟩, h => exact h.2.2.elim
  · cases h
end Go.Proofs.YthajoenmfppenaaDoor.fn.Is
