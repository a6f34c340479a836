/- The evaluator, function in function: a program's functions by a list; contracts of one's own ahead of them. -/
import Derived.Test.YtllnbcibleeogaaDoorEvZa
namespace Go.Ev

def findF (f : Nat) : List (Nat × Func) → Option Func
  | [] => none
  | (g, fn) :: l => cond (Nat.beq g f) (some fn) (findF f l)

section
variable (P : Program) (gt : Nat → Option AV) (A : Nat → Anns) (n : Nat) (tbl : List (Nat × Func)) (ov : Nat → Option Con)

/-- The contracts of the functions of the list, so deep. -/
def conD : Nat → Nat → Option Con
  | 0, _ => none
  | d + 1, f => match ov f with
    | some C => some C
    | none => match findF f tbl with
      | some fn => some fun _ args bs κ => evF ⟨P, gt, conD d⟩ (A f) n fn args bs κ
      | none => none

def giD (d : Nat) : Gi := ⟨P, gt, conD P gt A n tbl ov d⟩

/-- What is asked of the list. -/
def TblOk : Prop := ∀ p ∈ tbl, P.funcs[p.1]? = some p.2 ∧ (p.2.name == "runtime.NumGoroutine") = false ∧ p.2.body.isNone = false

def GtOk : Prop := ∀ g v, gt g = some v → trA noLook false (fun _ _ => none) v = some v

def OvOk : Prop := ∀ f C, ov f = some C → SoundC P gt f C ∧ ∃ fn, P.funcs[f]? = some fn ∧ (fn.name == "runtime.NumGoroutine") = false ∧ fn.body.isNone = false

theorem findF_mem {f : Nat} {fn : Func} : ∀ {l : List (Nat × Func)}, findF f l = some fn → (f, fn) ∈ l
  | [], h => by simp [findF] at h
  | (g, x) :: l, h => by
    simp only [findF] at h
    cases hb : Nat.beq g f with
    | true => simp only [hb, cond_true, Option.some.injEq] at h; subst h; rw [Nat.eq_of_beq_eq_true hb]; simp
    | false => simp only [hb, cond_false] at h; exact List.mem_cons_of_mem _ (findF_mem h)

theorem giD_ok {P : Program} {gt : Nat → Option AV} {A : Nat → Anns} {n : Nat} {tbl : List (Nat × Func)} {ov : Nat → Option Con} (hm : P.follows .mixedOrders = true) (ht : TblOk P tbl) (hg : GtOk gt) (ho : OvOk P gt ov) :
    ∀ d, GOk (giD P gt A n tbl ov d)
  | 0 => ⟨hg, fun f C h => by simp [giD, conD] at h⟩
  | d + 1 => ⟨hg, fun f C h => by
    simp only [giD, conD] at h
    cases hov : ov f with
    | some C' => simp only [hov, Option.some.injEq] at h; subst h; exact ho f _ hov
    | none =>
      simp only [hov] at h
      cases hf : findF f tbl with
      | none => simp [hf] at h
      | some fn =>
        simp only [hf] at h
        have h := Option.some.inj h
        subst h
        obtain ⟨h1, h2, h3⟩ := ht _ (findF_mem hf)
        exact ⟨evF_ok (giD_ok hm ht hg ho d) hm (A f) n h1, fn, h1, h2, h3⟩⟩

/-- A function of the list is as the evaluator says. -/
theorem fn_ok {P : Program} {gt : Nat → Option AV} {A : Nat → Anns} {n : Nat} {tbl : List (Nat × Func)} {ov : Nat → Option Con} (hm : P.follows .mixedOrders = true) (ht : TblOk P tbl) (hg : GtOk gt) (ho : OvOk P gt ov)
    (d : Nat) {f : Nat} {fn : Func} (hf : findF f tbl = some fn) : SoundC P gt f (fun _ args bs κ => evF (giD P gt A n tbl ov d) (A f) n fn args bs κ) :=
  evF_ok (G := giD P gt A n tbl ov d) (giD_ok hm ht hg ho d) hm (A f) n (ht _ (findF_mem hf)).1
end

/-- A contract that says less. -/
theorem SoundC.mono {P : Program} {gt : Nat → Option AV} {f : Nat} {C C' : Con} (h : SoundC P gt f C) (hc : ∀ R args bs κ r, C' R args bs κ = some r → C R args bs κ = some r) : SoundC P gt f C' :=
  fun R args bs κ r hr => h R args bs κ r (hc R args bs κ r hr)

end Go.Ev
