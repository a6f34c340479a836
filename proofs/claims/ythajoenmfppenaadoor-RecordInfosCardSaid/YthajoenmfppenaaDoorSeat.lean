/- Facts on the program's types and error variables that all laws use. -/
import Derived.Test.YthajoenmfppenaaDoorProg
import Derived.Test.YthajoenmfppenaaDoorEv4
import Derived.LaidLaws
import Derived.ReadAgain
namespace Go.Proofs.YthajoenmfppenaaDoor.seat
open Go Go.Proofs Go.Ev
theorem own : ownKnob Tryd.prog.godebug = none := by kernel_rfl
theorem laidOut : laidOutB Tryd.prog = true := by kernel_rfl
theorem rowed : mapsRowed Tryd.prog = true := by kernel_rfl
theorem full : ∀ t e, t < Tryd.prog.types.size → Tryd.prog.underlying t = some (.slice e) → 0 < Tryd.prog.cellsOf e := slices_full_of _ (by kernel_rfl)
theorem errT_is : errT Tryd.prog = 195 := by kernel_rfl
noncomputable def fld : Field := match Tryd.prog.underlying 220 with | some (.struct fs) => fs.getD 0 default | _ => default
noncomputable def errMs : Array (String × TypeId) := match Tryd.prog.underlying 33 with | some (.interface ms) => ms | _ => #[]
theorem star : "*" ++ "errors.errorString" = "*errors.errorString" := by decide
theorem errRow (u : TypeId) (h : Tryd.prog.typeName? 3 u = some "*errors.errorString") : u = 195 :=
  typeName_ptr_named (nm := "errors.errorString") (by rw [star]; kernel_rfl) (by kernel_rfl) (by decide) u (by rw [star]; exact h)
theorem errTy : ErrTy Tryd.prog 220 9 fld :=
  ⟨fun u h => by rw [errT_is]; exact errRow u h, by rw [errT_is]; kernel_rfl, by kernel_rfl, by kernel_rfl, by kernel_rfl, by kernel_rfl, by kernel_rfl, by kernel_rfl⟩
theorem errOk (e : EV) (h1 : Tryd.prog.globalNamed e.name = some e.g) (h2 : (Tryd.prog.globals[e.g]?).map (·.type) = some 33) : e.okB Tryd.prog := ⟨h1, 33, errMs, h2, by kernel_rfl⟩
end Go.Proofs.YthajoenmfppenaaDoor.seat
