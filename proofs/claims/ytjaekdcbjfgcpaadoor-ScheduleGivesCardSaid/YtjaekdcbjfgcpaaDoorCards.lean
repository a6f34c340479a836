/-
  DERIVED. GIVEN WITH THE SEED: THE CARDS: each row of YtjaekdcbjfgcpaaDoorRows.lean that lists a variable, with what it lists TIED to the program's text (the seventh form; the later family's looks); each row that meets fmt, with fmt's text TOLD by the authors' own Lean function (tested against real Go, not proved from fmt's source: count such statements apart). THE CARD IS WHAT COUNTS. Prove the row's statement (the work); the ties are given (YtjaekdcbjfgcpaaDoorTie.lean); close each card by the builder's one call (the guide's Derived/Test/ToyasCard.lean, 'card_holds'). Laid BY PROGRAM, IN A SANDBOX (cutbox-door.mjs). By AI agents, Wed Nov 11 2026. No macro, syntax, notation, axiom, sorry.
-/
import Derived.Test.YtjaekdcbjfgcpaaDoorRows
import GoSem.ClaimSeven
namespace Go.Proofs.YtjaekdcbjfgcpaaDoor
namespace Rows

/-- THE TIED CARD OF 'fellowshiplaw22.ScheduleEpochs'. -/
def scheduleEpochsCard : Claim7 := { stood := { row := scheduleEpochsRow, standIns := [], harness := (true, "b4b764389546b831828204f63e0231a4a6d439edcbda0f022ec07aa42c890457"), looks := true }, kinds := [], alts := [], laidByText := true, laidKinds := [.sentinel, .sentinel, .data], laidTests := true, laidLooks := .later }
def ScheduleEpochsCardSaid : Prop := Claim7.holds Tryd.pinned (.plain (OpenSpec.ofChange scheduleEpochsSpec)) scheduleEpochsCard

/-- THE TIED CARD OF 'fellowshiplaw22.ScheduleChain'. -/
def scheduleChainCard : Claim7 := { stood := { row := scheduleChainRow, standIns := [], harness := (true, "b4b764389546b831828204f63e0231a4a6d439edcbda0f022ec07aa42c890457"), looks := true }, kinds := [], alts := [], laidByText := true, laidKinds := [.sentinel, .sentinel, .data], laidTests := true, laidLooks := .later }
def ScheduleChainCardSaid : Prop := Claim7.holds Tryd.pinned (.plain (OpenSpec.ofChange scheduleChainSpec)) scheduleChainCard

/-- THE TIED CARD OF 'fellowshiplaw22.ScheduleSame'. -/
def scheduleSameCard : Claim7 := { stood := { row := scheduleSameRow, standIns := [], harness := (true, "b4b764389546b831828204f63e0231a4a6d439edcbda0f022ec07aa42c890457"), looks := true }, kinds := [], alts := [], laidByText := true, laidKinds := [.sentinel, .sentinel, .sentinel, .sentinel, .sentinel, .sentinel, .sentinel, .sentinel, .sentinel, .sentinel, .sentinel, .sentinel, .sentinel, .sentinel, .sentinel, .sentinel, .sentinel, .sentinel, .sentinel, .data], laidTests := true, laidLooks := .later }
def ScheduleSameCardSaid : Prop := Claim7.holds Tryd.pinned (.plain (OpenSpec.ofChange scheduleSameSpec)) scheduleSameCard

/-- THE TIED CARD OF 'fellowshiplaw22.ScheduleGives'. -/
def scheduleGivesCard : Claim7 := { stood := { row := scheduleGivesRow, standIns := [], harness := (true, "b4b764389546b831828204f63e0231a4a6d439edcbda0f022ec07aa42c890457"), looks := true }, kinds := [], alts := [], laidByText := true, laidKinds := [.sentinel, .sentinel, .sentinel, .sentinel, .sentinel, .sentinel, .sentinel, .sentinel, .sentinel, .sentinel, .sentinel, .sentinel, .sentinel, .sentinel, .sentinel, .sentinel, .sentinel, .sentinel, .sentinel, .data], laidTests := true, laidLooks := .later }
def ScheduleGivesCardSaid : Prop := Claim7.holds Tryd.pinned (.plain (OpenSpec.ofChange scheduleGivesSpec)) scheduleGivesCard

/-- THE SECOND FORM's CARD OF 'fellowshiplaw22.ScheduleEpochs'. -/
def scheduleEpochsUptoCard : Claim7 := { stood := { row := scheduleEpochsUptoRow, standIns := [], harness := (true, "b4b764389546b831828204f63e0231a4a6d439edcbda0f022ec07aa42c890457"), looks := true }, kinds := [], alts := [], laidByText := true, laidKinds := [.sentinel, .sentinel, .data], laidTests := true, laidLooks := .later }
def ScheduleEpochsUptoCardSaid : Prop := Claim7.holds Tryd.pinned (.plain (OpenSpec.upto scheduleEpochsSpec)) scheduleEpochsUptoCard

/-- THE SECOND FORM's CARD OF 'fellowshiplaw22.ScheduleChain'. -/
def scheduleChainUptoCard : Claim7 := { stood := { row := scheduleChainUptoRow, standIns := [], harness := (true, "b4b764389546b831828204f63e0231a4a6d439edcbda0f022ec07aa42c890457"), looks := true }, kinds := [], alts := [], laidByText := true, laidKinds := [.sentinel, .sentinel, .data], laidTests := true, laidLooks := .later }
def ScheduleChainUptoCardSaid : Prop := Claim7.holds Tryd.pinned (.plain (OpenSpec.upto scheduleChainSpec)) scheduleChainUptoCard

/-- THE SECOND FORM's CARD OF 'fellowshiplaw22.ScheduleSame'. -/
def scheduleSameUptoCard : Claim7 := { stood := { row := scheduleSameUptoRow, standIns := [], harness := (true, "b4b764389546b831828204f63e0231a4a6d439edcbda0f022ec07aa42c890457"), looks := true }, kinds := [], alts := [], laidByText := true, laidKinds := [.sentinel, .sentinel, .sentinel, .sentinel, .sentinel, .sentinel, .sentinel, .sentinel, .sentinel, .sentinel, .sentinel, .sentinel, .sentinel, .sentinel, .sentinel, .sentinel, .sentinel, .sentinel, .sentinel, .data], laidTests := true, laidLooks := .later }
def ScheduleSameUptoCardSaid : Prop := Claim7.holds Tryd.pinned (.plain (OpenSpec.upto scheduleSameSpec)) scheduleSameUptoCard

/-- THE SECOND FORM's CARD OF 'fellowshiplaw22.ScheduleGives'. -/
def scheduleGivesUptoCard : Claim7 := { stood := { row := scheduleGivesUptoRow, standIns := [], harness := (true, "b4b764389546b831828204f63e0231a4a6d439edcbda0f022ec07aa42c890457"), looks := true }, kinds := [], alts := [], laidByText := true, laidKinds := [.sentinel, .sentinel, .sentinel, .sentinel, .sentinel, .sentinel, .sentinel, .sentinel, .sentinel, .sentinel, .sentinel, .sentinel, .sentinel, .sentinel, .sentinel, .sentinel, .sentinel, .sentinel, .sentinel, .data], laidTests := true, laidLooks := .later }
def ScheduleGivesUptoCardSaid : Prop := Claim7.holds Tryd.pinned (.plain (OpenSpec.upto scheduleGivesSpec)) scheduleGivesUptoCard
end Rows
end Go.Proofs.YtjaekdcbjfgcpaaDoor
