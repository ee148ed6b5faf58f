/-
  DERIVED. GIVEN WITH THE SEED: THE CARDS: each row of YtmljohbialacfaaGreatDoorRows.lean that lists a variable, with what it lists TIED to the program's text (the seventh form; the later family's looks); each row that meets fmt, with fmt's text TOLD by the authors' own Lean function (tested against real Go, not proved from fmt's source: count such statements apart). THE CARD IS WHAT COUNTS. Prove the row's statement (the work); the ties are given (YtmljohbialacfaaGreatDoorTie.lean); close each card by the builder's one call (the guide's Derived/Test/ToyasCard.lean, 'card_holds'). Laid BY PROGRAM, IN A SANDBOX (cutbox-door.mjs). By AI agents, Wed Nov 11 2026. No macro, syntax, notation, axiom, sorry.
-/
import Derived.Test.YtmljohbialacfaaGreatDoorRows
import GoSem.ClaimSeven
namespace Go.Proofs.YtmljohbialacfaaGreatDoor
namespace Rows

/-- THE TIED CARD OF 'faaslaw13.MachineStarts'. -/
def machineStartsCard : Claim7 := { stood := { row := machineStartsRow, standIns := [], harness := (true, "6cfeae2233857f4628bf4ffbc1ab0704c52691b4ad452ab4cad443f9cca732e9"), looks := true }, kinds := [], alts := [], laidByText := true, laidKinds := [.data, .data, .data, .sentinel, .sentinel, .data], laidTests := true, laidLooks := .later }
def MachineStartsCardSaid : Prop := Claim7.holds Tryz.pinned (.plain (OpenSpec.ofChange machineStartsSpec)) machineStartsCard

/-- THE TIED CARD OF 'faaslaw13.MachineParts'. -/
def machinePartsCard : Claim7 := { stood := { row := machinePartsRow, standIns := [], harness := (true, "6cfeae2233857f4628bf4ffbc1ab0704c52691b4ad452ab4cad443f9cca732e9"), looks := true }, kinds := [], alts := [], laidByText := true, laidKinds := [.data, .data, .data, .sentinel, .sentinel, .data], laidTests := true, laidLooks := .later }
def MachinePartsCardSaid : Prop := Claim7.holds Tryz.pinned (.plain (OpenSpec.ofChange machinePartsSpec)) machinePartsCard

/-- THE TIED CARD OF 'faaslaw13.MachineLimits'. -/
def machineLimitsCard : Claim7 := { stood := { row := machineLimitsRow, standIns := [], harness := (true, "6cfeae2233857f4628bf4ffbc1ab0704c52691b4ad452ab4cad443f9cca732e9"), looks := true }, kinds := [], alts := [], laidByText := true, laidKinds := [.data, .data, .data, .sentinel, .sentinel, .data], laidTests := true, laidLooks := .later }
def MachineLimitsCardSaid : Prop := Claim7.holds Tryz.pinned (.plain (OpenSpec.ofChange machineLimitsSpec)) machineLimitsCard

/-- THE TIED CARD OF 'faaslaw13.MachineRuns'. -/
def machineRunsCard : Claim7 := { stood := { row := machineRunsRow, standIns := [], harness := (true, "6cfeae2233857f4628bf4ffbc1ab0704c52691b4ad452ab4cad443f9cca732e9"), looks := true }, kinds := [], alts := [], laidByText := true, laidKinds := [.data, .data, .data, .sentinel, .sentinel, .data], laidTests := true, laidLooks := .later }
def MachineRunsCardSaid : Prop := Claim7.holds Tryz.pinned (.plain (OpenSpec.ofChange machineRunsSpec)) machineRunsCard

/-- THE SECOND FORM's CARD OF 'faaslaw13.MachineStarts'. -/
def machineStartsUptoCard : Claim7 := { stood := { row := machineStartsUptoRow, standIns := [], harness := (true, "6cfeae2233857f4628bf4ffbc1ab0704c52691b4ad452ab4cad443f9cca732e9"), looks := true }, kinds := [], alts := [], laidByText := true, laidKinds := [.data, .data, .data, .sentinel, .sentinel, .data], laidTests := true, laidLooks := .later }
def MachineStartsUptoCardSaid : Prop := Claim7.holds Tryz.pinned (.plain (OpenSpec.upto machineStartsSpec)) machineStartsUptoCard

/-- THE SECOND FORM's CARD OF 'faaslaw13.MachineParts'. -/
def machinePartsUptoCard : Claim7 := { stood := { row := machinePartsUptoRow, standIns := [], harness := (true, "6cfeae2233857f4628bf4ffbc1ab0704c52691b4ad452ab4cad443f9cca732e9"), looks := true }, kinds := [], alts := [], laidByText := true, laidKinds := [.data, .data, .data, .sentinel, .sentinel, .data], laidTests := true, laidLooks := .later }
def MachinePartsUptoCardSaid : Prop := Claim7.holds Tryz.pinned (.plain (OpenSpec.upto machinePartsSpec)) machinePartsUptoCard

/-- THE SECOND FORM's CARD OF 'faaslaw13.MachineLimits'. -/
def machineLimitsUptoCard : Claim7 := { stood := { row := machineLimitsUptoRow, standIns := [], harness := (true, "6cfeae2233857f4628bf4ffbc1ab0704c52691b4ad452ab4cad443f9cca732e9"), looks := true }, kinds := [], alts := [], laidByText := true, laidKinds := [.data, .data, .data, .sentinel, .sentinel, .data], laidTests := true, laidLooks := .later }
def MachineLimitsUptoCardSaid : Prop := Claim7.holds Tryz.pinned (.plain (OpenSpec.upto machineLimitsSpec)) machineLimitsUptoCard

/-- THE SECOND FORM's CARD OF 'faaslaw13.MachineRuns'. -/
def machineRunsUptoCard : Claim7 := { stood := { row := machineRunsUptoRow, standIns := [], harness := (true, "6cfeae2233857f4628bf4ffbc1ab0704c52691b4ad452ab4cad443f9cca732e9"), looks := true }, kinds := [], alts := [], laidByText := true, laidKinds := [.data, .data, .data, .sentinel, .sentinel, .data], laidTests := true, laidLooks := .later }
def MachineRunsUptoCardSaid : Prop := Claim7.holds Tryz.pinned (.plain (OpenSpec.upto machineRunsSpec)) machineRunsUptoCard
end Rows
end Go.Proofs.YtmljohbialacfaaGreatDoor
