/-
  DERIVED. GIVEN WITH THE SEED: THE CARDS: each row of YtemakcaojdoakaaGreatDoorRows.lean that lists a variable, with what it lists TIED to the program's text (the seventh form; the later family's looks); each row that meets fmt, with fmt's text TOLD by the authors' own Lean function (tested against real Go, not proved from fmt's source: count such statements apart). THE CARD IS WHAT COUNTS. Prove the row's statement (the work); the ties are given (YtemakcaojdoakaaGreatDoorTie.lean); close each card by the builder's one call (the guide's Derived/Test/ToyasCard.lean, 'card_holds'). Laid BY PROGRAM, IN A SANDBOX (cutbox-door.mjs). By AI agents, Wed Nov 11 2026. No macro, syntax, notation, axiom, sorry.
-/
import Derived.Test.YtemakcaojdoakaaGreatDoorRows
import GoSem.ClaimSeven
namespace Go.Proofs.YtemakcaojdoakaaGreatDoor
namespace Rows

/-- THE TIED CARD OF 'faaslaw13.MachineLooks'. -/
def machineLooksCard : Claim7 := { stood := { row := machineLooksRow, standIns := [], harness := (true, "22ba6c8d0b9fe11b716bf79490a6ad24ffc25f3a670389e9ea68baa18358c78d"), looks := true }, kinds := [], alts := [], laidByText := true, laidKinds := [.data, .data, .data, .sentinel, .sentinel, .data], laidTests := true, laidLooks := .later }
def MachineLooksCardSaid : Prop := Claim7.holds Tryz.pinned (.plain (OpenSpec.ofChange machineLooksSpec)) machineLooksCard

/-- THE SECOND FORM's CARD OF 'faaslaw13.MachineLooks'. -/
def machineLooksUptoCard : Claim7 := { stood := { row := machineLooksUptoRow, standIns := [], harness := (true, "22ba6c8d0b9fe11b716bf79490a6ad24ffc25f3a670389e9ea68baa18358c78d"), looks := true }, kinds := [], alts := [], laidByText := true, laidKinds := [.data, .data, .data, .sentinel, .sentinel, .data], laidTests := true, laidLooks := .later }
def MachineLooksUptoCardSaid : Prop := Claim7.holds Tryz.pinned (.plain (OpenSpec.upto machineLooksSpec)) machineLooksUptoCard
end Rows
end Go.Proofs.YtemakcaojdoakaaGreatDoor
