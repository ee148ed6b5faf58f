/-
  DERIVED. GIVEN WITH THE SEED: THE CARDS: each row of YthiimbhjpdphpaaGreatDoorRows.lean that lists a variable, with what it lists TIED to the program's text (the seventh form; the later family's looks); each row that meets fmt, with fmt's text TOLD by the authors' own Lean function (tested against real Go, not proved from fmt's source: count such statements apart). THE CARD IS WHAT COUNTS. Prove the row's statement (the work); the ties are given (YthiimbhjpdphpaaGreatDoorTie.lean); close each card by the builder's one call (the guide's Derived/Test/ToyasCard.lean, 'card_holds'). Laid BY PROGRAM, IN A SANDBOX (cutbox-door.mjs). By AI agents, Wed Nov 11 2026. No macro, syntax, notation, axiom, sorry.
-/
import Derived.Test.YthiimbhjpdphpaaGreatDoorRows
import GoSem.ClaimSeven
namespace Go.Proofs.YthiimbhjpdphpaaGreatDoor
namespace Rows

/-- THE TIED CARD OF 'faaslaw12.CompilePrograms'. -/
def compileProgramsCard : Claim7 := { stood := { row := compileProgramsRow, standIns := [], harness := (true, "3aaa0591e55cb95fa7e4598e9cdd07de1d0090d850d15732f9bb3354dad98c6f"), looks := true }, kinds := [], alts := [], laidByText := true, laidKinds := [.data, .data, .data, .sentinel, .sentinel, .data], laidTests := true, laidLooks := .later }
def CompileProgramsCardSaid : Prop := Claim7.holds Tryz.pinned (.plain (OpenSpec.ofChange compileProgramsSpec)) compileProgramsCard

/-- THE TIED CARD OF 'faaslaw12.CompileFolds'. -/
def compileFoldsCard : Claim7 := { stood := { row := compileFoldsRow, standIns := [], harness := (true, "3aaa0591e55cb95fa7e4598e9cdd07de1d0090d850d15732f9bb3354dad98c6f"), looks := true }, kinds := [], alts := [], laidByText := true, laidKinds := [.data, .data, .data, .sentinel, .sentinel, .data], laidTests := true, laidLooks := .later }
def CompileFoldsCardSaid : Prop := Claim7.holds Tryz.pinned (.plain (OpenSpec.ofChange compileFoldsSpec)) compileFoldsCard

/-- THE TIED CARD OF 'faaslaw12.CompileFoldsOnce'. -/
def compileFoldsOnceCard : Claim7 := { stood := { row := compileFoldsOnceRow, standIns := [], harness := (true, "3aaa0591e55cb95fa7e4598e9cdd07de1d0090d850d15732f9bb3354dad98c6f"), looks := true }, kinds := [], alts := [], laidByText := true, laidKinds := [.data, .data, .data, .sentinel, .sentinel, .data], laidTests := true, laidLooks := .later }
def CompileFoldsOnceCardSaid : Prop := Claim7.holds Tryz.pinned (.plain (OpenSpec.ofChange compileFoldsOnceSpec)) compileFoldsOnceCard

/-- THE TIED CARD OF 'faaslaw12.CompileFunctions'. -/
def compileFunctionsCard : Claim7 := { stood := { row := compileFunctionsRow, standIns := [], harness := (true, "3aaa0591e55cb95fa7e4598e9cdd07de1d0090d850d15732f9bb3354dad98c6f"), looks := true }, kinds := [], alts := [], laidByText := true, laidKinds := [.data, .data, .data, .sentinel, .sentinel, .data], laidTests := true, laidLooks := .later }
def CompileFunctionsCardSaid : Prop := Claim7.holds Tryz.pinned (.plain (OpenSpec.ofChange compileFunctionsSpec)) compileFunctionsCard

/-- THE TIED CARD OF 'faaslaw12.CompileVerifies'. -/
def compileVerifiesCard : Claim7 := { stood := { row := compileVerifiesRow, standIns := [], harness := (true, "3aaa0591e55cb95fa7e4598e9cdd07de1d0090d850d15732f9bb3354dad98c6f"), looks := true }, kinds := [], alts := [], laidByText := true, laidKinds := [.data, .data, .data, .sentinel, .sentinel, .data], laidTests := true, laidLooks := .later }
def CompileVerifiesCardSaid : Prop := Claim7.holds Tryz.pinned (.plain (OpenSpec.ofChange compileVerifiesSpec)) compileVerifiesCard

/-- THE TIED CARD OF 'faaslaw12.CompileShifts'. -/
def compileShiftsCard : Claim7 := { stood := { row := compileShiftsRow, standIns := [], harness := (true, "3aaa0591e55cb95fa7e4598e9cdd07de1d0090d850d15732f9bb3354dad98c6f"), looks := true }, kinds := [], alts := [], laidByText := true, laidKinds := [.data, .data, .data, .sentinel, .sentinel, .data], laidTests := true, laidLooks := .later }
def CompileShiftsCardSaid : Prop := Claim7.holds Tryz.pinned (.plain (OpenSpec.ofChange compileShiftsSpec)) compileShiftsCard

/-- THE SECOND FORM's CARD OF 'faaslaw12.CompilePrograms'. -/
def compileProgramsUptoCard : Claim7 := { stood := { row := compileProgramsUptoRow, standIns := [], harness := (true, "3aaa0591e55cb95fa7e4598e9cdd07de1d0090d850d15732f9bb3354dad98c6f"), looks := true }, kinds := [], alts := [], laidByText := true, laidKinds := [.data, .data, .data, .sentinel, .sentinel, .data], laidTests := true, laidLooks := .later }
def CompileProgramsUptoCardSaid : Prop := Claim7.holds Tryz.pinned (.plain (OpenSpec.upto compileProgramsSpec)) compileProgramsUptoCard

/-- THE SECOND FORM's CARD OF 'faaslaw12.CompileFolds'. -/
def compileFoldsUptoCard : Claim7 := { stood := { row := compileFoldsUptoRow, standIns := [], harness := (true, "3aaa0591e55cb95fa7e4598e9cdd07de1d0090d850d15732f9bb3354dad98c6f"), looks := true }, kinds := [], alts := [], laidByText := true, laidKinds := [.data, .data, .data, .sentinel, .sentinel, .data], laidTests := true, laidLooks := .later }
def CompileFoldsUptoCardSaid : Prop := Claim7.holds Tryz.pinned (.plain (OpenSpec.upto compileFoldsSpec)) compileFoldsUptoCard

/-- THE SECOND FORM's CARD OF 'faaslaw12.CompileFoldsOnce'. -/
def compileFoldsOnceUptoCard : Claim7 := { stood := { row := compileFoldsOnceUptoRow, standIns := [], harness := (true, "3aaa0591e55cb95fa7e4598e9cdd07de1d0090d850d15732f9bb3354dad98c6f"), looks := true }, kinds := [], alts := [], laidByText := true, laidKinds := [.data, .data, .data, .sentinel, .sentinel, .data], laidTests := true, laidLooks := .later }
def CompileFoldsOnceUptoCardSaid : Prop := Claim7.holds Tryz.pinned (.plain (OpenSpec.upto compileFoldsOnceSpec)) compileFoldsOnceUptoCard

/-- THE SECOND FORM's CARD OF 'faaslaw12.CompileFunctions'. -/
def compileFunctionsUptoCard : Claim7 := { stood := { row := compileFunctionsUptoRow, standIns := [], harness := (true, "3aaa0591e55cb95fa7e4598e9cdd07de1d0090d850d15732f9bb3354dad98c6f"), looks := true }, kinds := [], alts := [], laidByText := true, laidKinds := [.data, .data, .data, .sentinel, .sentinel, .data], laidTests := true, laidLooks := .later }
def CompileFunctionsUptoCardSaid : Prop := Claim7.holds Tryz.pinned (.plain (OpenSpec.upto compileFunctionsSpec)) compileFunctionsUptoCard

/-- THE SECOND FORM's CARD OF 'faaslaw12.CompileVerifies'. -/
def compileVerifiesUptoCard : Claim7 := { stood := { row := compileVerifiesUptoRow, standIns := [], harness := (true, "3aaa0591e55cb95fa7e4598e9cdd07de1d0090d850d15732f9bb3354dad98c6f"), looks := true }, kinds := [], alts := [], laidByText := true, laidKinds := [.data, .data, .data, .sentinel, .sentinel, .data], laidTests := true, laidLooks := .later }
def CompileVerifiesUptoCardSaid : Prop := Claim7.holds Tryz.pinned (.plain (OpenSpec.upto compileVerifiesSpec)) compileVerifiesUptoCard

/-- THE SECOND FORM's CARD OF 'faaslaw12.CompileShifts'. -/
def compileShiftsUptoCard : Claim7 := { stood := { row := compileShiftsUptoRow, standIns := [], harness := (true, "3aaa0591e55cb95fa7e4598e9cdd07de1d0090d850d15732f9bb3354dad98c6f"), looks := true }, kinds := [], alts := [], laidByText := true, laidKinds := [.data, .data, .data, .sentinel, .sentinel, .data], laidTests := true, laidLooks := .later }
def CompileShiftsUptoCardSaid : Prop := Claim7.holds Tryz.pinned (.plain (OpenSpec.upto compileShiftsSpec)) compileShiftsUptoCard
end Rows
end Go.Proofs.YthiimbhjpdphpaaGreatDoor
