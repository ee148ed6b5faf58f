/-
  DERIVED. GIVEN WITH THE SEED: THE CARDS: each row of YtekdhlfapejijaaGreatDoorRows.lean that lists a variable, with what it lists TIED to the program's text (the seventh form; the later family's looks); each row that meets fmt, with fmt's text TOLD by the authors' own Lean function (tested against real Go, not proved from fmt's source: count such statements apart). THE CARD IS WHAT COUNTS. Prove the row's statement (the work); the ties are given (YtekdhlfapejijaaGreatDoorTie.lean); close each card by the builder's one call (the guide's Derived/Test/ToyasCard.lean, 'card_holds'). Laid BY PROGRAM, IN A SANDBOX (cutbox-door.mjs). By AI agents, Wed Nov 11 2026. No macro, syntax, notation, axiom, sorry.
-/
import Derived.Test.YtekdhlfapejijaaGreatDoorRows
import GoSem.ClaimSeven
namespace Go.Proofs.YtekdhlfapejijaaGreatDoor
namespace Rows

/-- THE TIED CARD OF 'faaslaw10.EvalOperators'. -/
def evalOperatorsCard : Claim7 := { stood := { row := evalOperatorsRow, standIns := [], harness := (true, "7fe2bc83ffe9c46f8db4fab32ff34b9f0de6d57aaadaebb5cd448b03382bd7e7"), looks := true }, kinds := [], alts := [], laidByText := true, laidKinds := [.data, .data, .data, .sentinel, .sentinel], laidTests := true, laidLooks := .later }
def EvalOperatorsCardSaid : Prop := Claim7.holds Tryz.pinned (.plain (OpenSpec.ofChange evalOperatorsSpec)) evalOperatorsCard

/-- THE TIED CARD OF 'faaslaw10.EvalFunctions'. -/
def evalFunctionsCard : Claim7 := { stood := { row := evalFunctionsRow, standIns := [], harness := (true, "7fe2bc83ffe9c46f8db4fab32ff34b9f0de6d57aaadaebb5cd448b03382bd7e7"), looks := true }, kinds := [], alts := [], laidByText := true, laidKinds := [.data, .data, .data, .sentinel, .sentinel], laidTests := true, laidLooks := .later }
def EvalFunctionsCardSaid : Prop := Claim7.holds Tryz.pinned (.plain (OpenSpec.ofChange evalFunctionsSpec)) evalFunctionsCard

/-- THE TIED CARD OF 'faaslaw10.EvalLaws'. -/
def evalLawsCard : Claim7 := { stood := { row := evalLawsRow, standIns := [], harness := (true, "7fe2bc83ffe9c46f8db4fab32ff34b9f0de6d57aaadaebb5cd448b03382bd7e7"), looks := true }, kinds := [], alts := [], laidByText := true, laidKinds := [.data, .data, .data, .sentinel, .sentinel], laidTests := true, laidLooks := .later }
def EvalLawsCardSaid : Prop := Claim7.holds Tryz.pinned (.plain (OpenSpec.ofChange evalLawsSpec)) evalLawsCard

/-- THE TIED CARD OF 'faaslaw10.EvalRuns'. -/
def evalRunsCard : Claim7 := { stood := { row := evalRunsRow, standIns := [], harness := (true, "7fe2bc83ffe9c46f8db4fab32ff34b9f0de6d57aaadaebb5cd448b03382bd7e7"), looks := true }, kinds := [], alts := [], laidByText := true, laidKinds := [.data, .data, .data, .sentinel, .sentinel], laidTests := true, laidLooks := .later }
def EvalRunsCardSaid : Prop := Claim7.holds Tryz.pinned (.plain (OpenSpec.ofChange evalRunsSpec)) evalRunsCard

/-- THE TIED CARD OF 'faaslaw10.EvalFollowsAnswers'. -/
def evalFollowsAnswersCard : Claim7 := { stood := { row := evalFollowsAnswersRow, standIns := [], harness := (true, "7fe2bc83ffe9c46f8db4fab32ff34b9f0de6d57aaadaebb5cd448b03382bd7e7"), looks := true }, kinds := [], alts := [], laidByText := true, laidKinds := [.data, .data, .data, .sentinel, .sentinel], laidTests := true, laidLooks := .later }
def EvalFollowsAnswersCardSaid : Prop := Claim7.holds Tryz.pinned (.plain (OpenSpec.ofChange evalFollowsAnswersSpec)) evalFollowsAnswersCard

/-- THE TIED CARD OF 'faaslaw10.EvalFuel'. -/
def evalFuelCard : Claim7 := { stood := { row := evalFuelRow, standIns := [], harness := (true, "7fe2bc83ffe9c46f8db4fab32ff34b9f0de6d57aaadaebb5cd448b03382bd7e7"), looks := true }, kinds := [], alts := [], laidByText := true, laidKinds := [.data, .data, .data, .sentinel, .sentinel], laidTests := true, laidLooks := .later }
def EvalFuelCardSaid : Prop := Claim7.holds Tryz.pinned (.plain (OpenSpec.ofChange evalFuelSpec)) evalFuelCard

/-- THE SECOND FORM's CARD OF 'faaslaw10.EvalOperators'. -/
def evalOperatorsUptoCard : Claim7 := { stood := { row := evalOperatorsUptoRow, standIns := [], harness := (true, "7fe2bc83ffe9c46f8db4fab32ff34b9f0de6d57aaadaebb5cd448b03382bd7e7"), looks := true }, kinds := [], alts := [], laidByText := true, laidKinds := [.data, .data, .data, .sentinel, .sentinel], laidTests := true, laidLooks := .later }
def EvalOperatorsUptoCardSaid : Prop := Claim7.holds Tryz.pinned (.plain (OpenSpec.upto evalOperatorsSpec)) evalOperatorsUptoCard

/-- THE SECOND FORM's CARD OF 'faaslaw10.EvalFunctions'. -/
def evalFunctionsUptoCard : Claim7 := { stood := { row := evalFunctionsUptoRow, standIns := [], harness := (true, "7fe2bc83ffe9c46f8db4fab32ff34b9f0de6d57aaadaebb5cd448b03382bd7e7"), looks := true }, kinds := [], alts := [], laidByText := true, laidKinds := [.data, .data, .data, .sentinel, .sentinel], laidTests := true, laidLooks := .later }
def EvalFunctionsUptoCardSaid : Prop := Claim7.holds Tryz.pinned (.plain (OpenSpec.upto evalFunctionsSpec)) evalFunctionsUptoCard

/-- THE SECOND FORM's CARD OF 'faaslaw10.EvalLaws'. -/
def evalLawsUptoCard : Claim7 := { stood := { row := evalLawsUptoRow, standIns := [], harness := (true, "7fe2bc83ffe9c46f8db4fab32ff34b9f0de6d57aaadaebb5cd448b03382bd7e7"), looks := true }, kinds := [], alts := [], laidByText := true, laidKinds := [.data, .data, .data, .sentinel, .sentinel], laidTests := true, laidLooks := .later }
def EvalLawsUptoCardSaid : Prop := Claim7.holds Tryz.pinned (.plain (OpenSpec.upto evalLawsSpec)) evalLawsUptoCard

/-- THE SECOND FORM's CARD OF 'faaslaw10.EvalRuns'. -/
def evalRunsUptoCard : Claim7 := { stood := { row := evalRunsUptoRow, standIns := [], harness := (true, "7fe2bc83ffe9c46f8db4fab32ff34b9f0de6d57aaadaebb5cd448b03382bd7e7"), looks := true }, kinds := [], alts := [], laidByText := true, laidKinds := [.data, .data, .data, .sentinel, .sentinel], laidTests := true, laidLooks := .later }
def EvalRunsUptoCardSaid : Prop := Claim7.holds Tryz.pinned (.plain (OpenSpec.upto evalRunsSpec)) evalRunsUptoCard

/-- THE SECOND FORM's CARD OF 'faaslaw10.EvalFollowsAnswers'. -/
def evalFollowsAnswersUptoCard : Claim7 := { stood := { row := evalFollowsAnswersUptoRow, standIns := [], harness := (true, "7fe2bc83ffe9c46f8db4fab32ff34b9f0de6d57aaadaebb5cd448b03382bd7e7"), looks := true }, kinds := [], alts := [], laidByText := true, laidKinds := [.data, .data, .data, .sentinel, .sentinel], laidTests := true, laidLooks := .later }
def EvalFollowsAnswersUptoCardSaid : Prop := Claim7.holds Tryz.pinned (.plain (OpenSpec.upto evalFollowsAnswersSpec)) evalFollowsAnswersUptoCard

/-- THE SECOND FORM's CARD OF 'faaslaw10.EvalFuel'. -/
def evalFuelUptoCard : Claim7 := { stood := { row := evalFuelUptoRow, standIns := [], harness := (true, "7fe2bc83ffe9c46f8db4fab32ff34b9f0de6d57aaadaebb5cd448b03382bd7e7"), looks := true }, kinds := [], alts := [], laidByText := true, laidKinds := [.data, .data, .data, .sentinel, .sentinel], laidTests := true, laidLooks := .later }
def EvalFuelUptoCardSaid : Prop := Claim7.holds Tryz.pinned (.plain (OpenSpec.upto evalFuelSpec)) evalFuelUptoCard
end Rows
end Go.Proofs.YtekdhlfapejijaaGreatDoor
