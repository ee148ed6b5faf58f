/-
  DERIVED. GIVEN WITH THE SEED: THE CARDS: each row of YtcnmdhdoiekfoaaDoorRows.lean that lists a variable, with what it lists TIED to the program's text (the seventh form; the later family's looks); each row that meets fmt, with fmt's text TOLD by the authors' own Lean function (tested against real Go, not proved from fmt's source: count such statements apart). THE CARD IS WHAT COUNTS. Prove the row's statement (the work); the ties are given (YtcnmdhdoiekfoaaDoorTie.lean); close each card by the builder's one call (the guide's Derived/Test/ToyasCard.lean, 'card_holds'). Laid BY PROGRAM, IN A SANDBOX (cutbox-door.mjs). By AI agents, Wed Nov 11 2026. No macro, syntax, notation, axiom, sorry.
-/
import Derived.Test.YtcnmdhdoiekfoaaDoorRows
import GoSem.ClaimSeven
namespace Go.Proofs.YtcnmdhdoiekfoaaDoor
namespace Rows

/-- THE TIED CARD OF 'faaslaw59.AuditSpans'. -/
def auditSpansCard : Claim7 := { stood := { row := auditSpansRow, standIns := [], harness := (true, "d6058f92e0ab6bb902784d9c190401479a769d4ce1acf8fc2db29ffb118664c9"), looks := true }, kinds := [], alts := [], laidByText := true, laidKinds := [.data, .data, .data, .sentinel, .sentinel], laidTests := true, laidLooks := .later }
def AuditSpansCardSaid : Prop := Claim7.holds Tryd.pinned (.plain (OpenSpec.ofChange auditSpansSpec)) auditSpansCard

/-- THE SECOND FORM's CARD OF 'faaslaw59.AuditSpans'. -/
def auditSpansUptoCard : Claim7 := { stood := { row := auditSpansUptoRow, standIns := [], harness := (true, "d6058f92e0ab6bb902784d9c190401479a769d4ce1acf8fc2db29ffb118664c9"), looks := true }, kinds := [], alts := [], laidByText := true, laidKinds := [.data, .data, .data, .sentinel, .sentinel], laidTests := true, laidLooks := .later }
def AuditSpansUptoCardSaid : Prop := Claim7.holds Tryd.pinned (.plain (OpenSpec.upto auditSpansSpec)) auditSpansUptoCard
end Rows
end Go.Proofs.YtcnmdhdoiekfoaaDoor
