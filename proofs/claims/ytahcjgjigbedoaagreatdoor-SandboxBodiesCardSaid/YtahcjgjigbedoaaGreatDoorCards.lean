/-
  DERIVED. GIVEN WITH THE SEED: THE CARDS: each row of YtahcjgjigbedoaaGreatDoorRows.lean that lists a variable, with what it lists TIED to the program's text (the seventh form; the later family's looks); each row that meets fmt, with fmt's text TOLD by the authors' own Lean function (tested against real Go, not proved from fmt's source: count such statements apart). THE CARD IS WHAT COUNTS. Prove the row's statement (the work); the ties are given (YtahcjgjigbedoaaGreatDoorTie.lean); close each card by the builder's one call (the guide's Derived/Test/ToyasCard.lean, 'card_holds'). Laid BY PROGRAM, IN A SANDBOX (cutbox-door.mjs). By AI agents, Wed Nov 11 2026. No macro, syntax, notation, axiom, sorry.
-/
import Derived.Test.YtahcjgjigbedoaaGreatDoorRows
import GoSem.ClaimSeven
namespace Go.Proofs.YtahcjgjigbedoaaGreatDoor
namespace Rows

/-- THE TIED CARD OF 'faaslaw36.SandboxBodies'. -/
def sandboxBodiesCard : Claim7 := { stood := { row := sandboxBodiesRow, standIns := [], harness := (true, "3c491e357d6fbfeef7f3d5bd0095aed66c78680193328eb6957971bbcb3a81e7"), looks := true }, kinds := [], alts := [], laidByText := true, laidKinds := [.data, .data, .data, .sentinel, .sentinel, .data], laidTests := true, laidLooks := .later }
def SandboxBodiesCardSaid : Prop := Claim7.holds Tryz.pinned (.plain (OpenSpec.ofChange sandboxBodiesSpec)) sandboxBodiesCard

/-- THE SECOND FORM's CARD OF 'faaslaw36.SandboxBodies'. -/
def sandboxBodiesUptoCard : Claim7 := { stood := { row := sandboxBodiesUptoRow, standIns := [], harness := (true, "3c491e357d6fbfeef7f3d5bd0095aed66c78680193328eb6957971bbcb3a81e7"), looks := true }, kinds := [], alts := [], laidByText := true, laidKinds := [.data, .data, .data, .sentinel, .sentinel, .data], laidTests := true, laidLooks := .later }
def SandboxBodiesUptoCardSaid : Prop := Claim7.holds Tryz.pinned (.plain (OpenSpec.upto sandboxBodiesSpec)) sandboxBodiesUptoCard
end Rows
end Go.Proofs.YtahcjgjigbedoaaGreatDoor
