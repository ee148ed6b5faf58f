/-
  No cell of these rows narrows 'for every input' (looked for: loops, veiled, ifaces, maps, wideKeys, modest, calm, conditions, laid).
  DERIVED. THE GIVEN ROWS OF THIS SEAT. 4 by the template 'for every input the law returns true; each argument reads behind the call as it read before'; 0 by the template 'total and deterministic' (their statements: YtcnmdhdoiekfoaaTotals.lean).
  GIVEN WITH THE SEED: the statements are not yours to turn. If you find one false, say at which input.
  Laid BY PROGRAM, IN A SANDBOX (cutbox-rows.mjs): the forced cells as the released guide's own fill.sh prints them over the translation 4ba2980ba79a4561… (all of the seat's roots in one cut). By AI agents, Wed Nov 11 2026. No macro, syntax, notation, axiom, sorry.
-/
import Derived.Test.YtcnmdhdoiekfoaaChecked
import GoSem.Claim
import GoSem.ClaimJoined
import GoSem.ClaimMapViews
import Derived.JoinedTies
import Derived.KernelRfl
namespace Go.Proofs.Ytcnmdhdoiekfoaa
/- THE CELL 'sum', in the pinned program and in every row, IS THE sha256 OF THE DUMP (.gsa) THAT YtcnmdhdoiekfoaaProg.lean LOADS. Nothing in Lean hashes anything: it is a label: what it is worth is what the hold of that sum in a sandbox is worth. -/
noncomputable def Try.pinned : Pinned := { name := "ytcnmdhdoiekfoaa", sum := "4ba2980ba79a4561ca99e2b4c509a7ecb3a3b2163ccbaa1e02070626888df263", checked := Try.checked }
namespace Rows
def none {H : Type} : Left H := { results := [], args := [] }

/-- 'faaslaw59.AuditFacts': WHATEVER THE INPUT: true; the input reads as it did. -/
def auditFactsSpec : ChangeSpec := { name := "auditFacts", fn := fun _ => fun
  | [d] => { results := [.lit (.bool true)], args := [d] }
  | _ => none }
def auditFactsRow : OpenClaim := { program := "ytcnmdhdoiekfoaa", sum := "4ba2980ba79a4561ca99e2b4c509a7ecb3a3b2163ccbaa1e02070626888df263", func := "faas/faaslaw59.AuditFacts", spec := "auditFacts", unfollowed := true, recurses := true, plainKeys := false, apart := false }
def AuditFactsSaid : Prop := auditFactsRow.holds Try.pinned (OpenSpec.ofChange auditFactsSpec)

/-- ITS FALSE NEIGHBOUR: 'it returns false'. Refute it at one input. -/
def auditFactsWrong : ChangeSpec := { name := "auditFacts", fn := fun _ => fun
  | [d] => { results := [.lit (.bool false)], args := [d] }
  | _ => none }
def AuditFactsWrongFalsely : Prop := auditFactsRow.holds Try.pinned (OpenSpec.ofChange auditFactsWrong)

/-- 'faaslaw59.AuditNotices': WHATEVER THE INPUT: true; the input reads as it did. -/
def auditNoticesSpec : ChangeSpec := { name := "auditNotices", fn := fun _ => fun
  | [d1, d2] => { results := [.lit (.bool true)], args := [d1, d2] }
  | _ => none }
def auditNoticesRow : OpenClaim := { program := "ytcnmdhdoiekfoaa", sum := "4ba2980ba79a4561ca99e2b4c509a7ecb3a3b2163ccbaa1e02070626888df263", func := "faas/faaslaw59.AuditNotices", spec := "auditNotices", unfollowed := true, recurses := true, plainKeys := false, apart := false }
def AuditNoticesSaid : Prop := auditNoticesRow.holds Try.pinned (OpenSpec.ofChange auditNoticesSpec)

/-- ITS FALSE NEIGHBOUR: 'it returns false'. Refute it at one input. -/
def auditNoticesWrong : ChangeSpec := { name := "auditNotices", fn := fun _ => fun
  | [d1, d2] => { results := [.lit (.bool false)], args := [d1, d2] }
  | _ => none }
def AuditNoticesWrongFalsely : Prop := auditNoticesRow.holds Try.pinned (OpenSpec.ofChange auditNoticesWrong)

/-- 'faaslaw59.AuditShares': WHATEVER THE INPUT: true; the input reads as it did. -/
def auditSharesSpec : ChangeSpec := { name := "auditShares", fn := fun _ => fun
  | [d1, d2, d3] => { results := [.lit (.bool true)], args := [d1, d2, d3] }
  | _ => none }
def auditSharesRow : OpenClaim := { program := "ytcnmdhdoiekfoaa", sum := "4ba2980ba79a4561ca99e2b4c509a7ecb3a3b2163ccbaa1e02070626888df263", func := "faas/faaslaw59.AuditShares", spec := "auditShares", unfollowed := true, recurses := true, plainKeys := false, apart := false }
def AuditSharesSaid : Prop := auditSharesRow.holds Try.pinned (OpenSpec.ofChange auditSharesSpec)

/-- ITS FALSE NEIGHBOUR: 'it returns false'. Refute it at one input. -/
def auditSharesWrong : ChangeSpec := { name := "auditShares", fn := fun _ => fun
  | [d1, d2, d3] => { results := [.lit (.bool false)], args := [d1, d2, d3] }
  | _ => none }
def AuditSharesWrongFalsely : Prop := auditSharesRow.holds Try.pinned (OpenSpec.ofChange auditSharesWrong)

/-- 'faaslaw59.AuditBills': WHATEVER THE INPUT: true; the input reads as it did. -/
def auditBillsSpec : ChangeSpec := { name := "auditBills", fn := fun _ => fun
  | [d1, d2, d3] => { results := [.lit (.bool true)], args := [d1, d2, d3] }
  | _ => none }
def auditBillsRow : OpenClaim := { program := "ytcnmdhdoiekfoaa", sum := "4ba2980ba79a4561ca99e2b4c509a7ecb3a3b2163ccbaa1e02070626888df263", func := "faas/faaslaw59.AuditBills", spec := "auditBills", unfollowed := true, recurses := true, plainKeys := false, apart := false }
def AuditBillsSaid : Prop := auditBillsRow.holds Try.pinned (OpenSpec.ofChange auditBillsSpec)

/-- ITS FALSE NEIGHBOUR: 'it returns false'. Refute it at one input. -/
def auditBillsWrong : ChangeSpec := { name := "auditBills", fn := fun _ => fun
  | [d1, d2, d3] => { results := [.lit (.bool false)], args := [d1, d2, d3] }
  | _ => none }
def AuditBillsWrongFalsely : Prop := auditBillsRow.holds Try.pinned (OpenSpec.ofChange auditBillsWrong)

/- THE SECOND FORM. 'bulk': how many values and letters a reading holds, each counted each time it is reached (what is shared counts as often as it is met; a slice's spare places count too). A statement '..UptoSaid' is the law's where the arguments, and the package variables that the reading takes, are together of bulk at most 1048576: NARROWER than '..Said'. Prove '..Said' where nothing that the law and all that it calls make is longer than what came in: it says more and counts as full. Else prove '..UptoSaid'. A law counts once. -/
mutual
def uptoBulk {H : Type} : DataW H → Nat
  | .lit (.string bytes) => bytes.length + 1
  | .lit _ => 1
  | .nil => 1
  | .ptr d => uptoBulk d + 1
  | .slice elems spare => uptoBulkAll elems + uptoBulkAll spare + 1
  | .agg parts => uptoBulkAll parts + 1
  | .iface _ d => uptoBulk d + 1
  | .map entries => uptoBulkEntries entries + 1
  | .held _ => 1
def uptoBulkAll {H : Type} : List (DataW H) → Nat
  | [] => 0
  | d :: r => uptoBulk d + uptoBulkAll r
def uptoBulkEntries {H : Type} : List (Lit × DataW H) → Nat
  | [] => 0
  | x :: r => uptoBulkEntry x + uptoBulkEntries r
def uptoBulkEntry {H : Type} : Lit × DataW H → Nat
  | (.string bytes, d) => bytes.length + uptoBulk d + 1
  | (_, d) => uptoBulk d + 1
 end
def uptoSmall : (H : Type) → List (DataW H) → Bool := fun _ ds => decide (uptoBulkAll ds ≤ 1048576)
def OpenSpec.upto (s : _root_.Go.ChangeSpec) : _root_.Go.OpenSpec := { _root_.Go.OpenSpec.ofChange s with cond := some uptoSmall }

/-- 'faaslaw59.AuditFacts', WHERE WHAT IT READS IS OF BULK AT MOST 1048576: true; the input reads as it did. -/
def auditFactsUptoRow : OpenClaim := { program := "ytcnmdhdoiekfoaa", sum := "4ba2980ba79a4561ca99e2b4c509a7ecb3a3b2163ccbaa1e02070626888df263", func := "faas/faaslaw59.AuditFacts", spec := "auditFacts", unfollowed := true, recurses := true, plainKeys := false, apart := false, narrowed := true }
def AuditFactsUptoSaid : Prop := auditFactsUptoRow.holds Try.pinned (OpenSpec.upto auditFactsSpec)

/-- 'faaslaw59.AuditNotices', WHERE WHAT IT READS IS OF BULK AT MOST 1048576: true; the input reads as it did. -/
def auditNoticesUptoRow : OpenClaim := { program := "ytcnmdhdoiekfoaa", sum := "4ba2980ba79a4561ca99e2b4c509a7ecb3a3b2163ccbaa1e02070626888df263", func := "faas/faaslaw59.AuditNotices", spec := "auditNotices", unfollowed := true, recurses := true, plainKeys := false, apart := false, narrowed := true }
def AuditNoticesUptoSaid : Prop := auditNoticesUptoRow.holds Try.pinned (OpenSpec.upto auditNoticesSpec)

/-- 'faaslaw59.AuditShares', WHERE WHAT IT READS IS OF BULK AT MOST 1048576: true; the input reads as it did. -/
def auditSharesUptoRow : OpenClaim := { program := "ytcnmdhdoiekfoaa", sum := "4ba2980ba79a4561ca99e2b4c509a7ecb3a3b2163ccbaa1e02070626888df263", func := "faas/faaslaw59.AuditShares", spec := "auditShares", unfollowed := true, recurses := true, plainKeys := false, apart := false, narrowed := true }
def AuditSharesUptoSaid : Prop := auditSharesUptoRow.holds Try.pinned (OpenSpec.upto auditSharesSpec)

/-- 'faaslaw59.AuditBills', WHERE WHAT IT READS IS OF BULK AT MOST 1048576: true; the input reads as it did. -/
def auditBillsUptoRow : OpenClaim := { program := "ytcnmdhdoiekfoaa", sum := "4ba2980ba79a4561ca99e2b4c509a7ecb3a3b2163ccbaa1e02070626888df263", func := "faas/faaslaw59.AuditBills", spec := "auditBills", unfollowed := true, recurses := true, plainKeys := false, apart := false, narrowed := true }
def AuditBillsUptoSaid : Prop := auditBillsUptoRow.holds Try.pinned (OpenSpec.upto auditBillsSpec)

end Rows
end Go.Proofs.Ytcnmdhdoiekfoaa
