/-
  No cell of these rows narrows 'for every input' (looked for: loops, veiled, ifaces, maps, wideKeys, modest, calm, conditions, laid).
  DERIVED. THE GIVEN ROWS OF THIS SEAT. 8 by the template 'for every input the law returns true; each argument reads behind the call as it read before'; 0 by the template 'total and deterministic' (their statements: YtbmflpflmjfabaaTotals.lean).
  GIVEN WITH THE SEED: the statements are not yours to turn. If you find one false, say at which input.
  Laid BY PROGRAM, IN A SANDBOX (cutbox-rows.mjs): the forced cells as the released guide's own fill.sh prints them over the translation 4600d658eb2b0ff0… (all of the seat's roots in one cut). By AI agents, Wed Nov 11 2026. No macro, syntax, notation, axiom, sorry.
-/
import Derived.Test.YtbmflpflmjfabaaChecked
import GoSem.Claim
import GoSem.ClaimJoined
import GoSem.ClaimMapViews
import Derived.JoinedTies
import Derived.KernelRfl
namespace Go.Proofs.Ytbmflpflmjfabaa
/- THE CELL 'sum', in the pinned program and in every row, IS THE sha256 OF THE DUMP (.gsa) THAT YtbmflpflmjfabaaProg.lean LOADS. Nothing in Lean hashes anything: it is a label: what it is worth is what the hold of that sum in a sandbox is worth. -/
noncomputable def Try.pinned : Pinned := { name := "ytbmflpflmjfabaa", sum := "4600d658eb2b0ff02b2304593e173931601f0d70532c700e1a016eac84412504", checked := Try.checked }
namespace Rows
def none {H : Type} : Left H := { results := [], args := [] }

/-- 'dancestudiolaw11.AssignCheck': WHATEVER THE INPUT: true; the input reads as it did. -/
def assignCheckSpec : ChangeSpec := { name := "assignCheck", fn := fun _ => fun
  | [d1, d2] => { results := [.lit (.bool true)], args := [d1, d2] }
  | _ => none }
def assignCheckRow : OpenClaim := { program := "ytbmflpflmjfabaa", sum := "4600d658eb2b0ff02b2304593e173931601f0d70532c700e1a016eac84412504", func := "dancestudio/dancestudiolaw11.AssignCheck", spec := "assignCheck", apart := false }
def AssignCheckSaid : Prop := assignCheckRow.holds Try.pinned (OpenSpec.ofChange assignCheckSpec)

/-- ITS FALSE NEIGHBOUR: 'it returns false'. Refute it at one input. -/
def assignCheckWrong : ChangeSpec := { name := "assignCheck", fn := fun _ => fun
  | [d1, d2] => { results := [.lit (.bool false)], args := [d1, d2] }
  | _ => none }
def AssignCheckWrongFalsely : Prop := assignCheckRow.holds Try.pinned (OpenSpec.ofChange assignCheckWrong)

/-- 'dancestudiolaw11.AssignSolve': WHATEVER THE INPUT: true; the input reads as it did. -/
def assignSolveSpec : ChangeSpec := { name := "assignSolve", fn := fun _ => fun
  | [d] => { results := [.lit (.bool true)], args := [d] }
  | _ => none }
def assignSolveRow : OpenClaim := { program := "ytbmflpflmjfabaa", sum := "4600d658eb2b0ff02b2304593e173931601f0d70532c700e1a016eac84412504", func := "dancestudio/dancestudiolaw11.AssignSolve", spec := "assignSolve", apart := false }
def AssignSolveSaid : Prop := assignSolveRow.holds Try.pinned (OpenSpec.ofChange assignSolveSpec)

/-- ITS FALSE NEIGHBOUR: 'it returns false'. Refute it at one input. -/
def assignSolveWrong : ChangeSpec := { name := "assignSolve", fn := fun _ => fun
  | [d] => { results := [.lit (.bool false)], args := [d] }
  | _ => none }
def AssignSolveWrongFalsely : Prop := assignSolveRow.holds Try.pinned (OpenSpec.ofChange assignSolveWrong)

/-- 'dancestudiolaw11.AssignProof': WHATEVER THE INPUT: true; the input reads as it did. -/
def assignProofSpec : ChangeSpec := { name := "assignProof", fn := fun _ => fun
  | [d] => { results := [.lit (.bool true)], args := [d] }
  | _ => none }
def assignProofRow : OpenClaim := { program := "ytbmflpflmjfabaa", sum := "4600d658eb2b0ff02b2304593e173931601f0d70532c700e1a016eac84412504", func := "dancestudio/dancestudiolaw11.AssignProof", spec := "assignProof", apart := false }
def AssignProofSaid : Prop := assignProofRow.holds Try.pinned (OpenSpec.ofChange assignProofSpec)

/-- ITS FALSE NEIGHBOUR: 'it returns false'. Refute it at one input. -/
def assignProofWrong : ChangeSpec := { name := "assignProof", fn := fun _ => fun
  | [d] => { results := [.lit (.bool false)], args := [d] }
  | _ => none }
def AssignProofWrongFalsely : Prop := assignProofRow.holds Try.pinned (OpenSpec.ofChange assignProofWrong)

/-- 'dancestudiolaw11.AssignCost': WHATEVER THE INPUT: true; the input reads as it did. -/
def assignCostSpec : ChangeSpec := { name := "assignCost", fn := fun _ => fun
  | [d1, d2] => { results := [.lit (.bool true)], args := [d1, d2] }
  | _ => none }
def assignCostRow : OpenClaim := { program := "ytbmflpflmjfabaa", sum := "4600d658eb2b0ff02b2304593e173931601f0d70532c700e1a016eac84412504", func := "dancestudio/dancestudiolaw11.AssignCost", spec := "assignCost", apart := false }
def AssignCostSaid : Prop := assignCostRow.holds Try.pinned (OpenSpec.ofChange assignCostSpec)

/-- ITS FALSE NEIGHBOUR: 'it returns false'. Refute it at one input. -/
def assignCostWrong : ChangeSpec := { name := "assignCost", fn := fun _ => fun
  | [d1, d2] => { results := [.lit (.bool false)], args := [d1, d2] }
  | _ => none }
def AssignCostWrongFalsely : Prop := assignCostRow.holds Try.pinned (OpenSpec.ofChange assignCostWrong)

/-- 'dancestudiolaw11.AssignLeast': WHATEVER THE INPUT: true; the input reads as it did. -/
def assignLeastSpec : ChangeSpec := { name := "assignLeast", fn := fun _ => fun
  | [d1, d2] => { results := [.lit (.bool true)], args := [d1, d2] }
  | _ => none }
def assignLeastRow : OpenClaim := { program := "ytbmflpflmjfabaa", sum := "4600d658eb2b0ff02b2304593e173931601f0d70532c700e1a016eac84412504", func := "dancestudio/dancestudiolaw11.AssignLeast", spec := "assignLeast", apart := false }
def AssignLeastSaid : Prop := assignLeastRow.holds Try.pinned (OpenSpec.ofChange assignLeastSpec)

/-- ITS FALSE NEIGHBOUR: 'it returns false'. Refute it at one input. -/
def assignLeastWrong : ChangeSpec := { name := "assignLeast", fn := fun _ => fun
  | [d1, d2] => { results := [.lit (.bool false)], args := [d1, d2] }
  | _ => none }
def AssignLeastWrongFalsely : Prop := assignLeastRow.holds Try.pinned (OpenSpec.ofChange assignLeastWrong)

/-- 'dancestudiolaw11.AssignRows': WHATEVER THE INPUT: true; the input reads as it did. -/
def assignRowsSpec : ChangeSpec := { name := "assignRows", fn := fun _ => fun
  | [d1, d2, d3, d4] => { results := [.lit (.bool true)], args := [d1, d2, d3, d4] }
  | _ => none }
def assignRowsRow : OpenClaim := { program := "ytbmflpflmjfabaa", sum := "4600d658eb2b0ff02b2304593e173931601f0d70532c700e1a016eac84412504", func := "dancestudio/dancestudiolaw11.AssignRows", spec := "assignRows", apart := false }
def AssignRowsSaid : Prop := assignRowsRow.holds Try.pinned (OpenSpec.ofChange assignRowsSpec)

/-- ITS FALSE NEIGHBOUR: 'it returns false'. Refute it at one input. -/
def assignRowsWrong : ChangeSpec := { name := "assignRows", fn := fun _ => fun
  | [d1, d2, d3, d4] => { results := [.lit (.bool false)], args := [d1, d2, d3, d4] }
  | _ => none }
def AssignRowsWrongFalsely : Prop := assignRowsRow.holds Try.pinned (OpenSpec.ofChange assignRowsWrong)

/-- 'dancestudiolaw11.AssignTransposed': WHATEVER THE INPUT: true; the input reads as it did. -/
def assignTransposedSpec : ChangeSpec := { name := "assignTransposed", fn := fun _ => fun
  | [d] => { results := [.lit (.bool true)], args := [d] }
  | _ => none }
def assignTransposedRow : OpenClaim := { program := "ytbmflpflmjfabaa", sum := "4600d658eb2b0ff02b2304593e173931601f0d70532c700e1a016eac84412504", func := "dancestudio/dancestudiolaw11.AssignTransposed", spec := "assignTransposed", apart := false }
def AssignTransposedSaid : Prop := assignTransposedRow.holds Try.pinned (OpenSpec.ofChange assignTransposedSpec)

/-- ITS FALSE NEIGHBOUR: 'it returns false'. Refute it at one input. -/
def assignTransposedWrong : ChangeSpec := { name := "assignTransposed", fn := fun _ => fun
  | [d] => { results := [.lit (.bool false)], args := [d] }
  | _ => none }
def AssignTransposedWrongFalsely : Prop := assignTransposedRow.holds Try.pinned (OpenSpec.ofChange assignTransposedWrong)

/-- 'dancestudiolaw11.AssignMatch': WHATEVER THE INPUT: true; the input reads as it did. -/
def assignMatchSpec : ChangeSpec := { name := "assignMatch", fn := fun _ => fun
  | [d] => { results := [.lit (.bool true)], args := [d] }
  | _ => none }
def assignMatchRow : OpenClaim := { program := "ytbmflpflmjfabaa", sum := "4600d658eb2b0ff02b2304593e173931601f0d70532c700e1a016eac84412504", func := "dancestudio/dancestudiolaw11.AssignMatch", spec := "assignMatch", unfollowed := true, recurses := true, apart := false }
def AssignMatchSaid : Prop := assignMatchRow.holds Try.pinned (OpenSpec.ofChange assignMatchSpec)

/-- ITS FALSE NEIGHBOUR: 'it returns false'. Refute it at one input. -/
def assignMatchWrong : ChangeSpec := { name := "assignMatch", fn := fun _ => fun
  | [d] => { results := [.lit (.bool false)], args := [d] }
  | _ => none }
def AssignMatchWrongFalsely : Prop := assignMatchRow.holds Try.pinned (OpenSpec.ofChange assignMatchWrong)

/- THE SECOND FORM. 'bulk': how many values and letters a reading holds, each counted each time it is reached (what is shared counts as often as it is met; a slice's spare places count too). A statement '..UptoSaid' is the law's where the arguments, and the package variables that the reading takes, are together of bulk at most 1048576: NARROWER than '..Said'. Prove '..Said' where nothing that the law and all that it calls make is longer than what came in: it says more and counts as full. Else prove '..UptoSaid'. A law counts once. -/
mutual
def uptoBulk {H : Type} : DataW H → Nat
  | .lit (.string bytes) => bytes.length + 1
  | .lit _ => 1
  | .nil => 1
  | .ptr d => uptoBulk d + 1
  | .slice elems spare => uptoBulkAll elems + uptoBulkAll spare + 1
  | .agg parts => uptoBulkAll parts + 1
  | .iface _ d => uptoBulk d + 1
  | .map entries => uptoBulkEntries entries + 1
  | .held _ => 1
def uptoBulkAll {H : Type} : List (DataW H) → Nat
  | [] => 0
  | d :: r => uptoBulk d + uptoBulkAll r
def uptoBulkEntries {H : Type} : List (Lit × DataW H) → Nat
  | [] => 0
  | x :: r => uptoBulkEntry x + uptoBulkEntries r
def uptoBulkEntry {H : Type} : Lit × DataW H → Nat
  | (.string bytes, d) => bytes.length + uptoBulk d + 1
  | (_, d) => uptoBulk d + 1
 end
def uptoSmall : (H : Type) → List (DataW H) → Bool := fun _ ds => decide (uptoBulkAll ds ≤ 1048576)
def OpenSpec.upto (s : _root_.Go.ChangeSpec) : _root_.Go.OpenSpec := { _root_.Go.OpenSpec.ofChange s with cond := some uptoSmall }

/-- 'dancestudiolaw11.AssignCheck', WHERE WHAT IT READS IS OF BULK AT MOST 1048576: true; the input reads as it did. -/
def assignCheckUptoRow : OpenClaim := { program := "ytbmflpflmjfabaa", sum := "4600d658eb2b0ff02b2304593e173931601f0d70532c700e1a016eac84412504", func := "dancestudio/dancestudiolaw11.AssignCheck", spec := "assignCheck", apart := false, narrowed := true }
def AssignCheckUptoSaid : Prop := assignCheckUptoRow.holds Try.pinned (OpenSpec.upto assignCheckSpec)

/-- 'dancestudiolaw11.AssignSolve', WHERE WHAT IT READS IS OF BULK AT MOST 1048576: true; the input reads as it did. -/
def assignSolveUptoRow : OpenClaim := { program := "ytbmflpflmjfabaa", sum := "4600d658eb2b0ff02b2304593e173931601f0d70532c700e1a016eac84412504", func := "dancestudio/dancestudiolaw11.AssignSolve", spec := "assignSolve", apart := false, narrowed := true }
def AssignSolveUptoSaid : Prop := assignSolveUptoRow.holds Try.pinned (OpenSpec.upto assignSolveSpec)

/-- 'dancestudiolaw11.AssignProof', WHERE WHAT IT READS IS OF BULK AT MOST 1048576: true; the input reads as it did. -/
def assignProofUptoRow : OpenClaim := { program := "ytbmflpflmjfabaa", sum := "4600d658eb2b0ff02b2304593e173931601f0d70532c700e1a016eac84412504", func := "dancestudio/dancestudiolaw11.AssignProof", spec := "assignProof", apart := false, narrowed := true }
def AssignProofUptoSaid : Prop := assignProofUptoRow.holds Try.pinned (OpenSpec.upto assignProofSpec)

/-- 'dancestudiolaw11.AssignCost', WHERE WHAT IT READS IS OF BULK AT MOST 1048576: true; the input reads as it did. -/
def assignCostUptoRow : OpenClaim := { program := "ytbmflpflmjfabaa", sum := "4600d658eb2b0ff02b2304593e173931601f0d70532c700e1a016eac84412504", func := "dancestudio/dancestudiolaw11.AssignCost", spec := "assignCost", apart := false, narrowed := true }
def AssignCostUptoSaid : Prop := assignCostUptoRow.holds Try.pinned (OpenSpec.upto assignCostSpec)

/-- 'dancestudiolaw11.AssignLeast', WHERE WHAT IT READS IS OF BULK AT MOST 1048576: true; the input reads as it did. -/
def assignLeastUptoRow : OpenClaim := { program := "ytbmflpflmjfabaa", sum := "4600d658eb2b0ff02b2304593e173931601f0d70532c700e1a016eac84412504", func := "dancestudio/dancestudiolaw11.AssignLeast", spec := "assignLeast", apart := false, narrowed := true }
def AssignLeastUptoSaid : Prop := assignLeastUptoRow.holds Try.pinned (OpenSpec.upto assignLeastSpec)

/-- 'dancestudiolaw11.AssignRows', WHERE WHAT IT READS IS OF BULK AT MOST 1048576: true; the input reads as it did. -/
def assignRowsUptoRow : OpenClaim := { program := "ytbmflpflmjfabaa", sum := "4600d658eb2b0ff02b2304593e173931601f0d70532c700e1a016eac84412504", func := "dancestudio/dancestudiolaw11.AssignRows", spec := "assignRows", apart := false, narrowed := true }
def AssignRowsUptoSaid : Prop := assignRowsUptoRow.holds Try.pinned (OpenSpec.upto assignRowsSpec)

/-- 'dancestudiolaw11.AssignTransposed', WHERE WHAT IT READS IS OF BULK AT MOST 1048576: true; the input reads as it did. -/
def assignTransposedUptoRow : OpenClaim := { program := "ytbmflpflmjfabaa", sum := "4600d658eb2b0ff02b2304593e173931601f0d70532c700e1a016eac84412504", func := "dancestudio/dancestudiolaw11.AssignTransposed", spec := "assignTransposed", apart := false, narrowed := true }
def AssignTransposedUptoSaid : Prop := assignTransposedUptoRow.holds Try.pinned (OpenSpec.upto assignTransposedSpec)

/-- 'dancestudiolaw11.AssignMatch', WHERE WHAT IT READS IS OF BULK AT MOST 1048576: true; the input reads as it did. -/
def assignMatchUptoRow : OpenClaim := { program := "ytbmflpflmjfabaa", sum := "4600d658eb2b0ff02b2304593e173931601f0d70532c700e1a016eac84412504", func := "dancestudio/dancestudiolaw11.AssignMatch", spec := "assignMatch", unfollowed := true, recurses := true, apart := false, narrowed := true }
def AssignMatchUptoSaid : Prop := assignMatchUptoRow.holds Try.pinned (OpenSpec.upto assignMatchSpec)

end Rows
end Go.Proofs.Ytbmflpflmjfabaa
