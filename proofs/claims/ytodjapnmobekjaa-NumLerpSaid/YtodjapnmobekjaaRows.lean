/-
  No cell of these rows narrows 'for every input' (looked for: loops, veiled, ifaces, maps, wideKeys, modest, calm, conditions, laid).
  DERIVED. THE GIVEN ROWS OF THIS SEAT. 9 by the template 'for every input the law returns true; each argument reads behind the call as it read before'; 0 by the template 'total and deterministic' (their statements: YtodjapnmobekjaaTotals.lean).
  GIVEN WITH THE SEED: the statements are not yours to turn. If you find one false, say at which input.
  Laid BY PROGRAM, IN A SANDBOX (cutbox-rows.mjs): the forced cells as the released guide's own fill.sh prints them over the translation 4574b74c491e9963… (all of the seat's roots in one cut). By AI agents, Wed Nov 11 2026. No macro, syntax, notation, axiom, sorry.
-/
import Derived.Test.YtodjapnmobekjaaChecked
import GoSem.Claim
import GoSem.ClaimJoined
import GoSem.ClaimMapViews
import Derived.JoinedTies
import Derived.KernelRfl
namespace Go.Proofs.Ytodjapnmobekjaa
/- THE CELL 'sum', in the pinned program and in every row, IS THE sha256 OF THE DUMP (.gsa) THAT YtodjapnmobekjaaProg.lean LOADS. Nothing in Lean hashes anything: it is a label: what it is worth is what the hold of that sum in a sandbox is worth. -/
noncomputable def Try.pinned : Pinned := { name := "ytodjapnmobekjaa", sum := "4574b74c491e9963048b9fb2ad9f3d39de897d6dcf2eedb207b2f93ac6891f1a", checked := Try.checked }
namespace Rows
def none {H : Type} : Left H := { results := [], args := [] }

/-- 'dancestudiolaw01.NumMeans': WHATEVER THE INPUT: true; the input reads as it did. -/
def numMeansSpec : ChangeSpec := { name := "numMeans", fn := fun _ => fun
  | [d] => { results := [.lit (.bool true)], args := [d] }
  | _ => none }
def numMeansRow : OpenClaim := { program := "ytodjapnmobekjaa", sum := "4574b74c491e9963048b9fb2ad9f3d39de897d6dcf2eedb207b2f93ac6891f1a", func := "dancestudio/dancestudiolaw01.NumMeans", spec := "numMeans", apart := false }
def NumMeansSaid : Prop := numMeansRow.holds Try.pinned (OpenSpec.ofChange numMeansSpec)

/-- ITS FALSE NEIGHBOUR: 'it returns false'. Refute it at one input. -/
def numMeansWrong : ChangeSpec := { name := "numMeans", fn := fun _ => fun
  | [d] => { results := [.lit (.bool false)], args := [d] }
  | _ => none }
def NumMeansWrongFalsely : Prop := numMeansRow.holds Try.pinned (OpenSpec.ofChange numMeansWrong)

/-- 'dancestudiolaw01.NumLerp': WHATEVER THE INPUT: true; the input reads as it did. -/
def numLerpSpec : ChangeSpec := { name := "numLerp", fn := fun _ => fun
  | [d] => { results := [.lit (.bool true)], args := [d] }
  | _ => none }
def numLerpRow : OpenClaim := { program := "ytodjapnmobekjaa", sum := "4574b74c491e9963048b9fb2ad9f3d39de897d6dcf2eedb207b2f93ac6891f1a", func := "dancestudio/dancestudiolaw01.NumLerp", spec := "numLerp", apart := false }
def NumLerpSaid : Prop := numLerpRow.holds Try.pinned (OpenSpec.ofChange numLerpSpec)

/-- ITS FALSE NEIGHBOUR: 'it returns false'. Refute it at one input. -/
def numLerpWrong : ChangeSpec := { name := "numLerp", fn := fun _ => fun
  | [d] => { results := [.lit (.bool false)], args := [d] }
  | _ => none }
def NumLerpWrongFalsely : Prop := numLerpRow.holds Try.pinned (OpenSpec.ofChange numLerpWrong)

/-- 'dancestudiolaw01.NumShift': WHATEVER THE INPUT: true; the input reads as it did. -/
def numShiftSpec : ChangeSpec := { name := "numShift", fn := fun _ => fun
  | [d1, d2] => { results := [.lit (.bool true)], args := [d1, d2] }
  | _ => none }
def numShiftRow : OpenClaim := { program := "ytodjapnmobekjaa", sum := "4574b74c491e9963048b9fb2ad9f3d39de897d6dcf2eedb207b2f93ac6891f1a", func := "dancestudio/dancestudiolaw01.NumShift", spec := "numShift", apart := false }
def NumShiftSaid : Prop := numShiftRow.holds Try.pinned (OpenSpec.ofChange numShiftSpec)

/-- ITS FALSE NEIGHBOUR: 'it returns false'. Refute it at one input. -/
def numShiftWrong : ChangeSpec := { name := "numShift", fn := fun _ => fun
  | [d1, d2] => { results := [.lit (.bool false)], args := [d1, d2] }
  | _ => none }
def NumShiftWrongFalsely : Prop := numShiftRow.holds Try.pinned (OpenSpec.ofChange numShiftWrong)

/-- 'dancestudiolaw01.NumRounds': WHATEVER THE INPUT: true; the input reads as it did. -/
def numRoundsSpec : ChangeSpec := { name := "numRounds", fn := fun _ => fun
  | [d1, d2] => { results := [.lit (.bool true)], args := [d1, d2] }
  | _ => none }
def numRoundsRow : OpenClaim := { program := "ytodjapnmobekjaa", sum := "4574b74c491e9963048b9fb2ad9f3d39de897d6dcf2eedb207b2f93ac6891f1a", func := "dancestudio/dancestudiolaw01.NumRounds", spec := "numRounds", apart := false }
def NumRoundsSaid : Prop := numRoundsRow.holds Try.pinned (OpenSpec.ofChange numRoundsSpec)

/-- ITS FALSE NEIGHBOUR: 'it returns false'. Refute it at one input. -/
def numRoundsWrong : ChangeSpec := { name := "numRounds", fn := fun _ => fun
  | [d1, d2] => { results := [.lit (.bool false)], args := [d1, d2] }
  | _ => none }
def NumRoundsWrongFalsely : Prop := numRoundsRow.holds Try.pinned (OpenSpec.ofChange numRoundsWrong)

/-- 'dancestudiolaw01.NumNearest': WHATEVER THE INPUT: true; the input reads as it did. -/
def numNearestSpec : ChangeSpec := { name := "numNearest", fn := fun _ => fun
  | [d1, d2] => { results := [.lit (.bool true)], args := [d1, d2] }
  | _ => none }
def numNearestRow : OpenClaim := { program := "ytodjapnmobekjaa", sum := "4574b74c491e9963048b9fb2ad9f3d39de897d6dcf2eedb207b2f93ac6891f1a", func := "dancestudio/dancestudiolaw01.NumNearest", spec := "numNearest", apart := false }
def NumNearestSaid : Prop := numNearestRow.holds Try.pinned (OpenSpec.ofChange numNearestSpec)

/-- ITS FALSE NEIGHBOUR: 'it returns false'. Refute it at one input. -/
def numNearestWrong : ChangeSpec := { name := "numNearest", fn := fun _ => fun
  | [d1, d2] => { results := [.lit (.bool false)], args := [d1, d2] }
  | _ => none }
def NumNearestWrongFalsely : Prop := numNearestRow.holds Try.pinned (OpenSpec.ofChange numNearestWrong)

/-- 'dancestudiolaw01.NumRoot': WHATEVER THE INPUT: true; the input reads as it did. -/
def numRootSpec : ChangeSpec := { name := "numRoot", fn := fun _ => fun
  | [d] => { results := [.lit (.bool true)], args := [d] }
  | _ => none }
def numRootRow : OpenClaim := { program := "ytodjapnmobekjaa", sum := "4574b74c491e9963048b9fb2ad9f3d39de897d6dcf2eedb207b2f93ac6891f1a", func := "dancestudio/dancestudiolaw01.NumRoot", spec := "numRoot", apart := false }
def NumRootSaid : Prop := numRootRow.holds Try.pinned (OpenSpec.ofChange numRootSpec)

/-- ITS FALSE NEIGHBOUR: 'it returns false'. Refute it at one input. -/
def numRootWrong : ChangeSpec := { name := "numRoot", fn := fun _ => fun
  | [d] => { results := [.lit (.bool false)], args := [d] }
  | _ => none }
def NumRootWrongFalsely : Prop := numRootRow.holds Try.pinned (OpenSpec.ofChange numRootWrong)

/-- 'dancestudiolaw01.NumGcd': WHATEVER THE INPUT: true; the input reads as it did. -/
def numGcdSpec : ChangeSpec := { name := "numGcd", fn := fun _ => fun
  | [d1, d2, d3] => { results := [.lit (.bool true)], args := [d1, d2, d3] }
  | _ => none }
def numGcdRow : OpenClaim := { program := "ytodjapnmobekjaa", sum := "4574b74c491e9963048b9fb2ad9f3d39de897d6dcf2eedb207b2f93ac6891f1a", func := "dancestudio/dancestudiolaw01.NumGcd", spec := "numGcd", apart := false }
def NumGcdSaid : Prop := numGcdRow.holds Try.pinned (OpenSpec.ofChange numGcdSpec)

/-- ITS FALSE NEIGHBOUR: 'it returns false'. Refute it at one input. -/
def numGcdWrong : ChangeSpec := { name := "numGcd", fn := fun _ => fun
  | [d1, d2, d3] => { results := [.lit (.bool false)], args := [d1, d2, d3] }
  | _ => none }
def NumGcdWrongFalsely : Prop := numGcdRow.holds Try.pinned (OpenSpec.ofChange numGcdWrong)

/-- 'dancestudiolaw01.NumCompares': WHATEVER THE INPUT: true; the input reads as it did. -/
def numComparesSpec : ChangeSpec := { name := "numCompares", fn := fun _ => fun
  | [d] => { results := [.lit (.bool true)], args := [d] }
  | _ => none }
def numComparesRow : OpenClaim := { program := "ytodjapnmobekjaa", sum := "4574b74c491e9963048b9fb2ad9f3d39de897d6dcf2eedb207b2f93ac6891f1a", func := "dancestudio/dancestudiolaw01.NumCompares", spec := "numCompares", apart := false }
def NumComparesSaid : Prop := numComparesRow.holds Try.pinned (OpenSpec.ofChange numComparesSpec)

/-- ITS FALSE NEIGHBOUR: 'it returns false'. Refute it at one input. -/
def numComparesWrong : ChangeSpec := { name := "numCompares", fn := fun _ => fun
  | [d] => { results := [.lit (.bool false)], args := [d] }
  | _ => none }
def NumComparesWrongFalsely : Prop := numComparesRow.holds Try.pinned (OpenSpec.ofChange numComparesWrong)

/-- 'dancestudiolaw01.NumOrder': WHATEVER THE INPUT: true; the input reads as it did. -/
def numOrderSpec : ChangeSpec := { name := "numOrder", fn := fun _ => fun
  | [d1, d2] => { results := [.lit (.bool true)], args := [d1, d2] }
  | _ => none }
def numOrderRow : OpenClaim := { program := "ytodjapnmobekjaa", sum := "4574b74c491e9963048b9fb2ad9f3d39de897d6dcf2eedb207b2f93ac6891f1a", func := "dancestudio/dancestudiolaw01.NumOrder", spec := "numOrder", apart := false }
def NumOrderSaid : Prop := numOrderRow.holds Try.pinned (OpenSpec.ofChange numOrderSpec)

/-- ITS FALSE NEIGHBOUR: 'it returns false'. Refute it at one input. -/
def numOrderWrong : ChangeSpec := { name := "numOrder", fn := fun _ => fun
  | [d1, d2] => { results := [.lit (.bool false)], args := [d1, d2] }
  | _ => none }
def NumOrderWrongFalsely : Prop := numOrderRow.holds Try.pinned (OpenSpec.ofChange numOrderWrong)

/- THE SECOND FORM. 'bulk': how many values and letters a reading holds, each counted each time it is reached (what is shared counts as often as it is met; a slice's spare places count too). A statement '..UptoSaid' is the law's where the arguments, and the package variables that the reading takes, are together of bulk at most 1048576: NARROWER than '..Said'. Prove '..Said' where nothing that the law and all that it calls make is longer than what came in: it says more and counts as full. Else prove '..UptoSaid'. A law counts once. -/
mutual
def uptoBulk {H : Type} : DataW H → Nat
  | .lit (.string bytes) => bytes.length + 1
  | .lit _ => 1
  | .nil => 1
  | .ptr d => uptoBulk d + 1
  | .slice elems spare => uptoBulkAll elems + uptoBulkAll spare + 1
  | .agg parts => uptoBulkAll parts + 1
  | .iface _ d => uptoBulk d + 1
  | .map entries => uptoBulkEntries entries + 1
  | .held _ => 1
def uptoBulkAll {H : Type} : List (DataW H) → Nat
  | [] => 0
  | d :: r => uptoBulk d + uptoBulkAll r
def uptoBulkEntries {H : Type} : List (Lit × DataW H) → Nat
  | [] => 0
  | x :: r => uptoBulkEntry x + uptoBulkEntries r
def uptoBulkEntry {H : Type} : Lit × DataW H → Nat
  | (.string bytes, d) => bytes.length + uptoBulk d + 1
  | (_, d) => uptoBulk d + 1
 end
def uptoSmall : (H : Type) → List (DataW H) → Bool := fun _ ds => decide (uptoBulkAll ds ≤ 1048576)
def OpenSpec.upto (s : _root_.Go.ChangeSpec) : _root_.Go.OpenSpec := { _root_.Go.OpenSpec.ofChange s with cond := some uptoSmall }

/-- 'dancestudiolaw01.NumMeans', WHERE WHAT IT READS IS OF BULK AT MOST 1048576: true; the input reads as it did. -/
def numMeansUptoRow : OpenClaim := { program := "ytodjapnmobekjaa", sum := "4574b74c491e9963048b9fb2ad9f3d39de897d6dcf2eedb207b2f93ac6891f1a", func := "dancestudio/dancestudiolaw01.NumMeans", spec := "numMeans", apart := false, narrowed := true }
def NumMeansUptoSaid : Prop := numMeansUptoRow.holds Try.pinned (OpenSpec.upto numMeansSpec)

/-- 'dancestudiolaw01.NumLerp', WHERE WHAT IT READS IS OF BULK AT MOST 1048576: true; the input reads as it did. -/
def numLerpUptoRow : OpenClaim := { program := "ytodjapnmobekjaa", sum := "4574b74c491e9963048b9fb2ad9f3d39de897d6dcf2eedb207b2f93ac6891f1a", func := "dancestudio/dancestudiolaw01.NumLerp", spec := "numLerp", apart := false, narrowed := true }
def NumLerpUptoSaid : Prop := numLerpUptoRow.holds Try.pinned (OpenSpec.upto numLerpSpec)

/-- 'dancestudiolaw01.NumShift', WHERE WHAT IT READS IS OF BULK AT MOST 1048576: true; the input reads as it did. -/
def numShiftUptoRow : OpenClaim := { program := "ytodjapnmobekjaa", sum := "4574b74c491e9963048b9fb2ad9f3d39de897d6dcf2eedb207b2f93ac6891f1a", func := "dancestudio/dancestudiolaw01.NumShift", spec := "numShift", apart := false, narrowed := true }
def NumShiftUptoSaid : Prop := numShiftUptoRow.holds Try.pinned (OpenSpec.upto numShiftSpec)

/-- 'dancestudiolaw01.NumRounds', WHERE WHAT IT READS IS OF BULK AT MOST 1048576: true; the input reads as it did. -/
def numRoundsUptoRow : OpenClaim := { program := "ytodjapnmobekjaa", sum := "4574b74c491e9963048b9fb2ad9f3d39de897d6dcf2eedb207b2f93ac6891f1a", func := "dancestudio/dancestudiolaw01.NumRounds", spec := "numRounds", apart := false, narrowed := true }
def NumRoundsUptoSaid : Prop := numRoundsUptoRow.holds Try.pinned (OpenSpec.upto numRoundsSpec)

/-- 'dancestudiolaw01.NumNearest', WHERE WHAT IT READS IS OF BULK AT MOST 1048576: true; the input reads as it did. -/
def numNearestUptoRow : OpenClaim := { program := "ytodjapnmobekjaa", sum := "4574b74c491e9963048b9fb2ad9f3d39de897d6dcf2eedb207b2f93ac6891f1a", func := "dancestudio/dancestudiolaw01.NumNearest", spec := "numNearest", apart := false, narrowed := true }
def NumNearestUptoSaid : Prop := numNearestUptoRow.holds Try.pinned (OpenSpec.upto numNearestSpec)

/-- 'dancestudiolaw01.NumRoot', WHERE WHAT IT READS IS OF BULK AT MOST 1048576: true; the input reads as it did. -/
def numRootUptoRow : OpenClaim := { program := "ytodjapnmobekjaa", sum := "4574b74c491e9963048b9fb2ad9f3d39de897d6dcf2eedb207b2f93ac6891f1a", func := "dancestudio/dancestudiolaw01.NumRoot", spec := "numRoot", apart := false, narrowed := true }
def NumRootUptoSaid : Prop := numRootUptoRow.holds Try.pinned (OpenSpec.upto numRootSpec)

/-- 'dancestudiolaw01.NumGcd', WHERE WHAT IT READS IS OF BULK AT MOST 1048576: true; the input reads as it did. -/
def numGcdUptoRow : OpenClaim := { program := "ytodjapnmobekjaa", sum := "4574b74c491e9963048b9fb2ad9f3d39de897d6dcf2eedb207b2f93ac6891f1a", func := "dancestudio/dancestudiolaw01.NumGcd", spec := "numGcd", apart := false, narrowed := true }
def NumGcdUptoSaid : Prop := numGcdUptoRow.holds Try.pinned (OpenSpec.upto numGcdSpec)

/-- 'dancestudiolaw01.NumCompares', WHERE WHAT IT READS IS OF BULK AT MOST 1048576: true; the input reads as it did. -/
def numComparesUptoRow : OpenClaim := { program := "ytodjapnmobekjaa", sum := "4574b74c491e9963048b9fb2ad9f3d39de897d6dcf2eedb207b2f93ac6891f1a", func := "dancestudio/dancestudiolaw01.NumCompares", spec := "numCompares", apart := false, narrowed := true }
def NumComparesUptoSaid : Prop := numComparesUptoRow.holds Try.pinned (OpenSpec.upto numComparesSpec)

/-- 'dancestudiolaw01.NumOrder', WHERE WHAT IT READS IS OF BULK AT MOST 1048576: true; the input reads as it did. -/
def numOrderUptoRow : OpenClaim := { program := "ytodjapnmobekjaa", sum := "4574b74c491e9963048b9fb2ad9f3d39de897d6dcf2eedb207b2f93ac6891f1a", func := "dancestudio/dancestudiolaw01.NumOrder", spec := "numOrder", apart := false, narrowed := true }
def NumOrderUptoSaid : Prop := numOrderUptoRow.holds Try.pinned (OpenSpec.upto numOrderSpec)

end Rows
end Go.Proofs.Ytodjapnmobekjaa
