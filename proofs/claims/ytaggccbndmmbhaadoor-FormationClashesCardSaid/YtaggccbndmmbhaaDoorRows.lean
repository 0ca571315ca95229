/-
  NARROWER THAN 'FOR EVERY INPUT', by the rows' own cells (each row's printed sentence says how): FormationChecks: laid · FormationFits: laid · FormationWays: laid · FormationClashes: laid · FormationTurns: laid · FormationLeast: laid · FormationTwins: laid · FormationThere: laid.
  DERIVED. THE GIVEN ROWS OF THIS SEAT. 8 by the template 'for every input the law returns true; each argument reads behind the call as it read before'; 0 by the template 'total and deterministic' (their statements: YtaggccbndmmbhaaDoorTotals.lean).
  GIVEN WITH THE SEED: the statements are not yours to turn. If you find one false, say at which input.
  Laid BY PROGRAM, IN A SANDBOX (cutbox-rows.mjs): the forced cells as the released guide's own fill.sh prints them over the translation 4e67894ade8dc0ed… (all of the seat's roots in one cut). By AI agents, Wed Nov 11 2026. No macro, syntax, notation, axiom, sorry.
-/
import Derived.Test.YtaggccbndmmbhaaDoorChecked
import GoSem.Claim
import GoSem.ClaimJoined
import GoSem.ClaimMapViews
import Derived.JoinedTies
import Derived.KernelRfl
namespace Go.Proofs.YtaggccbndmmbhaaDoor
/- THE CELL 'sum', in the pinned program and in every row, IS THE sha256 OF THE DUMP (.gsa) THAT YtaggccbndmmbhaaDoorProg.lean LOADS. Nothing in Lean hashes anything: it is a label: what it is worth is what the hold of that sum in a sandbox is worth. -/
noncomputable def Tryd.pinned : Pinned := { name := "ytaggccbndmmbhaadoor", sum := "4e67894ade8dc0ed78e5c497684fea8f96e42767dde057e603045040dc0605d4", checked := Tryd.checked }
namespace Rows
def none {H : Type} : Left H := { results := [], args := [] }

/- WHAT THE LISTED PACKAGE-LEVEL VARIABLES READ AS WHEN THE CALL BEGINS. Each datum BY PROGRAM (the guide's laid-datum.mjs) off the statement by which the dump's own 'gosem.cut.vars' lays the variable. In a bare row this is a premise. The card (YtaggccbndmmbhaaDoorCards.lean) ties it to the program's text. -/
def laid_dancestudio_angle_sines {H : Type} : DataW H := .agg [.lit (.int .i64 0), .lit (.int .i64 402), .lit (.int .i64 804), .lit (.int .i64 1205), .lit (.int .i64 1606), .lit (.int .i64 2006), .lit (.int .i64 2404), .lit (.int .i64 2801), .lit (.int .i64 3196), .lit (.int .i64 3590), .lit (.int .i64 3981), .lit (.int .i64 4370), .lit (.int .i64 4756), .lit (.int .i64 5139), .lit (.int .i64 5520), .lit (.int .i64 5897), .lit (.int .i64 6270), .lit (.int .i64 6639), .lit (.int .i64 7005), .lit (.int .i64 7366), .lit (.int .i64 7723), .lit (.int .i64 8076), .lit (.int .i64 8423), .lit (.int .i64 8765), .lit (.int .i64 9102), .lit (.int .i64 9434), .lit (.int .i64 9760), .lit (.int .i64 10080), .lit (.int .i64 10394), .lit (.int .i64 10702), .lit (.int .i64 11003), .lit (.int .i64 11297), .lit (.int .i64 11585), .lit (.int .i64 11866), .lit (.int .i64 12140), .lit (.int .i64 12406), .lit (.int .i64 12665), .lit (.int .i64 12916), .lit (.int .i64 13160), .lit (.int .i64 13395), .lit (.int .i64 13623), .lit (.int .i64 13842), .lit (.int .i64 14053), .lit (.int .i64 14256), .lit (.int .i64 14449), .lit (.int .i64 14635), .lit (.int .i64 14811), .lit (.int .i64 14978), .lit (.int .i64 15137), .lit (.int .i64 15286), .lit (.int .i64 15426), .lit (.int .i64 15557), .lit (.int .i64 15679), .lit (.int .i64 15791), .lit (.int .i64 15893), .lit (.int .i64 15986), .lit (.int .i64 16069), .lit (.int .i64 16143), .lit (.int .i64 16207), .lit (.int .i64 16261), .lit (.int .i64 16305), .lit (.int .i64 16340), .lit (.int .i64 16364), .lit (.int .i64 16379), .lit (.int .i64 16384)]

/-- 'dancestudiolaw45.FormationChecks': WHATEVER THE INPUT: true; the input reads as it did. -/
def formationChecksSpec : ChangeSpec := { name := "formationChecks", fn := fun _ => fun
  | [d] => { results := [.lit (.bool true)], args := [d] }
  | _ => none }
def formationChecksRow : OpenClaim := { program := "ytaggccbndmmbhaadoor", sum := "4e67894ade8dc0ed78e5c497684fea8f96e42767dde057e603045040dc0605d4", func := "dancestudio/dancestudiolaw45.FormationChecks", spec := "formationChecks", inPlace := ["internal/bytealg.IndexByteString", "internal/bytealg.IndexString"], unfollowed := true, recurses := true, named := ["internal/bytealg.MaxLen", "dancestudio/angle.sines"], plainKeys := false, apart := false, laid := [("dancestudio/angle.sines", laid_dancestudio_angle_sines)] }
def FormationChecksSaid : Prop := formationChecksRow.holds Tryd.pinned (OpenSpec.ofChange formationChecksSpec)

/-- ITS FALSE NEIGHBOUR: 'it returns false'. Refute it at one input. -/
def formationChecksWrong : ChangeSpec := { name := "formationChecks", fn := fun _ => fun
  | [d] => { results := [.lit (.bool false)], args := [d] }
  | _ => none }
def FormationChecksWrongFalsely : Prop := formationChecksRow.holds Tryd.pinned (OpenSpec.ofChange formationChecksWrong)

/-- 'dancestudiolaw45.FormationFits': WHATEVER THE INPUT: true; the input reads as it did. -/
def formationFitsSpec : ChangeSpec := { name := "formationFits", fn := fun _ => fun
  | [d1, d2] => { results := [.lit (.bool true)], args := [d1, d2] }
  | _ => none }
def formationFitsRow : OpenClaim := { program := "ytaggccbndmmbhaadoor", sum := "4e67894ade8dc0ed78e5c497684fea8f96e42767dde057e603045040dc0605d4", func := "dancestudio/dancestudiolaw45.FormationFits", spec := "formationFits", inPlace := ["internal/bytealg.IndexByteString", "internal/bytealg.IndexString"], unfollowed := true, recurses := true, named := ["internal/bytealg.MaxLen", "dancestudio/angle.sines"], plainKeys := false, apart := false, laid := [("dancestudio/angle.sines", laid_dancestudio_angle_sines)] }
def FormationFitsSaid : Prop := formationFitsRow.holds Tryd.pinned (OpenSpec.ofChange formationFitsSpec)

/-- ITS FALSE NEIGHBOUR: 'it returns false'. Refute it at one input. -/
def formationFitsWrong : ChangeSpec := { name := "formationFits", fn := fun _ => fun
  | [d1, d2] => { results := [.lit (.bool false)], args := [d1, d2] }
  | _ => none }
def FormationFitsWrongFalsely : Prop := formationFitsRow.holds Tryd.pinned (OpenSpec.ofChange formationFitsWrong)

/-- 'dancestudiolaw45.FormationWays': WHATEVER THE INPUT: true; the input reads as it did. -/
def formationWaysSpec : ChangeSpec := { name := "formationWays", fn := fun _ => fun
  | [d1, d2, d3] => { results := [.lit (.bool true)], args := [d1, d2, d3] }
  | _ => none }
def formationWaysRow : OpenClaim := { program := "ytaggccbndmmbhaadoor", sum := "4e67894ade8dc0ed78e5c497684fea8f96e42767dde057e603045040dc0605d4", func := "dancestudio/dancestudiolaw45.FormationWays", spec := "formationWays", inPlace := ["internal/bytealg.IndexByteString", "internal/bytealg.IndexString"], unfollowed := true, recurses := true, named := ["internal/bytealg.MaxLen", "dancestudio/angle.sines"], plainKeys := false, apart := false, laid := [("dancestudio/angle.sines", laid_dancestudio_angle_sines)] }
def FormationWaysSaid : Prop := formationWaysRow.holds Tryd.pinned (OpenSpec.ofChange formationWaysSpec)

/-- ITS FALSE NEIGHBOUR: 'it returns false'. Refute it at one input. -/
def formationWaysWrong : ChangeSpec := { name := "formationWays", fn := fun _ => fun
  | [d1, d2, d3] => { results := [.lit (.bool false)], args := [d1, d2, d3] }
  | _ => none }
def FormationWaysWrongFalsely : Prop := formationWaysRow.holds Tryd.pinned (OpenSpec.ofChange formationWaysWrong)

/-- 'dancestudiolaw45.FormationClashes': WHATEVER THE INPUT: true; the input reads as it did. -/
def formationClashesSpec : ChangeSpec := { name := "formationClashes", fn := fun _ => fun
  | [d] => { results := [.lit (.bool true)], args := [d] }
  | _ => none }
def formationClashesRow : OpenClaim := { program := "ytaggccbndmmbhaadoor", sum := "4e67894ade8dc0ed78e5c497684fea8f96e42767dde057e603045040dc0605d4", func := "dancestudio/dancestudiolaw45.FormationClashes", spec := "formationClashes", inPlace := ["internal/bytealg.IndexByteString", "internal/bytealg.IndexString"], unfollowed := true, recurses := true, named := ["internal/bytealg.MaxLen", "dancestudio/angle.sines"], plainKeys := false, apart := false, laid := [("dancestudio/angle.sines", laid_dancestudio_angle_sines)] }
def FormationClashesSaid : Prop := formationClashesRow.holds Tryd.pinned (OpenSpec.ofChange formationClashesSpec)

/-- ITS FALSE NEIGHBOUR: 'it returns false'. Refute it at one input. -/
def formationClashesWrong : ChangeSpec := { name := "formationClashes", fn := fun _ => fun
  | [d] => { results := [.lit (.bool false)], args := [d] }
  | _ => none }
def FormationClashesWrongFalsely : Prop := formationClashesRow.holds Tryd.pinned (OpenSpec.ofChange formationClashesWrong)

/-- 'dancestudiolaw45.FormationTurns': WHATEVER THE INPUT: true; the input reads as it did. -/
def formationTurnsSpec : ChangeSpec := { name := "formationTurns", fn := fun _ => fun
  | [d1, d2] => { results := [.lit (.bool true)], args := [d1, d2] }
  | _ => none }
def formationTurnsRow : OpenClaim := { program := "ytaggccbndmmbhaadoor", sum := "4e67894ade8dc0ed78e5c497684fea8f96e42767dde057e603045040dc0605d4", func := "dancestudio/dancestudiolaw45.FormationTurns", spec := "formationTurns", inPlace := ["internal/bytealg.IndexByteString", "internal/bytealg.IndexString"], unfollowed := true, recurses := true, named := ["internal/bytealg.MaxLen", "dancestudio/angle.sines"], plainKeys := false, apart := false, laid := [("dancestudio/angle.sines", laid_dancestudio_angle_sines)] }
def FormationTurnsSaid : Prop := formationTurnsRow.holds Tryd.pinned (OpenSpec.ofChange formationTurnsSpec)

/-- ITS FALSE NEIGHBOUR: 'it returns false'. Refute it at one input. -/
def formationTurnsWrong : ChangeSpec := { name := "formationTurns", fn := fun _ => fun
  | [d1, d2] => { results := [.lit (.bool false)], args := [d1, d2] }
  | _ => none }
def FormationTurnsWrongFalsely : Prop := formationTurnsRow.holds Tryd.pinned (OpenSpec.ofChange formationTurnsWrong)

/-- 'dancestudiolaw45.FormationLeast': WHATEVER THE INPUT: true; the input reads as it did. -/
def formationLeastSpec : ChangeSpec := { name := "formationLeast", fn := fun _ => fun
  | [d1, d2, d3] => { results := [.lit (.bool true)], args := [d1, d2, d3] }
  | _ => none }
def formationLeastRow : OpenClaim := { program := "ytaggccbndmmbhaadoor", sum := "4e67894ade8dc0ed78e5c497684fea8f96e42767dde057e603045040dc0605d4", func := "dancestudio/dancestudiolaw45.FormationLeast", spec := "formationLeast", inPlace := ["internal/bytealg.IndexByteString", "internal/bytealg.IndexString"], unfollowed := true, recurses := true, named := ["internal/bytealg.MaxLen", "dancestudio/angle.sines"], plainKeys := false, apart := false, laid := [("dancestudio/angle.sines", laid_dancestudio_angle_sines)] }
def FormationLeastSaid : Prop := formationLeastRow.holds Tryd.pinned (OpenSpec.ofChange formationLeastSpec)

/-- ITS FALSE NEIGHBOUR: 'it returns false'. Refute it at one input. -/
def formationLeastWrong : ChangeSpec := { name := "formationLeast", fn := fun _ => fun
  | [d1, d2, d3] => { results := [.lit (.bool false)], args := [d1, d2, d3] }
  | _ => none }
def FormationLeastWrongFalsely : Prop := formationLeastRow.holds Tryd.pinned (OpenSpec.ofChange formationLeastWrong)

/-- 'dancestudiolaw45.FormationTwins': WHATEVER THE INPUT: true; the input reads as it did. -/
def formationTwinsSpec : ChangeSpec := { name := "formationTwins", fn := fun _ => fun
  | [d1, d2] => { results := [.lit (.bool true)], args := [d1, d2] }
  | _ => none }
def formationTwinsRow : OpenClaim := { program := "ytaggccbndmmbhaadoor", sum := "4e67894ade8dc0ed78e5c497684fea8f96e42767dde057e603045040dc0605d4", func := "dancestudio/dancestudiolaw45.FormationTwins", spec := "formationTwins", inPlace := ["internal/bytealg.IndexByteString", "internal/bytealg.IndexString"], unfollowed := true, recurses := true, named := ["internal/bytealg.MaxLen", "dancestudio/angle.sines"], plainKeys := false, apart := false, laid := [("dancestudio/angle.sines", laid_dancestudio_angle_sines)] }
def FormationTwinsSaid : Prop := formationTwinsRow.holds Tryd.pinned (OpenSpec.ofChange formationTwinsSpec)

/-- ITS FALSE NEIGHBOUR: 'it returns false'. Refute it at one input. -/
def formationTwinsWrong : ChangeSpec := { name := "formationTwins", fn := fun _ => fun
  | [d1, d2] => { results := [.lit (.bool false)], args := [d1, d2] }
  | _ => none }
def FormationTwinsWrongFalsely : Prop := formationTwinsRow.holds Tryd.pinned (OpenSpec.ofChange formationTwinsWrong)

/-- 'dancestudiolaw45.FormationThere': WHATEVER THE INPUT: true; the input reads as it did. -/
def formationThereSpec : ChangeSpec := { name := "formationThere", fn := fun _ => fun
  | [d1, d2] => { results := [.lit (.bool true)], args := [d1, d2] }
  | _ => none }
def formationThereRow : OpenClaim := { program := "ytaggccbndmmbhaadoor", sum := "4e67894ade8dc0ed78e5c497684fea8f96e42767dde057e603045040dc0605d4", func := "dancestudio/dancestudiolaw45.FormationThere", spec := "formationThere", inPlace := ["internal/bytealg.IndexByteString", "internal/bytealg.IndexString"], unfollowed := true, recurses := true, named := ["internal/bytealg.MaxLen", "dancestudio/angle.sines"], plainKeys := false, apart := false, laid := [("dancestudio/angle.sines", laid_dancestudio_angle_sines)] }
def FormationThereSaid : Prop := formationThereRow.holds Tryd.pinned (OpenSpec.ofChange formationThereSpec)

/-- ITS FALSE NEIGHBOUR: 'it returns false'. Refute it at one input. -/
def formationThereWrong : ChangeSpec := { name := "formationThere", fn := fun _ => fun
  | [d1, d2] => { results := [.lit (.bool false)], args := [d1, d2] }
  | _ => none }
def FormationThereWrongFalsely : Prop := formationThereRow.holds Tryd.pinned (OpenSpec.ofChange formationThereWrong)

/- THE SECOND FORM. 'bulk': how many values and letters a reading holds, each counted each time it is reached (what is shared counts as often as it is met; a slice's spare places count too). A statement '..UptoSaid' is the law's where the arguments, and the package variables that the reading takes, are together of bulk at most 1048576: NARROWER than '..Said'. Prove '..Said' where nothing that the law and all that it calls make is longer than what came in: it says more and counts as full. Else prove '..UptoSaid'. A law counts once. -/
mutual
def uptoBulk {H : Type} : DataW H → Nat
  | .lit (.string bytes) => bytes.length + 1
  | .lit _ => 1
  | .nil => 1
  | .ptr d => uptoBulk d + 1
  | .slice elems spare => uptoBulkAll elems + uptoBulkAll spare + 1
  | .agg parts => uptoBulkAll parts + 1
  | .iface _ d => uptoBulk d + 1
  | .map entries => uptoBulkEntries entries + 1
  | .held _ => 1
def uptoBulkAll {H : Type} : List (DataW H) → Nat
  | [] => 0
  | d :: r => uptoBulk d + uptoBulkAll r
def uptoBulkEntries {H : Type} : List (Lit × DataW H) → Nat
  | [] => 0
  | x :: r => uptoBulkEntry x + uptoBulkEntries r
def uptoBulkEntry {H : Type} : Lit × DataW H → Nat
  | (.string bytes, d) => bytes.length + uptoBulk d + 1
  | (_, d) => uptoBulk d + 1
 end
def uptoSmall : (H : Type) → List (DataW H) → Bool := fun _ ds => decide (uptoBulkAll ds ≤ 1048576)
def OpenSpec.upto (s : _root_.Go.ChangeSpec) : _root_.Go.OpenSpec := { _root_.Go.OpenSpec.ofChange s with cond := some uptoSmall }

/-- 'dancestudiolaw45.FormationChecks', WHERE WHAT IT READS IS OF BULK AT MOST 1048576: true; the input reads as it did. -/
def formationChecksUptoRow : OpenClaim := { program := "ytaggccbndmmbhaadoor", sum := "4e67894ade8dc0ed78e5c497684fea8f96e42767dde057e603045040dc0605d4", func := "dancestudio/dancestudiolaw45.FormationChecks", spec := "formationChecks", inPlace := ["internal/bytealg.IndexByteString", "internal/bytealg.IndexString"], unfollowed := true, recurses := true, named := ["internal/bytealg.MaxLen", "dancestudio/angle.sines"], plainKeys := false, apart := false, laid := [("dancestudio/angle.sines", laid_dancestudio_angle_sines)], narrowed := true }
def FormationChecksUptoSaid : Prop := formationChecksUptoRow.holds Tryd.pinned (OpenSpec.upto formationChecksSpec)

/-- 'dancestudiolaw45.FormationFits', WHERE WHAT IT READS IS OF BULK AT MOST 1048576: true; the input reads as it did. -/
def formationFitsUptoRow : OpenClaim := { program := "ytaggccbndmmbhaadoor", sum := "4e67894ade8dc0ed78e5c497684fea8f96e42767dde057e603045040dc0605d4", func := "dancestudio/dancestudiolaw45.FormationFits", spec := "formationFits", inPlace := ["internal/bytealg.IndexByteString", "internal/bytealg.IndexString"], unfollowed := true, recurses := true, named := ["internal/bytealg.MaxLen", "dancestudio/angle.sines"], plainKeys := false, apart := false, laid := [("dancestudio/angle.sines", laid_dancestudio_angle_sines)], narrowed := true }
def FormationFitsUptoSaid : Prop := formationFitsUptoRow.holds Tryd.pinned (OpenSpec.upto formationFitsSpec)

/-- 'dancestudiolaw45.FormationWays', WHERE WHAT IT READS IS OF BULK AT MOST 1048576: true; the input reads as it did. -/
def formationWaysUptoRow : OpenClaim := { program := "ytaggccbndmmbhaadoor", sum := "4e67894ade8dc0ed78e5c497684fea8f96e42767dde057e603045040dc0605d4", func := "dancestudio/dancestudiolaw45.FormationWays", spec := "formationWays", inPlace := ["internal/bytealg.IndexByteString", "internal/bytealg.IndexString"], unfollowed := true, recurses := true, named := ["internal/bytealg.MaxLen", "dancestudio/angle.sines"], plainKeys := false, apart := false, laid := [("dancestudio/angle.sines", laid_dancestudio_angle_sines)], narrowed := true }
def FormationWaysUptoSaid : Prop := formationWaysUptoRow.holds Tryd.pinned (OpenSpec.upto formationWaysSpec)

/-- 'dancestudiolaw45.FormationClashes', WHERE WHAT IT READS IS OF BULK AT MOST 1048576: true; the input reads as it did. -/
def formationClashesUptoRow : OpenClaim := { program := "ytaggccbndmmbhaadoor", sum := "4e67894ade8dc0ed78e5c497684fea8f96e42767dde057e603045040dc0605d4", func := "dancestudio/dancestudiolaw45.FormationClashes", spec := "formationClashes", inPlace := ["internal/bytealg.IndexByteString", "internal/bytealg.IndexString"], unfollowed := true, recurses := true, named := ["internal/bytealg.MaxLen", "dancestudio/angle.sines"], plainKeys := false, apart := false, laid := [("dancestudio/angle.sines", laid_dancestudio_angle_sines)], narrowed := true }
def FormationClashesUptoSaid : Prop := formationClashesUptoRow.holds Tryd.pinned (OpenSpec.upto formationClashesSpec)

/-- 'dancestudiolaw45.FormationTurns', WHERE WHAT IT READS IS OF BULK AT MOST 1048576: true; the input reads as it did. -/
def formationTurnsUptoRow : OpenClaim := { program := "ytaggccbndmmbhaadoor", sum := "4e67894ade8dc0ed78e5c497684fea8f96e42767dde057e603045040dc0605d4", func := "dancestudio/dancestudiolaw45.FormationTurns", spec := "formationTurns", inPlace := ["internal/bytealg.IndexByteString", "internal/bytealg.IndexString"], unfollowed := true, recurses := true, named := ["internal/bytealg.MaxLen", "dancestudio/angle.sines"], plainKeys := false, apart := false, laid := [("dancestudio/angle.sines", laid_dancestudio_angle_sines)], narrowed := true }
def FormationTurnsUptoSaid : Prop := formationTurnsUptoRow.holds Tryd.pinned (OpenSpec.upto formationTurnsSpec)

/-- 'dancestudiolaw45.FormationLeast', WHERE WHAT IT READS IS OF BULK AT MOST 1048576: true; the input reads as it did. -/
def formationLeastUptoRow : OpenClaim := { program := "ytaggccbndmmbhaadoor", sum := "4e67894ade8dc0ed78e5c497684fea8f96e42767dde057e603045040dc0605d4", func := "dancestudio/dancestudiolaw45.FormationLeast", spec := "formationLeast", inPlace := ["internal/bytealg.IndexByteString", "internal/bytealg.IndexString"], unfollowed := true, recurses := true, named := ["internal/bytealg.MaxLen", "dancestudio/angle.sines"], plainKeys := false, apart := false, laid := [("dancestudio/angle.sines", laid_dancestudio_angle_sines)], narrowed := true }
def FormationLeastUptoSaid : Prop := formationLeastUptoRow.holds Tryd.pinned (OpenSpec.upto formationLeastSpec)

/-- 'dancestudiolaw45.FormationTwins', WHERE WHAT IT READS IS OF BULK AT MOST 1048576: true; the input reads as it did. -/
def formationTwinsUptoRow : OpenClaim := { program := "ytaggccbndmmbhaadoor", sum := "4e67894ade8dc0ed78e5c497684fea8f96e42767dde057e603045040dc0605d4", func := "dancestudio/dancestudiolaw45.FormationTwins", spec := "formationTwins", inPlace := ["internal/bytealg.IndexByteString", "internal/bytealg.IndexString"], unfollowed := true, recurses := true, named := ["internal/bytealg.MaxLen", "dancestudio/angle.sines"], plainKeys := false, apart := false, laid := [("dancestudio/angle.sines", laid_dancestudio_angle_sines)], narrowed := true }
def FormationTwinsUptoSaid : Prop := formationTwinsUptoRow.holds Tryd.pinned (OpenSpec.upto formationTwinsSpec)

/-- 'dancestudiolaw45.FormationThere', WHERE WHAT IT READS IS OF BULK AT MOST 1048576: true; the input reads as it did. -/
def formationThereUptoRow : OpenClaim := { program := "ytaggccbndmmbhaadoor", sum := "4e67894ade8dc0ed78e5c497684fea8f96e42767dde057e603045040dc0605d4", func := "dancestudio/dancestudiolaw45.FormationThere", spec := "formationThere", inPlace := ["internal/bytealg.IndexByteString", "internal/bytealg.IndexString"], unfollowed := true, recurses := true, named := ["internal/bytealg.MaxLen", "dancestudio/angle.sines"], plainKeys := false, apart := false, laid := [("dancestudio/angle.sines", laid_dancestudio_angle_sines)], narrowed := true }
def FormationThereUptoSaid : Prop := formationThereUptoRow.holds Tryd.pinned (OpenSpec.upto formationThereSpec)

end Rows
end Go.Proofs.YtaggccbndmmbhaaDoor
