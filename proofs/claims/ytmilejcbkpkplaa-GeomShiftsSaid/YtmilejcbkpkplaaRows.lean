/-
  No cell of these rows narrows 'for every input' (looked for: loops, veiled, ifaces, maps, wideKeys, modest, calm, conditions, laid).
  DERIVED. THE GIVEN ROWS OF THIS SEAT. 8 by the template 'for every input the law returns true; each argument reads behind the call as it read before'; 0 by the template 'total and deterministic' (their statements: YtmilejcbkpkplaaTotals.lean).
  GIVEN WITH THE SEED: the statements are not yours to turn. If you find one false, say at which input.
  Laid BY PROGRAM, IN A SANDBOX (cutbox-rows.mjs): the forced cells as the released guide's own fill.sh prints them over the translation 7dc6170379aae1fd… (all of the seat's roots in one cut). By AI agents, Wed Nov 11 2026. No macro, syntax, notation, axiom, sorry.
-/
import Derived.Test.YtmilejcbkpkplaaChecked
import GoSem.Claim
import GoSem.ClaimJoined
import GoSem.ClaimMapViews
import Derived.JoinedTies
import Derived.KernelRfl
namespace Go.Proofs.Ytmilejcbkpkplaa
/- THE CELL 'sum', in the pinned program and in every row, IS THE sha256 OF THE DUMP (.gsa) THAT YtmilejcbkpkplaaProg.lean LOADS. Nothing in Lean hashes anything: it is a label: what it is worth is what the hold of that sum in a sandbox is worth. -/
noncomputable def Try.pinned : Pinned := { name := "ytmilejcbkpkplaa", sum := "7dc6170379aae1fd395a660f134e2e5f11f5f0cbca11f1f7eb28b12f63206b64", checked := Try.checked }
namespace Rows
def none {H : Type} : Left H := { results := [], args := [] }

/-- 'dancestudiolaw03.GeomMeasures': WHATEVER THE INPUT: true; the input reads as it did. -/
def geomMeasuresSpec : ChangeSpec := { name := "geomMeasures", fn := fun _ => fun
  | [d1, d2, d3] => { results := [.lit (.bool true)], args := [d1, d2, d3] }
  | _ => none }
def geomMeasuresRow : OpenClaim := { program := "ytmilejcbkpkplaa", sum := "7dc6170379aae1fd395a660f134e2e5f11f5f0cbca11f1f7eb28b12f63206b64", func := "dancestudio/dancestudiolaw03.GeomMeasures", spec := "geomMeasures", unfollowed := true, recurses := true, apart := false }
def GeomMeasuresSaid : Prop := geomMeasuresRow.holds Try.pinned (OpenSpec.ofChange geomMeasuresSpec)

/-- ITS FALSE NEIGHBOUR: 'it returns false'. Refute it at one input. -/
def geomMeasuresWrong : ChangeSpec := { name := "geomMeasures", fn := fun _ => fun
  | [d1, d2, d3] => { results := [.lit (.bool false)], args := [d1, d2, d3] }
  | _ => none }
def GeomMeasuresWrongFalsely : Prop := geomMeasuresRow.holds Try.pinned (OpenSpec.ofChange geomMeasuresWrong)

/-- 'dancestudiolaw03.GeomNear': WHATEVER THE INPUT: true; the input reads as it did. -/
def geomNearSpec : ChangeSpec := { name := "geomNear", fn := fun _ => fun
  | [d] => { results := [.lit (.bool true)], args := [d] }
  | _ => none }
def geomNearRow : OpenClaim := { program := "ytmilejcbkpkplaa", sum := "7dc6170379aae1fd395a660f134e2e5f11f5f0cbca11f1f7eb28b12f63206b64", func := "dancestudio/dancestudiolaw03.GeomNear", spec := "geomNear", unfollowed := true, recurses := true, apart := false }
def GeomNearSaid : Prop := geomNearRow.holds Try.pinned (OpenSpec.ofChange geomNearSpec)

/-- ITS FALSE NEIGHBOUR: 'it returns false'. Refute it at one input. -/
def geomNearWrong : ChangeSpec := { name := "geomNear", fn := fun _ => fun
  | [d] => { results := [.lit (.bool false)], args := [d] }
  | _ => none }
def GeomNearWrongFalsely : Prop := geomNearRow.holds Try.pinned (OpenSpec.ofChange geomNearWrong)

/-- 'dancestudiolaw03.GeomTouch': WHATEVER THE INPUT: true; the input reads as it did. -/
def geomTouchSpec : ChangeSpec := { name := "geomTouch", fn := fun _ => fun
  | [d1, d2] => { results := [.lit (.bool true)], args := [d1, d2] }
  | _ => none }
def geomTouchRow : OpenClaim := { program := "ytmilejcbkpkplaa", sum := "7dc6170379aae1fd395a660f134e2e5f11f5f0cbca11f1f7eb28b12f63206b64", func := "dancestudio/dancestudiolaw03.GeomTouch", spec := "geomTouch", unfollowed := true, recurses := true, apart := false }
def GeomTouchSaid : Prop := geomTouchRow.holds Try.pinned (OpenSpec.ofChange geomTouchSpec)

/-- ITS FALSE NEIGHBOUR: 'it returns false'. Refute it at one input. -/
def geomTouchWrong : ChangeSpec := { name := "geomTouch", fn := fun _ => fun
  | [d1, d2] => { results := [.lit (.bool false)], args := [d1, d2] }
  | _ => none }
def GeomTouchWrongFalsely : Prop := geomTouchRow.holds Try.pinned (OpenSpec.ofChange geomTouchWrong)

/-- 'dancestudiolaw03.GeomMoments': WHATEVER THE INPUT: true; the input reads as it did. -/
def geomMomentsSpec : ChangeSpec := { name := "geomMoments", fn := fun _ => fun
  | [d1, d2, d3] => { results := [.lit (.bool true)], args := [d1, d2, d3] }
  | _ => none }
def geomMomentsRow : OpenClaim := { program := "ytmilejcbkpkplaa", sum := "7dc6170379aae1fd395a660f134e2e5f11f5f0cbca11f1f7eb28b12f63206b64", func := "dancestudio/dancestudiolaw03.GeomMoments", spec := "geomMoments", unfollowed := true, recurses := true, apart := false }
def GeomMomentsSaid : Prop := geomMomentsRow.holds Try.pinned (OpenSpec.ofChange geomMomentsSpec)

/-- ITS FALSE NEIGHBOUR: 'it returns false'. Refute it at one input. -/
def geomMomentsWrong : ChangeSpec := { name := "geomMoments", fn := fun _ => fun
  | [d1, d2, d3] => { results := [.lit (.bool false)], args := [d1, d2, d3] }
  | _ => none }
def GeomMomentsWrongFalsely : Prop := geomMomentsRow.holds Try.pinned (OpenSpec.ofChange geomMomentsWrong)

/-- 'dancestudiolaw03.GeomHull': WHATEVER THE INPUT: true; the input reads as it did. -/
def geomHullSpec : ChangeSpec := { name := "geomHull", fn := fun _ => fun
  | [d] => { results := [.lit (.bool true)], args := [d] }
  | _ => none }
def geomHullRow : OpenClaim := { program := "ytmilejcbkpkplaa", sum := "7dc6170379aae1fd395a660f134e2e5f11f5f0cbca11f1f7eb28b12f63206b64", func := "dancestudio/dancestudiolaw03.GeomHull", spec := "geomHull", unfollowed := true, recurses := true, apart := false }
def GeomHullSaid : Prop := geomHullRow.holds Try.pinned (OpenSpec.ofChange geomHullSpec)

/-- ITS FALSE NEIGHBOUR: 'it returns false'. Refute it at one input. -/
def geomHullWrong : ChangeSpec := { name := "geomHull", fn := fun _ => fun
  | [d] => { results := [.lit (.bool false)], args := [d] }
  | _ => none }
def GeomHullWrongFalsely : Prop := geomHullRow.holds Try.pinned (OpenSpec.ofChange geomHullWrong)

/-- 'dancestudiolaw03.GeomInside': WHATEVER THE INPUT: true; the input reads as it did. -/
def geomInsideSpec : ChangeSpec := { name := "geomInside", fn := fun _ => fun
  | [d1, d2] => { results := [.lit (.bool true)], args := [d1, d2] }
  | _ => none }
def geomInsideRow : OpenClaim := { program := "ytmilejcbkpkplaa", sum := "7dc6170379aae1fd395a660f134e2e5f11f5f0cbca11f1f7eb28b12f63206b64", func := "dancestudio/dancestudiolaw03.GeomInside", spec := "geomInside", unfollowed := true, recurses := true, apart := false }
def GeomInsideSaid : Prop := geomInsideRow.holds Try.pinned (OpenSpec.ofChange geomInsideSpec)

/-- ITS FALSE NEIGHBOUR: 'it returns false'. Refute it at one input. -/
def geomInsideWrong : ChangeSpec := { name := "geomInside", fn := fun _ => fun
  | [d1, d2] => { results := [.lit (.bool false)], args := [d1, d2] }
  | _ => none }
def GeomInsideWrongFalsely : Prop := geomInsideRow.holds Try.pinned (OpenSpec.ofChange geomInsideWrong)

/-- 'dancestudiolaw03.GeomCorners': WHATEVER THE INPUT: true; the input reads as it did. -/
def geomCornersSpec : ChangeSpec := { name := "geomCorners", fn := fun _ => fun
  | [d1, d2] => { results := [.lit (.bool true)], args := [d1, d2] }
  | _ => none }
def geomCornersRow : OpenClaim := { program := "ytmilejcbkpkplaa", sum := "7dc6170379aae1fd395a660f134e2e5f11f5f0cbca11f1f7eb28b12f63206b64", func := "dancestudio/dancestudiolaw03.GeomCorners", spec := "geomCorners", unfollowed := true, recurses := true, apart := false }
def GeomCornersSaid : Prop := geomCornersRow.holds Try.pinned (OpenSpec.ofChange geomCornersSpec)

/-- ITS FALSE NEIGHBOUR: 'it returns false'. Refute it at one input. -/
def geomCornersWrong : ChangeSpec := { name := "geomCorners", fn := fun _ => fun
  | [d1, d2] => { results := [.lit (.bool false)], args := [d1, d2] }
  | _ => none }
def GeomCornersWrongFalsely : Prop := geomCornersRow.holds Try.pinned (OpenSpec.ofChange geomCornersWrong)

/-- 'dancestudiolaw03.GeomShifts': WHATEVER THE INPUT: true; the input reads as it did. -/
def geomShiftsSpec : ChangeSpec := { name := "geomShifts", fn := fun _ => fun
  | [d1, d2, d3] => { results := [.lit (.bool true)], args := [d1, d2, d3] }
  | _ => none }
def geomShiftsRow : OpenClaim := { program := "ytmilejcbkpkplaa", sum := "7dc6170379aae1fd395a660f134e2e5f11f5f0cbca11f1f7eb28b12f63206b64", func := "dancestudio/dancestudiolaw03.GeomShifts", spec := "geomShifts", unfollowed := true, recurses := true, apart := false }
def GeomShiftsSaid : Prop := geomShiftsRow.holds Try.pinned (OpenSpec.ofChange geomShiftsSpec)

/-- ITS FALSE NEIGHBOUR: 'it returns false'. Refute it at one input. -/
def geomShiftsWrong : ChangeSpec := { name := "geomShifts", fn := fun _ => fun
  | [d1, d2, d3] => { results := [.lit (.bool false)], args := [d1, d2, d3] }
  | _ => none }
def GeomShiftsWrongFalsely : Prop := geomShiftsRow.holds Try.pinned (OpenSpec.ofChange geomShiftsWrong)

/- THE SECOND FORM. 'bulk': how many values and letters a reading holds, each counted each time it is reached (what is shared counts as often as it is met; a slice's spare places count too). A statement '..UptoSaid' is the law's where the arguments, and the package variables that the reading takes, are together of bulk at most 1048576: NARROWER than '..Said'. Prove '..Said' where nothing that the law and all that it calls make is longer than what came in: it says more and counts as full. Else prove '..UptoSaid'. A law counts once. -/
mutual
def uptoBulk {H : Type} : DataW H → Nat
  | .lit (.string bytes) => bytes.length + 1
  | .lit _ => 1
  | .nil => 1
  | .ptr d => uptoBulk d + 1
  | .slice elems spare => uptoBulkAll elems + uptoBulkAll spare + 1
  | .agg parts => uptoBulkAll parts + 1
  | .iface _ d => uptoBulk d + 1
  | .map entries => uptoBulkEntries entries + 1
  | .held _ => 1
def uptoBulkAll {H : Type} : List (DataW H) → Nat
  | [] => 0
  | d :: r => uptoBulk d + uptoBulkAll r
def uptoBulkEntries {H : Type} : List (Lit × DataW H) → Nat
  | [] => 0
  | x :: r => uptoBulkEntry x + uptoBulkEntries r
def uptoBulkEntry {H : Type} : Lit × DataW H → Nat
  | (.string bytes, d) => bytes.length + uptoBulk d + 1
  | (_, d) => uptoBulk d + 1
 end
def uptoSmall : (H : Type) → List (DataW H) → Bool := fun _ ds => decide (uptoBulkAll ds ≤ 1048576)
def OpenSpec.upto (s : _root_.Go.ChangeSpec) : _root_.Go.OpenSpec := { _root_.Go.OpenSpec.ofChange s with cond := some uptoSmall }

/-- 'dancestudiolaw03.GeomMeasures', WHERE WHAT IT READS IS OF BULK AT MOST 1048576: true; the input reads as it did. -/
def geomMeasuresUptoRow : OpenClaim := { program := "ytmilejcbkpkplaa", sum := "7dc6170379aae1fd395a660f134e2e5f11f5f0cbca11f1f7eb28b12f63206b64", func := "dancestudio/dancestudiolaw03.GeomMeasures", spec := "geomMeasures", unfollowed := true, recurses := true, apart := false, narrowed := true }
def GeomMeasuresUptoSaid : Prop := geomMeasuresUptoRow.holds Try.pinned (OpenSpec.upto geomMeasuresSpec)

/-- 'dancestudiolaw03.GeomNear', WHERE WHAT IT READS IS OF BULK AT MOST 1048576: true; the input reads as it did. -/
def geomNearUptoRow : OpenClaim := { program := "ytmilejcbkpkplaa", sum := "7dc6170379aae1fd395a660f134e2e5f11f5f0cbca11f1f7eb28b12f63206b64", func := "dancestudio/dancestudiolaw03.GeomNear", spec := "geomNear", unfollowed := true, recurses := true, apart := false, narrowed := true }
def GeomNearUptoSaid : Prop := geomNearUptoRow.holds Try.pinned (OpenSpec.upto geomNearSpec)

/-- 'dancestudiolaw03.GeomTouch', WHERE WHAT IT READS IS OF BULK AT MOST 1048576: true; the input reads as it did. -/
def geomTouchUptoRow : OpenClaim := { program := "ytmilejcbkpkplaa", sum := "7dc6170379aae1fd395a660f134e2e5f11f5f0cbca11f1f7eb28b12f63206b64", func := "dancestudio/dancestudiolaw03.GeomTouch", spec := "geomTouch", unfollowed := true, recurses := true, apart := false, narrowed := true }
def GeomTouchUptoSaid : Prop := geomTouchUptoRow.holds Try.pinned (OpenSpec.upto geomTouchSpec)

/-- 'dancestudiolaw03.GeomMoments', WHERE WHAT IT READS IS OF BULK AT MOST 1048576: true; the input reads as it did. -/
def geomMomentsUptoRow : OpenClaim := { program := "ytmilejcbkpkplaa", sum := "7dc6170379aae1fd395a660f134e2e5f11f5f0cbca11f1f7eb28b12f63206b64", func := "dancestudio/dancestudiolaw03.GeomMoments", spec := "geomMoments", unfollowed := true, recurses := true, apart := false, narrowed := true }
def GeomMomentsUptoSaid : Prop := geomMomentsUptoRow.holds Try.pinned (OpenSpec.upto geomMomentsSpec)

/-- 'dancestudiolaw03.GeomHull', WHERE WHAT IT READS IS OF BULK AT MOST 1048576: true; the input reads as it did. -/
def geomHullUptoRow : OpenClaim := { program := "ytmilejcbkpkplaa", sum := "7dc6170379aae1fd395a660f134e2e5f11f5f0cbca11f1f7eb28b12f63206b64", func := "dancestudio/dancestudiolaw03.GeomHull", spec := "geomHull", unfollowed := true, recurses := true, apart := false, narrowed := true }
def GeomHullUptoSaid : Prop := geomHullUptoRow.holds Try.pinned (OpenSpec.upto geomHullSpec)

/-- 'dancestudiolaw03.GeomInside', WHERE WHAT IT READS IS OF BULK AT MOST 1048576: true; the input reads as it did. -/
def geomInsideUptoRow : OpenClaim := { program := "ytmilejcbkpkplaa", sum := "7dc6170379aae1fd395a660f134e2e5f11f5f0cbca11f1f7eb28b12f63206b64", func := "dancestudio/dancestudiolaw03.GeomInside", spec := "geomInside", unfollowed := true, recurses := true, apart := false, narrowed := true }
def GeomInsideUptoSaid : Prop := geomInsideUptoRow.holds Try.pinned (OpenSpec.upto geomInsideSpec)

/-- 'dancestudiolaw03.GeomCorners', WHERE WHAT IT READS IS OF BULK AT MOST 1048576: true; the input reads as it did. -/
def geomCornersUptoRow : OpenClaim := { program := "ytmilejcbkpkplaa", sum := "7dc6170379aae1fd395a660f134e2e5f11f5f0cbca11f1f7eb28b12f63206b64", func := "dancestudio/dancestudiolaw03.GeomCorners", spec := "geomCorners", unfollowed := true, recurses := true, apart := false, narrowed := true }
def GeomCornersUptoSaid : Prop := geomCornersUptoRow.holds Try.pinned (OpenSpec.upto geomCornersSpec)

/-- 'dancestudiolaw03.GeomShifts', WHERE WHAT IT READS IS OF BULK AT MOST 1048576: true; the input reads as it did. -/
def geomShiftsUptoRow : OpenClaim := { program := "ytmilejcbkpkplaa", sum := "7dc6170379aae1fd395a660f134e2e5f11f5f0cbca11f1f7eb28b12f63206b64", func := "dancestudio/dancestudiolaw03.GeomShifts", spec := "geomShifts", unfollowed := true, recurses := true, apart := false, narrowed := true }
def GeomShiftsUptoSaid : Prop := geomShiftsUptoRow.holds Try.pinned (OpenSpec.upto geomShiftsSpec)

end Rows
end Go.Proofs.Ytmilejcbkpkplaa
