/-
  No cell of these rows narrows 'for every input' (looked for: loops, veiled, ifaces, maps, wideKeys, modest, calm, conditions, laid).
  DERIVED. THE GIVEN ROWS OF THIS SEAT. 8 by the template 'for every input the law returns true; each argument reads behind the call as it read before'; 0 by the template 'total and deterministic' (their statements: YtaacihkhckpecaaTotals.lean).
  GIVEN WITH THE SEED: the statements are not yours to turn. If you find one false, say at which input.
  Laid BY PROGRAM, IN A SANDBOX (cutbox-rows.mjs): the forced cells as the released guide's own fill.sh prints them over the translation 4a9afefb2198d048… (all of the seat's roots in one cut). By AI agents, Wed Nov 11 2026. No macro, syntax, notation, axiom, sorry.
-/
import Derived.Test.YtaacihkhckpecaaChecked
import GoSem.Claim
import GoSem.ClaimJoined
import GoSem.ClaimMapViews
import Derived.JoinedTies
import Derived.KernelRfl
namespace Go.Proofs.Ytaacihkhckpecaa
/- THE CELL 'sum', in the pinned program and in every row, IS THE sha256 OF THE DUMP (.gsa) THAT YtaacihkhckpecaaProg.lean LOADS. Nothing in Lean hashes anything: it is a label: what it is worth is what the hold of that sum in a sandbox is worth. -/
noncomputable def Try.pinned : Pinned := { name := "ytaacihkhckpecaa", sum := "4a9afefb2198d0483e5158469dce576823fbe62d6ec13ffb2b664d0419dfcf06", checked := Try.checked }
namespace Rows
def none {H : Type} : Left H := { results := [], args := [] }

/-- 'dancestudiolaw10.MatchSizes': WHATEVER THE INPUT: true; the input reads as it did. -/
def matchSizesSpec : ChangeSpec := { name := "matchSizes", fn := fun _ => fun
  | [d] => { results := [.lit (.bool true)], args := [d] }
  | _ => none }
def matchSizesRow : OpenClaim := { program := "ytaacihkhckpecaa", sum := "4a9afefb2198d0483e5158469dce576823fbe62d6ec13ffb2b664d0419dfcf06", func := "dancestudio/dancestudiolaw10.MatchSizes", spec := "matchSizes", unfollowed := true, recurses := true, apart := false }
def MatchSizesSaid : Prop := matchSizesRow.holds Try.pinned (OpenSpec.ofChange matchSizesSpec)

/-- ITS FALSE NEIGHBOUR: 'it returns false'. Refute it at one input. -/
def matchSizesWrong : ChangeSpec := { name := "matchSizes", fn := fun _ => fun
  | [d] => { results := [.lit (.bool false)], args := [d] }
  | _ => none }
def MatchSizesWrongFalsely : Prop := matchSizesRow.holds Try.pinned (OpenSpec.ofChange matchSizesWrong)

/-- 'dancestudiolaw10.MatchLeast': WHATEVER THE INPUT: true; the input reads as it did. -/
def matchLeastSpec : ChangeSpec := { name := "matchLeast", fn := fun _ => fun
  | [d] => { results := [.lit (.bool true)], args := [d] }
  | _ => none }
def matchLeastRow : OpenClaim := { program := "ytaacihkhckpecaa", sum := "4a9afefb2198d0483e5158469dce576823fbe62d6ec13ffb2b664d0419dfcf06", func := "dancestudio/dancestudiolaw10.MatchLeast", spec := "matchLeast", unfollowed := true, recurses := true, apart := false }
def MatchLeastSaid : Prop := matchLeastRow.holds Try.pinned (OpenSpec.ofChange matchLeastSpec)

/-- ITS FALSE NEIGHBOUR: 'it returns false'. Refute it at one input. -/
def matchLeastWrong : ChangeSpec := { name := "matchLeast", fn := fun _ => fun
  | [d] => { results := [.lit (.bool false)], args := [d] }
  | _ => none }
def MatchLeastWrongFalsely : Prop := matchLeastRow.holds Try.pinned (OpenSpec.ofChange matchLeastWrong)

/-- 'dancestudiolaw10.MatchCover': WHATEVER THE INPUT: true; the input reads as it did. -/
def matchCoverSpec : ChangeSpec := { name := "matchCover", fn := fun _ => fun
  | [d] => { results := [.lit (.bool true)], args := [d] }
  | _ => none }
def matchCoverRow : OpenClaim := { program := "ytaacihkhckpecaa", sum := "4a9afefb2198d0483e5158469dce576823fbe62d6ec13ffb2b664d0419dfcf06", func := "dancestudio/dancestudiolaw10.MatchCover", spec := "matchCover", unfollowed := true, recurses := true, apart := false }
def MatchCoverSaid : Prop := matchCoverRow.holds Try.pinned (OpenSpec.ofChange matchCoverSpec)

/-- ITS FALSE NEIGHBOUR: 'it returns false'. Refute it at one input. -/
def matchCoverWrong : ChangeSpec := { name := "matchCover", fn := fun _ => fun
  | [d] => { results := [.lit (.bool false)], args := [d] }
  | _ => none }
def MatchCoverWrongFalsely : Prop := matchCoverRow.holds Try.pinned (OpenSpec.ofChange matchCoverWrong)

/-- 'dancestudiolaw10.MatchValids': WHATEVER THE INPUT: true; the input reads as it did. -/
def matchValidsSpec : ChangeSpec := { name := "matchValids", fn := fun _ => fun
  | [d1, d2] => { results := [.lit (.bool true)], args := [d1, d2] }
  | _ => none }
def matchValidsRow : OpenClaim := { program := "ytaacihkhckpecaa", sum := "4a9afefb2198d0483e5158469dce576823fbe62d6ec13ffb2b664d0419dfcf06", func := "dancestudio/dancestudiolaw10.MatchValids", spec := "matchValids", unfollowed := true, recurses := true, apart := false }
def MatchValidsSaid : Prop := matchValidsRow.holds Try.pinned (OpenSpec.ofChange matchValidsSpec)

/-- ITS FALSE NEIGHBOUR: 'it returns false'. Refute it at one input. -/
def matchValidsWrong : ChangeSpec := { name := "matchValids", fn := fun _ => fun
  | [d1, d2] => { results := [.lit (.bool false)], args := [d1, d2] }
  | _ => none }
def MatchValidsWrongFalsely : Prop := matchValidsRow.holds Try.pinned (OpenSpec.ofChange matchValidsWrong)

/-- 'dancestudiolaw10.MatchBest': WHATEVER THE INPUT: true; the input reads as it did. -/
def matchBestSpec : ChangeSpec := { name := "matchBest", fn := fun _ => fun
  | [d1, d2] => { results := [.lit (.bool true)], args := [d1, d2] }
  | _ => none }
def matchBestRow : OpenClaim := { program := "ytaacihkhckpecaa", sum := "4a9afefb2198d0483e5158469dce576823fbe62d6ec13ffb2b664d0419dfcf06", func := "dancestudio/dancestudiolaw10.MatchBest", spec := "matchBest", unfollowed := true, recurses := true, apart := false }
def MatchBestSaid : Prop := matchBestRow.holds Try.pinned (OpenSpec.ofChange matchBestSpec)

/-- ITS FALSE NEIGHBOUR: 'it returns false'. Refute it at one input. -/
def matchBestWrong : ChangeSpec := { name := "matchBest", fn := fun _ => fun
  | [d1, d2] => { results := [.lit (.bool false)], args := [d1, d2] }
  | _ => none }
def MatchBestWrongFalsely : Prop := matchBestRow.holds Try.pinned (OpenSpec.ofChange matchBestWrong)

/-- 'dancestudiolaw10.MatchMore': WHATEVER THE INPUT: true; the input reads as it did. -/
def matchMoreSpec : ChangeSpec := { name := "matchMore", fn := fun _ => fun
  | [d1, d2, d3] => { results := [.lit (.bool true)], args := [d1, d2, d3] }
  | _ => none }
def matchMoreRow : OpenClaim := { program := "ytaacihkhckpecaa", sum := "4a9afefb2198d0483e5158469dce576823fbe62d6ec13ffb2b664d0419dfcf06", func := "dancestudio/dancestudiolaw10.MatchMore", spec := "matchMore", unfollowed := true, recurses := true, apart := false }
def MatchMoreSaid : Prop := matchMoreRow.holds Try.pinned (OpenSpec.ofChange matchMoreSpec)

/-- ITS FALSE NEIGHBOUR: 'it returns false'. Refute it at one input. -/
def matchMoreWrong : ChangeSpec := { name := "matchMore", fn := fun _ => fun
  | [d1, d2, d3] => { results := [.lit (.bool false)], args := [d1, d2, d3] }
  | _ => none }
def MatchMoreWrongFalsely : Prop := matchMoreRow.holds Try.pinned (OpenSpec.ofChange matchMoreWrong)

/-- 'dancestudiolaw10.MatchTurned': WHATEVER THE INPUT: true; the input reads as it did. -/
def matchTurnedSpec : ChangeSpec := { name := "matchTurned", fn := fun _ => fun
  | [d] => { results := [.lit (.bool true)], args := [d] }
  | _ => none }
def matchTurnedRow : OpenClaim := { program := "ytaacihkhckpecaa", sum := "4a9afefb2198d0483e5158469dce576823fbe62d6ec13ffb2b664d0419dfcf06", func := "dancestudio/dancestudiolaw10.MatchTurned", spec := "matchTurned", unfollowed := true, recurses := true, apart := false }
def MatchTurnedSaid : Prop := matchTurnedRow.holds Try.pinned (OpenSpec.ofChange matchTurnedSpec)

/-- ITS FALSE NEIGHBOUR: 'it returns false'. Refute it at one input. -/
def matchTurnedWrong : ChangeSpec := { name := "matchTurned", fn := fun _ => fun
  | [d] => { results := [.lit (.bool false)], args := [d] }
  | _ => none }
def MatchTurnedWrongFalsely : Prop := matchTurnedRow.holds Try.pinned (OpenSpec.ofChange matchTurnedWrong)

/-- 'dancestudiolaw10.MatchOnce': WHATEVER THE INPUT: true; the input reads as it did. -/
def matchOnceSpec : ChangeSpec := { name := "matchOnce", fn := fun _ => fun
  | [d] => { results := [.lit (.bool true)], args := [d] }
  | _ => none }
def matchOnceRow : OpenClaim := { program := "ytaacihkhckpecaa", sum := "4a9afefb2198d0483e5158469dce576823fbe62d6ec13ffb2b664d0419dfcf06", func := "dancestudio/dancestudiolaw10.MatchOnce", spec := "matchOnce", unfollowed := true, recurses := true, apart := false }
def MatchOnceSaid : Prop := matchOnceRow.holds Try.pinned (OpenSpec.ofChange matchOnceSpec)

/-- ITS FALSE NEIGHBOUR: 'it returns false'. Refute it at one input. -/
def matchOnceWrong : ChangeSpec := { name := "matchOnce", fn := fun _ => fun
  | [d] => { results := [.lit (.bool false)], args := [d] }
  | _ => none }
def MatchOnceWrongFalsely : Prop := matchOnceRow.holds Try.pinned (OpenSpec.ofChange matchOnceWrong)

/- THE SECOND FORM. 'bulk': how many values and letters a reading holds, each counted each time it is reached (what is shared counts as often as it is met; a slice's spare places count too). A statement '..UptoSaid' is the law's where the arguments, and the package variables that the reading takes, are together of bulk at most 1048576: NARROWER than '..Said'. Prove '..Said' where nothing that the law and all that it calls make is longer than what came in: it says more and counts as full. Else prove '..UptoSaid'. A law counts once. -/
mutual
def uptoBulk {H : Type} : DataW H → Nat
  | .lit (.string bytes) => bytes.length + 1
  | .lit _ => 1
  | .nil => 1
  | .ptr d => uptoBulk d + 1
  | .slice elems spare => uptoBulkAll elems + uptoBulkAll spare + 1
  | .agg parts => uptoBulkAll parts + 1
  | .iface _ d => uptoBulk d + 1
  | .map entries => uptoBulkEntries entries + 1
  | .held _ => 1
def uptoBulkAll {H : Type} : List (DataW H) → Nat
  | [] => 0
  | d :: r => uptoBulk d + uptoBulkAll r
def uptoBulkEntries {H : Type} : List (Lit × DataW H) → Nat
  | [] => 0
  | x :: r => uptoBulkEntry x + uptoBulkEntries r
def uptoBulkEntry {H : Type} : Lit × DataW H → Nat
  | (.string bytes, d) => bytes.length + uptoBulk d + 1
  | (_, d) => uptoBulk d + 1
 end
def uptoSmall : (H : Type) → List (DataW H) → Bool := fun _ ds => decide (uptoBulkAll ds ≤ 1048576)
def OpenSpec.upto (s : _root_.Go.ChangeSpec) : _root_.Go.OpenSpec := { _root_.Go.OpenSpec.ofChange s with cond := some uptoSmall }

/-- 'dancestudiolaw10.MatchSizes', WHERE WHAT IT READS IS OF BULK AT MOST 1048576: true; the input reads as it did. -/
def matchSizesUptoRow : OpenClaim := { program := "ytaacihkhckpecaa", sum := "4a9afefb2198d0483e5158469dce576823fbe62d6ec13ffb2b664d0419dfcf06", func := "dancestudio/dancestudiolaw10.MatchSizes", spec := "matchSizes", unfollowed := true, recurses := true, apart := false, narrowed := true }
def MatchSizesUptoSaid : Prop := matchSizesUptoRow.holds Try.pinned (OpenSpec.upto matchSizesSpec)

/-- 'dancestudiolaw10.MatchLeast', WHERE WHAT IT READS IS OF BULK AT MOST 1048576: true; the input reads as it did. -/
def matchLeastUptoRow : OpenClaim := { program := "ytaacihkhckpecaa", sum := "4a9afefb2198d0483e5158469dce576823fbe62d6ec13ffb2b664d0419dfcf06", func := "dancestudio/dancestudiolaw10.MatchLeast", spec := "matchLeast", unfollowed := true, recurses := true, apart := false, narrowed := true }
def MatchLeastUptoSaid : Prop := matchLeastUptoRow.holds Try.pinned (OpenSpec.upto matchLeastSpec)

/-- 'dancestudiolaw10.MatchCover', WHERE WHAT IT READS IS OF BULK AT MOST 1048576: true; the input reads as it did. -/
def matchCoverUptoRow : OpenClaim := { program := "ytaacihkhckpecaa", sum := "4a9afefb2198d0483e5158469dce576823fbe62d6ec13ffb2b664d0419dfcf06", func := "dancestudio/dancestudiolaw10.MatchCover", spec := "matchCover", unfollowed := true, recurses := true, apart := false, narrowed := true }
def MatchCoverUptoSaid : Prop := matchCoverUptoRow.holds Try.pinned (OpenSpec.upto matchCoverSpec)

/-- 'dancestudiolaw10.MatchValids', WHERE WHAT IT READS IS OF BULK AT MOST 1048576: true; the input reads as it did. -/
def matchValidsUptoRow : OpenClaim := { program := "ytaacihkhckpecaa", sum := "4a9afefb2198d0483e5158469dce576823fbe62d6ec13ffb2b664d0419dfcf06", func := "dancestudio/dancestudiolaw10.MatchValids", spec := "matchValids", unfollowed := true, recurses := true, apart := false, narrowed := true }
def MatchValidsUptoSaid : Prop := matchValidsUptoRow.holds Try.pinned (OpenSpec.upto matchValidsSpec)

/-- 'dancestudiolaw10.MatchBest', WHERE WHAT IT READS IS OF BULK AT MOST 1048576: true; the input reads as it did. -/
def matchBestUptoRow : OpenClaim := { program := "ytaacihkhckpecaa", sum := "4a9afefb2198d0483e5158469dce576823fbe62d6ec13ffb2b664d0419dfcf06", func := "dancestudio/dancestudiolaw10.MatchBest", spec := "matchBest", unfollowed := true, recurses := true, apart := false, narrowed := true }
def MatchBestUptoSaid : Prop := matchBestUptoRow.holds Try.pinned (OpenSpec.upto matchBestSpec)

/-- 'dancestudiolaw10.MatchMore', WHERE WHAT IT READS IS OF BULK AT MOST 1048576: true; the input reads as it did. -/
def matchMoreUptoRow : OpenClaim := { program := "ytaacihkhckpecaa", sum := "4a9afefb2198d0483e5158469dce576823fbe62d6ec13ffb2b664d0419dfcf06", func := "dancestudio/dancestudiolaw10.MatchMore", spec := "matchMore", unfollowed := true, recurses := true, apart := false, narrowed := true }
def MatchMoreUptoSaid : Prop := matchMoreUptoRow.holds Try.pinned (OpenSpec.upto matchMoreSpec)

/-- 'dancestudiolaw10.MatchTurned', WHERE WHAT IT READS IS OF BULK AT MOST 1048576: true; the input reads as it did. -/
def matchTurnedUptoRow : OpenClaim := { program := "ytaacihkhckpecaa", sum := "4a9afefb2198d0483e5158469dce576823fbe62d6ec13ffb2b664d0419dfcf06", func := "dancestudio/dancestudiolaw10.MatchTurned", spec := "matchTurned", unfollowed := true, recurses := true, apart := false, narrowed := true }
def MatchTurnedUptoSaid : Prop := matchTurnedUptoRow.holds Try.pinned (OpenSpec.upto matchTurnedSpec)

/-- 'dancestudiolaw10.MatchOnce', WHERE WHAT IT READS IS OF BULK AT MOST 1048576: true; the input reads as it did. -/
def matchOnceUptoRow : OpenClaim := { program := "ytaacihkhckpecaa", sum := "4a9afefb2198d0483e5158469dce576823fbe62d6ec13ffb2b664d0419dfcf06", func := "dancestudio/dancestudiolaw10.MatchOnce", spec := "matchOnce", unfollowed := true, recurses := true, apart := false, narrowed := true }
def MatchOnceUptoSaid : Prop := matchOnceUptoRow.holds Try.pinned (OpenSpec.upto matchOnceSpec)

end Rows
end Go.Proofs.Ytaacihkhckpecaa
