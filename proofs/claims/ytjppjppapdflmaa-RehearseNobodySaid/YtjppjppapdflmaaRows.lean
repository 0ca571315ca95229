/-
  No cell of these rows narrows 'for every input' (looked for: loops, veiled, ifaces, maps, wideKeys, modest, calm, conditions, laid).
  DERIVED. THE GIVEN ROWS OF THIS SEAT. 7 by the template 'for every input the law returns true; each argument reads behind the call as it read before'; 0 by the template 'total and deterministic' (their statements: YtjppjppapdflmaaTotals.lean).
  GIVEN WITH THE SEED: the statements are not yours to turn. If you find one false, say at which input.
  Laid BY PROGRAM, IN A SANDBOX (cutbox-rows.mjs): the forced cells as the released guide's own fill.sh prints them over the translation ed37c6353f909cd8… (all of the seat's roots in one cut). By AI agents, Wed Nov 11 2026. No macro, syntax, notation, axiom, sorry.
-/
import Derived.Test.YtjppjppapdflmaaChecked
import GoSem.Claim
import GoSem.ClaimJoined
import GoSem.ClaimMapViews
import Derived.JoinedTies
import Derived.KernelRfl
namespace Go.Proofs.Ytjppjppapdflmaa
/- THE CELL 'sum', in the pinned program and in every row, IS THE sha256 OF THE DUMP (.gsa) THAT YtjppjppapdflmaaProg.lean LOADS. Nothing in Lean hashes anything: it is a label: what it is worth is what the hold of that sum in a sandbox is worth. -/
noncomputable def Try.pinned : Pinned := { name := "ytjppjppapdflmaa", sum := "ed37c6353f909cd835d4dfc16011aa9bcf440a19e098c5e8cf51467fd58a3247", checked := Try.checked }
namespace Rows
def none {H : Type} : Left H := { results := [], args := [] }

/-- 'dancestudiolaw50.RehearseChecks': WHATEVER THE INPUT: true; the input reads as it did. -/
def rehearseChecksSpec : ChangeSpec := { name := "rehearseChecks", fn := fun _ => fun
  | [d] => { results := [.lit (.bool true)], args := [d] }
  | _ => none }
def rehearseChecksRow : OpenClaim := { program := "ytjppjppapdflmaa", sum := "ed37c6353f909cd835d4dfc16011aa9bcf440a19e098c5e8cf51467fd58a3247", func := "dancestudio/dancestudiolaw50.RehearseChecks", spec := "rehearseChecks", inPlace := ["internal/bytealg.IndexByteString", "internal/bytealg.IndexString"], unfollowed := true, recurses := true, named := ["internal/bytealg.MaxLen"], apart := false }
def RehearseChecksSaid : Prop := rehearseChecksRow.holds Try.pinned (OpenSpec.ofChange rehearseChecksSpec)

/-- ITS FALSE NEIGHBOUR: 'it returns false'. Refute it at one input. -/
def rehearseChecksWrong : ChangeSpec := { name := "rehearseChecks", fn := fun _ => fun
  | [d] => { results := [.lit (.bool false)], args := [d] }
  | _ => none }
def RehearseChecksWrongFalsely : Prop := rehearseChecksRow.holds Try.pinned (OpenSpec.ofChange rehearseChecksWrong)

/-- 'dancestudiolaw50.RehearseValids': WHATEVER THE INPUT: true; the input reads as it did. -/
def rehearseValidsSpec : ChangeSpec := { name := "rehearseValids", fn := fun _ => fun
  | [d1, d2] => { results := [.lit (.bool true)], args := [d1, d2] }
  | _ => none }
def rehearseValidsRow : OpenClaim := { program := "ytjppjppapdflmaa", sum := "ed37c6353f909cd835d4dfc16011aa9bcf440a19e098c5e8cf51467fd58a3247", func := "dancestudio/dancestudiolaw50.RehearseValids", spec := "rehearseValids", inPlace := ["internal/bytealg.IndexByteString", "internal/bytealg.IndexString"], unfollowed := true, recurses := true, named := ["internal/bytealg.MaxLen"], apart := false }
def RehearseValidsSaid : Prop := rehearseValidsRow.holds Try.pinned (OpenSpec.ofChange rehearseValidsSpec)

/-- ITS FALSE NEIGHBOUR: 'it returns false'. Refute it at one input. -/
def rehearseValidsWrong : ChangeSpec := { name := "rehearseValids", fn := fun _ => fun
  | [d1, d2] => { results := [.lit (.bool false)], args := [d1, d2] }
  | _ => none }
def RehearseValidsWrongFalsely : Prop := rehearseValidsRow.holds Try.pinned (OpenSpec.ofChange rehearseValidsWrong)

/-- 'dancestudiolaw50.RehearsePlans': WHATEVER THE INPUT: true; the input reads as it did. -/
def rehearsePlansSpec : ChangeSpec := { name := "rehearsePlans", fn := fun _ => fun
  | [d] => { results := [.lit (.bool true)], args := [d] }
  | _ => none }
def rehearsePlansRow : OpenClaim := { program := "ytjppjppapdflmaa", sum := "ed37c6353f909cd835d4dfc16011aa9bcf440a19e098c5e8cf51467fd58a3247", func := "dancestudio/dancestudiolaw50.RehearsePlans", spec := "rehearsePlans", inPlace := ["internal/bytealg.IndexByteString", "internal/bytealg.IndexString"], unfollowed := true, recurses := true, named := ["internal/bytealg.MaxLen"], apart := false }
def RehearsePlansSaid : Prop := rehearsePlansRow.holds Try.pinned (OpenSpec.ofChange rehearsePlansSpec)

/-- ITS FALSE NEIGHBOUR: 'it returns false'. Refute it at one input. -/
def rehearsePlansWrong : ChangeSpec := { name := "rehearsePlans", fn := fun _ => fun
  | [d] => { results := [.lit (.bool false)], args := [d] }
  | _ => none }
def RehearsePlansWrongFalsely : Prop := rehearsePlansRow.holds Try.pinned (OpenSpec.ofChange rehearsePlansWrong)

/-- 'dancestudiolaw50.RehearseLeast': WHATEVER THE INPUT: true; the input reads as it did. -/
def rehearseLeastSpec : ChangeSpec := { name := "rehearseLeast", fn := fun _ => fun
  | [d1, d2] => { results := [.lit (.bool true)], args := [d1, d2] }
  | _ => none }
def rehearseLeastRow : OpenClaim := { program := "ytjppjppapdflmaa", sum := "ed37c6353f909cd835d4dfc16011aa9bcf440a19e098c5e8cf51467fd58a3247", func := "dancestudio/dancestudiolaw50.RehearseLeast", spec := "rehearseLeast", inPlace := ["internal/bytealg.IndexByteString", "internal/bytealg.IndexString"], unfollowed := true, recurses := true, named := ["internal/bytealg.MaxLen"], apart := false }
def RehearseLeastSaid : Prop := rehearseLeastRow.holds Try.pinned (OpenSpec.ofChange rehearseLeastSpec)

/-- ITS FALSE NEIGHBOUR: 'it returns false'. Refute it at one input. -/
def rehearseLeastWrong : ChangeSpec := { name := "rehearseLeast", fn := fun _ => fun
  | [d1, d2] => { results := [.lit (.bool false)], args := [d1, d2] }
  | _ => none }
def RehearseLeastWrongFalsely : Prop := rehearseLeastRow.holds Try.pinned (OpenSpec.ofChange rehearseLeastWrong)

/-- 'dancestudiolaw50.RehearseNobody': WHATEVER THE INPUT: true; the input reads as it did. -/
def rehearseNobodySpec : ChangeSpec := { name := "rehearseNobody", fn := fun _ => fun
  | [d1, d2, d3] => { results := [.lit (.bool true)], args := [d1, d2, d3] }
  | _ => none }
def rehearseNobodyRow : OpenClaim := { program := "ytjppjppapdflmaa", sum := "ed37c6353f909cd835d4dfc16011aa9bcf440a19e098c5e8cf51467fd58a3247", func := "dancestudio/dancestudiolaw50.RehearseNobody", spec := "rehearseNobody", inPlace := ["internal/bytealg.IndexByteString", "internal/bytealg.IndexString"], unfollowed := true, recurses := true, named := ["internal/bytealg.MaxLen"], apart := false }
def RehearseNobodySaid : Prop := rehearseNobodyRow.holds Try.pinned (OpenSpec.ofChange rehearseNobodySpec)

/-- ITS FALSE NEIGHBOUR: 'it returns false'. Refute it at one input. -/
def rehearseNobodyWrong : ChangeSpec := { name := "rehearseNobody", fn := fun _ => fun
  | [d1, d2, d3] => { results := [.lit (.bool false)], args := [d1, d2, d3] }
  | _ => none }
def RehearseNobodyWrongFalsely : Prop := rehearseNobodyRow.holds Try.pinned (OpenSpec.ofChange rehearseNobodyWrong)

/-- 'dancestudiolaw50.RehearseFewer': WHATEVER THE INPUT: true; the input reads as it did. -/
def rehearseFewerSpec : ChangeSpec := { name := "rehearseFewer", fn := fun _ => fun
  | [d] => { results := [.lit (.bool true)], args := [d] }
  | _ => none }
def rehearseFewerRow : OpenClaim := { program := "ytjppjppapdflmaa", sum := "ed37c6353f909cd835d4dfc16011aa9bcf440a19e098c5e8cf51467fd58a3247", func := "dancestudio/dancestudiolaw50.RehearseFewer", spec := "rehearseFewer", inPlace := ["internal/bytealg.IndexByteString", "internal/bytealg.IndexString"], unfollowed := true, recurses := true, named := ["internal/bytealg.MaxLen"], apart := false }
def RehearseFewerSaid : Prop := rehearseFewerRow.holds Try.pinned (OpenSpec.ofChange rehearseFewerSpec)

/-- ITS FALSE NEIGHBOUR: 'it returns false'. Refute it at one input. -/
def rehearseFewerWrong : ChangeSpec := { name := "rehearseFewer", fn := fun _ => fun
  | [d] => { results := [.lit (.bool false)], args := [d] }
  | _ => none }
def RehearseFewerWrongFalsely : Prop := rehearseFewerRow.holds Try.pinned (OpenSpec.ofChange rehearseFewerWrong)

/-- 'dancestudiolaw50.RehearseAgain': WHATEVER THE INPUT: true; the input reads as it did. -/
def rehearseAgainSpec : ChangeSpec := { name := "rehearseAgain", fn := fun _ => fun
  | [d] => { results := [.lit (.bool true)], args := [d] }
  | _ => none }
def rehearseAgainRow : OpenClaim := { program := "ytjppjppapdflmaa", sum := "ed37c6353f909cd835d4dfc16011aa9bcf440a19e098c5e8cf51467fd58a3247", func := "dancestudio/dancestudiolaw50.RehearseAgain", spec := "rehearseAgain", inPlace := ["internal/bytealg.IndexByteString", "internal/bytealg.IndexString"], unfollowed := true, recurses := true, named := ["internal/bytealg.MaxLen"], apart := false }
def RehearseAgainSaid : Prop := rehearseAgainRow.holds Try.pinned (OpenSpec.ofChange rehearseAgainSpec)

/-- ITS FALSE NEIGHBOUR: 'it returns false'. Refute it at one input. -/
def rehearseAgainWrong : ChangeSpec := { name := "rehearseAgain", fn := fun _ => fun
  | [d] => { results := [.lit (.bool false)], args := [d] }
  | _ => none }
def RehearseAgainWrongFalsely : Prop := rehearseAgainRow.holds Try.pinned (OpenSpec.ofChange rehearseAgainWrong)

/- THE SECOND FORM. 'bulk': how many values and letters a reading holds, each counted each time it is reached (what is shared counts as often as it is met; a slice's spare places count too). A statement '..UptoSaid' is the law's where the arguments, and the package variables that the reading takes, are together of bulk at most 1048576: NARROWER than '..Said'. Prove '..Said' where nothing that the law and all that it calls make is longer than what came in: it says more and counts as full. Else prove '..UptoSaid'. A law counts once. -/
mutual
def uptoBulk {H : Type} : DataW H → Nat
  | .lit (.string bytes) => bytes.length + 1
  | .lit _ => 1
  | .nil => 1
  | .ptr d => uptoBulk d + 1
  | .slice elems spare => uptoBulkAll elems + uptoBulkAll spare + 1
  | .agg parts => uptoBulkAll parts + 1
  | .iface _ d => uptoBulk d + 1
  | .map entries => uptoBulkEntries entries + 1
  | .held _ => 1
def uptoBulkAll {H : Type} : List (DataW H) → Nat
  | [] => 0
  | d :: r => uptoBulk d + uptoBulkAll r
def uptoBulkEntries {H : Type} : List (Lit × DataW H) → Nat
  | [] => 0
  | x :: r => uptoBulkEntry x + uptoBulkEntries r
def uptoBulkEntry {H : Type} : Lit × DataW H → Nat
  | (.string bytes, d) => bytes.length + uptoBulk d + 1
  | (_, d) => uptoBulk d + 1
 end
def uptoSmall : (H : Type) → List (DataW H) → Bool := fun _ ds => decide (uptoBulkAll ds ≤ 1048576)
def OpenSpec.upto (s : _root_.Go.ChangeSpec) : _root_.Go.OpenSpec := { _root_.Go.OpenSpec.ofChange s with cond := some uptoSmall }

/-- 'dancestudiolaw50.RehearseChecks', WHERE WHAT IT READS IS OF BULK AT MOST 1048576: true; the input reads as it did. -/
def rehearseChecksUptoRow : OpenClaim := { program := "ytjppjppapdflmaa", sum := "ed37c6353f909cd835d4dfc16011aa9bcf440a19e098c5e8cf51467fd58a3247", func := "dancestudio/dancestudiolaw50.RehearseChecks", spec := "rehearseChecks", inPlace := ["internal/bytealg.IndexByteString", "internal/bytealg.IndexString"], unfollowed := true, recurses := true, named := ["internal/bytealg.MaxLen"], apart := false, narrowed := true }
def RehearseChecksUptoSaid : Prop := rehearseChecksUptoRow.holds Try.pinned (OpenSpec.upto rehearseChecksSpec)

/-- 'dancestudiolaw50.RehearseValids', WHERE WHAT IT READS IS OF BULK AT MOST 1048576: true; the input reads as it did. -/
def rehearseValidsUptoRow : OpenClaim := { program := "ytjppjppapdflmaa", sum := "ed37c6353f909cd835d4dfc16011aa9bcf440a19e098c5e8cf51467fd58a3247", func := "dancestudio/dancestudiolaw50.RehearseValids", spec := "rehearseValids", inPlace := ["internal/bytealg.IndexByteString", "internal/bytealg.IndexString"], unfollowed := true, recurses := true, named := ["internal/bytealg.MaxLen"], apart := false, narrowed := true }
def RehearseValidsUptoSaid : Prop := rehearseValidsUptoRow.holds Try.pinned (OpenSpec.upto rehearseValidsSpec)

/-- 'dancestudiolaw50.RehearsePlans', WHERE WHAT IT READS IS OF BULK AT MOST 1048576: true; the input reads as it did. -/
def rehearsePlansUptoRow : OpenClaim := { program := "ytjppjppapdflmaa", sum := "ed37c6353f909cd835d4dfc16011aa9bcf440a19e098c5e8cf51467fd58a3247", func := "dancestudio/dancestudiolaw50.RehearsePlans", spec := "rehearsePlans", inPlace := ["internal/bytealg.IndexByteString", "internal/bytealg.IndexString"], unfollowed := true, recurses := true, named := ["internal/bytealg.MaxLen"], apart := false, narrowed := true }
def RehearsePlansUptoSaid : Prop := rehearsePlansUptoRow.holds Try.pinned (OpenSpec.upto rehearsePlansSpec)

/-- 'dancestudiolaw50.RehearseLeast', WHERE WHAT IT READS IS OF BULK AT MOST 1048576: true; the input reads as it did. -/
def rehearseLeastUptoRow : OpenClaim := { program := "ytjppjppapdflmaa", sum := "ed37c6353f909cd835d4dfc16011aa9bcf440a19e098c5e8cf51467fd58a3247", func := "dancestudio/dancestudiolaw50.RehearseLeast", spec := "rehearseLeast", inPlace := ["internal/bytealg.IndexByteString", "internal/bytealg.IndexString"], unfollowed := true, recurses := true, named := ["internal/bytealg.MaxLen"], apart := false, narrowed := true }
def RehearseLeastUptoSaid : Prop := rehearseLeastUptoRow.holds Try.pinned (OpenSpec.upto rehearseLeastSpec)

/-- 'dancestudiolaw50.RehearseNobody', WHERE WHAT IT READS IS OF BULK AT MOST 1048576: true; the input reads as it did. -/
def rehearseNobodyUptoRow : OpenClaim := { program := "ytjppjppapdflmaa", sum := "ed37c6353f909cd835d4dfc16011aa9bcf440a19e098c5e8cf51467fd58a3247", func := "dancestudio/dancestudiolaw50.RehearseNobody", spec := "rehearseNobody", inPlace := ["internal/bytealg.IndexByteString", "internal/bytealg.IndexString"], unfollowed := true, recurses := true, named := ["internal/bytealg.MaxLen"], apart := false, narrowed := true }
def RehearseNobodyUptoSaid : Prop := rehearseNobodyUptoRow.holds Try.pinned (OpenSpec.upto rehearseNobodySpec)

/-- 'dancestudiolaw50.RehearseFewer', WHERE WHAT IT READS IS OF BULK AT MOST 1048576: true; the input reads as it did. -/
def rehearseFewerUptoRow : OpenClaim := { program := "ytjppjppapdflmaa", sum := "ed37c6353f909cd835d4dfc16011aa9bcf440a19e098c5e8cf51467fd58a3247", func := "dancestudio/dancestudiolaw50.RehearseFewer", spec := "rehearseFewer", inPlace := ["internal/bytealg.IndexByteString", "internal/bytealg.IndexString"], unfollowed := true, recurses := true, named := ["internal/bytealg.MaxLen"], apart := false, narrowed := true }
def RehearseFewerUptoSaid : Prop := rehearseFewerUptoRow.holds Try.pinned (OpenSpec.upto rehearseFewerSpec)

/-- 'dancestudiolaw50.RehearseAgain', WHERE WHAT IT READS IS OF BULK AT MOST 1048576: true; the input reads as it did. -/
def rehearseAgainUptoRow : OpenClaim := { program := "ytjppjppapdflmaa", sum := "ed37c6353f909cd835d4dfc16011aa9bcf440a19e098c5e8cf51467fd58a3247", func := "dancestudio/dancestudiolaw50.RehearseAgain", spec := "rehearseAgain", inPlace := ["internal/bytealg.IndexByteString", "internal/bytealg.IndexString"], unfollowed := true, recurses := true, named := ["internal/bytealg.MaxLen"], apart := false, narrowed := true }
def RehearseAgainUptoSaid : Prop := rehearseAgainUptoRow.holds Try.pinned (OpenSpec.upto rehearseAgainSpec)

end Rows
end Go.Proofs.Ytjppjppapdflmaa
