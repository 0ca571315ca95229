/-
  DERIVED. GIVEN WITH THE SEED: THE CARDS: each row of YtaggccbndmmbhaaDoorRows.lean that lists a variable, with what it lists TIED to the program's text (the seventh form; the later family's looks); each row that meets fmt, with fmt's text TOLD by the authors' own Lean function (tested against real Go, not proved from fmt's source: count such statements apart). THE CARD IS WHAT COUNTS. Prove the row's statement (the work); the ties are given (YtaggccbndmmbhaaDoorTie.lean); close each card by the builder's one call (the guide's Derived/Test/ToyasCard.lean, 'card_holds'). Laid BY PROGRAM, IN A SANDBOX (cutbox-door.mjs). By AI agents, Wed Nov 11 2026. No macro, syntax, notation, axiom, sorry.
-/
import Derived.Test.YtaggccbndmmbhaaDoorRows
import GoSem.ClaimSeven
namespace Go.Proofs.YtaggccbndmmbhaaDoor
namespace Rows

/-- THE TIED CARD OF 'dancestudiolaw45.FormationChecks'. -/
def formationChecksCard : Claim7 := { stood := { row := formationChecksRow, standIns := [], harness := (true, "44c7e1f5f230a3908c6f19160b420b02ee26ac7bb7510e2e335d4429fa1ef493"), looks := false }, kinds := [], alts := [], laidByText := true, laidKinds := [.data], laidTests := true, laidLooks := .later }
def FormationChecksCardSaid : Prop := Claim7.holds Tryd.pinned (.plain (OpenSpec.ofChange formationChecksSpec)) formationChecksCard

/-- THE TIED CARD OF 'dancestudiolaw45.FormationFits'. -/
def formationFitsCard : Claim7 := { stood := { row := formationFitsRow, standIns := [], harness := (true, "44c7e1f5f230a3908c6f19160b420b02ee26ac7bb7510e2e335d4429fa1ef493"), looks := false }, kinds := [], alts := [], laidByText := true, laidKinds := [.data], laidTests := true, laidLooks := .later }
def FormationFitsCardSaid : Prop := Claim7.holds Tryd.pinned (.plain (OpenSpec.ofChange formationFitsSpec)) formationFitsCard

/-- THE TIED CARD OF 'dancestudiolaw45.FormationWays'. -/
def formationWaysCard : Claim7 := { stood := { row := formationWaysRow, standIns := [], harness := (true, "44c7e1f5f230a3908c6f19160b420b02ee26ac7bb7510e2e335d4429fa1ef493"), looks := false }, kinds := [], alts := [], laidByText := true, laidKinds := [.data], laidTests := true, laidLooks := .later }
def FormationWaysCardSaid : Prop := Claim7.holds Tryd.pinned (.plain (OpenSpec.ofChange formationWaysSpec)) formationWaysCard

/-- THE TIED CARD OF 'dancestudiolaw45.FormationClashes'. -/
def formationClashesCard : Claim7 := { stood := { row := formationClashesRow, standIns := [], harness := (true, "44c7e1f5f230a3908c6f19160b420b02ee26ac7bb7510e2e335d4429fa1ef493"), looks := false }, kinds := [], alts := [], laidByText := true, laidKinds := [.data], laidTests := true, laidLooks := .later }
def FormationClashesCardSaid : Prop := Claim7.holds Tryd.pinned (.plain (OpenSpec.ofChange formationClashesSpec)) formationClashesCard

/-- THE TIED CARD OF 'dancestudiolaw45.FormationTurns'. -/
def formationTurnsCard : Claim7 := { stood := { row := formationTurnsRow, standIns := [], harness := (true, "44c7e1f5f230a3908c6f19160b420b02ee26ac7bb7510e2e335d4429fa1ef493"), looks := false }, kinds := [], alts := [], laidByText := true, laidKinds := [.data], laidTests := true, laidLooks := .later }
def FormationTurnsCardSaid : Prop := Claim7.holds Tryd.pinned (.plain (OpenSpec.ofChange formationTurnsSpec)) formationTurnsCard

/-- THE TIED CARD OF 'dancestudiolaw45.FormationLeast'. -/
def formationLeastCard : Claim7 := { stood := { row := formationLeastRow, standIns := [], harness := (true, "44c7e1f5f230a3908c6f19160b420b02ee26ac7bb7510e2e335d4429fa1ef493"), looks := false }, kinds := [], alts := [], laidByText := true, laidKinds := [.data], laidTests := true, laidLooks := .later }
def FormationLeastCardSaid : Prop := Claim7.holds Tryd.pinned (.plain (OpenSpec.ofChange formationLeastSpec)) formationLeastCard

/-- THE TIED CARD OF 'dancestudiolaw45.FormationTwins'. -/
def formationTwinsCard : Claim7 := { stood := { row := formationTwinsRow, standIns := [], harness := (true, "44c7e1f5f230a3908c6f19160b420b02ee26ac7bb7510e2e335d4429fa1ef493"), looks := false }, kinds := [], alts := [], laidByText := true, laidKinds := [.data], laidTests := true, laidLooks := .later }
def FormationTwinsCardSaid : Prop := Claim7.holds Tryd.pinned (.plain (OpenSpec.ofChange formationTwinsSpec)) formationTwinsCard

/-- THE TIED CARD OF 'dancestudiolaw45.FormationThere'. -/
def formationThereCard : Claim7 := { stood := { row := formationThereRow, standIns := [], harness := (true, "44c7e1f5f230a3908c6f19160b420b02ee26ac7bb7510e2e335d4429fa1ef493"), looks := false }, kinds := [], alts := [], laidByText := true, laidKinds := [.data], laidTests := true, laidLooks := .later }
def FormationThereCardSaid : Prop := Claim7.holds Tryd.pinned (.plain (OpenSpec.ofChange formationThereSpec)) formationThereCard

/-- THE SECOND FORM's CARD OF 'dancestudiolaw45.FormationChecks'. -/
def formationChecksUptoCard : Claim7 := { stood := { row := formationChecksUptoRow, standIns := [], harness := (true, "44c7e1f5f230a3908c6f19160b420b02ee26ac7bb7510e2e335d4429fa1ef493"), looks := false }, kinds := [], alts := [], laidByText := true, laidKinds := [.data], laidTests := true, laidLooks := .later }
def FormationChecksUptoCardSaid : Prop := Claim7.holds Tryd.pinned (.plain (OpenSpec.upto formationChecksSpec)) formationChecksUptoCard

/-- THE SECOND FORM's CARD OF 'dancestudiolaw45.FormationFits'. -/
def formationFitsUptoCard : Claim7 := { stood := { row := formationFitsUptoRow, standIns := [], harness := (true, "44c7e1f5f230a3908c6f19160b420b02ee26ac7bb7510e2e335d4429fa1ef493"), looks := false }, kinds := [], alts := [], laidByText := true, laidKinds := [.data], laidTests := true, laidLooks := .later }
def FormationFitsUptoCardSaid : Prop := Claim7.holds Tryd.pinned (.plain (OpenSpec.upto formationFitsSpec)) formationFitsUptoCard

/-- THE SECOND FORM's CARD OF 'dancestudiolaw45.FormationWays'. -/
def formationWaysUptoCard : Claim7 := { stood := { row := formationWaysUptoRow, standIns := [], harness := (true, "44c7e1f5f230a3908c6f19160b420b02ee26ac7bb7510e2e335d4429fa1ef493"), looks := false }, kinds := [], alts := [], laidByText := true, laidKinds := [.data], laidTests := true, laidLooks := .later }
def FormationWaysUptoCardSaid : Prop := Claim7.holds Tryd.pinned (.plain (OpenSpec.upto formationWaysSpec)) formationWaysUptoCard

/-- THE SECOND FORM's CARD OF 'dancestudiolaw45.FormationClashes'. -/
def formationClashesUptoCard : Claim7 := { stood := { row := formationClashesUptoRow, standIns := [], harness := (true, "44c7e1f5f230a3908c6f19160b420b02ee26ac7bb7510e2e335d4429fa1ef493"), looks := false }, kinds := [], alts := [], laidByText := true, laidKinds := [.data], laidTests := true, laidLooks := .later }
def FormationClashesUptoCardSaid : Prop := Claim7.holds Tryd.pinned (.plain (OpenSpec.upto formationClashesSpec)) formationClashesUptoCard

/-- THE SECOND FORM's CARD OF 'dancestudiolaw45.FormationTurns'. -/
def formationTurnsUptoCard : Claim7 := { stood := { row := formationTurnsUptoRow, standIns := [], harness := (true, "44c7e1f5f230a3908c6f19160b420b02ee26ac7bb7510e2e335d4429fa1ef493"), looks := false }, kinds := [], alts := [], laidByText := true, laidKinds := [.data], laidTests := true, laidLooks := .later }
def FormationTurnsUptoCardSaid : Prop := Claim7.holds Tryd.pinned (.plain (OpenSpec.upto formationTurnsSpec)) formationTurnsUptoCard

/-- THE SECOND FORM's CARD OF 'dancestudiolaw45.FormationLeast'. -/
def formationLeastUptoCard : Claim7 := { stood := { row := formationLeastUptoRow, standIns := [], harness := (true, "44c7e1f5f230a3908c6f19160b420b02ee26ac7bb7510e2e335d4429fa1ef493"), looks := false }, kinds := [], alts := [], laidByText := true, laidKinds := [.data], laidTests := true, laidLooks := .later }
def FormationLeastUptoCardSaid : Prop := Claim7.holds Tryd.pinned (.plain (OpenSpec.upto formationLeastSpec)) formationLeastUptoCard

/-- THE SECOND FORM's CARD OF 'dancestudiolaw45.FormationTwins'. -/
def formationTwinsUptoCard : Claim7 := { stood := { row := formationTwinsUptoRow, standIns := [], harness := (true, "44c7e1f5f230a3908c6f19160b420b02ee26ac7bb7510e2e335d4429fa1ef493"), looks := false }, kinds := [], alts := [], laidByText := true, laidKinds := [.data], laidTests := true, laidLooks := .later }
def FormationTwinsUptoCardSaid : Prop := Claim7.holds Tryd.pinned (.plain (OpenSpec.upto formationTwinsSpec)) formationTwinsUptoCard

/-- THE SECOND FORM's CARD OF 'dancestudiolaw45.FormationThere'. -/
def formationThereUptoCard : Claim7 := { stood := { row := formationThereUptoRow, standIns := [], harness := (true, "44c7e1f5f230a3908c6f19160b420b02ee26ac7bb7510e2e335d4429fa1ef493"), looks := false }, kinds := [], alts := [], laidByText := true, laidKinds := [.data], laidTests := true, laidLooks := .later }
def FormationThereUptoCardSaid : Prop := Claim7.holds Tryd.pinned (.plain (OpenSpec.upto formationThereSpec)) formationThereUptoCard
end Rows
end Go.Proofs.YtaggccbndmmbhaaDoor
