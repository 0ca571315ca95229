/-
  DERIVED. GIVEN WITH THE SEED: THE CARDS: each row of YtimikhbnihedkaaDoorRows.lean that lists a variable, with what it lists TIED to the program's text (the seventh form; the later family's looks); each row that meets fmt, with fmt's text TOLD by the authors' own Lean function (tested against real Go, not proved from fmt's source: count such statements apart). THE CARD IS WHAT COUNTS. Prove the row's statement (the work); the ties are given (YtimikhbnihedkaaDoorTie.lean); close each card by the builder's one call (the guide's Derived/Test/ToyasCard.lean, 'card_holds'). Laid BY PROGRAM, IN A SANDBOX (cutbox-door.mjs). By AI agents, Wed Nov 11 2026. No macro, syntax, notation, axiom, sorry.
-/
import Derived.Test.YtimikhbnihedkaaDoorRows
import GoSem.ClaimSeven
namespace Go.Proofs.YtimikhbnihedkaaDoor
namespace Rows

/-- THE TIED CARD OF 'dancestudiolaw35.LangChecks'. -/
def langChecksCard : Claim7 := { stood := { row := langChecksRow, standIns := [], harness := (true, "aef1d2c7e072d859abb579481516bf6d466ee1d5f9553f506e4043ff0d3a794c"), looks := true }, kinds := [], alts := [], laidByText := true, laidKinds := [.data, .data, .data], laidTests := true, laidLooks := .later }
def LangChecksCardSaid : Prop := Claim7.holds Tryd.pinned (.plain (OpenSpec.ofChange langChecksSpec)) langChecksCard

/-- THE TIED CARD OF 'dancestudiolaw35.LangParses'. -/
def langParsesCard : Claim7 := { stood := { row := langParsesRow, standIns := [], harness := (true, "aef1d2c7e072d859abb579481516bf6d466ee1d5f9553f506e4043ff0d3a794c"), looks := true }, kinds := [], alts := [], laidByText := true, laidKinds := [.data, .data, .data], laidTests := true, laidLooks := .later }
def LangParsesCardSaid : Prop := Claim7.holds Tryd.pinned (.plain (OpenSpec.ofChange langParsesSpec)) langParsesCard

/-- THE TIED CARD OF 'dancestudiolaw35.LangForms'. -/
def langFormsCard : Claim7 := { stood := { row := langFormsRow, standIns := [], harness := (true, "aef1d2c7e072d859abb579481516bf6d466ee1d5f9553f506e4043ff0d3a794c"), looks := true }, kinds := [], alts := [], laidByText := true, laidKinds := [.data, .data, .data], laidTests := true, laidLooks := .later }
def LangFormsCardSaid : Prop := Claim7.holds Tryd.pinned (.plain (OpenSpec.ofChange langFormsSpec)) langFormsCard

/-- THE TIED CARD OF 'dancestudiolaw35.LangLengths'. -/
def langLengthsCard : Claim7 := { stood := { row := langLengthsRow, standIns := [], harness := (true, "aef1d2c7e072d859abb579481516bf6d466ee1d5f9553f506e4043ff0d3a794c"), looks := true }, kinds := [], alts := [], laidByText := true, laidKinds := [.data, .data, .data], laidTests := true, laidLooks := .later }
def LangLengthsCardSaid : Prop := Claim7.holds Tryd.pinned (.plain (OpenSpec.ofChange langLengthsSpec)) langLengthsCard

/-- THE TIED CARD OF 'dancestudiolaw35.LangNorm'. -/
def langNormCard : Claim7 := { stood := { row := langNormRow, standIns := [], harness := (true, "aef1d2c7e072d859abb579481516bf6d466ee1d5f9553f506e4043ff0d3a794c"), looks := true }, kinds := [], alts := [], laidByText := true, laidKinds := [.data, .data, .data], laidTests := true, laidLooks := .later }
def LangNormCardSaid : Prop := Claim7.holds Tryd.pinned (.plain (OpenSpec.ofChange langNormSpec)) langNormCard

/-- THE TIED CARD OF 'dancestudiolaw35.LangTexts'. -/
def langTextsCard : Claim7 := { stood := { row := langTextsRow, standIns := [], harness := (true, "aef1d2c7e072d859abb579481516bf6d466ee1d5f9553f506e4043ff0d3a794c"), looks := true }, kinds := [], alts := [], laidByText := true, laidKinds := [.data, .data, .data], laidTests := true, laidLooks := .later }
def LangTextsCardSaid : Prop := Claim7.holds Tryd.pinned (.plain (OpenSpec.ofChange langTextsSpec)) langTextsCard

/-- THE TIED CARD OF 'dancestudiolaw35.LangLaws'. -/
def langLawsCard : Claim7 := { stood := { row := langLawsRow, standIns := [], harness := (true, "aef1d2c7e072d859abb579481516bf6d466ee1d5f9553f506e4043ff0d3a794c"), looks := true }, kinds := [], alts := [], laidByText := true, laidKinds := [.data, .data, .data], laidTests := true, laidLooks := .later }
def LangLawsCardSaid : Prop := Claim7.holds Tryd.pinned (.plain (OpenSpec.ofChange langLawsSpec)) langLawsCard

/-- THE SECOND FORM's CARD OF 'dancestudiolaw35.LangChecks'. -/
def langChecksUptoCard : Claim7 := { stood := { row := langChecksUptoRow, standIns := [], harness := (true, "aef1d2c7e072d859abb579481516bf6d466ee1d5f9553f506e4043ff0d3a794c"), looks := true }, kinds := [], alts := [], laidByText := true, laidKinds := [.data, .data, .data], laidTests := true, laidLooks := .later }
def LangChecksUptoCardSaid : Prop := Claim7.holds Tryd.pinned (.plain (OpenSpec.upto langChecksSpec)) langChecksUptoCard

/-- THE SECOND FORM's CARD OF 'dancestudiolaw35.LangParses'. -/
def langParsesUptoCard : Claim7 := { stood := { row := langParsesUptoRow, standIns := [], harness := (true, "aef1d2c7e072d859abb579481516bf6d466ee1d5f9553f506e4043ff0d3a794c"), looks := true }, kinds := [], alts := [], laidByText := true, laidKinds := [.data, .data, .data], laidTests := true, laidLooks := .later }
def LangParsesUptoCardSaid : Prop := Claim7.holds Tryd.pinned (.plain (OpenSpec.upto langParsesSpec)) langParsesUptoCard

/-- THE SECOND FORM's CARD OF 'dancestudiolaw35.LangForms'. -/
def langFormsUptoCard : Claim7 := { stood := { row := langFormsUptoRow, standIns := [], harness := (true, "aef1d2c7e072d859abb579481516bf6d466ee1d5f9553f506e4043ff0d3a794c"), looks := true }, kinds := [], alts := [], laidByText := true, laidKinds := [.data, .data, .data], laidTests := true, laidLooks := .later }
def LangFormsUptoCardSaid : Prop := Claim7.holds Tryd.pinned (.plain (OpenSpec.upto langFormsSpec)) langFormsUptoCard

/-- THE SECOND FORM's CARD OF 'dancestudiolaw35.LangLengths'. -/
def langLengthsUptoCard : Claim7 := { stood := { row := langLengthsUptoRow, standIns := [], harness := (true, "aef1d2c7e072d859abb579481516bf6d466ee1d5f9553f506e4043ff0d3a794c"), looks := true }, kinds := [], alts := [], laidByText := true, laidKinds := [.data, .data, .data], laidTests := true, laidLooks := .later }
def LangLengthsUptoCardSaid : Prop := Claim7.holds Tryd.pinned (.plain (OpenSpec.upto langLengthsSpec)) langLengthsUptoCard

/-- THE SECOND FORM's CARD OF 'dancestudiolaw35.LangNorm'. -/
def langNormUptoCard : Claim7 := { stood := { row := langNormUptoRow, standIns := [], harness := (true, "aef1d2c7e072d859abb579481516bf6d466ee1d5f9553f506e4043ff0d3a794c"), looks := true }, kinds := [], alts := [], laidByText := true, laidKinds := [.data, .data, .data], laidTests := true, laidLooks := .later }
def LangNormUptoCardSaid : Prop := Claim7.holds Tryd.pinned (.plain (OpenSpec.upto langNormSpec)) langNormUptoCard

/-- THE SECOND FORM's CARD OF 'dancestudiolaw35.LangTexts'. -/
def langTextsUptoCard : Claim7 := { stood := { row := langTextsUptoRow, standIns := [], harness := (true, "aef1d2c7e072d859abb579481516bf6d466ee1d5f9553f506e4043ff0d3a794c"), looks := true }, kinds := [], alts := [], laidByText := true, laidKinds := [.data, .data, .data], laidTests := true, laidLooks := .later }
def LangTextsUptoCardSaid : Prop := Claim7.holds Tryd.pinned (.plain (OpenSpec.upto langTextsSpec)) langTextsUptoCard

/-- THE SECOND FORM's CARD OF 'dancestudiolaw35.LangLaws'. -/
def langLawsUptoCard : Claim7 := { stood := { row := langLawsUptoRow, standIns := [], harness := (true, "aef1d2c7e072d859abb579481516bf6d466ee1d5f9553f506e4043ff0d3a794c"), looks := true }, kinds := [], alts := [], laidByText := true, laidKinds := [.data, .data, .data], laidTests := true, laidLooks := .later }
def LangLawsUptoCardSaid : Prop := Claim7.holds Tryd.pinned (.plain (OpenSpec.upto langLawsSpec)) langLawsUptoCard
end Rows
end Go.Proofs.YtimikhbnihedkaaDoor
