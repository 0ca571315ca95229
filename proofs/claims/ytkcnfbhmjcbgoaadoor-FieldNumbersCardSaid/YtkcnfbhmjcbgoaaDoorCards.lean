/-
  DERIVED. GIVEN WITH THE SEED: THE CARDS: each row of YtkcnfbhmjcbgoaaDoorRows.lean that lists a variable, with what it lists TIED to the program's text (the seventh form; the later family's looks); each row that meets fmt, with fmt's text TOLD by the authors' own Lean function (tested against real Go, not proved from fmt's source: count such statements apart). THE CARD IS WHAT COUNTS. Prove the row's statement (the work); the ties are given (YtkcnfbhmjcbgoaaDoorTie.lean); close each card by the builder's one call (the guide's Derived/Test/ToyasCard.lean, 'card_holds'). Laid BY PROGRAM, IN A SANDBOX (cutbox-door.mjs). By AI agents, Wed Nov 11 2026. No macro, syntax, notation, axiom, sorry.
-/
import Derived.Test.YtkcnfbhmjcbgoaaDoorRows
import GoSem.ClaimSeven
namespace Go.Proofs.YtkcnfbhmjcbgoaaDoor
namespace Rows

/-- THE TIED CARD OF 'dancestudiolaw06.FieldJoins'. -/
def fieldJoinsCard : Claim7 := { stood := { row := fieldJoinsRow, standIns := [], harness := (true, "69944a64a752450066cae5548fae8b2302bd2cb184a014794b41e28d7ac814bb"), looks := false }, kinds := [], alts := [], laidByText := true, laidKinds := [.data, .pinned], laidTests := true, laidLooks := .later }
def FieldJoinsCardSaid : Prop := Claim7.holds Tryd.pinned (.plain (OpenSpec.ofChange fieldJoinsSpec)) fieldJoinsCard

/-- THE TIED CARD OF 'dancestudiolaw06.FieldSplits'. -/
def fieldSplitsCard : Claim7 := { stood := { row := fieldSplitsRow, standIns := [], harness := (true, "69944a64a752450066cae5548fae8b2302bd2cb184a014794b41e28d7ac814bb"), looks := false }, kinds := [], alts := [], laidByText := true, laidKinds := [.data, .pinned], laidTests := true, laidLooks := .later }
def FieldSplitsCardSaid : Prop := Claim7.holds Tryd.pinned (.plain (OpenSpec.ofChange fieldSplitsSpec)) fieldSplitsCard

/-- THE TIED CARD OF 'dancestudiolaw06.FieldRoundTrip'. -/
def fieldRoundTripCard : Claim7 := { stood := { row := fieldRoundTripRow, standIns := [], harness := (true, "69944a64a752450066cae5548fae8b2302bd2cb184a014794b41e28d7ac814bb"), looks := false }, kinds := [], alts := [], laidByText := true, laidKinds := [.data, .pinned], laidTests := true, laidLooks := .later }
def FieldRoundTripCardSaid : Prop := Claim7.holds Tryd.pinned (.plain (OpenSpec.ofChange fieldRoundTripSpec)) fieldRoundTripCard

/-- THE TIED CARD OF 'dancestudiolaw06.FieldLines'. -/
def fieldLinesCard : Claim7 := { stood := { row := fieldLinesRow, standIns := [], harness := (true, "69944a64a752450066cae5548fae8b2302bd2cb184a014794b41e28d7ac814bb"), looks := false }, kinds := [], alts := [], laidByText := true, laidKinds := [.data, .pinned], laidTests := true, laidLooks := .later }
def FieldLinesCardSaid : Prop := Claim7.holds Tryd.pinned (.plain (OpenSpec.ofChange fieldLinesSpec)) fieldLinesCard

/-- THE TIED CARD OF 'dancestudiolaw06.FieldTexts'. -/
def fieldTextsCard : Claim7 := { stood := { row := fieldTextsRow, standIns := [], harness := (true, "69944a64a752450066cae5548fae8b2302bd2cb184a014794b41e28d7ac814bb"), looks := false }, kinds := [], alts := [], laidByText := true, laidKinds := [.data, .pinned], laidTests := true, laidLooks := .later }
def FieldTextsCardSaid : Prop := Claim7.holds Tryd.pinned (.plain (OpenSpec.ofChange fieldTextsSpec)) fieldTextsCard

/-- THE TIED CARD OF 'dancestudiolaw06.FieldDigits'. -/
def fieldDigitsCard : Claim7 := { stood := { row := fieldDigitsRow, standIns := [], harness := (true, "69944a64a752450066cae5548fae8b2302bd2cb184a014794b41e28d7ac814bb"), looks := false }, kinds := [], alts := [], laidByText := true, laidKinds := [.data, .pinned], laidTests := true, laidLooks := .later }
def FieldDigitsCardSaid : Prop := Claim7.holds Tryd.pinned (.plain (OpenSpec.ofChange fieldDigitsSpec)) fieldDigitsCard

/-- THE TIED CARD OF 'dancestudiolaw06.FieldNumbers'. -/
def fieldNumbersCard : Claim7 := { stood := { row := fieldNumbersRow, standIns := [], harness := (true, "69944a64a752450066cae5548fae8b2302bd2cb184a014794b41e28d7ac814bb"), looks := false }, kinds := [], alts := [], laidByText := true, laidKinds := [.data, .pinned], laidTests := true, laidLooks := .later }
def FieldNumbersCardSaid : Prop := Claim7.holds Tryd.pinned (.plain (OpenSpec.ofChange fieldNumbersSpec)) fieldNumbersCard

/-- THE SECOND FORM's CARD OF 'dancestudiolaw06.FieldJoins'. -/
def fieldJoinsUptoCard : Claim7 := { stood := { row := fieldJoinsUptoRow, standIns := [], harness := (true, "69944a64a752450066cae5548fae8b2302bd2cb184a014794b41e28d7ac814bb"), looks := false }, kinds := [], alts := [], laidByText := true, laidKinds := [.data, .pinned], laidTests := true, laidLooks := .later }
def FieldJoinsUptoCardSaid : Prop := Claim7.holds Tryd.pinned (.plain (OpenSpec.upto fieldJoinsSpec)) fieldJoinsUptoCard

/-- THE SECOND FORM's CARD OF 'dancestudiolaw06.FieldSplits'. -/
def fieldSplitsUptoCard : Claim7 := { stood := { row := fieldSplitsUptoRow, standIns := [], harness := (true, "69944a64a752450066cae5548fae8b2302bd2cb184a014794b41e28d7ac814bb"), looks := false }, kinds := [], alts := [], laidByText := true, laidKinds := [.data, .pinned], laidTests := true, laidLooks := .later }
def FieldSplitsUptoCardSaid : Prop := Claim7.holds Tryd.pinned (.plain (OpenSpec.upto fieldSplitsSpec)) fieldSplitsUptoCard

/-- THE SECOND FORM's CARD OF 'dancestudiolaw06.FieldRoundTrip'. -/
def fieldRoundTripUptoCard : Claim7 := { stood := { row := fieldRoundTripUptoRow, standIns := [], harness := (true, "69944a64a752450066cae5548fae8b2302bd2cb184a014794b41e28d7ac814bb"), looks := false }, kinds := [], alts := [], laidByText := true, laidKinds := [.data, .pinned], laidTests := true, laidLooks := .later }
def FieldRoundTripUptoCardSaid : Prop := Claim7.holds Tryd.pinned (.plain (OpenSpec.upto fieldRoundTripSpec)) fieldRoundTripUptoCard

/-- THE SECOND FORM's CARD OF 'dancestudiolaw06.FieldLines'. -/
def fieldLinesUptoCard : Claim7 := { stood := { row := fieldLinesUptoRow, standIns := [], harness := (true, "69944a64a752450066cae5548fae8b2302bd2cb184a014794b41e28d7ac814bb"), looks := false }, kinds := [], alts := [], laidByText := true, laidKinds := [.data, .pinned], laidTests := true, laidLooks := .later }
def FieldLinesUptoCardSaid : Prop := Claim7.holds Tryd.pinned (.plain (OpenSpec.upto fieldLinesSpec)) fieldLinesUptoCard

/-- THE SECOND FORM's CARD OF 'dancestudiolaw06.FieldTexts'. -/
def fieldTextsUptoCard : Claim7 := { stood := { row := fieldTextsUptoRow, standIns := [], harness := (true, "69944a64a752450066cae5548fae8b2302bd2cb184a014794b41e28d7ac814bb"), looks := false }, kinds := [], alts := [], laidByText := true, laidKinds := [.data, .pinned], laidTests := true, laidLooks := .later }
def FieldTextsUptoCardSaid : Prop := Claim7.holds Tryd.pinned (.plain (OpenSpec.upto fieldTextsSpec)) fieldTextsUptoCard

/-- THE SECOND FORM's CARD OF 'dancestudiolaw06.FieldDigits'. -/
def fieldDigitsUptoCard : Claim7 := { stood := { row := fieldDigitsUptoRow, standIns := [], harness := (true, "69944a64a752450066cae5548fae8b2302bd2cb184a014794b41e28d7ac814bb"), looks := false }, kinds := [], alts := [], laidByText := true, laidKinds := [.data, .pinned], laidTests := true, laidLooks := .later }
def FieldDigitsUptoCardSaid : Prop := Claim7.holds Tryd.pinned (.plain (OpenSpec.upto fieldDigitsSpec)) fieldDigitsUptoCard

/-- THE SECOND FORM's CARD OF 'dancestudiolaw06.FieldNumbers'. -/
def fieldNumbersUptoCard : Claim7 := { stood := { row := fieldNumbersUptoRow, standIns := [], harness := (true, "69944a64a752450066cae5548fae8b2302bd2cb184a014794b41e28d7ac814bb"), looks := false }, kinds := [], alts := [], laidByText := true, laidKinds := [.data, .pinned], laidTests := true, laidLooks := .later }
def FieldNumbersUptoCardSaid : Prop := Claim7.holds Tryd.pinned (.plain (OpenSpec.upto fieldNumbersSpec)) fieldNumbersUptoCard
end Rows
end Go.Proofs.YtkcnfbhmjcbgoaaDoor
