/-
  DERIVED. GIVEN WITH THE SEED: THE CARDS: each row of YtgejadnfeeoknaaGreatDoorRows.lean that lists a variable, with what it lists TIED to the program's text (the seventh form; the later family's looks); each row that meets fmt, with fmt's text TOLD by the authors' own Lean function (tested against real Go, not proved from fmt's source: count such statements apart). THE CARD IS WHAT COUNTS. Prove the row's statement (the work); the ties are given (YtgejadnfeeoknaaGreatDoorTie.lean); close each card by the builder's one call (the guide's Derived/Test/ToyasCard.lean, 'card_holds'). Laid BY PROGRAM, IN A SANDBOX (cutbox-door.mjs). By AI agents, Wed Nov 11 2026. No macro, syntax, notation, axiom, sorry.
-/
import Derived.Test.YtgejadnfeeoknaaGreatDoorRows
import GoSem.ClaimSeven
namespace Go.Proofs.YtgejadnfeeoknaaGreatDoor
namespace Rows

/-- THE TIED CARD OF 'rentierlaw6.DateEdge'. -/
def dateEdgeCard : Claim7 := { stood := { row := dateEdgeRow, standIns := [], harness := (true, "ec48f9e5f2077390b61e01c36dd7fcb493f70ab904ae63784b51b27ee4b760cb"), looks := true }, kinds := [], alts := [], laidByText := true, laidKinds := [.data, .data, .data, .data, .handle, .sentinel, .sentinel, .pinned], laidTests := true, laidLooks := .later }
def DateEdgeCardSaid : Prop := Claim7.holds Tryz.pinned (.plain (OpenSpec.ofChange dateEdgeSpec)) dateEdgeCard

/-- THE TIED CARD OF 'rentierlaw6.DateNext'. -/
def dateNextCard : Claim7 := { stood := { row := dateNextRow, standIns := [], harness := (true, "ec48f9e5f2077390b61e01c36dd7fcb493f70ab904ae63784b51b27ee4b760cb"), looks := true }, kinds := [], alts := [], laidByText := true, laidKinds := [.data, .data, .data, .data, .handle, .sentinel, .sentinel, .pinned], laidTests := true, laidLooks := .later }
def DateNextCardSaid : Prop := Claim7.holds Tryz.pinned (.plain (OpenSpec.ofChange dateNextSpec)) dateNextCard

/-- THE TIED CARD OF 'rentierlaw6.EasterAll'. -/
def easterAllCard : Claim7 := { stood := { row := easterAllRow, standIns := [], harness := (true, "ec48f9e5f2077390b61e01c36dd7fcb493f70ab904ae63784b51b27ee4b760cb"), looks := true }, kinds := [], alts := [], laidByText := true, laidKinds := [.data, .data, .data, .data, .handle, .sentinel, .sentinel, .pinned], laidTests := true, laidLooks := .later }
def EasterAllCardSaid : Prop := Claim7.holds Tryz.pinned (.plain (OpenSpec.ofChange easterAllSpec)) easterAllCard

/-- THE TIED CARD OF 'rentierlaw6.DateYears'. -/
def dateYearsCard : Claim7 := { stood := { row := dateYearsRow, standIns := [], harness := (true, "ec48f9e5f2077390b61e01c36dd7fcb493f70ab904ae63784b51b27ee4b760cb"), looks := true }, kinds := [], alts := [], laidByText := true, laidKinds := [.data, .data, .data, .data, .handle, .sentinel, .sentinel, .pinned], laidTests := true, laidLooks := .later }
def DateYearsCardSaid : Prop := Claim7.holds Tryz.pinned (.plain (OpenSpec.ofChange dateYearsSpec)) dateYearsCard

/-- THE TIED CARD OF 'rentierlaw6.EasterMonday'. -/
def easterMondayCard : Claim7 := { stood := { row := easterMondayRow, standIns := [], harness := (true, "ec48f9e5f2077390b61e01c36dd7fcb493f70ab904ae63784b51b27ee4b760cb"), looks := true }, kinds := [], alts := [], laidByText := true, laidKinds := [.data, .data, .data, .data, .handle, .sentinel, .sentinel, .pinned], laidTests := true, laidLooks := .later }
def EasterMondayCardSaid : Prop := Claim7.holds Tryz.pinned (.plain (OpenSpec.ofChange easterMondaySpec)) easterMondayCard

/-- THE TIED CARD OF 'rentierlaw6.HoliNth'. -/
def holiNthCard : Claim7 := { stood := { row := holiNthRow, standIns := [], harness := (true, "ec48f9e5f2077390b61e01c36dd7fcb493f70ab904ae63784b51b27ee4b760cb"), looks := true }, kinds := [], alts := [], laidByText := true, laidKinds := [.data, .data, .data, .data, .handle, .sentinel, .sentinel, .pinned], laidTests := true, laidLooks := .later }
def HoliNthCardSaid : Prop := Claim7.holds Tryz.pinned (.plain (OpenSpec.ofChange holiNthSpec)) holiNthCard

/-- THE TIED CARD OF 'rentierlaw6.HoliShift'. -/
def holiShiftCard : Claim7 := { stood := { row := holiShiftRow, standIns := [], harness := (true, "ec48f9e5f2077390b61e01c36dd7fcb493f70ab904ae63784b51b27ee4b760cb"), looks := true }, kinds := [], alts := [], laidByText := true, laidKinds := [.data, .data, .data, .data, .handle, .sentinel, .sentinel, .pinned], laidTests := true, laidLooks := .later }
def HoliShiftCardSaid : Prop := Claim7.holds Tryz.pinned (.plain (OpenSpec.ofChange holiShiftSpec)) holiShiftCard

/-- THE TIED CARD OF 'rentierlaw6.MonthAll'. -/
def monthAllCard : Claim7 := { stood := { row := monthAllRow, standIns := [], harness := (true, "ec48f9e5f2077390b61e01c36dd7fcb493f70ab904ae63784b51b27ee4b760cb"), looks := true }, kinds := [], alts := [], laidByText := true, laidKinds := [.data, .data, .data, .data, .handle, .sentinel, .sentinel, .pinned], laidTests := true, laidLooks := .later }
def MonthAllCardSaid : Prop := Claim7.holds Tryz.pinned (.plain (OpenSpec.ofChange monthAllSpec)) monthAllCard

/-- THE TIED CARD OF 'rentierlaw6.MonthBack'. -/
def monthBackCard : Claim7 := { stood := { row := monthBackRow, standIns := [], harness := (true, "ec48f9e5f2077390b61e01c36dd7fcb493f70ab904ae63784b51b27ee4b760cb"), looks := true }, kinds := [], alts := [], laidByText := true, laidKinds := [.data, .data, .data, .data, .handle, .sentinel, .sentinel, .pinned], laidTests := true, laidLooks := .later }
def MonthBackCardSaid : Prop := Claim7.holds Tryz.pinned (.plain (OpenSpec.ofChange monthBackSpec)) monthBackCard

/-- THE TIED CARD OF 'rentierlaw6.MonthParts'. -/
def monthPartsCard : Claim7 := { stood := { row := monthPartsRow, standIns := [], harness := (true, "ec48f9e5f2077390b61e01c36dd7fcb493f70ab904ae63784b51b27ee4b760cb"), looks := true }, kinds := [], alts := [], laidByText := true, laidKinds := [.data, .data, .data, .data, .handle, .sentinel, .sentinel, .pinned], laidTests := true, laidLooks := .later }
def MonthPartsCardSaid : Prop := Claim7.holds Tryz.pinned (.plain (OpenSpec.ofChange monthPartsSpec)) monthPartsCard

/-- THE TIED CARD OF 'rentierlaw6.MonthEnds'. -/
def monthEndsCard : Claim7 := { stood := { row := monthEndsRow, standIns := [], harness := (true, "ec48f9e5f2077390b61e01c36dd7fcb493f70ab904ae63784b51b27ee4b760cb"), looks := true }, kinds := [], alts := [], laidByText := true, laidKinds := [.data, .data, .data, .data, .handle, .sentinel, .sentinel, .pinned], laidTests := true, laidLooks := .later }
def MonthEndsCardSaid : Prop := Claim7.holds Tryz.pinned (.plain (OpenSpec.ofChange monthEndsSpec)) monthEndsCard

/-- THE TIED CARD OF 'rentierlaw6.DateAll'. -/
def dateAllCard : Claim7 := { stood := { row := dateAllRow, standIns := [], harness := (true, "ec48f9e5f2077390b61e01c36dd7fcb493f70ab904ae63784b51b27ee4b760cb"), looks := true }, kinds := [], alts := [], laidByText := true, laidKinds := [.data, .data, .data, .data, .handle, .sentinel, .sentinel, .pinned], laidTests := true, laidLooks := .later }
def DateAllCardSaid : Prop := Claim7.holds Tryz.pinned (.plain (OpenSpec.ofChange dateAllSpec)) dateAllCard

/-- THE TIED CARD OF 'rentierlaw6.DateText'. -/
def dateTextCard : Claim7 := { stood := { row := dateTextRow, standIns := [], harness := (true, "ec48f9e5f2077390b61e01c36dd7fcb493f70ab904ae63784b51b27ee4b760cb"), looks := true }, kinds := [], alts := [], laidByText := true, laidKinds := [.data, .data, .data, .data, .handle, .sentinel, .sentinel, .pinned], laidTests := true, laidLooks := .later }
def DateTextCardSaid : Prop := Claim7.holds Tryz.pinned (.plain (OpenSpec.ofChange dateTextSpec)) dateTextCard

/-- THE SECOND FORM's CARD OF 'rentierlaw6.DateEdge'. -/
def dateEdgeUptoCard : Claim7 := { stood := { row := dateEdgeUptoRow, standIns := [], harness := (true, "ec48f9e5f2077390b61e01c36dd7fcb493f70ab904ae63784b51b27ee4b760cb"), looks := true }, kinds := [], alts := [], laidByText := true, laidKinds := [.data, .data, .data, .data, .handle, .sentinel, .sentinel, .pinned], laidTests := true, laidLooks := .later }
def DateEdgeUptoCardSaid : Prop := Claim7.holds Tryz.pinned (.plain (OpenSpec.upto dateEdgeSpec)) dateEdgeUptoCard

/-- THE SECOND FORM's CARD OF 'rentierlaw6.DateNext'. -/
def dateNextUptoCard : Claim7 := { stood := { row := dateNextUptoRow, standIns := [], harness := (true, "ec48f9e5f2077390b61e01c36dd7fcb493f70ab904ae63784b51b27ee4b760cb"), looks := true }, kinds := [], alts := [], laidByText := true, laidKinds := [.data, .data, .data, .data, .handle, .sentinel, .sentinel, .pinned], laidTests := true, laidLooks := .later }
def DateNextUptoCardSaid : Prop := Claim7.holds Tryz.pinned (.plain (OpenSpec.upto dateNextSpec)) dateNextUptoCard

/-- THE SECOND FORM's CARD OF 'rentierlaw6.EasterAll'. -/
def easterAllUptoCard : Claim7 := { stood := { row := easterAllUptoRow, standIns := [], harness := (true, "ec48f9e5f2077390b61e01c36dd7fcb493f70ab904ae63784b51b27ee4b760cb"), looks := true }, kinds := [], alts := [], laidByText := true, laidKinds := [.data, .data, .data, .data, .handle, .sentinel, .sentinel, .pinned], laidTests := true, laidLooks := .later }
def EasterAllUptoCardSaid : Prop := Claim7.holds Tryz.pinned (.plain (OpenSpec.upto easterAllSpec)) easterAllUptoCard

/-- THE SECOND FORM's CARD OF 'rentierlaw6.DateYears'. -/
def dateYearsUptoCard : Claim7 := { stood := { row := dateYearsUptoRow, standIns := [], harness := (true, "ec48f9e5f2077390b61e01c36dd7fcb493f70ab904ae63784b51b27ee4b760cb"), looks := true }, kinds := [], alts := [], laidByText := true, laidKinds := [.data, .data, .data, .data, .handle, .sentinel, .sentinel, .pinned], laidTests := true, laidLooks := .later }
def DateYearsUptoCardSaid : Prop := Claim7.holds Tryz.pinned (.plain (OpenSpec.upto dateYearsSpec)) dateYearsUptoCard

/-- THE SECOND FORM's CARD OF 'rentierlaw6.EasterMonday'. -/
def easterMondayUptoCard : Claim7 := { stood := { row := easterMondayUptoRow, standIns := [], harness := (true, "ec48f9e5f2077390b61e01c36dd7fcb493f70ab904ae63784b51b27ee4b760cb"), looks := true }, kinds := [], alts := [], laidByText := true, laidKinds := [.data, .data, .data, .data, .handle, .sentinel, .sentinel, .pinned], laidTests := true, laidLooks := .later }
def EasterMondayUptoCardSaid : Prop := Claim7.holds Tryz.pinned (.plain (OpenSpec.upto easterMondaySpec)) easterMondayUptoCard

/-- THE SECOND FORM's CARD OF 'rentierlaw6.HoliNth'. -/
def holiNthUptoCard : Claim7 := { stood := { row := holiNthUptoRow, standIns := [], harness := (true, "ec48f9e5f2077390b61e01c36dd7fcb493f70ab904ae63784b51b27ee4b760cb"), looks := true }, kinds := [], alts := [], laidByText := true, laidKinds := [.data, .data, .data, .data, .handle, .sentinel, .sentinel, .pinned], laidTests := true, laidLooks := .later }
def HoliNthUptoCardSaid : Prop := Claim7.holds Tryz.pinned (.plain (OpenSpec.upto holiNthSpec)) holiNthUptoCard

/-- THE SECOND FORM's CARD OF 'rentierlaw6.HoliShift'. -/
def holiShiftUptoCard : Claim7 := { stood := { row := holiShiftUptoRow, standIns := [], harness := (true, "ec48f9e5f2077390b61e01c36dd7fcb493f70ab904ae63784b51b27ee4b760cb"), looks := true }, kinds := [], alts := [], laidByText := true, laidKinds := [.data, .data, .data, .data, .handle, .sentinel, .sentinel, .pinned], laidTests := true, laidLooks := .later }
def HoliShiftUptoCardSaid : Prop := Claim7.holds Tryz.pinned (.plain (OpenSpec.upto holiShiftSpec)) holiShiftUptoCard

/-- THE SECOND FORM's CARD OF 'rentierlaw6.MonthAll'. -/
def monthAllUptoCard : Claim7 := { stood := { row := monthAllUptoRow, standIns := [], harness := (true, "ec48f9e5f2077390b61e01c36dd7fcb493f70ab904ae63784b51b27ee4b760cb"), looks := true }, kinds := [], alts := [], laidByText := true, laidKinds := [.data, .data, .data, .data, .handle, .sentinel, .sentinel, .pinned], laidTests := true, laidLooks := .later }
def MonthAllUptoCardSaid : Prop := Claim7.holds Tryz.pinned (.plain (OpenSpec.upto monthAllSpec)) monthAllUptoCard

/-- THE SECOND FORM's CARD OF 'rentierlaw6.MonthBack'. -/
def monthBackUptoCard : Claim7 := { stood := { row := monthBackUptoRow, standIns := [], harness := (true, "ec48f9e5f2077390b61e01c36dd7fcb493f70ab904ae63784b51b27ee4b760cb"), looks := true }, kinds := [], alts := [], laidByText := true, laidKinds := [.data, .data, .data, .data, .handle, .sentinel, .sentinel, .pinned], laidTests := true, laidLooks := .later }
def MonthBackUptoCardSaid : Prop := Claim7.holds Tryz.pinned (.plain (OpenSpec.upto monthBackSpec)) monthBackUptoCard

/-- THE SECOND FORM's CARD OF 'rentierlaw6.MonthParts'. -/
def monthPartsUptoCard : Claim7 := { stood := { row := monthPartsUptoRow, standIns := [], harness := (true, "ec48f9e5f2077390b61e01c36dd7fcb493f70ab904ae63784b51b27ee4b760cb"), looks := true }, kinds := [], alts := [], laidByText := true, laidKinds := [.data, .data, .data, .data, .handle, .sentinel, .sentinel, .pinned], laidTests := true, laidLooks := .later }
def MonthPartsUptoCardSaid : Prop := Claim7.holds Tryz.pinned (.plain (OpenSpec.upto monthPartsSpec)) monthPartsUptoCard

/-- THE SECOND FORM's CARD OF 'rentierlaw6.MonthEnds'. -/
def monthEndsUptoCard : Claim7 := { stood := { row := monthEndsUptoRow, standIns := [], harness := (true, "ec48f9e5f2077390b61e01c36dd7fcb493f70ab904ae63784b51b27ee4b760cb"), looks := true }, kinds := [], alts := [], laidByText := true, laidKinds := [.data, .data, .data, .data, .handle, .sentinel, .sentinel, .pinned], laidTests := true, laidLooks := .later }
def MonthEndsUptoCardSaid : Prop := Claim7.holds Tryz.pinned (.plain (OpenSpec.upto monthEndsSpec)) monthEndsUptoCard

/-- THE SECOND FORM's CARD OF 'rentierlaw6.DateAll'. -/
def dateAllUptoCard : Claim7 := { stood := { row := dateAllUptoRow, standIns := [], harness := (true, "ec48f9e5f2077390b61e01c36dd7fcb493f70ab904ae63784b51b27ee4b760cb"), looks := true }, kinds := [], alts := [], laidByText := true, laidKinds := [.data, .data, .data, .data, .handle, .sentinel, .sentinel, .pinned], laidTests := true, laidLooks := .later }
def DateAllUptoCardSaid : Prop := Claim7.holds Tryz.pinned (.plain (OpenSpec.upto dateAllSpec)) dateAllUptoCard

/-- THE SECOND FORM's CARD OF 'rentierlaw6.DateText'. -/
def dateTextUptoCard : Claim7 := { stood := { row := dateTextUptoRow, standIns := [], harness := (true, "ec48f9e5f2077390b61e01c36dd7fcb493f70ab904ae63784b51b27ee4b760cb"), looks := true }, kinds := [], alts := [], laidByText := true, laidKinds := [.data, .data, .data, .data, .handle, .sentinel, .sentinel, .pinned], laidTests := true, laidLooks := .later }
def DateTextUptoCardSaid : Prop := Claim7.holds Tryz.pinned (.plain (OpenSpec.upto dateTextSpec)) dateTextUptoCard
end Rows
end Go.Proofs.YtgejadnfeeoknaaGreatDoor
