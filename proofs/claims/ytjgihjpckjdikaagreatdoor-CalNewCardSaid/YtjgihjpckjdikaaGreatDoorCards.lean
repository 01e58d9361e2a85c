/-
  DERIVED. GIVEN WITH THE SEED: THE CARDS: each row of YtjgihjpckjdikaaGreatDoorRows.lean that lists a variable, with what it lists TIED to the program's text (the seventh form; the later family's looks); each row that meets fmt, with fmt's text TOLD by the authors' own Lean function (tested against real Go, not proved from fmt's source: count such statements apart). THE CARD IS WHAT COUNTS. Prove the row's statement (the work); the ties are given (YtjgihjpckjdikaaGreatDoorTie.lean); close each card by the builder's one call (the guide's Derived/Test/ToyasCard.lean, 'card_holds'). Laid BY PROGRAM, IN A SANDBOX (cutbox-door.mjs). By AI agents, Wed Nov 11 2026. No macro, syntax, notation, axiom, sorry.
-/
import Derived.Test.YtjgihjpckjdikaaGreatDoorRows
import GoSem.ClaimSeven
namespace Go.Proofs.YtjgihjpckjdikaaGreatDoor
namespace Rows

/-- THE TIED CARD OF 'rentierlaw6.EasterKnown'. -/
def easterKnownCard : Claim7 := { stood := { row := easterKnownRow, standIns := [], harness := (true, "74f93d08722104bafed4d615b0db7c0ea79778fdedf7f592a853f1cfd95f0098"), looks := true }, kinds := [], alts := [], laidByText := true, laidKinds := [.data, .data, .data, .data, .handle, .sentinel, .sentinel, .pinned], laidTests := true, laidLooks := .later }
def EasterKnownCardSaid : Prop := Claim7.holds Tryz.pinned (.plain (OpenSpec.ofChange easterKnownSpec)) easterKnownCard

/-- THE TIED CARD OF 'rentierlaw6.CalNew'. -/
def calNewCard : Claim7 := { stood := { row := calNewRow, standIns := [], harness := (true, "74f93d08722104bafed4d615b0db7c0ea79778fdedf7f592a853f1cfd95f0098"), looks := true }, kinds := [], alts := [], laidByText := true, laidKinds := [.data, .data, .data, .data, .handle, .sentinel, .sentinel, .pinned], laidTests := true, laidLooks := .later }
def CalNewCardSaid : Prop := Claim7.holds Tryz.pinned (.plain (OpenSpec.ofChange calNewSpec)) calNewCard

/-- THE TIED CARD OF 'rentierlaw6.CalAll'. -/
def calAllCard : Claim7 := { stood := { row := calAllRow, standIns := [], harness := (true, "74f93d08722104bafed4d615b0db7c0ea79778fdedf7f592a853f1cfd95f0098"), looks := true }, kinds := [], alts := [], laidByText := true, laidKinds := [.data, .data, .data, .data, .handle, .sentinel, .sentinel, .pinned], laidTests := true, laidLooks := .later }
def CalAllCardSaid : Prop := Claim7.holds Tryz.pinned (.plain (OpenSpec.ofChange calAllSpec)) calAllCard

/-- THE TIED CARD OF 'rentierlaw6.RollAll'. -/
def rollAllCard : Claim7 := { stood := { row := rollAllRow, standIns := [], harness := (true, "74f93d08722104bafed4d615b0db7c0ea79778fdedf7f592a853f1cfd95f0098"), looks := true }, kinds := [], alts := [], laidByText := true, laidKinds := [.data, .data, .data, .data, .handle, .sentinel, .sentinel, .pinned], laidTests := true, laidLooks := .later }
def RollAllCardSaid : Prop := Claim7.holds Tryz.pinned (.plain (OpenSpec.ofChange rollAllSpec)) rollAllCard

/-- THE TIED CARD OF 'rentierlaw6.CalJoin'. -/
def calJoinCard : Claim7 := { stood := { row := calJoinRow, standIns := [], harness := (true, "74f93d08722104bafed4d615b0db7c0ea79778fdedf7f592a853f1cfd95f0098"), looks := true }, kinds := [], alts := [], laidByText := true, laidKinds := [.data, .data, .data, .data, .handle, .sentinel, .sentinel, .pinned], laidTests := true, laidLooks := .later }
def CalJoinCardSaid : Prop := Claim7.holds Tryz.pinned (.plain (OpenSpec.ofChange calJoinSpec)) calJoinCard

/-- THE TIED CARD OF 'rentierlaw6.CountYear'. -/
def countYearCard : Claim7 := { stood := { row := countYearRow, standIns := [], harness := (true, "74f93d08722104bafed4d615b0db7c0ea79778fdedf7f592a853f1cfd95f0098"), looks := true }, kinds := [], alts := [], laidByText := true, laidKinds := [.data, .data, .data, .data, .handle, .sentinel, .sentinel, .pinned], laidTests := true, laidLooks := .later }
def CountYearCardSaid : Prop := Claim7.holds Tryz.pinned (.plain (OpenSpec.ofChange countYearSpec)) countYearCard

/-- THE TIED CARD OF 'rentierlaw6.CalCount'. -/
def calCountCard : Claim7 := { stood := { row := calCountRow, standIns := [], harness := (true, "74f93d08722104bafed4d615b0db7c0ea79778fdedf7f592a853f1cfd95f0098"), looks := true }, kinds := [], alts := [], laidByText := true, laidKinds := [.data, .data, .data, .data, .handle, .sentinel, .sentinel, .pinned], laidTests := true, laidLooks := .later }
def CalCountCardSaid : Prop := Claim7.holds Tryz.pinned (.plain (OpenSpec.ofChange calCountSpec)) calCountCard

/-- THE TIED CARD OF 'rentierlaw6.RollNear'. -/
def rollNearCard : Claim7 := { stood := { row := rollNearRow, standIns := [], harness := (true, "74f93d08722104bafed4d615b0db7c0ea79778fdedf7f592a853f1cfd95f0098"), looks := true }, kinds := [], alts := [], laidByText := true, laidKinds := [.data, .data, .data, .data, .handle, .sentinel, .sentinel, .pinned], laidTests := true, laidLooks := .later }
def RollNearCardSaid : Prop := Claim7.holds Tryz.pinned (.plain (OpenSpec.ofChange rollNearSpec)) rollNearCard

/-- THE TIED CARD OF 'rentierlaw6.RollLaws'. -/
def rollLawsCard : Claim7 := { stood := { row := rollLawsRow, standIns := [], harness := (true, "74f93d08722104bafed4d615b0db7c0ea79778fdedf7f592a853f1cfd95f0098"), looks := true }, kinds := [], alts := [], laidByText := true, laidKinds := [.data, .data, .data, .data, .handle, .sentinel, .sentinel, .pinned], laidTests := true, laidLooks := .later }
def RollLawsCardSaid : Prop := Claim7.holds Tryz.pinned (.plain (OpenSpec.ofChange rollLawsSpec)) rollLawsCard

/-- THE TIED CARD OF 'rentierlaw6.CalBack'. -/
def calBackCard : Claim7 := { stood := { row := calBackRow, standIns := [], harness := (true, "74f93d08722104bafed4d615b0db7c0ea79778fdedf7f592a853f1cfd95f0098"), looks := true }, kinds := [], alts := [], laidByText := true, laidKinds := [.data, .data, .data, .data, .handle, .sentinel, .sentinel, .pinned], laidTests := true, laidLooks := .later }
def CalBackCardSaid : Prop := Claim7.holds Tryz.pinned (.plain (OpenSpec.ofChange calBackSpec)) calBackCard

/-- THE TIED CARD OF 'rentierlaw6.CalAdd'. -/
def calAddCard : Claim7 := { stood := { row := calAddRow, standIns := [], harness := (true, "74f93d08722104bafed4d615b0db7c0ea79778fdedf7f592a853f1cfd95f0098"), looks := true }, kinds := [], alts := [], laidByText := true, laidKinds := [.data, .data, .data, .data, .handle, .sentinel, .sentinel, .pinned], laidTests := true, laidLooks := .later }
def CalAddCardSaid : Prop := Claim7.holds Tryz.pinned (.plain (OpenSpec.ofChange calAddSpec)) calAddCard

/-- THE TIED CARD OF 'rentierlaw6.CountNone'. -/
def countNoneCard : Claim7 := { stood := { row := countNoneRow, standIns := [], harness := (true, "74f93d08722104bafed4d615b0db7c0ea79778fdedf7f592a853f1cfd95f0098"), looks := true }, kinds := [], alts := [], laidByText := true, laidKinds := [.data, .data, .data, .data, .handle, .sentinel, .sentinel, .pinned], laidTests := true, laidLooks := .later }
def CountNoneCardSaid : Prop := Claim7.holds Tryz.pinned (.plain (OpenSpec.ofChange countNoneSpec)) countNoneCard

/-- THE TIED CARD OF 'rentierlaw6.DateKnown'. -/
def dateKnownCard : Claim7 := { stood := { row := dateKnownRow, standIns := [], harness := (true, "74f93d08722104bafed4d615b0db7c0ea79778fdedf7f592a853f1cfd95f0098"), looks := true }, kinds := [], alts := [], laidByText := true, laidKinds := [.data, .data, .data, .data, .handle, .sentinel, .sentinel, .pinned], laidTests := true, laidLooks := .later }
def DateKnownCardSaid : Prop := Claim7.holds Tryz.pinned (.plain (OpenSpec.ofChange dateKnownSpec)) dateKnownCard

/-- THE SECOND FORM's CARD OF 'rentierlaw6.EasterKnown'. -/
def easterKnownUptoCard : Claim7 := { stood := { row := easterKnownUptoRow, standIns := [], harness := (true, "74f93d08722104bafed4d615b0db7c0ea79778fdedf7f592a853f1cfd95f0098"), looks := true }, kinds := [], alts := [], laidByText := true, laidKinds := [.data, .data, .data, .data, .handle, .sentinel, .sentinel, .pinned], laidTests := true, laidLooks := .later }
def EasterKnownUptoCardSaid : Prop := Claim7.holds Tryz.pinned (.plain (OpenSpec.upto easterKnownSpec)) easterKnownUptoCard

/-- THE SECOND FORM's CARD OF 'rentierlaw6.CalNew'. -/
def calNewUptoCard : Claim7 := { stood := { row := calNewUptoRow, standIns := [], harness := (true, "74f93d08722104bafed4d615b0db7c0ea79778fdedf7f592a853f1cfd95f0098"), looks := true }, kinds := [], alts := [], laidByText := true, laidKinds := [.data, .data, .data, .data, .handle, .sentinel, .sentinel, .pinned], laidTests := true, laidLooks := .later }
def CalNewUptoCardSaid : Prop := Claim7.holds Tryz.pinned (.plain (OpenSpec.upto calNewSpec)) calNewUptoCard

/-- THE SECOND FORM's CARD OF 'rentierlaw6.CalAll'. -/
def calAllUptoCard : Claim7 := { stood := { row := calAllUptoRow, standIns := [], harness := (true, "74f93d08722104bafed4d615b0db7c0ea79778fdedf7f592a853f1cfd95f0098"), looks := true }, kinds := [], alts := [], laidByText := true, laidKinds := [.data, .data, .data, .data, .handle, .sentinel, .sentinel, .pinned], laidTests := true, laidLooks := .later }
def CalAllUptoCardSaid : Prop := Claim7.holds Tryz.pinned (.plain (OpenSpec.upto calAllSpec)) calAllUptoCard

/-- THE SECOND FORM's CARD OF 'rentierlaw6.RollAll'. -/
def rollAllUptoCard : Claim7 := { stood := { row := rollAllUptoRow, standIns := [], harness := (true, "74f93d08722104bafed4d615b0db7c0ea79778fdedf7f592a853f1cfd95f0098"), looks := true }, kinds := [], alts := [], laidByText := true, laidKinds := [.data, .data, .data, .data, .handle, .sentinel, .sentinel, .pinned], laidTests := true, laidLooks := .later }
def RollAllUptoCardSaid : Prop := Claim7.holds Tryz.pinned (.plain (OpenSpec.upto rollAllSpec)) rollAllUptoCard

/-- THE SECOND FORM's CARD OF 'rentierlaw6.CalJoin'. -/
def calJoinUptoCard : Claim7 := { stood := { row := calJoinUptoRow, standIns := [], harness := (true, "74f93d08722104bafed4d615b0db7c0ea79778fdedf7f592a853f1cfd95f0098"), looks := true }, kinds := [], alts := [], laidByText := true, laidKinds := [.data, .data, .data, .data, .handle, .sentinel, .sentinel, .pinned], laidTests := true, laidLooks := .later }
def CalJoinUptoCardSaid : Prop := Claim7.holds Tryz.pinned (.plain (OpenSpec.upto calJoinSpec)) calJoinUptoCard

/-- THE SECOND FORM's CARD OF 'rentierlaw6.CountYear'. -/
def countYearUptoCard : Claim7 := { stood := { row := countYearUptoRow, standIns := [], harness := (true, "74f93d08722104bafed4d615b0db7c0ea79778fdedf7f592a853f1cfd95f0098"), looks := true }, kinds := [], alts := [], laidByText := true, laidKinds := [.data, .data, .data, .data, .handle, .sentinel, .sentinel, .pinned], laidTests := true, laidLooks := .later }
def CountYearUptoCardSaid : Prop := Claim7.holds Tryz.pinned (.plain (OpenSpec.upto countYearSpec)) countYearUptoCard

/-- THE SECOND FORM's CARD OF 'rentierlaw6.CalCount'. -/
def calCountUptoCard : Claim7 := { stood := { row := calCountUptoRow, standIns := [], harness := (true, "74f93d08722104bafed4d615b0db7c0ea79778fdedf7f592a853f1cfd95f0098"), looks := true }, kinds := [], alts := [], laidByText := true, laidKinds := [.data, .data, .data, .data, .handle, .sentinel, .sentinel, .pinned], laidTests := true, laidLooks := .later }
def CalCountUptoCardSaid : Prop := Claim7.holds Tryz.pinned (.plain (OpenSpec.upto calCountSpec)) calCountUptoCard

/-- THE SECOND FORM's CARD OF 'rentierlaw6.RollNear'. -/
def rollNearUptoCard : Claim7 := { stood := { row := rollNearUptoRow, standIns := [], harness := (true, "74f93d08722104bafed4d615b0db7c0ea79778fdedf7f592a853f1cfd95f0098"), looks := true }, kinds := [], alts := [], laidByText := true, laidKinds := [.data, .data, .data, .data, .handle, .sentinel, .sentinel, .pinned], laidTests := true, laidLooks := .later }
def RollNearUptoCardSaid : Prop := Claim7.holds Tryz.pinned (.plain (OpenSpec.upto rollNearSpec)) rollNearUptoCard

/-- THE SECOND FORM's CARD OF 'rentierlaw6.RollLaws'. -/
def rollLawsUptoCard : Claim7 := { stood := { row := rollLawsUptoRow, standIns := [], harness := (true, "74f93d08722104bafed4d615b0db7c0ea79778fdedf7f592a853f1cfd95f0098"), looks := true }, kinds := [], alts := [], laidByText := true, laidKinds := [.data, .data, .data, .data, .handle, .sentinel, .sentinel, .pinned], laidTests := true, laidLooks := .later }
def RollLawsUptoCardSaid : Prop := Claim7.holds Tryz.pinned (.plain (OpenSpec.upto rollLawsSpec)) rollLawsUptoCard

/-- THE SECOND FORM's CARD OF 'rentierlaw6.CalBack'. -/
def calBackUptoCard : Claim7 := { stood := { row := calBackUptoRow, standIns := [], harness := (true, "74f93d08722104bafed4d615b0db7c0ea79778fdedf7f592a853f1cfd95f0098"), looks := true }, kinds := [], alts := [], laidByText := true, laidKinds := [.data, .data, .data, .data, .handle, .sentinel, .sentinel, .pinned], laidTests := true, laidLooks := .later }
def CalBackUptoCardSaid : Prop := Claim7.holds Tryz.pinned (.plain (OpenSpec.upto calBackSpec)) calBackUptoCard

/-- THE SECOND FORM's CARD OF 'rentierlaw6.CalAdd'. -/
def calAddUptoCard : Claim7 := { stood := { row := calAddUptoRow, standIns := [], harness := (true, "74f93d08722104bafed4d615b0db7c0ea79778fdedf7f592a853f1cfd95f0098"), looks := true }, kinds := [], alts := [], laidByText := true, laidKinds := [.data, .data, .data, .data, .handle, .sentinel, .sentinel, .pinned], laidTests := true, laidLooks := .later }
def CalAddUptoCardSaid : Prop := Claim7.holds Tryz.pinned (.plain (OpenSpec.upto calAddSpec)) calAddUptoCard

/-- THE SECOND FORM's CARD OF 'rentierlaw6.CountNone'. -/
def countNoneUptoCard : Claim7 := { stood := { row := countNoneUptoRow, standIns := [], harness := (true, "74f93d08722104bafed4d615b0db7c0ea79778fdedf7f592a853f1cfd95f0098"), looks := true }, kinds := [], alts := [], laidByText := true, laidKinds := [.data, .data, .data, .data, .handle, .sentinel, .sentinel, .pinned], laidTests := true, laidLooks := .later }
def CountNoneUptoCardSaid : Prop := Claim7.holds Tryz.pinned (.plain (OpenSpec.upto countNoneSpec)) countNoneUptoCard

/-- THE SECOND FORM's CARD OF 'rentierlaw6.DateKnown'. -/
def dateKnownUptoCard : Claim7 := { stood := { row := dateKnownUptoRow, standIns := [], harness := (true, "74f93d08722104bafed4d615b0db7c0ea79778fdedf7f592a853f1cfd95f0098"), looks := true }, kinds := [], alts := [], laidByText := true, laidKinds := [.data, .data, .data, .data, .handle, .sentinel, .sentinel, .pinned], laidTests := true, laidLooks := .later }
def DateKnownUptoCardSaid : Prop := Claim7.holds Tryz.pinned (.plain (OpenSpec.upto dateKnownSpec)) dateKnownUptoCard
end Rows
end Go.Proofs.YtjgihjpckjdikaaGreatDoor
