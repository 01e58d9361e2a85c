/-
  DERIVED. GIVEN WITH THE SEED: THE CARDS: each row of YtglbdafcfcmffaaGreatDoorRows.lean that lists a variable, with what it lists TIED to the program's text (the seventh form; the later family's looks); each row that meets fmt, with fmt's text TOLD by the authors' own Lean function (tested against real Go, not proved from fmt's source: count such statements apart). THE CARD IS WHAT COUNTS. Prove the row's statement (the work); the ties are given (YtglbdafcfcmffaaGreatDoorTie.lean); close each card by the builder's one call (the guide's Derived/Test/ToyasCard.lean, 'card_holds'). Laid BY PROGRAM, IN A SANDBOX (cutbox-door.mjs). By AI agents, Wed Nov 11 2026. No macro, syntax, notation, axiom, sorry.
-/
import Derived.Test.YtglbdafcfcmffaaGreatDoorRows
import GoSem.ClaimSeven
namespace Go.Proofs.YtglbdafcfcmffaaGreatDoor
namespace Rows

/-- THE TIED CARD OF 'rentierlaw6.CalAll'. -/
def calAllCard : Claim7 := { stood := { row := calAllRow, standIns := [], harness := (true, "692d2f9f53657fc3561b30042042fd18935353d06dbd48ea3830e9f348bb399d"), looks := true }, kinds := [], alts := [], laidByText := true, laidKinds := [.data, .data, .data, .data, .handle, .sentinel, .sentinel, .pinned], laidTests := true, laidLooks := .later }
def CalAllCardSaid : Prop := Claim7.holds Tryz.pinned (.plain (OpenSpec.ofChange calAllSpec)) calAllCard

/-- THE TIED CARD OF 'rentierlaw6.CountParts'. -/
def countPartsCard : Claim7 := { stood := { row := countPartsRow, standIns := [], harness := (true, "692d2f9f53657fc3561b30042042fd18935353d06dbd48ea3830e9f348bb399d"), looks := true }, kinds := [], alts := [], laidByText := true, laidKinds := [.data, .data, .data, .data, .handle, .sentinel, .sentinel, .pinned], laidTests := true, laidLooks := .later }
def CountPartsCardSaid : Prop := Claim7.holds Tryz.pinned (.plain (OpenSpec.ofChange countPartsSpec)) countPartsCard

/-- THE TIED CARD OF 'rentierlaw6.CountAll'. -/
def countAllCard : Claim7 := { stood := { row := countAllRow, standIns := [], harness := (true, "692d2f9f53657fc3561b30042042fd18935353d06dbd48ea3830e9f348bb399d"), looks := true }, kinds := [], alts := [], laidByText := true, laidKinds := [.data, .data, .data, .data, .handle, .sentinel, .sentinel, .pinned], laidTests := true, laidLooks := .later }
def CountAllCardSaid : Prop := Claim7.holds Tryz.pinned (.plain (OpenSpec.ofChange countAllSpec)) countAllCard

/-- THE TIED CARD OF 'rentierlaw2.NatCarry'. -/
def natCarryCard : Claim7 := { stood := { row := natCarryRow, standIns := [], harness := (true, "692d2f9f53657fc3561b30042042fd18935353d06dbd48ea3830e9f348bb399d"), looks := true }, kinds := [], alts := [], laidByText := true, laidKinds := [.data, .data, .data, .data, .handle, .sentinel, .sentinel, .pinned], laidTests := true, laidLooks := .later }
def NatCarryCardSaid : Prop := Claim7.holds Tryz.pinned (.plain (OpenSpec.ofChange natCarrySpec)) natCarryCard

/-- THE TIED CARD OF 'rentierlaw2.DecHalf'. -/
def decHalfCard : Claim7 := { stood := { row := decHalfRow, standIns := [], harness := (true, "692d2f9f53657fc3561b30042042fd18935353d06dbd48ea3830e9f348bb399d"), looks := true }, kinds := [], alts := [], laidByText := true, laidKinds := [.data, .data, .data, .data, .handle, .sentinel, .sentinel, .pinned], laidTests := true, laidLooks := .later }
def DecHalfCardSaid : Prop := Claim7.holds Tryz.pinned (.plain (OpenSpec.ofChange decHalfSpec)) decHalfCard

/-- THE TIED CARD OF 'rentierlaw2.RatTexts'. -/
def ratTextsCard : Claim7 := { stood := { row := ratTextsRow, standIns := [], harness := (true, "692d2f9f53657fc3561b30042042fd18935353d06dbd48ea3830e9f348bb399d"), looks := true }, kinds := [], alts := [], laidByText := true, laidKinds := [.data, .data, .data, .data, .handle, .sentinel, .sentinel, .pinned], laidTests := true, laidLooks := .later }
def RatTextsCardSaid : Prop := Claim7.holds Tryz.pinned (.plain (OpenSpec.ofChange ratTextsSpec)) ratTextsCard

/-- THE TIED CARD OF 'rentierlaw2.DecTexts'. -/
def decTextsCard : Claim7 := { stood := { row := decTextsRow, standIns := [], harness := (true, "692d2f9f53657fc3561b30042042fd18935353d06dbd48ea3830e9f348bb399d"), looks := true }, kinds := [], alts := [], laidByText := true, laidKinds := [.data, .data, .data, .data, .handle, .sentinel, .sentinel, .pinned], laidTests := true, laidLooks := .later }
def DecTextsCardSaid : Prop := Claim7.holds Tryz.pinned (.plain (OpenSpec.ofChange decTextsSpec)) decTextsCard

/-- THE TIED CARD OF 'rentierlaw2.NatAll'. -/
def natAllCard : Claim7 := { stood := { row := natAllRow, standIns := [], harness := (true, "692d2f9f53657fc3561b30042042fd18935353d06dbd48ea3830e9f348bb399d"), looks := true }, kinds := [], alts := [], laidByText := true, laidKinds := [.data, .data, .data, .data, .handle, .sentinel, .sentinel, .pinned], laidTests := true, laidLooks := .later }
def NatAllCardSaid : Prop := Claim7.holds Tryz.pinned (.plain (OpenSpec.ofChange natAllSpec)) natAllCard

/-- THE TIED CARD OF 'rentierlaw2.NatLaws'. -/
def natLawsCard : Claim7 := { stood := { row := natLawsRow, standIns := [], harness := (true, "692d2f9f53657fc3561b30042042fd18935353d06dbd48ea3830e9f348bb399d"), looks := true }, kinds := [], alts := [], laidByText := true, laidKinds := [.data, .data, .data, .data, .handle, .sentinel, .sentinel, .pinned], laidTests := true, laidLooks := .later }
def NatLawsCardSaid : Prop := Claim7.holds Tryz.pinned (.plain (OpenSpec.ofChange natLawsSpec)) natLawsCard

/-- THE TIED CARD OF 'rentierlaw2.NatDigit'. -/
def natDigitCard : Claim7 := { stood := { row := natDigitRow, standIns := [], harness := (true, "692d2f9f53657fc3561b30042042fd18935353d06dbd48ea3830e9f348bb399d"), looks := true }, kinds := [], alts := [], laidByText := true, laidKinds := [.data, .data, .data, .data, .handle, .sentinel, .sentinel, .pinned], laidTests := true, laidLooks := .later }
def NatDigitCardSaid : Prop := Claim7.holds Tryz.pinned (.plain (OpenSpec.ofChange natDigitSpec)) natDigitCard

/-- THE TIED CARD OF 'rentierlaw2.NatGcd'. -/
def natGcdCard : Claim7 := { stood := { row := natGcdRow, standIns := [], harness := (true, "692d2f9f53657fc3561b30042042fd18935353d06dbd48ea3830e9f348bb399d"), looks := true }, kinds := [], alts := [], laidByText := true, laidKinds := [.data, .data, .data, .data, .handle, .sentinel, .sentinel, .pinned], laidTests := true, laidLooks := .later }
def NatGcdCardSaid : Prop := Claim7.holds Tryz.pinned (.plain (OpenSpec.ofChange natGcdSpec)) natGcdCard

/-- THE TIED CARD OF 'rentierlaw2.NatOwn'. -/
def natOwnCard : Claim7 := { stood := { row := natOwnRow, standIns := [], harness := (true, "692d2f9f53657fc3561b30042042fd18935353d06dbd48ea3830e9f348bb399d"), looks := true }, kinds := [], alts := [], laidByText := true, laidKinds := [.data, .data, .data, .data, .handle, .sentinel, .sentinel, .pinned], laidTests := true, laidLooks := .later }
def NatOwnCardSaid : Prop := Claim7.holds Tryz.pinned (.plain (OpenSpec.ofChange natOwnSpec)) natOwnCard

/-- THE TIED CARD OF 'rentierlaw2.DecGet'. -/
def decGetCard : Claim7 := { stood := { row := decGetRow, standIns := [], harness := (true, "692d2f9f53657fc3561b30042042fd18935353d06dbd48ea3830e9f348bb399d"), looks := true }, kinds := [], alts := [], laidByText := true, laidKinds := [.data, .data, .data, .data, .handle, .sentinel, .sentinel, .pinned], laidTests := true, laidLooks := .later }
def DecGetCardSaid : Prop := Claim7.holds Tryz.pinned (.plain (OpenSpec.ofChange decGetSpec)) decGetCard

/-- THE SECOND FORM's CARD OF 'rentierlaw6.CalAll'. -/
def calAllUptoCard : Claim7 := { stood := { row := calAllUptoRow, standIns := [], harness := (true, "692d2f9f53657fc3561b30042042fd18935353d06dbd48ea3830e9f348bb399d"), looks := true }, kinds := [], alts := [], laidByText := true, laidKinds := [.data, .data, .data, .data, .handle, .sentinel, .sentinel, .pinned], laidTests := true, laidLooks := .later }
def CalAllUptoCardSaid : Prop := Claim7.holds Tryz.pinned (.plain (OpenSpec.upto calAllSpec)) calAllUptoCard

/-- THE SECOND FORM's CARD OF 'rentierlaw6.CountParts'. -/
def countPartsUptoCard : Claim7 := { stood := { row := countPartsUptoRow, standIns := [], harness := (true, "692d2f9f53657fc3561b30042042fd18935353d06dbd48ea3830e9f348bb399d"), looks := true }, kinds := [], alts := [], laidByText := true, laidKinds := [.data, .data, .data, .data, .handle, .sentinel, .sentinel, .pinned], laidTests := true, laidLooks := .later }
def CountPartsUptoCardSaid : Prop := Claim7.holds Tryz.pinned (.plain (OpenSpec.upto countPartsSpec)) countPartsUptoCard

/-- THE SECOND FORM's CARD OF 'rentierlaw6.CountAll'. -/
def countAllUptoCard : Claim7 := { stood := { row := countAllUptoRow, standIns := [], harness := (true, "692d2f9f53657fc3561b30042042fd18935353d06dbd48ea3830e9f348bb399d"), looks := true }, kinds := [], alts := [], laidByText := true, laidKinds := [.data, .data, .data, .data, .handle, .sentinel, .sentinel, .pinned], laidTests := true, laidLooks := .later }
def CountAllUptoCardSaid : Prop := Claim7.holds Tryz.pinned (.plain (OpenSpec.upto countAllSpec)) countAllUptoCard

/-- THE SECOND FORM's CARD OF 'rentierlaw2.NatCarry'. -/
def natCarryUptoCard : Claim7 := { stood := { row := natCarryUptoRow, standIns := [], harness := (true, "692d2f9f53657fc3561b30042042fd18935353d06dbd48ea3830e9f348bb399d"), looks := true }, kinds := [], alts := [], laidByText := true, laidKinds := [.data, .data, .data, .data, .handle, .sentinel, .sentinel, .pinned], laidTests := true, laidLooks := .later }
def NatCarryUptoCardSaid : Prop := Claim7.holds Tryz.pinned (.plain (OpenSpec.upto natCarrySpec)) natCarryUptoCard

/-- THE SECOND FORM's CARD OF 'rentierlaw2.DecHalf'. -/
def decHalfUptoCard : Claim7 := { stood := { row := decHalfUptoRow, standIns := [], harness := (true, "692d2f9f53657fc3561b30042042fd18935353d06dbd48ea3830e9f348bb399d"), looks := true }, kinds := [], alts := [], laidByText := true, laidKinds := [.data, .data, .data, .data, .handle, .sentinel, .sentinel, .pinned], laidTests := true, laidLooks := .later }
def DecHalfUptoCardSaid : Prop := Claim7.holds Tryz.pinned (.plain (OpenSpec.upto decHalfSpec)) decHalfUptoCard

/-- THE SECOND FORM's CARD OF 'rentierlaw2.RatTexts'. -/
def ratTextsUptoCard : Claim7 := { stood := { row := ratTextsUptoRow, standIns := [], harness := (true, "692d2f9f53657fc3561b30042042fd18935353d06dbd48ea3830e9f348bb399d"), looks := true }, kinds := [], alts := [], laidByText := true, laidKinds := [.data, .data, .data, .data, .handle, .sentinel, .sentinel, .pinned], laidTests := true, laidLooks := .later }
def RatTextsUptoCardSaid : Prop := Claim7.holds Tryz.pinned (.plain (OpenSpec.upto ratTextsSpec)) ratTextsUptoCard

/-- THE SECOND FORM's CARD OF 'rentierlaw2.DecTexts'. -/
def decTextsUptoCard : Claim7 := { stood := { row := decTextsUptoRow, standIns := [], harness := (true, "692d2f9f53657fc3561b30042042fd18935353d06dbd48ea3830e9f348bb399d"), looks := true }, kinds := [], alts := [], laidByText := true, laidKinds := [.data, .data, .data, .data, .handle, .sentinel, .sentinel, .pinned], laidTests := true, laidLooks := .later }
def DecTextsUptoCardSaid : Prop := Claim7.holds Tryz.pinned (.plain (OpenSpec.upto decTextsSpec)) decTextsUptoCard

/-- THE SECOND FORM's CARD OF 'rentierlaw2.NatAll'. -/
def natAllUptoCard : Claim7 := { stood := { row := natAllUptoRow, standIns := [], harness := (true, "692d2f9f53657fc3561b30042042fd18935353d06dbd48ea3830e9f348bb399d"), looks := true }, kinds := [], alts := [], laidByText := true, laidKinds := [.data, .data, .data, .data, .handle, .sentinel, .sentinel, .pinned], laidTests := true, laidLooks := .later }
def NatAllUptoCardSaid : Prop := Claim7.holds Tryz.pinned (.plain (OpenSpec.upto natAllSpec)) natAllUptoCard

/-- THE SECOND FORM's CARD OF 'rentierlaw2.NatLaws'. -/
def natLawsUptoCard : Claim7 := { stood := { row := natLawsUptoRow, standIns := [], harness := (true, "692d2f9f53657fc3561b30042042fd18935353d06dbd48ea3830e9f348bb399d"), looks := true }, kinds := [], alts := [], laidByText := true, laidKinds := [.data, .data, .data, .data, .handle, .sentinel, .sentinel, .pinned], laidTests := true, laidLooks := .later }
def NatLawsUptoCardSaid : Prop := Claim7.holds Tryz.pinned (.plain (OpenSpec.upto natLawsSpec)) natLawsUptoCard

/-- THE SECOND FORM's CARD OF 'rentierlaw2.NatDigit'. -/
def natDigitUptoCard : Claim7 := { stood := { row := natDigitUptoRow, standIns := [], harness := (true, "692d2f9f53657fc3561b30042042fd18935353d06dbd48ea3830e9f348bb399d"), looks := true }, kinds := [], alts := [], laidByText := true, laidKinds := [.data, .data, .data, .data, .handle, .sentinel, .sentinel, .pinned], laidTests := true, laidLooks := .later }
def NatDigitUptoCardSaid : Prop := Claim7.holds Tryz.pinned (.plain (OpenSpec.upto natDigitSpec)) natDigitUptoCard

/-- THE SECOND FORM's CARD OF 'rentierlaw2.NatGcd'. -/
def natGcdUptoCard : Claim7 := { stood := { row := natGcdUptoRow, standIns := [], harness := (true, "692d2f9f53657fc3561b30042042fd18935353d06dbd48ea3830e9f348bb399d"), looks := true }, kinds := [], alts := [], laidByText := true, laidKinds := [.data, .data, .data, .data, .handle, .sentinel, .sentinel, .pinned], laidTests := true, laidLooks := .later }
def NatGcdUptoCardSaid : Prop := Claim7.holds Tryz.pinned (.plain (OpenSpec.upto natGcdSpec)) natGcdUptoCard

/-- THE SECOND FORM's CARD OF 'rentierlaw2.NatOwn'. -/
def natOwnUptoCard : Claim7 := { stood := { row := natOwnUptoRow, standIns := [], harness := (true, "692d2f9f53657fc3561b30042042fd18935353d06dbd48ea3830e9f348bb399d"), looks := true }, kinds := [], alts := [], laidByText := true, laidKinds := [.data, .data, .data, .data, .handle, .sentinel, .sentinel, .pinned], laidTests := true, laidLooks := .later }
def NatOwnUptoCardSaid : Prop := Claim7.holds Tryz.pinned (.plain (OpenSpec.upto natOwnSpec)) natOwnUptoCard

/-- THE SECOND FORM's CARD OF 'rentierlaw2.DecGet'. -/
def decGetUptoCard : Claim7 := { stood := { row := decGetUptoRow, standIns := [], harness := (true, "692d2f9f53657fc3561b30042042fd18935353d06dbd48ea3830e9f348bb399d"), looks := true }, kinds := [], alts := [], laidByText := true, laidKinds := [.data, .data, .data, .data, .handle, .sentinel, .sentinel, .pinned], laidTests := true, laidLooks := .later }
def DecGetUptoCardSaid : Prop := Claim7.holds Tryz.pinned (.plain (OpenSpec.upto decGetSpec)) decGetUptoCard
end Rows
end Go.Proofs.YtglbdafcfcmffaaGreatDoor
