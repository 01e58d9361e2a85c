/-
  DERIVED. GIVEN WITH THE SEED: THE CARDS: each row of YtcjjgdoafkdeaaaGreatDoorRows.lean that lists a variable, with what it lists TIED to the program's text (the seventh form; the later family's looks); each row that meets fmt, with fmt's text TOLD by the authors' own Lean function (tested against real Go, not proved from fmt's source: count such statements apart). THE CARD IS WHAT COUNTS. Prove the row's statement (the work); the ties are given (YtcjjgdoafkdeaaaGreatDoorTie.lean); close each card by the builder's one call (the guide's Derived/Test/ToyasCard.lean, 'card_holds'). Laid BY PROGRAM, IN A SANDBOX (cutbox-door.mjs). By AI agents, Wed Nov 11 2026. No macro, syntax, notation, axiom, sorry.
-/
import Derived.Test.YtcjjgdoafkdeaaaGreatDoorRows
import GoSem.ClaimSeven
namespace Go.Proofs.YtcjjgdoafkdeaaaGreatDoor
namespace Rows

/-- THE TIED CARD OF 'rentierlaw2.DecMore'. -/
def decMoreCard : Claim7 := { stood := { row := decMoreRow, standIns := [], harness := (true, "5f688ef5f54121816927e7e4c6fab1b1bcf7d1b1dbc4c8b1371105c148aa50c2"), looks := true }, kinds := [], alts := [], laidByText := true, laidKinds := [.data, .data, .data, .data, .handle, .sentinel, .sentinel, .pinned], laidTests := true, laidLooks := .later }
def DecMoreCardSaid : Prop := Claim7.holds Tryz.pinned (.plain (OpenSpec.ofChange decMoreSpec)) decMoreCard

/-- THE TIED CARD OF 'rentierlaw2.DecTexts'. -/
def decTextsCard : Claim7 := { stood := { row := decTextsRow, standIns := [], harness := (true, "5f688ef5f54121816927e7e4c6fab1b1bcf7d1b1dbc4c8b1371105c148aa50c2"), looks := true }, kinds := [], alts := [], laidByText := true, laidKinds := [.data, .data, .data, .data, .handle, .sentinel, .sentinel, .pinned], laidTests := true, laidLooks := .later }
def DecTextsCardSaid : Prop := Claim7.holds Tryz.pinned (.plain (OpenSpec.ofChange decTextsSpec)) decTextsCard

/-- THE TIED CARD OF 'rentierlaw2.DecRound'. -/
def decRoundCard : Claim7 := { stood := { row := decRoundRow, standIns := [], harness := (true, "5f688ef5f54121816927e7e4c6fab1b1bcf7d1b1dbc4c8b1371105c148aa50c2"), looks := true }, kinds := [], alts := [], laidByText := true, laidKinds := [.data, .data, .data, .data, .handle, .sentinel, .sentinel, .pinned], laidTests := true, laidLooks := .later }
def DecRoundCardSaid : Prop := Claim7.holds Tryz.pinned (.plain (OpenSpec.ofChange decRoundSpec)) decRoundCard

/-- THE TIED CARD OF 'rentierlaw2.DecGet'. -/
def decGetCard : Claim7 := { stood := { row := decGetRow, standIns := [], harness := (true, "5f688ef5f54121816927e7e4c6fab1b1bcf7d1b1dbc4c8b1371105c148aa50c2"), looks := true }, kinds := [], alts := [], laidByText := true, laidKinds := [.data, .data, .data, .data, .handle, .sentinel, .sentinel, .pinned], laidTests := true, laidLooks := .later }
def DecGetCardSaid : Prop := Claim7.holds Tryz.pinned (.plain (OpenSpec.ofChange decGetSpec)) decGetCard

/-- THE TIED CARD OF 'rentierlaw2.DecPut'. -/
def decPutCard : Claim7 := { stood := { row := decPutRow, standIns := [], harness := (true, "5f688ef5f54121816927e7e4c6fab1b1bcf7d1b1dbc4c8b1371105c148aa50c2"), looks := true }, kinds := [], alts := [], laidByText := true, laidKinds := [.data, .data, .data, .data, .handle, .sentinel, .sentinel, .pinned], laidTests := true, laidLooks := .later }
def DecPutCardSaid : Prop := Claim7.holds Tryz.pinned (.plain (OpenSpec.ofChange decPutSpec)) decPutCard

/-- THE TIED CARD OF 'rentierlaw2.RatText'. -/
def ratTextCard : Claim7 := { stood := { row := ratTextRow, standIns := [], harness := (true, "5f688ef5f54121816927e7e4c6fab1b1bcf7d1b1dbc4c8b1371105c148aa50c2"), looks := true }, kinds := [], alts := [], laidByText := true, laidKinds := [.data, .data, .data, .data, .handle, .sentinel, .sentinel, .pinned], laidTests := true, laidLooks := .later }
def RatTextCardSaid : Prop := Claim7.holds Tryz.pinned (.plain (OpenSpec.ofChange ratTextSpec)) ratTextCard

/-- THE TIED CARD OF 'rentierlaw2.RatTexts'. -/
def ratTextsCard : Claim7 := { stood := { row := ratTextsRow, standIns := [], harness := (true, "5f688ef5f54121816927e7e4c6fab1b1bcf7d1b1dbc4c8b1371105c148aa50c2"), looks := true }, kinds := [], alts := [], laidByText := true, laidKinds := [.data, .data, .data, .data, .handle, .sentinel, .sentinel, .pinned], laidTests := true, laidLooks := .later }
def RatTextsCardSaid : Prop := Claim7.holds Tryz.pinned (.plain (OpenSpec.ofChange ratTextsSpec)) ratTextsCard

/-- THE TIED CARD OF 'rentierlaw6.CountAll'. -/
def countAllCard : Claim7 := { stood := { row := countAllRow, standIns := [], harness := (true, "5f688ef5f54121816927e7e4c6fab1b1bcf7d1b1dbc4c8b1371105c148aa50c2"), looks := true }, kinds := [], alts := [], laidByText := true, laidKinds := [.data, .data, .data, .data, .handle, .sentinel, .sentinel, .pinned], laidTests := true, laidLooks := .later }
def CountAllCardSaid : Prop := Claim7.holds Tryz.pinned (.plain (OpenSpec.ofChange countAllSpec)) countAllCard

/-- THE SECOND FORM's CARD OF 'rentierlaw2.DecMore'. -/
def decMoreUptoCard : Claim7 := { stood := { row := decMoreUptoRow, standIns := [], harness := (true, "5f688ef5f54121816927e7e4c6fab1b1bcf7d1b1dbc4c8b1371105c148aa50c2"), looks := true }, kinds := [], alts := [], laidByText := true, laidKinds := [.data, .data, .data, .data, .handle, .sentinel, .sentinel, .pinned], laidTests := true, laidLooks := .later }
def DecMoreUptoCardSaid : Prop := Claim7.holds Tryz.pinned (.plain (OpenSpec.upto decMoreSpec)) decMoreUptoCard

/-- THE SECOND FORM's CARD OF 'rentierlaw2.DecTexts'. -/
def decTextsUptoCard : Claim7 := { stood := { row := decTextsUptoRow, standIns := [], harness := (true, "5f688ef5f54121816927e7e4c6fab1b1bcf7d1b1dbc4c8b1371105c148aa50c2"), looks := true }, kinds := [], alts := [], laidByText := true, laidKinds := [.data, .data, .data, .data, .handle, .sentinel, .sentinel, .pinned], laidTests := true, laidLooks := .later }
def DecTextsUptoCardSaid : Prop := Claim7.holds Tryz.pinned (.plain (OpenSpec.upto decTextsSpec)) decTextsUptoCard

/-- THE SECOND FORM's CARD OF 'rentierlaw2.DecRound'. -/
def decRoundUptoCard : Claim7 := { stood := { row := decRoundUptoRow, standIns := [], harness := (true, "5f688ef5f54121816927e7e4c6fab1b1bcf7d1b1dbc4c8b1371105c148aa50c2"), looks := true }, kinds := [], alts := [], laidByText := true, laidKinds := [.data, .data, .data, .data, .handle, .sentinel, .sentinel, .pinned], laidTests := true, laidLooks := .later }
def DecRoundUptoCardSaid : Prop := Claim7.holds Tryz.pinned (.plain (OpenSpec.upto decRoundSpec)) decRoundUptoCard

/-- THE SECOND FORM's CARD OF 'rentierlaw2.DecGet'. -/
def decGetUptoCard : Claim7 := { stood := { row := decGetUptoRow, standIns := [], harness := (true, "5f688ef5f54121816927e7e4c6fab1b1bcf7d1b1dbc4c8b1371105c148aa50c2"), looks := true }, kinds := [], alts := [], laidByText := true, laidKinds := [.data, .data, .data, .data, .handle, .sentinel, .sentinel, .pinned], laidTests := true, laidLooks := .later }
def DecGetUptoCardSaid : Prop := Claim7.holds Tryz.pinned (.plain (OpenSpec.upto decGetSpec)) decGetUptoCard

/-- THE SECOND FORM's CARD OF 'rentierlaw2.DecPut'. -/
def decPutUptoCard : Claim7 := { stood := { row := decPutUptoRow, standIns := [], harness := (true, "5f688ef5f54121816927e7e4c6fab1b1bcf7d1b1dbc4c8b1371105c148aa50c2"), looks := true }, kinds := [], alts := [], laidByText := true, laidKinds := [.data, .data, .data, .data, .handle, .sentinel, .sentinel, .pinned], laidTests := true, laidLooks := .later }
def DecPutUptoCardSaid : Prop := Claim7.holds Tryz.pinned (.plain (OpenSpec.upto decPutSpec)) decPutUptoCard

/-- THE SECOND FORM's CARD OF 'rentierlaw2.RatText'. -/
def ratTextUptoCard : Claim7 := { stood := { row := ratTextUptoRow, standIns := [], harness := (true, "5f688ef5f54121816927e7e4c6fab1b1bcf7d1b1dbc4c8b1371105c148aa50c2"), looks := true }, kinds := [], alts := [], laidByText := true, laidKinds := [.data, .data, .data, .data, .handle, .sentinel, .sentinel, .pinned], laidTests := true, laidLooks := .later }
def RatTextUptoCardSaid : Prop := Claim7.holds Tryz.pinned (.plain (OpenSpec.upto ratTextSpec)) ratTextUptoCard

/-- THE SECOND FORM's CARD OF 'rentierlaw2.RatTexts'. -/
def ratTextsUptoCard : Claim7 := { stood := { row := ratTextsUptoRow, standIns := [], harness := (true, "5f688ef5f54121816927e7e4c6fab1b1bcf7d1b1dbc4c8b1371105c148aa50c2"), looks := true }, kinds := [], alts := [], laidByText := true, laidKinds := [.data, .data, .data, .data, .handle, .sentinel, .sentinel, .pinned], laidTests := true, laidLooks := .later }
def RatTextsUptoCardSaid : Prop := Claim7.holds Tryz.pinned (.plain (OpenSpec.upto ratTextsSpec)) ratTextsUptoCard

/-- THE SECOND FORM's CARD OF 'rentierlaw6.CountAll'. -/
def countAllUptoCard : Claim7 := { stood := { row := countAllUptoRow, standIns := [], harness := (true, "5f688ef5f54121816927e7e4c6fab1b1bcf7d1b1dbc4c8b1371105c148aa50c2"), looks := true }, kinds := [], alts := [], laidByText := true, laidKinds := [.data, .data, .data, .data, .handle, .sentinel, .sentinel, .pinned], laidTests := true, laidLooks := .later }
def CountAllUptoCardSaid : Prop := Claim7.holds Tryz.pinned (.plain (OpenSpec.upto countAllSpec)) countAllUptoCard
end Rows
end Go.Proofs.YtcjjgdoafkdeaaaGreatDoor
