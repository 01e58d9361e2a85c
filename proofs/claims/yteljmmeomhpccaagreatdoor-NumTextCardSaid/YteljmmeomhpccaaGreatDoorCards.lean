/-
  DERIVED. GIVEN WITH THE SEED: THE CARDS: each row of YteljmmeomhpccaaGreatDoorRows.lean that lists a variable, with what it lists TIED to the program's text (the seventh form; the later family's looks); each row that meets fmt, with fmt's text TOLD by the authors' own Lean function (tested against real Go, not proved from fmt's source: count such statements apart). THE CARD IS WHAT COUNTS. Prove the row's statement (the work); the ties are given (YteljmmeomhpccaaGreatDoorTie.lean); close each card by the builder's one call (the guide's Derived/Test/ToyasCard.lean, 'card_holds'). Laid BY PROGRAM, IN A SANDBOX (cutbox-door.mjs). By AI agents, Wed Nov 11 2026. No macro, syntax, notation, axiom, sorry.
-/
import Derived.Test.YteljmmeomhpccaaGreatDoorRows
import GoSem.ClaimSeven
namespace Go.Proofs.YteljmmeomhpccaaGreatDoor
namespace Rows

/-- THE TIED CARD OF 'rentierlaw2.NatLong'. -/
def natLongCard : Claim7 := { stood := { row := natLongRow, standIns := [], harness := (true, "05766003cca6918a1c20e1a7b377db41c7ad965ebd1cbb3ede0b832390e74ef2"), looks := true }, kinds := [], alts := [], laidByText := true, laidKinds := [.data, .data, .data, .data, .handle, .sentinel, .sentinel, .pinned], laidTests := true, laidLooks := .later }
def NatLongCardSaid : Prop := Claim7.holds Tryz.pinned (.plain (OpenSpec.ofChange natLongSpec)) natLongCard

/-- THE TIED CARD OF 'rentierlaw2.NatText'. -/
def natTextCard : Claim7 := { stood := { row := natTextRow, standIns := [], harness := (true, "05766003cca6918a1c20e1a7b377db41c7ad965ebd1cbb3ede0b832390e74ef2"), looks := true }, kinds := [], alts := [], laidByText := true, laidKinds := [.data, .data, .data, .data, .handle, .sentinel, .sentinel, .pinned], laidTests := true, laidLooks := .later }
def NatTextCardSaid : Prop := Claim7.holds Tryz.pinned (.plain (OpenSpec.ofChange natTextSpec)) natTextCard

/-- THE TIED CARD OF 'rentierlaw2.NumText'. -/
def numTextCard : Claim7 := { stood := { row := numTextRow, standIns := [], harness := (true, "05766003cca6918a1c20e1a7b377db41c7ad965ebd1cbb3ede0b832390e74ef2"), looks := true }, kinds := [], alts := [], laidByText := true, laidKinds := [.data, .data, .data, .data, .handle, .sentinel, .sentinel, .pinned], laidTests := true, laidLooks := .later }
def NumTextCardSaid : Prop := Claim7.holds Tryz.pinned (.plain (OpenSpec.ofChange numTextSpec)) numTextCard

/-- THE SECOND FORM's CARD OF 'rentierlaw2.NatLong'. -/
def natLongUptoCard : Claim7 := { stood := { row := natLongUptoRow, standIns := [], harness := (true, "05766003cca6918a1c20e1a7b377db41c7ad965ebd1cbb3ede0b832390e74ef2"), looks := true }, kinds := [], alts := [], laidByText := true, laidKinds := [.data, .data, .data, .data, .handle, .sentinel, .sentinel, .pinned], laidTests := true, laidLooks := .later }
def NatLongUptoCardSaid : Prop := Claim7.holds Tryz.pinned (.plain (OpenSpec.upto natLongSpec)) natLongUptoCard

/-- THE SECOND FORM's CARD OF 'rentierlaw2.NatText'. -/
def natTextUptoCard : Claim7 := { stood := { row := natTextUptoRow, standIns := [], harness := (true, "05766003cca6918a1c20e1a7b377db41c7ad965ebd1cbb3ede0b832390e74ef2"), looks := true }, kinds := [], alts := [], laidByText := true, laidKinds := [.data, .data, .data, .data, .handle, .sentinel, .sentinel, .pinned], laidTests := true, laidLooks := .later }
def NatTextUptoCardSaid : Prop := Claim7.holds Tryz.pinned (.plain (OpenSpec.upto natTextSpec)) natTextUptoCard

/-- THE SECOND FORM's CARD OF 'rentierlaw2.NumText'. -/
def numTextUptoCard : Claim7 := { stood := { row := numTextUptoRow, standIns := [], harness := (true, "05766003cca6918a1c20e1a7b377db41c7ad965ebd1cbb3ede0b832390e74ef2"), looks := true }, kinds := [], alts := [], laidByText := true, laidKinds := [.data, .data, .data, .data, .handle, .sentinel, .sentinel, .pinned], laidTests := true, laidLooks := .later }
def NumTextUptoCardSaid : Prop := Claim7.holds Tryz.pinned (.plain (OpenSpec.upto numTextSpec)) numTextUptoCard
end Rows
end Go.Proofs.YteljmmeomhpccaaGreatDoor
