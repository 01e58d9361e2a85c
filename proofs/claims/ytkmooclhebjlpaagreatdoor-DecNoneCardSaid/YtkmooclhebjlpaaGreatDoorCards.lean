/-
  DERIVED. GIVEN WITH THE SEED: THE CARDS: each row of YtkmooclhebjlpaaGreatDoorRows.lean that lists a variable, with what it lists TIED to the program's text (the seventh form; the later family's looks); each row that meets fmt, with fmt's text TOLD by the authors' own Lean function (tested against real Go, not proved from fmt's source: count such statements apart). THE CARD IS WHAT COUNTS. Prove the row's statement (the work); the ties are given (YtkmooclhebjlpaaGreatDoorTie.lean); close each card by the builder's one call (the guide's Derived/Test/ToyasCard.lean, 'card_holds'). Laid BY PROGRAM, IN A SANDBOX (cutbox-door.mjs). By AI agents, Wed Nov 11 2026. No macro, syntax, notation, axiom, sorry.
-/
import Derived.Test.YtkmooclhebjlpaaGreatDoorRows
import GoSem.ClaimSeven
namespace Go.Proofs.YtkmooclhebjlpaaGreatDoor
namespace Rows

/-- THE TIED CARD OF 'rentierlaw2.DecNone'. -/
def decNoneCard : Claim7 := { stood := { row := decNoneRow, standIns := [], harness := (true, "07c3be84a5a293045f4bb56ca86100f671409497d630d0df2e03eec5856226a6"), looks := true }, kinds := [], alts := [], laidByText := true, laidKinds := [.data, .data, .data, .data, .handle, .sentinel, .sentinel, .pinned], laidTests := true, laidLooks := .later }
def DecNoneCardSaid : Prop := Claim7.holds Tryz.pinned (.plain (OpenSpec.ofChange decNoneSpec)) decNoneCard

/-- THE TIED CARD OF 'rentierlaw2.NumEdge'. -/
def numEdgeCard : Claim7 := { stood := { row := numEdgeRow, standIns := [], harness := (true, "07c3be84a5a293045f4bb56ca86100f671409497d630d0df2e03eec5856226a6"), looks := true }, kinds := [], alts := [], laidByText := true, laidKinds := [.data, .data, .data, .data, .handle, .sentinel, .sentinel, .pinned], laidTests := true, laidLooks := .later }
def NumEdgeCardSaid : Prop := Claim7.holds Tryz.pinned (.plain (OpenSpec.ofChange numEdgeSpec)) numEdgeCard

/-- THE SECOND FORM's CARD OF 'rentierlaw2.DecNone'. -/
def decNoneUptoCard : Claim7 := { stood := { row := decNoneUptoRow, standIns := [], harness := (true, "07c3be84a5a293045f4bb56ca86100f671409497d630d0df2e03eec5856226a6"), looks := true }, kinds := [], alts := [], laidByText := true, laidKinds := [.data, .data, .data, .data, .handle, .sentinel, .sentinel, .pinned], laidTests := true, laidLooks := .later }
def DecNoneUptoCardSaid : Prop := Claim7.holds Tryz.pinned (.plain (OpenSpec.upto decNoneSpec)) decNoneUptoCard

/-- THE SECOND FORM's CARD OF 'rentierlaw2.NumEdge'. -/
def numEdgeUptoCard : Claim7 := { stood := { row := numEdgeUptoRow, standIns := [], harness := (true, "07c3be84a5a293045f4bb56ca86100f671409497d630d0df2e03eec5856226a6"), looks := true }, kinds := [], alts := [], laidByText := true, laidKinds := [.data, .data, .data, .data, .handle, .sentinel, .sentinel, .pinned], laidTests := true, laidLooks := .later }
def NumEdgeUptoCardSaid : Prop := Claim7.holds Tryz.pinned (.plain (OpenSpec.upto numEdgeSpec)) numEdgeUptoCard
end Rows
end Go.Proofs.YtkmooclhebjlpaaGreatDoor
