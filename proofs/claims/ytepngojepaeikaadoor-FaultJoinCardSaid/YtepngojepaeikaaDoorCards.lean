/-
  DERIVED. GIVEN WITH THE SEED: THE CARDS: each row of YtepngojepaeikaaDoorRows.lean that lists a variable, with what it lists TIED to the program's text (the seventh form; the later family's looks); each row that meets fmt, with fmt's text TOLD by the authors' own Lean function (tested against real Go, not proved from fmt's source: count such statements apart). THE CARD IS WHAT COUNTS. Prove the row's statement (the work); the ties are given (YtepngojepaeikaaDoorTie.lean); close each card by the builder's one call (the guide's Derived/Test/ToyasCard.lean, 'card_holds'). Laid BY PROGRAM, IN A SANDBOX (cutbox-door.mjs). By AI agents, Wed Nov 11 2026. No macro, syntax, notation, axiom, sorry.
-/
import Derived.Test.YtepngojepaeikaaDoorRows
import GoSem.ClaimSeven
namespace Go.Proofs.YtepngojepaeikaaDoor
namespace Rows

/-- THE TIED CARD OF 'rentierlaw1.FaultWrap'. -/
def faultWrapCard : Claim7 := { stood := { row := faultWrapRow, standIns := [], harness := (true, "27bd2f983125a9d799832c8de39bdeacd1291e614b63b12d582208fb3b325a15"), looks := true }, kinds := [], alts := [], laidByText := true, laidKinds := [.handle], laidTests := true, laidLooks := .later }
def FaultWrapCardSaid : Prop := Claim7.holds Tryd.pinned (.plain (OpenSpec.ofChange faultWrapSpec)) faultWrapCard

/-- THE TIED CARD OF 'rentierlaw1.FaultNone'. -/
def faultNoneCard : Claim7 := { stood := { row := faultNoneRow, standIns := [], harness := (true, "27bd2f983125a9d799832c8de39bdeacd1291e614b63b12d582208fb3b325a15"), looks := true }, kinds := [], alts := [], laidByText := true, laidKinds := [.data, .data, .data, .handle], laidTests := true, laidLooks := .later }
def FaultNoneCardSaid : Prop := Claim7.holds Tryd.pinned (.plain (OpenSpec.ofChange faultNoneSpec)) faultNoneCard

/-- THE TIED CARD OF 'rentierlaw1.FaultOf'. -/
def faultOfCard : Claim7 := { stood := { row := faultOfRow, standIns := [], harness := (true, "27bd2f983125a9d799832c8de39bdeacd1291e614b63b12d582208fb3b325a15"), looks := true }, kinds := [], alts := [], laidByText := true, laidKinds := [.handle], laidTests := true, laidLooks := .later }
def FaultOfCardSaid : Prop := Claim7.holds Tryd.pinned (.plain (OpenSpec.ofChange faultOfSpec)) faultOfCard

/-- THE TIED CARD OF 'rentierlaw1.FaultDeep'. -/
def faultDeepCard : Claim7 := { stood := { row := faultDeepRow, standIns := [], harness := (true, "27bd2f983125a9d799832c8de39bdeacd1291e614b63b12d582208fb3b325a15"), looks := true }, kinds := [], alts := [], laidByText := true, laidKinds := [.handle], laidTests := true, laidLooks := .later }
def FaultDeepCardSaid : Prop := Claim7.holds Tryd.pinned (.plain (OpenSpec.ofChange faultDeepSpec)) faultDeepCard

/-- THE TIED CARD OF 'rentierlaw1.FaultOther'. -/
def faultOtherCard : Claim7 := { stood := { row := faultOtherRow, standIns := [], harness := (true, "27bd2f983125a9d799832c8de39bdeacd1291e614b63b12d582208fb3b325a15"), looks := true }, kinds := [], alts := [], laidByText := true, laidKinds := [.handle], laidTests := true, laidLooks := .later }
def FaultOtherCardSaid : Prop := Claim7.holds Tryd.pinned (.plain (OpenSpec.ofChange faultOtherSpec)) faultOtherCard

/-- THE TIED CARD OF 'rentierlaw1.FaultJoin'. -/
def faultJoinCard : Claim7 := { stood := { row := faultJoinRow, standIns := [], harness := (true, "27bd2f983125a9d799832c8de39bdeacd1291e614b63b12d582208fb3b325a15"), looks := true }, kinds := [], alts := [], laidByText := true, laidKinds := [.handle], laidTests := true, laidLooks := .later }
def FaultJoinCardSaid : Prop := Claim7.holds Tryd.pinned (.plain (OpenSpec.ofChange faultJoinSpec)) faultJoinCard

/-- THE SECOND FORM's CARD OF 'rentierlaw1.FaultWrap'. -/
def faultWrapUptoCard : Claim7 := { stood := { row := faultWrapUptoRow, standIns := [], harness := (true, "27bd2f983125a9d799832c8de39bdeacd1291e614b63b12d582208fb3b325a15"), looks := true }, kinds := [], alts := [], laidByText := true, laidKinds := [.handle], laidTests := true, laidLooks := .later }
def FaultWrapUptoCardSaid : Prop := Claim7.holds Tryd.pinned (.plain (OpenSpec.upto faultWrapSpec)) faultWrapUptoCard

/-- THE SECOND FORM's CARD OF 'rentierlaw1.FaultNone'. -/
def faultNoneUptoCard : Claim7 := { stood := { row := faultNoneUptoRow, standIns := [], harness := (true, "27bd2f983125a9d799832c8de39bdeacd1291e614b63b12d582208fb3b325a15"), looks := true }, kinds := [], alts := [], laidByText := true, laidKinds := [.data, .data, .data, .handle], laidTests := true, laidLooks := .later }
def FaultNoneUptoCardSaid : Prop := Claim7.holds Tryd.pinned (.plain (OpenSpec.upto faultNoneSpec)) faultNoneUptoCard

/-- THE SECOND FORM's CARD OF 'rentierlaw1.FaultOf'. -/
def faultOfUptoCard : Claim7 := { stood := { row := faultOfUptoRow, standIns := [], harness := (true, "27bd2f983125a9d799832c8de39bdeacd1291e614b63b12d582208fb3b325a15"), looks := true }, kinds := [], alts := [], laidByText := true, laidKinds := [.handle], laidTests := true, laidLooks := .later }
def FaultOfUptoCardSaid : Prop := Claim7.holds Tryd.pinned (.plain (OpenSpec.upto faultOfSpec)) faultOfUptoCard

/-- THE SECOND FORM's CARD OF 'rentierlaw1.FaultDeep'. -/
def faultDeepUptoCard : Claim7 := { stood := { row := faultDeepUptoRow, standIns := [], harness := (true, "27bd2f983125a9d799832c8de39bdeacd1291e614b63b12d582208fb3b325a15"), looks := true }, kinds := [], alts := [], laidByText := true, laidKinds := [.handle], laidTests := true, laidLooks := .later }
def FaultDeepUptoCardSaid : Prop := Claim7.holds Tryd.pinned (.plain (OpenSpec.upto faultDeepSpec)) faultDeepUptoCard

/-- THE SECOND FORM's CARD OF 'rentierlaw1.FaultOther'. -/
def faultOtherUptoCard : Claim7 := { stood := { row := faultOtherUptoRow, standIns := [], harness := (true, "27bd2f983125a9d799832c8de39bdeacd1291e614b63b12d582208fb3b325a15"), looks := true }, kinds := [], alts := [], laidByText := true, laidKinds := [.handle], laidTests := true, laidLooks := .later }
def FaultOtherUptoCardSaid : Prop := Claim7.holds Tryd.pinned (.plain (OpenSpec.upto faultOtherSpec)) faultOtherUptoCard

/-- THE SECOND FORM's CARD OF 'rentierlaw1.FaultJoin'. -/
def faultJoinUptoCard : Claim7 := { stood := { row := faultJoinUptoRow, standIns := [], harness := (true, "27bd2f983125a9d799832c8de39bdeacd1291e614b63b12d582208fb3b325a15"), looks := true }, kinds := [], alts := [], laidByText := true, laidKinds := [.handle], laidTests := true, laidLooks := .later }
def FaultJoinUptoCardSaid : Prop := Claim7.holds Tryd.pinned (.plain (OpenSpec.upto faultJoinSpec)) faultJoinUptoCard
end Rows
end Go.Proofs.YtepngojepaeikaaDoor
