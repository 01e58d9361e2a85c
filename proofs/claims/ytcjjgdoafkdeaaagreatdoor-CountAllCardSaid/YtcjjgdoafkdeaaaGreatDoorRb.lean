/- What a row of this seat needs of the listed package-level variables: a memory in which they lie as the text lays them; what the row's condition gives a walk. -/
import Derived.Test.YtcjjgdoafkdeaaaGreatDoorGr
import Derived.WalkKit
import Derived.ProofKit
import Derived.OpenShut
import Derived.ShutString
import Derived.LaidMore
import Derived.LaidSub
import Derived.Stop.Joined
import Derived.SevenTiedAt
import Derived.Lay
namespace Go.Proofs.YtcjjgdoafkdeaaaGreatDoor
namespace RB
open Go.ChangeShapes Go.WideShapes Go.ChangeAt Go.RowKit
set_option linter.unusedVariables false
set_option linter.unusedSimpArgs false

theorem own : ownKnob Tryz.prog.godebug = none := by kernel_rfl
def all : List (String × DataW Unit) := Rows.decMoreRow.laid
def plain : List (String × DataW Unit) := Rows.decMoreRow.laid.filter fun x => x.2.handleName?.isNone
noncomputable def wit (os : Os) : World := (World.doorLaid Tryz.prog 400 os).layVars Tryz.prog plain
theorem wit_fits (os : Os) : (World.doorLaid Tryz.prog 400 os).layFits Tryz.prog plain [] = true := by kernel_rfl
theorem wit_ifaces (os : Os) : (World.doorLaid Tryz.prog 400 os).layIfaces Tryz.prog plain (wit os) = true := by kernel_rfl
theorem wit_met (os : Os) (args : Array Value) : laidMet Tryz.prog plain ((wit os).forCall (fun _ _ => 0) ⟨#[], args, []⟩).memory := by
  have e1 : (plain.filter fun x => (plain.map (·.1)).contains x.1) = plain := List.filter_eq_self.2 fun x hx => List.contains_iff_mem.2 (List.mem_map.2 ⟨x, hx, rfl⟩)
  have e2 : (plain.filter fun x => !(plain.map (·.1)).contains x.1) = [] := List.filter_eq_nil_iff.2 fun x hx => by rw [List.contains_iff_mem.2 (List.mem_map.2 ⟨x, hx, rfl⟩)]; simp
  have h : laidMet Tryz.prog plain (wit os) := laidMet_layVars (w0 := World.doorLaid Tryz.prog 400 os) (plain.map (·.1)) [] (by rw [e1]; rfl) (by rw [e1]; exact wit_fits os) (by rw [e1]; exact wit_ifaces os) (by rw [e2]; exact LaidIn.none)
  exact h.of_heap (by simp [World.memory, World.forCall, Input.heap])
theorem door_met (os : Os) (args : Array Value) : laidMetH Tryz.prog all ((wit os).forCall (fun _ _ => 0) ⟨#[], args, []⟩).memory :=
  laidMetH_of_parts3 (fuel := 400) (wit_met os args) (by kernel_rfl) (by kernel_rfl)
theorem met {W : World} (h : laidMetH Tryz.prog all W) : Met2 W := met2_of (by kernel_rfl) (by kernel_rfl) (by kernel_rfl) h
theorem laidOut : laidOutB Tryz.prog = true := by kernel_rfl
theorem both {a b : Bool} (ha : a = true) (hb : b = true) : (a && b) = true := by rw [ha, hb]; rfl
end RB
end Go.Proofs.YtcjjgdoafkdeaaaGreatDoor
