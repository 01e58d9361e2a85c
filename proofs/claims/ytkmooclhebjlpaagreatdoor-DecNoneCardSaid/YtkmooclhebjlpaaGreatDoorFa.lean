/- Layer 1, the values: what an error value is in memory, and what fault's own functions answer for it. -/
import Derived.Test.YtkmooclhebjlpaaGreatDoorProg
import Derived.WalkKit
import Derived.Handy
import Derived.LaidEql
import Derived.WideLaws
import Derived.Stop.Asserts
import Derived.RowKitTokens
import Derived.Lib.Hide
import Derived.Deep.LoopGhost
import Derived.KernelRfl
namespace Go.Proofs.YtkmooclhebjlpaaGreatDoor
open Go.RowKit Go.Extern.Stop Go.Stop Go.Extern

/-- What a world has grown to: all that was is as it was. -/
abbrev Gr (w w' : World) : Prop := Below w.heap.size w w'
theorem Gr.tr {a b c : World} (h : Gr a b) (k : Gr b c) : Gr a c := Below.trans h (Below.mono k h.size)
theorem Gr.rf (w : World) : Gr w w := Below.refl _ _
theorem Gr.heap {w w' : World} (h : Gr w w') {b : Nat} {o : Obj} (hb : w.heap[b]? = some o) : w'.heap[b]? = some o := by
  rw [h.block b (Array.getElem?_eq_some_iff.1 hb).1]; exact hb
theorem heap_cell {w : World} {b : Nat} {cs : Array Value} {t : TypeId} {f : Nat × Nat} (h : w.heap[b]? = some (.cells cs t f)) (i : Nat) : w.cell? ⟨b, i, none⟩ = cs[i]? := by
  simp [World.cell?, h]

/-- An error: none; a code alone; one at a place, around another one; a text of another making. -/
inductive Er where
  | nil
  | plain (c : Int)
  | fault (b : Nat) (c : Int) (s : ByteArray) (e : Er)
  | text (b : Nat)

inductive ErAt (w : World) : Value → Er → Prop
  | nil : ErAt w .nilIface .nil
  | plain (c : Int) : ErAt w (.iface 107 (.int .i64 c)) (.plain c)
  | fault (b : Nat) (c : Int) (s : ByteArray) (v : Value) (e : Er) : w.heap[b]? = some (.cells #[.int .i64 c, .string s, v] 130 (0, 0)) → ErAt w v e →
      ErAt w (.iface 126 (.pointer (some ⟨b, 0, none⟩))) (.fault b c s e)
  | text (b : Nat) (s : ByteArray) : w.heap[b]? = some (.cells #[.string s] 212 (0, 0)) → ErAt w (.iface 210 (.pointer (some ⟨b, 0, none⟩))) (.text b)

theorem ErAt.gr {w w' : World} (hg : Gr w w') {v : Value} {e : Er} (h : ErAt w v e) : ErAt w' v e := by
  induction h with
  | nil => exact .nil
  | plain c => exact .plain c
  | fault b c s v e hb _ ih => exact .fault b c s v e (hg.heap hb) ih
  | text b s hb => exact .text b s (hg.heap hb)

def Er.code : Er → Int
  | .nil => 0
  | .plain c => c
  | .fault _ c _ _ => c
  | .text _ => 1
def Er.places : Er → List ByteArray
  | .fault _ _ s e => (if s.toList.isEmpty then [] else [s]) ++ e.places
  | _ => []
def Er.len : Er → Nat
  | .nil => 0
  | .fault _ _ _ e => e.len + 1
  | _ => 1

/-! ### the small functions -/
theorem of_ok (w : World) : Calls Tryz.prog 33 #[.int .i64 0] w fun e w' => e = .returned .nilIface ∧ w = w' := by
  go_enter Tryz.func33, Tryz.ntmps33
  go_wp2
  go_ret
  exact ⟨rfl, rfl⟩
theorem of_calls (c : Int) (hc : (c == 0) = false) (w : World) : Calls Tryz.prog 33 #[.int .i64 c] w fun e w' => e = .returned (.iface 107 (.int .i64 c)) ∧ w = w' := by
  go_enter Tryz.func33, Tryz.ntmps33
  go_wp2
  go_ret
  exact ⟨rfl, rfl⟩
theorem new_ok (v : Value) (w : World) : Calls Tryz.prog 106 #[.int .i64 0, v] w fun e w' => e = .returned .nilIface ∧ w = w' := by
  go_enter Tryz.func106, Tryz.ntmps106
  go_wp2
  go_ret
  exact ⟨rfl, rfl⟩
theorem new_calls (c : Int) (hc : (c == 0) = false) (s : ByteArray) (w : World) : Calls Tryz.prog 106 #[.int .i64 c, .string s] w fun e w' =>
    e = .returned (.iface 126 (.pointer (some ⟨w.heap.size, 0, none⟩))) ∧ ErAt w' (.iface 126 (.pointer (some ⟨w.heap.size, 0, none⟩))) (.fault w.heap.size c s .nil) ∧ Gr w w' := by
  go_enter Tryz.func106, Tryz.ntmps106
  go_wp2
  go_ret
  exact ⟨rfl, .fault _ _ _ _ _ (heap_alloc_new w _) .nil, by go_grown⟩
end Go.Proofs.YtkmooclhebjlpaaGreatDoor
