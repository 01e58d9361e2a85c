/- Layer 6: a calendar of the reference, laid by a law. -/
import Derived.Test.YtglbdafcfcmffaaGreatDoorKu
import Derived.Test.YtglbdafcfcmffaaGreatDoorKh
namespace Go.Proofs.YtglbdafcfcmffaaGreatDoor
open Go.RowKit Go.Extern.Stop Go.Stop Go.Extern
set_option linter.unusedVariables false
set_option linter.unusedSimpArgs false

/-- One calendar of the reference, laid. -/
theorem rcal_one (w : World) {u u' : Value} {rs : List Ru} {ms : List Int} (h : RulesAt w u rs) (h' : DaysAt w u' ms) (hn : rs.length ≤ 100) (hm : ms.length ≤ 100) :
    RCals (w.alloc (.cells #[u, u'] 34)) (.slice (some ⟨w.heap.size, 0, none⟩) 1 1) [(rs, ms)] := by
  have hb := heap_alloc_new w (.cells #[u, u'] 34)
  have hg : Gr w (w.alloc (.cells #[u, u'] 34)) := (Gr.rf w).alloc (Nat.le_refl _) _
  refine ⟨_, 1, rfl, fun j x hj => ?_⟩
  have hl := (List.getElem?_eq_some_iff.1 hj).1
  obtain rfl : j = 0 := by simpa using hl
  obtain rfl : (rs, ms) = x := by simpa using hj
  exact ⟨w.heap.size, 0, u, u', rfl, by simp, heap_cell hb 0, heap_cell hb 1, h.gr hg, h'.gr hg, hn, hm⟩
theorem shutC_one {rs : List Ru} {ms : List Int} {S : Int → Bool} (h : ShutBy rs ms S) : ShutC [(rs, ms)] S := fun d y m k hd => by
  rw [shut_is h hd]
  show (shutR rs ms y d || false) = _
  rw [Bool.or_false]
end Go.Proofs.YtglbdafcfcmffaaGreatDoor
