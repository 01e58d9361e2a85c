/- Layers 2 to 5: what the laws of this seat begin with. -/
import Derived.Test.YtcjjgdoafkdeaaaGreatDoorGq
import Derived.Test.YtcjjgdoafkdeaaaGreatDoorGr
namespace Go.Proofs.YtcjjgdoafkdeaaaGreatDoor
open Go.RowKit Go.Extern.Stop Go.Stop Go.Extern Go.Sort
set_option linter.unusedVariables false
set_option linter.unusedSimpArgs false

theorem Met2.gr {w w' : World} (h : Met2 w) (hg : Gr w w') : Met2 w' := ⟨h.1.gr hg, h.2.1.gr hg, h.2.2.gr hg⟩
theorem begun_met (w : World) (h : Met2 w) : Calls Tryz.prog 11 #[] w fun e w' => e = .returned (.bool true) ∧ Gr w w' := begun2_calls w h.1 h.2.1 h.2.2
set_option maxRecDepth 100000 in
/-- same, of an error's own code. -/
theorem same_own (c : Int) (w : World) (hH : Has w) : Calls Tryz.prog 20 #[.iface 169 (.int .i64 c), .int .i64 c] w fun e w' => e = .returned (.bool true) ∧ Gr w w' := by
  have HC := Lib.hid (code_calls (.iface 169 (.int .i64 c)) (.plain c) w hH (.plain c))
  rw [show (Er.plain c).code = c from rfl] at HC
  clear hH
  go_enter Tryz.func20, Tryz.ntmps20
  go_wp2_with (go_at_call 82; (with_reducible refine HC.out.mono ?_); rintro ev w1 ⟨rfl, hg⟩)
  go_ret
  exact ⟨ret_bool (by simp), hg⟩
end Go.Proofs.YtcjjgdoafkdeaaaGreatDoor
