/- Layer 1: a text cut. -/
import Derived.Test.YtglbdafcfcmffaaGreatDoorGb
namespace Go.Proofs.YtglbdafcfcmffaaGreatDoor
open Go.RowKit Go.Extern.Stop Go.Stop Go.Extern
set_option linter.unusedVariables false
set_option linter.unusedSimpArgs false

theorem text_calls (s : ByteArray) (k : Int) (hk : 0 ≤ k) (hk2 : k ≤ 1000000) (hs : s.size ≤ 9223372036854775807) (w : World) :
    Calls Tryz.prog 61 #[.string s, .int .i64 k] w fun e w' => e = .returned (.string (s.extract 0 (min s.size k.toNat))) ∧ w = w' := by
  go_enter Tryz.func61, Tryz.ntmps61
  go_wp2
  go_ret
  exact ⟨ret_str (by rw [show (min (s.size : Int) k).toNat = min s.size k.toNat by omega]), rfl⟩
end Go.Proofs.YtglbdafcfcmffaaGreatDoor
