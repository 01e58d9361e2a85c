/- Layer 6: what the laws over calendars share: a remainder made positive. -/
import Derived.Test.YtglbdafcfcmffaaGreatDoorHi
namespace Go.Proofs.YtglbdafcfcmffaaGreatDoor
open Go.RowKit Go.Extern.Stop Go.Stop Go.Extern
set_option linter.unusedVariables false
set_option linter.unusedSimpArgs false

/-- What (y % k + k) % k comes to: the walk's two spellings. -/
theorem mod_two (y k : Int) (hk : 0 < k) : ∃ R : Int, (y.tmod k + k) % k = R ∧ y.tmod k % k = R ∧ 0 ≤ R ∧ R < k ∧ -k < y.tmod k ∧ y.tmod k < k :=
  ⟨(y.tmod k + k) % k, rfl, (Int.add_emod_right _ _).symm, Int.emod_nonneg _ (by omega), Int.emod_lt_of_pos _ hk, (tmod_bd y k hk).1, (tmod_bd y k hk).2⟩
end Go.Proofs.YtglbdafcfcmffaaGreatDoor
