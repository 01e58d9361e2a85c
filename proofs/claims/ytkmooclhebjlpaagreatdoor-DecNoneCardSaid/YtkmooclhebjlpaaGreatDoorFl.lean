/- Layer 1: small facts on remainders. -/
import Derived.Test.YtkmooclhebjlpaaGreatDoorFk
namespace Go.Proofs.YtkmooclhebjlpaaGreatDoor
open Go.RowKit Go.Extern.Stop Go.Stop Go.Extern
set_option linter.unusedVariables false
set_option linter.unusedSimpArgs false

theorem tmod_nn (a k : Int) (h : 0 ≤ a) : a.tmod k = a % k := Int.tmod_eq_emod_of_nonneg h
theorem tmod_neg (a k : Int) (h : a < 0) : a.tmod k = -((-a) % k) := by
  have := Int.neg_tmod (-a) k
  rw [Int.neg_neg] at this
  rw [this, tmod_nn _ _ (by omega)]
theorem ret_int {k : IntKind} {a b : Int} (h : a = b) : Ending.returned (.int k a) = .returned (.int k b) := by rw [h]
theorem ret_str {a b : ByteArray} (h : a = b) : Ending.returned (.string a) = .returned (.string b) := by rw [h]
end Go.Proofs.YtkmooclhebjlpaaGreatDoor
