/- Layer 5, plain: decimals by sign; a number behind a slice. -/
import Derived.Test.YtcjjgdoafkdeaaaGreatDoorWs
import Derived.Test.YtcjjgdoafkdeaaaGreatDoorWb
namespace Go.Proofs.YtcjjgdoafkdeaaaGreatDoor
open Go.RowKit Go.Extern.Stop Go.Stop Go.Extern Go.Sort
set_option linter.unusedVariables false
set_option linter.unusedSimpArgs false

theorem sl_of {f : Nat} {args : Array Value} {w : World} {n : Nat} (h : Calls Tryz.prog f args w fun e w' => (∃ r, e = .returned r ∧ RN w' r n) ∧ Gr w w') : Calls Tryz.prog f args w fun e w' => (∃ a l c, e = .returned (.slice a l c) ∧ RN w' (.slice a l c) n) ∧ Gr w w' := by
  refine h.mono ?_
  rintro e w' ⟨⟨r, rfl, hr⟩, hg⟩
  obtain ⟨a, l, c, rfl⟩ := rn_sl hr
  exact ⟨⟨a, l, c, rfl, hr⟩, hg⟩
theorem placed_sgn (b : Bool) (R p : Nat) : placedL (sgn b R) p = if (b && decide (0 < R)) then 45 :: pointL (padL (Lib.decDigits R) p) p else pointL (padL (Lib.decDigits R) p) p := by
  unfold placedL
  rw [sgn_abs]
  cases b
  · rw [if_neg (by show ¬ ((R : Nat) : Int) < 0; omega)]; rfl
  · rcases Nat.eq_zero_or_pos R with h | h
    · subst h; rfl
    · rw [if_pos (by show -((R : Nat) : Int) < 0; omega), decide_eq_true h]; rfl
theorem neg_mul_ten (n : Int) (P : Nat) (hP : 0 < P) : decide (n * (P : Int) < 0) = decide (n < 0) := by
  by_cases h : n < 0
  · rw [decide_eq_true h]; exact decide_eq_true (Int.mul_neg_of_neg_of_pos h (by omega))
  · rw [decide_eq_false h]; exact decide_eq_false (by have : 0 ≤ n * (P : Int) := Int.mul_nonneg (by omega) (by omega); omega)
end Go.Proofs.YtcjjgdoafkdeaaaGreatDoor
