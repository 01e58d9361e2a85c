/- Layer 4, plain: a fraction of two whole numbers in its lowest terms, by both. -/
import Derived.Test.YtcjjgdoafkdeaaaGreatDoorWj
namespace Go.Proofs.YtcjjgdoafkdeaaaGreatDoor
open Go.RowKit Go.Extern.Stop Go.Stop Go.Extern Go.Sort
set_option linter.unusedVariables false
set_option linter.unusedSimpArgs false

theorem frac_low (n d nb : Int) (db : Nat) (hd : d ≠ 0) (h : nb * d = n * (db : Int)) (hp : 0 < db) (hc : Nat.gcd nb.natAbs db = 1) (sb : Bool) (hsb : sb = ((decide (n < 0) != decide (d < 0)) && decide (0 < n.natAbs))) :
    sgn (sb && decide (0 < n.natAbs / Nat.gcd n.natAbs d.natAbs)) (n.natAbs / Nat.gcd n.natAbs d.natAbs) = nb ∧ d.natAbs / Nat.gcd n.natAbs d.natAbs = db := by
  have hs : nb * (d.natAbs : Int) = sgn sb n.natAbs * (db : Int) := by
    subst hsb
    rcases Int.lt_or_le d 0 with h1 | h1
    · have e1 : (d.natAbs : Int) = -d := by omega
      rw [e1, Int.mul_neg, h]
      have : sgn ((decide (n < 0) != decide (d < 0)) && decide (0 < n.natAbs)) n.natAbs = -n := by
        rw [decide_eq_true h1]
        by_cases h2 : n < 0
        · rw [decide_eq_true h2]; show (n.natAbs : Int) = -n; omega
        · rw [decide_eq_false h2]
          by_cases h3 : 0 < n.natAbs
          · rw [decide_eq_true h3]; show -(n.natAbs : Int) = -n; omega
          · rw [decide_eq_false h3]; show (n.natAbs : Int) = -n; omega
      rw [this, Int.neg_mul]
    · have e1 : (d.natAbs : Int) = d := by omega
      rw [e1, h]
      have : sgn ((decide (n < 0) != decide (d < 0)) && decide (0 < n.natAbs)) n.natAbs = n := by
        rw [decide_eq_false (show ¬ d < 0 by omega)]
        by_cases h2 : n < 0
        · rw [decide_eq_true h2, decide_eq_true (show 0 < n.natAbs by omega)]; show -(n.natAbs : Int) = n; omega
        · rw [decide_eq_false h2]; show (n.natAbs : Int) = n; omega
      rw [this]
  obtain ⟨e1, e2⟩ := low_is sb n.natAbs d.natAbs (by omega) nb db hs hp hc
  have hz : (sb && decide (0 < n.natAbs / Nat.gcd n.natAbs d.natAbs)) = true ∨ sgn (sb && decide (0 < n.natAbs / Nat.gcd n.natAbs d.natAbs)) (n.natAbs / Nat.gcd n.natAbs d.natAbs) = sgn sb (n.natAbs / Nat.gcd n.natAbs d.natAbs) := by
    cases sb
    · exact .inr rfl
    · rcases Nat.eq_zero_or_pos (n.natAbs / Nat.gcd n.natAbs d.natAbs) with h0 | h0
      · right; rw [h0]; rfl
      · left; rw [decide_eq_true h0]; rfl
  refine ⟨?_, e2.symm⟩
  rcases hz with hz | hz
  · rw [hz, e1]
    have : sb = true := by cases sb; exact absurd hz (by simp); rfl
    rw [this]
  · rw [hz, e1]
end Go.Proofs.YtcjjgdoafkdeaaaGreatDoor
