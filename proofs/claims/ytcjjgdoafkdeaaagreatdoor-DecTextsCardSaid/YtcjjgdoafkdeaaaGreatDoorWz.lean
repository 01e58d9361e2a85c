/- Layer 5: decimals read by both: their texts. -/
import Derived.Test.YtcjjgdoafkdeaaaGreatDoorWp
import Derived.Test.YtcjjgdoafkdeaaaGreatDoorWq
import Derived.Test.YtcjjgdoafkdeaaaGreatDoorWo
import Derived.Test.YtcjjgdoafkdeaaaGreatDoorWs
namespace Go.Proofs.YtcjjgdoafkdeaaaGreatDoor
open Go.RowKit Go.Extern.Stop Go.Stop Go.Extern Go.Sort
set_option linter.unusedVariables false
set_option linter.unusedSimpArgs false

theorem ten_p (p : Nat) (h : p ≤ 20) : 10 ^ p < Dg.D ^ 4 ∧ 10 ^ p < B ^ 3 ∧ 0 < 10 ^ p := ⟨Nat.lt_of_le_of_lt (Nat.pow_le_pow_right (by decide) h) (by decide), Nat.lt_of_le_of_lt (Nat.pow_le_pow_right (by decide) h) (by decide), Nat.pow_pos (by decide)⟩
/-- The text of a decimal that was read: the program's. -/
theorem dec_text {w : World} {v : Value} {neg : Bool} {N p : Nat} (h : RatAt w v (sgn neg (N / Nat.gcd N (10 ^ p))) (10 ^ p / Nat.gcd N (10 ^ p))) (hN : N < Dg.D ^ 30) (hp : p ≤ 20) (hT : PowTab w) {X : ByteArray} (hX : X = ⟨(ratText (sgn neg (N / Nat.gcd N (10 ^ p))) (10 ^ p / Nat.gcd N (10 ^ p))).toArray⟩) :
    Calls Tryz.prog 18 #[v] w fun e w' => e = .returned (.string X) ∧ Gr w w' := by
  subst hX
  exact textRat_calls v _ _ w h 30 (by rw [sgn_abs]; exact Nat.lt_of_le_of_lt (Nat.div_le_self _ _) (b_B hN)) (Nat.lt_of_le_of_lt (Nat.div_le_self _ _) (b_upB (ten_p p hp).2.1 (by decide))) (by decide) (by decide) hT
/-- The same: the reference's. -/
theorem rdec_text {w : World} {va vb : Value} {neg : Bool} {N p : Nat} (ha : RN w va N) (hb : RN w vb (10 ^ p)) (hz : neg = true → N ≠ 0) (hN : N < Dg.D ^ 30) (hp : p ≤ 20) {X : ByteArray} (hX : X = ⟨(ratText (sgn neg (N / Nat.gcd N (10 ^ p))) (10 ^ p / Nat.gcd N (10 ^ p))).toArray⟩) :
    Calls Tryz.prog 19 #[.agg #[.bool neg, va, vb]] w fun e w' => e = .returned (.string X) ∧ Gr w w' := by
  refine rQText_calls neg va vb N (10 ^ p) w ha hb (ten_p p hp).2.2 30 hN (b_up (ten_p p hp).1 (by decide)) (by decide) (by decide) X ?_
  rw [hX]
  have e : (neg && decide (0 < N / Nat.gcd N (10 ^ p))) = neg := by
    cases neg
    · rfl
    · have h0 := hz rfl
      rw [decide_eq_true (Nat.div_pos (Nat.gcd_le_left _ (by omega)) (Nat.gcd_pos_of_pos_right _ (ten_p p hp).2.2))]; rfl
  rw [e]
end Go.Proofs.YtcjjgdoafkdeaaaGreatDoor
