/- Layer 5, plain: how far a rounded fraction is from the fraction. -/
import Derived.Test.YtcjjgdoafkdeaaaGreatDoorXd
import Derived.Test.YtcjjgdoafkdeaaaGreatDoorWo
import Derived.Test.YtcjjgdoafkdeaaaGreatDoorXf
namespace Go.Proofs.YtcjjgdoafkdeaaaGreatDoor
open Go.RowKit Go.Extern.Stop Go.Stop Go.Extern Go.Sort
set_option linter.unusedVariables false
set_option linter.unusedSimpArgs false

/-- What is left, by whole numbers. -/
theorem round_gap (a d : Nat) (m : Int) (hd : 0 < d) (hm : m = 1 ∨ m = 2 ∨ m = 3) : (m = 3 → 0 ≤ (a : Int) - (roundN a d m : Int) * (d : Int) ∧ (a : Int) - (roundN a d m : Int) * (d : Int) < (d : Int)) ∧ (m ≠ 3 → -(d : Int) ≤ 2 * ((a : Int) - (roundN a d m : Int) * (d : Int)) ∧ 2 * ((a : Int) - (roundN a d m : Int) * (d : Int)) ≤ (d : Int)) := by
  have h1 := Nat.div_add_mod a d
  have h2 := Nat.mod_lt a hd
  have e1 : (a : Int) = (d : Int) * ((a / d : Nat) : Int) + ((a % d : Nat) : Int) := by
    have := congrArg (Nat.cast (R := Int)) h1
    rw [Int.natCast_add, Int.natCast_mul] at this
    omega
  have e2 : (d : Int) * ((a / d : Nat) : Int) = ((a / d : Nat) : Int) * (d : Int) := Int.mul_comm _ _
  have e3 : ((a / d + 1 : Nat) : Int) * (d : Int) = ((a / d : Nat) : Int) * (d : Int) + (d : Int) := by
    rw [Int.natCast_add, Int.add_mul]; omega
  refine ⟨fun h => ?_, fun h => ?_⟩
  · subst h
    rw [roundN_no a d 3 (fun h => h.2 rfl)]
    omega
  · by_cases hu : (d < a % d + a % d ∨ (a % d + a % d = d ∧ (m = 1 ∨ a / d % 2 = 1))) ∧ m ≠ 3
    · rw [roundN_up a d m hu, e3]
      have : d ≤ a % d + a % d := by rcases hu.1 with h | h <;> omega
      omega
    · rw [roundN_no a d m hu]
      have : a % d + a % d ≤ d := by
        rcases Nat.lt_or_ge d (a % d + a % d) with h3 | h3
        · exact absurd ⟨.inl h3, h⟩ hu
        · exact h3
      omega
theorem gap_abs (M : Int) (d R : Nat) : (M - sgn (decide (M < 0)) R * (d : Int)).natAbs = ((M.natAbs : Int) - (R : Int) * (d : Int)).natAbs := by
  by_cases h : M < 0
  · rw [decide_eq_true h]
    show (M - -(R : Int) * (d : Int)).natAbs = _
    rw [Int.neg_mul]
    omega
  · rw [decide_eq_false h]
    show (M - (R : Int) * (d : Int)).natAbs = _
    omega
theorem mul_nn {a b : Int} (ha : 0 ≤ a) (hb : 0 ≤ b) : 0 ≤ a * b := Int.mul_nonneg ha hb
/-- A difference of a fraction and a decimal, times the power of ten. -/
theorem diff_eq (n nb dn M Z : Int) (d db dd P : Nat) (hdb : 0 < db) (hM : M = n * (P : Int)) (hb : nb * (P : Int) = Z * (db : Int)) (h : dn * ((d : Int) * (db : Int)) = (n * (db : Int) + -nb * (d : Int)) * (dd : Int)) : dn * (P : Int) * (d : Int) = (M - Z * (d : Int)) * (dd : Int) := by
  apply Int.eq_of_mul_eq_mul_right (show (db : Int) ≠ 0 by omega)
  have e1 : dn * (P : Int) * (d : Int) * (db : Int) = dn * ((d : Int) * (db : Int)) * (P : Int) := by ac_rfl
  have e2 : (n * (db : Int) + -nb * (d : Int)) * (dd : Int) * (P : Int) = (n * (P : Int) * (db : Int) - nb * (P : Int) * (d : Int)) * (dd : Int) := by
    rw [Int.neg_mul, ← Int.sub_eq_add_neg, Int.sub_mul, Int.sub_mul, Int.sub_mul]
    congr 1 <;> ac_rfl
  have e3 : (M * (db : Int) - Z * (db : Int) * (d : Int)) * (dd : Int) = (M - Z * (d : Int)) * (dd : Int) * (db : Int) := by
    rw [Int.sub_mul, Int.sub_mul, Int.sub_mul]
    congr 1 <;> ac_rfl
  rw [e1, h, e2, ← hM, hb, e3]
theorem diff_neg (n nb dn M Z : Int) (d db dd P : Nat) (hdb : 0 < db) (hM : M = n * (P : Int)) (hb : nb * (P : Int) = Z * (db : Int)) (h : dn * ((db : Int) * (d : Int)) = (nb * (d : Int) + -n * (db : Int)) * (dd : Int)) : dn * (P : Int) * (d : Int) = (Z * (d : Int) - M) * (dd : Int) := by
  apply Int.eq_of_mul_eq_mul_right (show (db : Int) ≠ 0 by omega)
  have e1 : dn * (P : Int) * (d : Int) * (db : Int) = dn * ((db : Int) * (d : Int)) * (P : Int) := by ac_rfl
  have e2 : (nb * (d : Int) + -n * (db : Int)) * (dd : Int) * (P : Int) = (nb * (P : Int) * (d : Int) - n * (P : Int) * (db : Int)) * (dd : Int) := by
    rw [Int.neg_mul, ← Int.sub_eq_add_neg, Int.sub_mul, Int.sub_mul, Int.sub_mul]
    congr 1 <;> ac_rfl
  have e3 : (Z * (db : Int) * (d : Int) - M * (db : Int)) * (dd : Int) = (Z * (d : Int) - M) * (dd : Int) * (db : Int) := by
    rw [Int.sub_mul, Int.sub_mul, Int.sub_mul]
    congr 1 <;> ac_rfl
  rw [e1, h, e2, ← hM, hb, e3]
theorem sign_of_eq {dn P d g dd : Int} (hP : 0 < P) (hd : 0 < d) (hdd : 0 < dd) (h : dn * P * d = g * dd) : (dn < 0 ↔ g < 0) := by
  constructor
  · intro h1
    have h2 : dn * P * d < 0 := Int.mul_neg_of_neg_of_pos (Int.mul_neg_of_neg_of_pos h1 hP) hd
    rw [h] at h2
    rcases Int.lt_or_le g 0 with h3 | h3
    · exact h3
    · have := mul_nn h3 (show 0 ≤ dd by omega); omega
  · intro h1
    have h2 : g * dd < 0 := Int.mul_neg_of_neg_of_pos h1 hdd
    rw [← h] at h2
    rcases Int.lt_or_le dn 0 with h3 | h3
    · exact h3
    · have := mul_nn (mul_nn h3 (show 0 ≤ P by omega)) (show 0 ≤ d by omega); omega
theorem trunc_near {e P d g f : Int} (hP : 0 < P) (hd : 0 < d) (hf : 0 < f) (h : e * P * d = g * f) (hg : g < d) : (e * P - 1 * f).sign < 0 := by
  have h1 : g * f < d * f := Int.mul_lt_mul_of_pos_right hg hf
  have h2 : e * P * d < f * d := by rw [h, Int.mul_comm f d]; exact h1
  have h3 : e * P < f := Int.lt_of_mul_lt_mul_right h2 (by omega)
  rw [Int.sign_eq_neg_one_of_neg (by omega)]; decide
theorem half_near2 {e P d g f x y : Int} (hP : 0 < P) (hd : 0 < d) (hf : 0 < f) (hy : 0 < y) (h : e * P * d = g * f) (hg : 2 * g ≤ d) (hx : x * (f * 1) = e * 2 * y) : (x * P - 1 * y).sign ≤ 0 := by
  have h1 : 2 * g * f ≤ d * f := Int.mul_le_mul_of_nonneg_right hg (by omega)
  have h2 : 2 * (e * P) * d ≤ f * d := by
    have : 2 * (e * P) * d = 2 * g * f := by rw [Int.mul_assoc, h, Int.mul_assoc]
    rw [this, Int.mul_comm f d]; exact h1
  have h3 : 2 * (e * P) ≤ f := Int.le_of_mul_le_mul_right h2 hd
  have h4 : x * P * f = 2 * (e * P) * y := by
    have : x * P * f = x * (f * 1) * P := by rw [Int.mul_one]; ac_rfl
    rw [this, hx]; ac_rfl
  have h5 : 2 * (e * P) * y ≤ f * y := Int.mul_le_mul_of_nonneg_right h3 (by omega)
  have h6 : x * P * f ≤ y * f := by rw [h4, Int.mul_comm y f]; exact h5
  have h7 : x * P ≤ y := Int.le_of_mul_le_mul_right h6 hf
  rcases Int.lt_or_eq_of_le h7 with h8 | h8
  · rw [Int.sign_eq_neg_one_of_neg (by omega)]; decide
  · rw [show x * P - 1 * y = 0 by omega]; decide
set_option maxRecDepth 100000 in
/-- rat.Of of a whole number. -/
theorem of_int (z : Int) (z0 : -1000 ≤ z) (z1 : z ≤ 1000) (w : World) (hT : BitTab w) : Calls Tryz.prog 29 #[.int .i64 z, .int .i64 1] w fun e w' => (∃ b, e = .returned (.tuple #[.pointer (some ⟨b, 0, none⟩), .nilIface]) ∧ RatAt w' (.pointer (some ⟨b, 0, none⟩)) z 1) ∧ Gr w w' := by
  refine (ofRat_calls z 1 w hT (by omega) (by omega) (by decide) (by decide)).mono ?_
  rintro ev w' ⟨⟨_, h⟩, hg⟩
  obtain ⟨b, n, d, rfl, hr, hnd, _⟩ := h (by decide)
  obtain ⟨e1, e2⟩ := rat_unique n z z 1 d 1 (by decide) hnd (by omega) hr.pos (by decide) hr.cop (Nat.gcd_one_right _)
  subst e1 e2
  exact ⟨⟨b, rfl, hr⟩, hg⟩
/-- A step by ten. -/
theorem step_ten (v t : Value) (i : Nat) (w : World) (hT : BitTab w) (hv : RatAt w v 1 (10 ^ i)) (ht : RatAt w t 10 1) (hi : i ≤ 20) :
    Calls Tryz.prog 30 #[v, t] w fun e w' => (∃ b, e = .returned (.tuple #[.pointer (some ⟨b, 0, none⟩), .nilIface]) ∧ RatAt w' (.pointer (some ⟨b, 0, none⟩)) 1 (10 ^ (i + 1))) ∧ Gr w w' := by
  have hb : 10 ^ i < B ^ 2 := Nat.lt_of_le_of_lt (Nat.pow_le_pow_right (by decide) hi) (by decide)
  refine (divRat_calls v t 1 10 (10 ^ i) 1 w hT hv ht 2 (by decide) (by decide) hb (by decide) (by decide) (by decide)).mono ?_
  rintro ev w' ⟨⟨b, n, d, rfl, hr, hnd, _⟩, hg⟩
  have hp : 0 < 10 ^ i := Nat.pow_pos (by decide)
  have e10 : ((10 ^ i : Nat) : Int) * 10 = ((10 ^ (i + 1) : Nat) : Int) := by rw [Nat.pow_succ, Int.natCast_mul]; rfl
  obtain ⟨e1, e2⟩ := rat_unique n 1 (1 * ((1 : Nat) : Int)) (((10 ^ i : Nat) : Int) * 10) d (10 ^ (i + 1)) (by omega) hnd (by rw [e10, Int.one_mul, Int.one_mul]; show _ = ((1 : Nat) : Int) * _; omega) hr.pos (Nat.pow_pos (by decide)) hr.cop (Nat.gcd_one_left _)
  subst e1 e2
  exact ⟨⟨b, rfl, hr⟩, hg⟩
end Go.Proofs.YtcjjgdoafkdeaaaGreatDoor
