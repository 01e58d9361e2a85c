/- Layer 2: plain law of bits.Div64's two half divisions. -/
import Derived.Test.YtkmooclhebjlpaaGreatDoorNh
namespace Go.Proofs.YtkmooclhebjlpaaGreatDoor

/-- Half a limb. -/
def W : Nat := 4294967296
theorem W_eq : W = 4294967296 := rfl
/-- The guess is right from below. -/
theorem half_exit (v1 v0 un u1 q r : Nat) (h : q * v1 + r = un) (hc : q * v0 ≤ W * r + u1) : q * (v1 * W + v0) ≤ un * W + u1 := by
  subst h
  rw [Nat.mul_add, Nat.add_mul, ← Nat.mul_assoc, Nat.mul_comm r W]
  omega
/-- The first guess is not too small. -/
theorem half_start (v1 v0 un u1 : Nat) (hv : 0 < v1) (hu : u1 < W) : un * W + u1 < (un / v1 + 1) * (v1 * W + v0) := by
  have h1 : un < (un / v1 + 1) * v1 := by
    have h2 := Nat.div_add_mod un v1
    have h3 := Nat.mod_lt un hv
    rw [Nat.add_mul, Nat.one_mul, Nat.mul_comm (un / v1) v1]; omega
  have h2 : (un + 1) * W ≤ (un / v1 + 1) * v1 * W := Nat.mul_le_mul_right W h1
  rw [Nat.mul_add, ← Nat.mul_assoc]
  rw [Nat.add_mul, Nat.one_mul] at h2
  have : un * W + u1 < (un / v1 + 1) * v1 * W := by omega
  omega
/-- Where the loop goes on the guess is too great. -/
theorem half_more (v1 v0 un u1 q r : Nat) (h : q * v1 + r = un) (hun : un < v1 * W + v0) (hu : u1 < W) (hc : W ≤ q ∨ W * r + u1 < q * v0) : un * W + u1 < q * (v1 * W + v0) := by
  rcases hc with hc | hc
  · have h1 : W * (v1 * W + v0) ≤ q * (v1 * W + v0) := Nat.mul_le_mul_right _ hc
    have h2 : (un + 1) * W ≤ (v1 * W + v0) * W := Nat.mul_le_mul_right W hun
    rw [Nat.add_mul, Nat.one_mul] at h2
    rw [Nat.mul_comm (v1 * W + v0) W] at h2
    omega
  · subst h
    rw [Nat.mul_add, Nat.add_mul, ← Nat.mul_assoc, Nat.mul_comm r W]
    omega
/-- The first guess is at most by two too great. -/
theorem half_bound (v1 v0 un : Nat) (hv : 2147483648 ≤ v1) (hv0 : v0 < W) (hun : un < v1 * W + v0) : un / v1 ≤ W + 2 := by
  have h : un < (W + 3) * v1 := by
    rw [W_eq] at *
    omega
  have := (Nat.div_lt_iff_lt_mul (by omega)).2 h
  omega
/-- At the loop's other end. -/
theorem half_break (v0 q r u1 : Nat) (hq : q ≤ W + 1) (hr : W ≤ r) (hv0 : v0 < W) : q * v0 ≤ W * r + u1 := by
  have h1 : q * v0 ≤ (W + 1) * (W - 1) := Nat.mul_le_mul hq (by omega)
  have h2 : W * W ≤ W * r := Nat.mul_le_mul_left _ hr
  have h3 : (W + 1) * (W - 1) ≤ W * W := by rw [W_eq]; omega
  omega
/-- The guess is the quotient. -/
theorem half_div (v N q : Nat) (h1 : q * v ≤ N) (h2 : N < (q + 1) * v) : N / v = q ∧ N % v = N - q * v := by
  have hv : 0 < v := Nat.pos_of_ne_zero (by rintro rfl; simp at h2)
  have e : N / v = q := (Nat.div_eq_iff hv).2 ⟨h1, by rw [Nat.add_mul, Nat.one_mul] at h2; omega⟩
  refine ⟨e, ?_⟩
  have := Nat.div_add_mod N v
  rw [e, Nat.mul_comm v q] at this
  omega
/-- Two half divisions are one. -/
theorem div_halves (v un u1 u0 : Nat) (hv : 0 < v) (q1 q0 r1 r0 : Nat) (h1 : un * W + u1 = q1 * v + r1) (h0 : r1 * W + u0 = q0 * v + r0) (hr : r0 < v) :
    (un * (W * W) + u1 * W + u0) / v = q1 * W + q0 ∧ (un * (W * W) + u1 * W + u0) % v = r0 := by
  have e : un * (W * W) + u1 * W + u0 = v * (q1 * W + q0) + r0 := by
    have t : (un * W + u1) * W = (q1 * v + r1) * W := by rw [h1]
    have t2 : v * (q1 * W + q0) = q1 * v * W + q0 * v := by rw [Nat.mul_add, ← Nat.mul_assoc, Nat.mul_comm v q1, Nat.mul_comm v q0]
    rw [Nat.add_mul, Nat.add_mul, Nat.mul_assoc un] at t
    rw [t2]
    omega
  rw [e]
  constructor
  · rw [Nat.mul_add_div hv, Nat.div_eq_of_lt hr, Nat.add_zero]
  · rw [Nat.mul_add_mod, Nat.mod_eq_of_lt hr]
end Go.Proofs.YtkmooclhebjlpaaGreatDoor
