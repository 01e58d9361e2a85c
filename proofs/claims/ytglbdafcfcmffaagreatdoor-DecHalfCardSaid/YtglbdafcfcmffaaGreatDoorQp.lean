/- Layer 2's reference, plain: sums by digits; when there is no nought above. No program here. -/
import Derived.Test.YtglbdafcfcmffaaGreatDoorQa
namespace Go.Proofs.YtglbdafcfcmffaaGreatDoor.Dg

/-- No nought above, where the number is great enough. -/
theorem norm_of_ge (p : List Nat) (hl : Limbs p) (h : p = [] ∨ D ^ (p.length - 1) ≤ val p) : Norm p := by
  rcases h with rfl | h
  · simp [Norm]
  · intro e
    have h1 := val_drop_last p e
    have hne : p ≠ [] := by rintro rfl; cases e
    have h2 := val_lt p.dropLast (fun x hx => hl x (List.dropLast_subset p hx))
    rw [List.length_dropLast, h1] at h2
    omega
/-- A digit more of a sum. -/
theorem add_step (p : List Nat) (S T k c x y : Nat) (hp : p.length = k) (h : val p + D ^ k * c = S + T) :
    val (p ++ [(c + x + y) % D]) + D ^ (k + 1) * ((c + x + y) / D) = (S + D ^ k * x) + (T + D ^ k * y) := by
  rw [val_snoc, hp, Nat.pow_succ, Nat.mul_assoc, Nat.add_assoc, ← Nat.mul_add, Nat.mod_add_div, Nat.mul_add, Nat.mul_add]
  omega
theorem add_carry (c x y : Nat) (hc : c ≤ 1) (hx : x < D) (hy : y < D) : (c + x + y) / D ≤ 1 := by
  rw [D_eq] at *; omega
theorem add_digit (c x y : Nat) : (c + x + y) % D < D := Nat.mod_lt _ D_pos
/-- A number's size, by its digits. -/
theorem ge_len (l : List Nat) (hn : Norm l) (k : Nat) (h : k < l.length) : D ^ k ≤ val l :=
  Nat.le_trans (Nat.pow_le_pow_right D_pos (by omega)) (norm_pos l hn (by rintro rfl; simp at h))
/-- A place's digit of a number, nought beyond. -/
theorem digs_get (n i : Nat) : (digs n).getD i 0 = n / D ^ i % D := by
  induction i generalizing n with
  | zero =>
    by_cases h : 0 < n
    · rw [digs_pos n h, Nat.pow_zero, Nat.div_one]; rfl
    · obtain rfl : n = 0 := by omega
      rw [digs_zero]; simp
  | succ i ih =>
    by_cases h : 0 < n
    · have := ih (n / D)
      rw [digs_pos n h, Nat.pow_succ, Nat.mul_comm, ← Nat.div_div_eq_div_mul, ← this]
      rfl
    · obtain rfl : n = 0 := by omega
      rw [digs_zero]; simp
/-- Division digit by digit: what is left takes the next digit ahead. -/
theorem div_step (a b i q r : Nat) (hb : 0 < b) (h : a / D ^ (i + 1) = q * b + r) (hr : r < b) :
    a / D ^ i = (q * D + (r * D + a / D ^ i % D) / b) * b + (r * D + a / D ^ i % D) % b ∧ (r * D + a / D ^ i % D) / b < D := by
  have e : a / D ^ i = a / D ^ (i + 1) * D + a / D ^ i % D := by
    rw [Nat.pow_succ, ← Nat.div_div_eq_div_mul, Nat.mul_comm, Nat.div_add_mod]
  have hd : a / D ^ i % D < D := Nat.mod_lt _ D_pos
  constructor
  · conv => lhs; rw [e, h]
    generalize a / D ^ i % D = d at *
    have h1 := Nat.div_add_mod (r * D + d) b
    rw [Nat.add_mul, Nat.add_mul, Nat.mul_assoc q b D, Nat.mul_comm b D, ← Nat.mul_assoc, Nat.add_assoc, Nat.add_assoc]
    congr 1
    rw [Nat.mul_comm _ b]
    exact h1.symm
  · rw [Nat.div_lt_iff_lt_mul hb]
    generalize a / D ^ i % D = d at *
    have h2 : (r + 1) * D ≤ b * D := Nat.mul_le_mul_right _ hr
    rw [Nat.add_mul] at h2
    rw [Nat.mul_comm D b]
    omega
end Go.Proofs.YtglbdafcfcmffaaGreatDoor.Dg
