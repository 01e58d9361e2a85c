/- Layer 2, plain: short division, powers, roots. -/
import Derived.Test.YtkmooclhebjlpaaGreatDoorNa
namespace Go.Proofs.YtkmooclhebjlpaaGreatDoor

theorem short_step (Q d r x : Nat) : ((r * B + x) / d + B * Q) * d + (r * B + x) % d = x + B * (Q * d + r) := by
  have h := Nat.div_add_mod (r * B + x) d
  generalize (r * B + x) / d = q at h ⊢
  generalize (r * B + x) % d = m at h ⊢
  rw [Nat.add_mul, Nat.mul_comm q d, Nat.mul_add, Nat.mul_comm B r, Nat.mul_assoc B Q d]
  generalize B * (Q * d) = z
  omega
theorem short_lt (r x d : Nat) (hr : r < d) (hx : x < B) : (r * B + x) / d < B := by
  rw [Nat.div_lt_iff_lt_mul (by omega)]
  calc r * B + x < (r + 1) * B := by rw [Nat.add_mul, Nat.one_mul]; omega
    _ ≤ d * B := Nat.mul_le_mul_right _ hr
    _ = B * d := Nat.mul_comm _ _
theorem divmod_of (N Q d r : Nat) (h : Q * d + r = N) (hr : r < d) : N / d = Q ∧ N % d = r := by
  subst h
  refine ⟨?_, ?_⟩
  · rw [Nat.mul_comm, Nat.mul_add_div (by omega), Nat.div_eq_of_lt hr, Nat.add_zero]
  · rw [Nat.mul_comm, Nat.mul_add_mod, Nat.mod_eq_of_lt hr]
/-- The row from a place on. -/
def fromP (F : Nat → Nat) (j n : Nat) : List Nat := (List.range (n - j)).map fun i => F (j + i)
theorem fromP_step (F G : Nat → Nat) (j n : Nat) (h : j < n) (e : ∀ i, j < i → i < n → F i = G i) : fromP F j n = F j :: fromP G (j + 1) n := by
  unfold fromP
  obtain ⟨m, hm⟩ : ∃ m, n - j = m + 1 := ⟨n - j - 1, by omega⟩
  rw [hm, show n - (j + 1) = m by omega, List.range_succ_eq_map, List.map_cons, List.map_map]
  congr 1
  refine List.map_congr_left fun i hi => ?_
  have := List.mem_range.1 hi
  show F (j + (i + 1)) = G (j + 1 + i)
  rw [show j + (i + 1) = j + 1 + i by omega]
  exact e _ (by omega) (by omega)
theorem fromP_all (F : Nat → Nat) (n : Nat) : fromP F 0 n = (List.range n).map F := by
  unfold fromP; rw [Nat.sub_zero]; exact List.map_congr_left fun i _ => by rw [Nat.zero_add]
theorem fromP_end (F : Nat → Nat) (n : Nat) : fromP F n n = [] := by unfold fromP; rw [Nat.sub_self]; rfl
/-- A round of a short division. -/
theorem short_round (l : List Nat) (F : Nat → Nat) (j d r : Nat) (hj : j < l.length) (h : val (fromP F (j + 1) l.length) * d + r = val (l.drop (j + 1))) :
    val (fromP (fun i => if i = j then (r * B + l.getD j 0) / d else F i) j l.length) * d + (r * B + l.getD j 0) % d = val (l.drop j) := by
  rw [fromP_step _ F j l.length hj (fun i h1 _ => if_neg (by omega)), if_pos rfl, val_cons, short_step, h, List.drop_eq_getElem_cons hj, val_cons]
  rw [List.getD_eq_getElem?_getD, List.getElem?_eq_getElem hj]; rfl

/-- Bits of a number. -/
theorem pow_inv (a K out base k : Nat) (h : out * base ^ k = a ^ K) (ho : 1 ≤ a → 1 ≤ out ∧ 1 ≤ base) (m : Nat) (hm : a ^ K < m) (hm1 : 1 < m) (hz : a = 0 → base = 0 ∧ out ≤ 1) (hk : 1 ≤ k) : out * base < m ∧ (2 ≤ k → base * base < m) := by
  rcases Nat.eq_zero_or_pos a with h0 | h0
  · obtain ⟨rfl, h2⟩ := hz h0
    exact ⟨by rw [Nat.mul_zero]; omega, fun _ => by rw [Nat.mul_zero]; omega⟩
  · obtain ⟨h1, h2⟩ := ho h0
    refine ⟨Nat.lt_of_le_of_lt ?_ hm, fun hk2 => Nat.lt_of_le_of_lt ?_ hm⟩
    · rw [← h]
      exact Nat.mul_le_mul_left _ (by calc base = base ^ 1 := (Nat.pow_one _).symm
        _ ≤ base ^ k := Nat.pow_le_pow_right h2 hk)
    · rw [← h]
      calc base * base = base ^ 2 := (Nat.pow_two _).symm
        _ ≤ base ^ k := Nat.pow_le_pow_right h2 hk2
        _ = 1 * base ^ k := (Nat.one_mul _).symm
        _ ≤ _ := Nat.mul_le_mul_right _ h1
theorem pow_odd (a K out base k : Nat) (h : out * base ^ k = a ^ K) (hk : k % 2 = 1) : out * base * (base * base) ^ (k / 2) = a ^ K := by
  rw [← h, ← Nat.pow_two, ← Nat.pow_mul, Nat.mul_assoc, ← Nat.pow_succ', show (2 * (k / 2)).succ = k by omega]
theorem pow_even (a K out base k : Nat) (h : out * base ^ k = a ^ K) (hk : k % 2 = 0) : out * (base * base) ^ (k / 2) = a ^ K := by
  rw [← h, ← Nat.pow_two, ← Nat.pow_mul, show 2 * (k / 2) = k by omega]
end Go.Proofs.YtkmooclhebjlpaaGreatDoor
