/- Layer 2, plain: short division, powers, roots; Layer 2, plain: widths, roots, greatest common divisors, decimal digits. -/
import Derived.Test.YtcjjgdoafkdeaaaGreatDoorGc
import Derived.Lib.ItoaNum
namespace Go.Proofs.YtcjjgdoafkdeaaaGreatDoor
section

theorem short_step (Q d r x : Nat) : ((r * B + x) / d + B * Q) * d + (r * B + x) % d = x + B * (Q * d + r) := by
  have h := Nat.div_add_mod (r * B + x) d
  generalize (r * B + x) / d = q at h ⊢
  generalize (r * B + x) % d = m at h ⊢
  rw [Nat.add_mul, Nat.mul_comm q d, Nat.mul_add, Nat.mul_comm B r, Nat.mul_assoc B Q d]
  generalize B * (Q * d) = z
  omega
theorem short_lt (r x d : Nat) (hr : r < d) (hx : x < B) : (r * B + x) / d < B := by
  rw [Nat.div_lt_iff_lt_mul (by omega)]
  calc r * B + x < (r + 1) * B := by rw [Nat.add_mul, Nat.one_mul]; omega
    _ ≤ d * B := Nat.mul_le_mul_right _ hr
    _ = B * d := Nat.mul_comm _ _
theorem divmod_of (N Q d r : Nat) (h : Q * d + r = N) (hr : r < d) : N / d = Q ∧ N % d = r := by
  subst h
  refine ⟨?_, ?_⟩
  · rw [Nat.mul_comm, Nat.mul_add_div (by omega), Nat.div_eq_of_lt hr, Nat.add_zero]
  · rw [Nat.mul_comm, Nat.mul_add_mod, Nat.mod_eq_of_lt hr]
/-- The row from a place on. -/
def fromP (F : Nat → Nat) (j n : Nat) : List Nat := (List.range (n - j)).map fun i => F (j + i)
theorem fromP_step (F G : Nat → Nat) (j n : Nat) (h : j < n) (e : ∀ i, j < i → i < n → F i = G i) : fromP F j n = F j :: fromP G (j + 1) n := by
  unfold fromP
  obtain ⟨m, hm⟩ : ∃ m, n - j = m + 1 := ⟨n - j - 1, by omega⟩
  rw [hm, show n - (j + 1) = m by omega, List.range_succ_eq_map, List.map_cons, List.map_map]
  congr 1
  refine List.map_congr_left fun i hi => ?_
  have := List.mem_range.1 hi
  show F (j + (i + 1)) = G (j + 1 + i)
  rw [show j + (i + 1) = j + 1 + i by omega]
  exact e _ (by omega) (by omega)
theorem fromP_all (F : Nat → Nat) (n : Nat) : fromP F 0 n = (List.range n).map F := by
  unfold fromP; rw [Nat.sub_zero]; exact List.map_congr_left fun i _ => by rw [Nat.zero_add]
theorem fromP_end (F : Nat → Nat) (n : Nat) : fromP F n n = [] := by unfold fromP; rw [Nat.sub_self]; rfl
/-- A round of a short division. -/
theorem short_round (l : List Nat) (F : Nat → Nat) (j d r : Nat) (hj : j < l.length) (h : val (fromP F (j + 1) l.length) * d + r = val (l.drop (j + 1))) :
    val (fromP (fun i => if i = j then (r * B + l.getD j 0) / d else F i) j l.length) * d + (r * B + l.getD j 0) % d = val (l.drop j) := by
  rw [fromP_step _ F j l.length hj (fun i h1 _ => if_neg (by omega)), if_pos rfl, val_cons, short_step, h, List.drop_eq_getElem_cons hj, val_cons]
  rw [List.getD_eq_getElem?_getD, List.getElem?_eq_getElem hj]; rfl

/-- Bits of a number. -/
theorem pow_inv (a K out base k : Nat) (h : out * base ^ k = a ^ K) (ho : 1 ≤ a → 1 ≤ out ∧ 1 ≤ base) (m : Nat) (hm : a ^ K < m) (hm1 : 1 < m) (hz : a = 0 → base = 0 ∧ out ≤ 1) (hk : 1 ≤ k) : out * base < m ∧ (2 ≤ k → base * base < m) := by
  rcases Nat.eq_zero_or_pos a with h0 | h0
  · obtain ⟨rfl, h2⟩ := hz h0
    exact ⟨by rw [Nat.mul_zero]; omega, fun _ => by rw [Nat.mul_zero]; omega⟩
  · obtain ⟨h1, h2⟩ := ho h0
    refine ⟨Nat.lt_of_le_of_lt ?_ hm, fun hk2 => Nat.lt_of_le_of_lt ?_ hm⟩
    · rw [← h]
      exact Nat.mul_le_mul_left _ (by calc base = base ^ 1 := (Nat.pow_one _).symm
        _ ≤ base ^ k := Nat.pow_le_pow_right h2 hk)
    · rw [← h]
      calc base * base = base ^ 2 := (Nat.pow_two _).symm
        _ ≤ base ^ k := Nat.pow_le_pow_right h2 hk2
        _ = 1 * base ^ k := (Nat.one_mul _).symm
        _ ≤ _ := Nat.mul_le_mul_right _ h1
theorem pow_odd (a K out base k : Nat) (h : out * base ^ k = a ^ K) (hk : k % 2 = 1) : out * base * (base * base) ^ (k / 2) = a ^ K := by
  rw [← h, ← Nat.pow_two, ← Nat.pow_mul, Nat.mul_assoc, ← Nat.pow_succ', show (2 * (k / 2)).succ = k by omega]
theorem pow_even (a K out base k : Nat) (h : out * base ^ k = a ^ K) (hk : k % 2 = 0) : out * (base * base) ^ (k / 2) = a ^ K := by
  rw [← h, ← Nat.pow_two, ← Nat.pow_mul, show 2 * (k / 2) = k by omega]
end
section

theorem B_pow64 (n : Nat) : B ^ n = 2 ^ (64 * n) := by rw [B_eq, show (18446744073709551616 : Nat) = 2 ^ 64 by decide, ← Nat.pow_mul]
theorem width_nums (l : List Nat) (y s : Nat) (hl : Limbs l) (hne : 0 < l.length) (hy : l.getD (l.length - 1) 0 = y) (hs : s ≤ 63) (h1 : B ≤ 2 * (y * 2 ^ s)) (h2 : y * 2 ^ s < B) :
    2 ^ (64 * l.length - s - 1) ≤ val l ∧ val l < 2 ^ (64 * l.length - s) := by
  have hB : B = 2 ^ 64 := by rw [B_eq]
  have h3 : y < 2 ^ (64 - s) := by
    have : y * 2 ^ s < 2 ^ (64 - s) * 2 ^ s := by rw [← Nat.pow_add, show 64 - s + s = 64 by omega, ← hB]; exact h2
    exact Nat.lt_of_mul_lt_mul_right this
  have h4 : 2 ^ (63 - s) ≤ y := by
    have : 2 ^ (63 - s) * 2 ^ s ≤ y * 2 ^ s := by
      rw [← Nat.pow_add, show 63 - s + s = 63 by omega]
      have : (2 : Nat) ^ 64 = 2 * 2 ^ 63 := by decide
      omega
    exact Nat.le_of_mul_le_mul_right this (Nat.two_pow_pos s)
  have hv := val_take_getD l (l.length - 1)
  rw [show l.length - 1 + 1 = l.length by omega, List.take_of_length_le (Nat.le_refl _), hy] at hv
  have hlow := val_lt _ (limbs_take hl (l.length - 1))
  rw [List.length_take, Nat.min_eq_left (by omega)] at hlow
  have e1 : 64 * l.length - s - 1 = 64 * (l.length - 1) + (63 - s) := by omega
  have e2 : 64 * l.length - s = 64 * (l.length - 1) + (64 - s) := by omega
  rw [e1, e2, Nat.pow_add, Nat.pow_add, ← B_pow64, hv]
  generalize B ^ (l.length - 1) = P at *
  constructor
  · exact Nat.le_trans (Nat.mul_le_mul_left P h4) (Nat.le_add_left _ _)
  · have : P * (y + 1) ≤ P * 2 ^ (64 - s) := Nat.mul_le_mul_left P h3
    rw [Nat.mul_add, Nat.mul_one] at this
    omega
/-- A root's guess that is too wide is too great. -/
theorem root_skip (x n wn wx k : Nat) (h1 : 2 ^ (wx - 1) ≤ x) (h2 : n < 2 ^ wn) (h : wn ≤ (wx - 1) * k) : n < x ^ k :=
  calc n < 2 ^ wn := h2
    _ ≤ 2 ^ ((wx - 1) * k) := Nat.pow_le_pow_right (by decide) h
    _ = (2 ^ (wx - 1)) ^ k := Nat.pow_mul _ _ _
    _ ≤ x ^ k := Nat.pow_le_pow_left h1 k
theorem root_fits (x wn wx k : Nat) (h1 : x < 2 ^ wx) (h : (wx - 1) * k < wn) (hk : k < wn) : x ^ k < 2 ^ (2 * wn) := by
  by_cases h0 : k = 0
  · subst h0; rw [Nat.pow_zero]; exact Nat.one_lt_two_pow (by omega)
  · calc x ^ k < (2 ^ wx) ^ k := Nat.pow_lt_pow_left h1 h0
      _ = 2 ^ (wx * k) := (Nat.pow_mul _ _ _).symm
      _ ≤ 2 ^ (2 * wn) := Nat.pow_le_pow_right (by decide) (by
        rcases Nat.eq_zero_or_pos wx with rfl | h2
        · omega
        · obtain ⟨z, rfl⟩ : ∃ z, wx = z + 1 := ⟨wx - 1, by omega⟩
          rw [Nat.add_sub_cancel] at h; rw [Nat.add_mul]; omega)
theorem root_first (n wn k j : Nat) (h : n < 2 ^ wn) (hj : wn ≤ j * k) : n < (0 + 2 ^ j) ^ k := by
  rw [Nat.zero_add, ← Nat.pow_mul]; exact Nat.lt_of_lt_of_le h (Nat.pow_le_pow_right (by decide) hj)
theorem root_unique (r R k n : Nat) (h1 : r ^ k ≤ n) (h2 : n < (r + 1) ^ k) (h3 : R ^ k ≤ n) (h4 : n < (R + 1) ^ k) : r = R := by
  rcases Nat.lt_trichotomy r R with h | h | h
  · have := Nat.pow_le_pow_left (show r + 1 ≤ R from h) k; omega
  · exact h
  · have := Nat.pow_le_pow_left (show R + 1 ≤ r from h) k; omega
theorem root_le (x n k : Nat) (h : x ^ k ≤ n) (hk : k ≠ 0) : x ≤ n := Nat.le_trans (Nat.le_self_pow hk x) h

/-- Odd numbers and powers of two have no measure in common. -/
theorem cop_two (t b : Nat) (hb : b % 2 = 1) : Nat.Coprime (2 ^ t) b := by
  refine Nat.Coprime.pow_left t ?_
  show Nat.gcd 2 b = 1
  rw [Nat.gcd_rec, hb]; decide
theorem gcd_odd (t o b : Nat) (hb : b % 2 = 1) : Nat.gcd (2 ^ t * o) b = Nat.gcd o b := Nat.Coprime.gcd_mul_left_cancel o (cop_two t b hb)
theorem gcd_less (a b t o : Nat) (hb : b % 2 = 1) (h : b ≤ a) (e : a - b = 2 ^ t * o) : Nat.gcd o b = Nat.gcd a b := by
  rw [← gcd_odd t o b hb, ← e, Nat.gcd_sub_self_left h]
theorem gcd_twos (s t p q : Nat) (hp : p % 2 = 1) (hq : q % 2 = 1) : Nat.gcd (2 ^ s * p) (2 ^ t * q) = 2 ^ min s t * Nat.gcd p q := by
  rcases Nat.le_total s t with h | h
  · rw [Nat.min_eq_left h, show t = s + (t - s) by omega, Nat.pow_add, Nat.mul_assoc, Nat.gcd_mul_left, Nat.gcd_comm p, gcd_odd _ _ _ hp, Nat.gcd_comm q]
  · rw [Nat.min_eq_right h, show s = t + (s - t) by omega, Nat.pow_add, Nat.mul_assoc, Nat.gcd_mul_left, gcd_odd _ _ _ hq]

/-- Decimal digits in two parts. -/
theorem decDigits_step (u : Nat) (h : 10 ≤ u) : Lib.decDigits u = Lib.decDigits (u / 10) ++ [UInt8.ofNat (48 + u % 10)] := by
  rw [Lib.decDigits, dif_neg (by omega)]
def padN (k r : Nat) : List UInt8 := List.replicate (k - (Lib.decDigits r).length) 48 ++ Lib.decDigits r
theorem padN_length (k r : Nat) (h : (Lib.decDigits r).length ≤ k) : (padN k r).length = k := by unfold padN; rw [List.length_append, List.length_replicate]; omega
theorem nd_le (k r : Nat) (hk : 0 < k) (h : r < 10 ^ k) : (Lib.decDigits r).length ≤ k := by
  rw [Lib.decDigits_length]
  induction k generalizing r with
  | zero => omega
  | succ k ih =>
    by_cases h10 : r < 10
    · rw [Lib.nDigits_small h10]; omega
    · rw [Lib.nDigits_big h10]
      have hk : 0 < k := by
        rcases Nat.eq_zero_or_pos k with rfl | h0
        · simp at h; omega
        · exact h0
      have := ih (r / 10) hk (by rw [Nat.pow_succ] at h; omega)
      omega
theorem padN_succ (k r : Nat) (hk : 0 < k) (h : r < 10 ^ (k + 1)) : padN (k + 1) r = padN k (r / 10) ++ [UInt8.ofNat (48 + r % 10)] := by
  unfold padN
  by_cases h10 : r < 10
  · have e : r / 10 = 0 := by omega
    rw [e, show r % 10 = r by omega, Lib.decDigits_one h10, Lib.decDigits_one (show 0 < 10 by decide)]
    simp only [List.length_cons, List.length_nil, Nat.add_sub_cancel, Nat.zero_add, Nat.add_zero]
    congr 1
    obtain ⟨j, rfl⟩ : ∃ j, k = j + 1 := ⟨k - 1, by omega⟩
    rw [Nat.add_sub_cancel, List.replicate_succ']; rfl
  · rw [decDigits_step r (by omega), List.length_append, List.length_singleton, ← List.append_assoc]
    congr 3; omega
/-- A number's text is its high part's, and so many digits more. -/
theorem decDigits_parts (k q r : Nat) (hk : 0 < k) (hr : r < 10 ^ k) (hq : 0 < q) : Lib.decDigits (q * 10 ^ k + r) = Lib.decDigits q ++ padN k r := by
  induction k generalizing r with
  | zero => omega
  | succ k ih =>
    rcases Nat.eq_zero_or_pos k with rfl | h0
    · have h10 : r < 10 := by simpa using hr
      rw [Nat.zero_add, Nat.pow_one, decDigits_step _ (by omega), show (q * 10 + r) / 10 = q by omega, show (q * 10 + r) % 10 = r by omega]
      unfold padN
      rw [Lib.decDigits_one h10]
      rfl
    · have e1 : q * 10 ^ (k + 1) = 10 * (q * 10 ^ k) := by rw [Nat.pow_succ, ← Nat.mul_assoc, Nat.mul_comm]
      have h1 : 1 ≤ q * 10 ^ k := Nat.mul_pos hq (Nat.pow_pos (by decide))
      rw [padN_succ k r h0 hr, decDigits_step _ (by rw [e1]; omega), e1, show (10 * (q * 10 ^ k) + r) / 10 = q * 10 ^ k + r / 10 by omega, show (10 * (q * 10 ^ k) + r) % 10 = r % 10 by omega,
        ih (r / 10) h0 (by rw [Nat.pow_succ] at hr; omega), List.append_assoc]
end
end Go.Proofs.YtcjjgdoafkdeaaaGreatDoor
