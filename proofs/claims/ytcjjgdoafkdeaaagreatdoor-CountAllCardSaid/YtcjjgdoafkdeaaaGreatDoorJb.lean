/- Layer 2's reference, plain: sums by digits; when there is no nought above. No program here; Layer 2's reference, plain: rows of digits, sums, differences, products, quotients by digits. No program here; Layer 2's long division, plain: the guess, what is taken, what is given back, the quotient's digits, the rest. No program here. -/
import Derived.Test.YtcjjgdoafkdeaaaGreatDoorJa
import Derived.Test.YtcjjgdoafkdeaaaGreatDoorGe
namespace Go.Proofs.YtcjjgdoafkdeaaaGreatDoor
section
namespace Dg

/-- No nought above, where the number is great enough. -/
theorem norm_of_ge (p : List Nat) (hl : Limbs p) (h : p = [] ∨ D ^ (p.length - 1) ≤ val p) : Norm p := by
  rcases h with rfl | h
  · simp [Norm]
  · intro e
    have h1 := val_drop_last p e
    have hne : p ≠ [] := by rintro rfl; cases e
    have h2 := val_lt p.dropLast (fun x hx => hl x (List.dropLast_subset p hx))
    rw [List.length_dropLast, h1] at h2
    omega
/-- A digit more of a sum. -/
theorem add_step (p : List Nat) (S T k c x y : Nat) (hp : p.length = k) (h : val p + D ^ k * c = S + T) :
    val (p ++ [(c + x + y) % D]) + D ^ (k + 1) * ((c + x + y) / D) = (S + D ^ k * x) + (T + D ^ k * y) := by
  rw [val_snoc, hp, Nat.pow_succ, Nat.mul_assoc, Nat.add_assoc, ← Nat.mul_add, Nat.mod_add_div, Nat.mul_add, Nat.mul_add]
  omega
theorem add_carry (c x y : Nat) (hc : c ≤ 1) (hx : x < D) (hy : y < D) : (c + x + y) / D ≤ 1 := by
  rw [D_eq] at *; omega
theorem add_digit (c x y : Nat) : (c + x + y) % D < D := Nat.mod_lt _ D_pos
/-- A number's size, by its digits. -/
theorem ge_len (l : List Nat) (hn : Norm l) (k : Nat) (h : k < l.length) : D ^ k ≤ val l :=
  Nat.le_trans (Nat.pow_le_pow_right D_pos (by omega)) (norm_pos l hn (by rintro rfl; simp at h))
/-- A place's digit of a number, nought beyond. -/
theorem digs_get (n i : Nat) : (digs n).getD i 0 = n / D ^ i % D := by
  induction i generalizing n with
  | zero =>
    by_cases h : 0 < n
    · rw [digs_pos n h, Nat.pow_zero, Nat.div_one]; rfl
    · obtain rfl : n = 0 := by omega
      rw [digs_zero]; simp
  | succ i ih =>
    by_cases h : 0 < n
    · have := ih (n / D)
      rw [digs_pos n h, Nat.pow_succ, Nat.mul_comm, ← Nat.div_div_eq_div_mul, ← this]
      rfl
    · obtain rfl : n = 0 := by omega
      rw [digs_zero]; simp
/-- Division digit by digit: what is left takes the next digit ahead. -/
theorem div_step (a b i q r : Nat) (hb : 0 < b) (h : a / D ^ (i + 1) = q * b + r) (hr : r < b) :
    a / D ^ i = (q * D + (r * D + a / D ^ i % D) / b) * b + (r * D + a / D ^ i % D) % b ∧ (r * D + a / D ^ i % D) / b < D := by
  have e : a / D ^ i = a / D ^ (i + 1) * D + a / D ^ i % D := by
    rw [Nat.pow_succ, ← Nat.div_div_eq_div_mul, Nat.mul_comm, Nat.div_add_mod]
  have hd : a / D ^ i % D < D := Nat.mod_lt _ D_pos
  constructor
  · conv => lhs; rw [e, h]
    generalize a / D ^ i % D = d at *
    have h1 := Nat.div_add_mod (r * D + d) b
    rw [Nat.add_mul, Nat.add_mul, Nat.mul_assoc q b D, Nat.mul_comm b D, ← Nat.mul_assoc, Nat.add_assoc, Nat.add_assoc]
    congr 1
    rw [Nat.mul_comm _ b]
    exact h1.symm
  · rw [Nat.div_lt_iff_lt_mul hb]
    generalize a / D ^ i % D = d at *
    have h2 : (r + 1) * D ≤ b * D := Nat.mul_le_mul_right _ hr
    rw [Nat.add_mul] at h2
    rw [Nat.mul_comm D b]
    omega
end Dg
end
section
set_option linter.unusedVariables false
set_option linter.unusedSimpArgs false

/-- The number of a row's first n digits, b of one. -/
def rv (b : Nat) (F : Nat → Nat) : Nat → Nat
  | 0 => 0
  | n + 1 => rv b F n + b ^ n * F n
theorem rv_zero (b : Nat) (F : Nat → Nat) : rv b F 0 = 0 := rfl
theorem rv_succ (b : Nat) (F : Nat → Nat) (n : Nat) : rv b F (n + 1) = rv b F n + b ^ n * F n := rfl
theorem rv_congr (b : Nat) {F G : Nat → Nat} {n : Nat} (h : ∀ j, j < n → F j = G j) : rv b F n = rv b G n := by
  induction n with
  | zero => rfl
  | succ n ih => rw [rv_succ, rv_succ, ih (fun j hj => h j (by omega)), h n (by omega)]
theorem rv_lt (b : Nat) (F : Nat → Nat) (n : Nat) (h : ∀ j, j < n → F j < b) : rv b F n < b ^ n := by
  induction n with
  | zero => rw [rv_zero, Nat.pow_zero]; exact Nat.one_pos
  | succ n ih =>
    rw [rv_succ, Nat.pow_succ]
    have h1 : b ^ n * (F n + 1) ≤ b ^ n * b := Nat.mul_le_mul_left _ (h n (by omega))
    have h2 := ih (fun j hj => h j (by omega))
    rw [Nat.mul_add, Nat.mul_one] at h1
    omega
/-- One digit set. -/
theorem rv_set (b : Nat) (F : Nat → Nat) (n k x : Nat) (h : k < n) : rv b (fun j => if j = k then x else F j) n + b ^ k * F k = rv b F n + b ^ k * x := by
  induction n with
  | zero => omega
  | succ n ih =>
    rw [rv_succ, rv_succ]
    by_cases e : k = n
    · subst e
      rw [if_pos rfl, rv_congr b (G := F) (fun j hj => if_neg (by omega))]
      omega
    · rw [if_neg (fun e2 => e e2.symm)]
      have := ih (by omega)
      omega
theorem rv_add (b : Nat) (F : Nat → Nat) (m n : Nat) : rv b F (m + n) = rv b F m + b ^ m * rv b (fun j => F (m + j)) n := by
  induction n with
  | zero => simp [rv_zero]
  | succ n ih => rw [← Nat.add_assoc, rv_succ, rv_succ, ih, Nat.mul_add, Nat.pow_add, Nat.mul_assoc, Nat.add_assoc]
theorem rv_nil (b : Nat) (F : Nat → Nat) (n : Nat) (h : ∀ j, j < n → F j = 0) : rv b F n = 0 := by
  induction n with
  | zero => rfl
  | succ n ih => rw [rv_succ, ih (fun j hj => h j (by omega)), h n (by omega), Nat.mul_zero]
theorem rv_le (b : Nat) (F : Nat → Nat) (m n : Nat) (h : m ≤ n) : rv b F m ≤ rv b F n := by
  obtain ⟨d, rfl⟩ : ∃ d, n = m + d := ⟨n - m, by omega⟩
  rw [rv_add]; exact Nat.le_add_right _ _
/-- Digits of a number beside a row. -/
theorem rv_digit (b N n : Nat) (F : Nat → Nat) (h : ∀ j, j < n → F j = N / b ^ j % b) : rv b F n = N % b ^ n := by
  induction n with
  | zero => rw [rv_zero, Nat.pow_zero, Nat.mod_one]
  | succ n ih => rw [rv_succ, ih (fun j hj => h j (by omega)), h n (by omega), Nat.pow_succ, Nat.mod_mul]

namespace Dg
theorem rv_val (F : Nat → Nat) (n : Nat) : val ((List.range n).map F) = rv D F n := by
  induction n with
  | zero => rfl
  | succ n ih => rw [List.range_succ, List.map_append, List.map_cons, List.map_nil, val_snoc, List.length_map, List.length_range, ih]; rfl
theorem val_take_le (l : List Nat) (k : Nat) : val (l.take k) ≤ val l := by
  conv => rhs; rw [← List.take_append_drop k l]
  rw [val_append]; exact Nat.le_add_right _ _
theorem rv_list (l : List Nat) (n : Nat) (h : l.length ≤ n) : rv D (l.getD · 0) n = val l := by
  have h2 : ∀ k, rv D (l.getD · 0) k = val (l.take k) := by
    intro k
    induction k with
    | zero => rfl
    | succ k ih => rw [rv_succ, ih, val_take_getD]
  rw [h2, List.take_of_length_le h]
theorem getD_lt {l : List Nat} (h : Limbs l) (k : Nat) : l.getD k 0 < D := by
  by_cases hk : k < l.length
  · rw [List.getD_eq_getElem?_getD, List.getElem?_eq_getElem hk]; exact h _ (List.getElem_mem hk)
  · rw [List.getD_eq_getElem?_getD, List.getElem?_eq_none (by omega)]; exact D_pos
/-- A sum's length. -/
theorem add_norm (r p q : List Nat) (hp : Norm p) (hq : Norm q) (h1 : p.length ≤ r.length) (h2 : q.length ≤ r.length) (hv : val r = val p + val q)
    (h : r.length ≤ max p.length q.length ∨ D ^ (r.length - 1) ≤ val r) : r = [] ∨ D ^ (r.length - 1) ≤ val r := by
  rcases h with h | h
  · by_cases h0 : r.length = 0
    · exact .inl (List.eq_nil_of_length_eq_zero h0)
    · refine .inr ?_
      by_cases h3 : q.length ≤ p.length
      · have e : p.length = r.length := by omega
        have := norm_pos p hp (by rintro rfl; simp at e; omega)
        rw [e] at this
        omega
      · have e : q.length = r.length := by omega
        have := norm_pos q hq (by rintro rfl; simp at e; omega)
        rw [e] at this
        omega
  · exact .inr h
theorem add_more (r : List Nat) (la lb c x y : Nat) (hc : c ≤ 1) (hx : la ≤ r.length → x = 0) (hy : lb ≤ r.length → y = 0) (hgo : r.length < la ∨ r.length < lb ∨ 0 < c)
    (h : r.length ≤ max la lb ∨ (c = 0 ∧ D ^ (r.length - 1) ≤ val r)) :
    r.length + 1 ≤ max la lb ∨ ((c + x + y) / D = 0 ∧ D ^ r.length ≤ val (r ++ [(c + x + y) % D])) := by
  by_cases h1 : r.length < la ∨ r.length < lb
  · exact .inl (by omega)
  · have hx := hx (by omega)
    have hy := hy (by omega)
    obtain rfl : c = 1 := by omega
    subst hx
    subst hy
    refine .inr ⟨by decide, ?_⟩
    rw [val_snoc, show (1 + 0 + 0) % D = 1 by decide, Nat.mul_one]
    exact Nat.le_add_left _ _
/-- Borrowed from above: the place itself. -/
theorem sub_first (F : Nat → Nat) (n i x : Nat) (h : i < n) (hx : F i < x) (hd : x < D) :
    rv D (fun j => if j = i then F i + (D - x) else F j) n + D ^ i * x = rv D F n + D ^ (i + 1) := by
  have h1 := rv_set D F n i (F i + (D - x)) h
  have h2 : D ^ i * (F i + (D - x)) + D ^ i * x = D ^ i * F i + D ^ (i + 1) := by
    rw [Nat.pow_succ, ← Nat.mul_add, ← Nat.mul_add]; congr 1; omega
  omega
/-- A nought borrows further. -/
theorem sub_on (F G : Nat → Nat) (n i k x : Nat) (h : k < n) (h0 : G k = 0) (hv : rv D G n + D ^ i * x = rv D F n + D ^ k) :
    rv D (fun j => if j = k then D - 1 else G j) n + D ^ i * x = rv D F n + D ^ (k + 1) := by
  have h1 := rv_set D G n k (D - 1) h
  have h2 : D ^ k * (D - 1) + D ^ k = D ^ (k + 1) := by
    rw [Nat.pow_succ, ← Nat.mul_succ]; congr 1
  rw [h0, Nat.mul_zero] at h1
  omega
theorem sub_off (F G : Nat → Nat) (n i k x : Nat) (h : k < n) (h0 : G k ≠ 0) (hv : rv D G n + D ^ i * x = rv D F n + D ^ k) :
    rv D (fun j => if j = k then G k - 1 else G j) n + D ^ i * x = rv D F n := by
  have h1 := rv_set D G n k (G k - 1) h
  have h2 : D ^ k * G k = D ^ k * (G k - 1) + D ^ k := by
    rw [← Nat.mul_succ]; congr 1; omega
  omega
/-- What is borrowed is there. -/
theorem sub_room (F G : Nat → Nat) (n i k x a : Nat) (b : List Nat) (hk : k ≤ n) (hG : ∀ j, G j < D) (hv : rv D G n + D ^ i * x = rv D F n + D ^ k)
    (hF : rv D F n + val (b.take i) = a) (hx : b.getD i 0 = x) (hle : val b ≤ a) : k < n := by
  rcases Nat.lt_or_ge k n with h | h
  · exact h
  · obtain rfl : k = n := by omega
    have h1 := rv_lt D G k (fun j _ => hG j)
    have h2 := val_take_le b (i + 1)
    rw [val_take_getD, hx] at h2
    omega
/-- A digit that is taken. -/
theorem sub_plain (F : Nat → Nat) (n i x : Nat) (h : i < n) (hx : x ≤ F i) : rv D (fun j => if j = i then F i - x else F j) n + D ^ i * x = rv D F n := by
  have h1 := rv_set D F n i (F i - x) h
  have h2 : D ^ i * F i = D ^ i * (F i - x) + D ^ i * x := by rw [← Nat.mul_add]; congr 1; omega
  omega
theorem sub_next (F G : Nat → Nat) (n i a : Nat) (b : List Nat) (hF : rv D F n + val (b.take i) = a) (hG : rv D G n + D ^ i * b.getD i 0 = rv D F n) :
    rv D G n + val (b.take (i + 1)) = a := by
  rw [val_take_getD]; omega

/-- A product's digit. -/
theorem mul_digit (F F2 : Nat → Nat) (n i k cc x s : Nat) (q : List Nat) (hn : i + k < n) (hs : s = F2 (i + k) + cc + x * q.getD k 0)
    (h : rv D F2 n + D ^ (i + k) * cc = rv D F n + D ^ i * (x * val (q.take k))) :
    rv D (fun j => if j = i + k then s % D else F2 j) n + D ^ (i + (k + 1)) * (s / D) = rv D F n + D ^ i * (x * val (q.take (k + 1))) := by
  have h1 := rv_set D F2 n (i + k) (s % D) hn
  have h2 : D ^ (i + k) * (s % D) + D ^ (i + (k + 1)) * (s / D) = D ^ (i + k) * F2 (i + k) + D ^ (i + k) * cc + D ^ (i + k) * (x * q.getD k 0) := by
    rw [← Nat.add_assoc, Nat.pow_succ, Nat.mul_assoc, ← Nat.mul_add, Nat.mod_add_div, hs, Nat.mul_add, Nat.mul_add]
  have e1 : D ^ i * (x * (D ^ k * q.getD k 0)) = D ^ (i + k) * (x * q.getD k 0) := by rw [Nat.pow_add]; ac_rfl
  rw [val_take_getD, Nat.mul_add x, Nat.mul_add (D ^ i), e1]
  omega
theorem mul_bound (f c x y : Nat) (hf : f < D) (hc : c < D) (hx : x < D) (hy : y < D) : f + c + x * y < B ∧ (f + c + x * y) / D < D := by
  have h : x * y ≤ 999999999 * 999999999 := Nat.mul_le_mul (by rw [D_eq] at hx; omega) (by rw [D_eq] at hy; omega)
  generalize x * y = z at *
  rw [B_eq, D_eq] at *
  omega
theorem mul_outer (F F2 : Nat → Nat) (n i : Nat) (p q : List Nat) (hF : rv D F n = val (p.take i) * val q) (h : rv D F2 n = rv D F n + D ^ i * (p.getD i 0 * val q)) :
    rv D F2 n = val (p.take (i + 1)) * val q := by
  rw [val_take_getD, Nat.add_mul, h, hF, Nat.mul_assoc]

/-- The greatest digit's first bound. -/
theorem most_top (r b : List Nat) (hr : Limbs r) (hb : Limbs b) (hl : r.length = b.length) (h0 : 0 < r.length) (ht : b.getD (b.length - 1) 0 ≠ 0) :
    val r < (r.getD (r.length - 1) 0 / b.getD (b.length - 1) 0 + 1) * val b ∧ r.getD (r.length - 1) 0 / b.getD (b.length - 1) 0 + 1 ≤ D := by
  have h1 := val_take_getD r (r.length - 1)
  have h2 := val_take_getD b (b.length - 1)
  rw [show r.length - 1 + 1 = r.length by omega, List.take_of_length_le (Nat.le_refl _)] at h1
  rw [show b.length - 1 + 1 = b.length by omega, List.take_of_length_le (Nat.le_refl _)] at h2
  have h3 := val_lt _ (limbs_take hr (r.length - 1))
  rw [List.length_take, Nat.min_eq_left (by omega)] at h3
  have hx := getD_lt hr (r.length - 1)
  rw [← hl] at h2 ht ⊢
  generalize r.getD (r.length - 1) 0 = x at *
  generalize b.getD (r.length - 1) 0 = y at *
  generalize D ^ (r.length - 1) = P at *
  have h4 : x < (x / y + 1) * y := by
    have := Nat.div_add_mod x y
    have := Nat.mod_lt x (Nat.pos_of_ne_zero ht)
    rw [Nat.add_mul, Nat.one_mul, Nat.mul_comm (x / y) y]; omega
  constructor
  · have h5 : P * (x + 1) ≤ P * ((x / y + 1) * y) := Nat.mul_le_mul_left _ h4
    have h6 : P * ((x / y + 1) * y) ≤ (x / y + 1) * val b := by
      rw [h2, Nat.mul_add, ← Nat.mul_assoc (x / y + 1), Nat.mul_comm (x / y + 1) P, Nat.mul_assoc]
      exact Nat.le_add_left _ _
    rw [Nat.mul_add, Nat.mul_one] at h5
    omega
  · have := Nat.div_le_self x y
    omega
theorem most_done (a c low high : Nat) (h1 : low * c ≤ a) (h2 : a < high * c) (h3 : high ≤ low + 1) (h4 : low < high) : low = a / c := by
  obtain rfl : high = low + 1 := by omega
  have hc : 0 < c := Nat.pos_of_ne_zero (by rintro rfl; simp at h2)
  exact ((Nat.div_eq_iff hc).2 ⟨h1, by rw [Nat.add_mul, Nat.one_mul] at h2; omega⟩).symm
/-- A quotient's digit; what is left. -/
theorem div_digit (a c i : Nat) (hc : 0 < c) : (a / D ^ i % D + D * (a / D ^ (i + 1) % c)) < D * c ∧
    (a / D ^ i % D + D * (a / D ^ (i + 1) % c)) / c = a / c / D ^ i % D ∧ (a / D ^ i % D + D * (a / D ^ (i + 1) % c)) % c = a / D ^ i % c := by
  have e : a / D ^ (i + 1) = a / D ^ i / D := by rw [Nat.pow_succ, ← Nat.div_div_eq_div_mul]
  have e2 : a / c / D ^ i = a / D ^ i / c := by rw [Nat.div_div_eq_div_mul, Nat.div_div_eq_div_mul, Nat.mul_comm]
  rw [e, e2]
  generalize a / D ^ i = A
  have h1 := Nat.div_add_mod A D
  have hd := Nat.mod_lt A D_pos
  have h2 := Nat.div_add_mod (A / D) c
  have hr := Nat.mod_lt (A / D) hc
  generalize A / D = Z at *
  generalize A % D = d at *
  generalize Z / c = Q at *
  generalize Z % c = r at *
  have hlt : d + D * r < D * c := by
    have : D * (r + 1) ≤ D * c := Nat.mul_le_mul_left _ hr
    rw [Nat.mul_add, Nat.mul_one] at this
    omega
  have hA : A = d + D * r + c * (D * Q) := by
    rw [← h1, ← h2, Nat.mul_add]
    have : D * (c * Q) = c * (D * Q) := by ac_rfl
    omega
  refine ⟨hlt, ?_, ?_⟩
  · rw [hA, Nat.add_mul_div_left _ _ hc, Nat.add_mul_mod_self_left]
    exact (Nat.mod_eq_of_lt ((Nat.div_lt_iff_lt_mul hc).2 hlt)).symm
  · rw [hA, Nat.add_mul_mod_self_left]
theorem sub_mod (t c : Nat) : t - c * (t / c) = t % c := by
  have := Nat.div_add_mod t c
  omega
theorem cons_val (d : Nat) (l : List Nat) : val (d :: l) = d + D * val l := rfl
end Dg
end
section
set_option linter.unusedVariables false
set_option linter.unusedSimpArgs false

theorem rv_val (F : Nat → Nat) (n : Nat) : val ((List.range n).map F) = rv B F n := by
  induction n with
  | zero => rfl
  | succ n ih => rw [List.range_succ, List.map_append, List.map_cons, List.map_nil, val_snoc, List.length_map, List.length_range, ih]; rfl
theorem rv_take (l : List Nat) (k : Nat) : rv B (l.getD · 0) k = val (l.take k) := by
  induction k with
  | zero => rfl
  | succ k ih => rw [rv_succ, ih, val_take_getD]
theorem rv_list (l : List Nat) (n : Nat) (h : l.length ≤ n) : rv B (l.getD · 0) n = val l := by
  rw [rv_take, List.take_of_length_le h]
/-- A number's digit beside its row. -/
theorem digit_of_rv (b : Nat) (F : Nat → Nat) (n : Nat) (hb : 0 < b) (h : ∀ j, j < n → F j < b) (i : Nat) (hi : i < n) : F i = rv b F n / b ^ i % b := by
  obtain ⟨d, rfl⟩ : ∃ d, n = i + (d + 1) := ⟨n - i - 1, by omega⟩
  have h1 := rv_lt b F i (fun j hj => h j (by omega))
  rw [rv_add, Nat.add_mul_div_left _ _ (Nat.pow_pos hb), Nat.div_eq_of_lt h1, Nat.zero_add, show d + 1 = 1 + d by omega, rv_add]
  show F i = (0 + b ^ 0 * F (i + 0) + b ^ 1 * _) % b
  rw [Nat.pow_zero, Nat.pow_one, Nat.zero_add, Nat.one_mul, Nat.add_mul_mod_self_left]
  exact (Nat.mod_eq_of_lt (h i hi)).symm
theorem rv_high (b : Nat) (F : Nat → Nat) (m n : Nat) (hb : 0 < b) (h : ∀ j, j < m → F j < b) : rv b (fun j => F (m + j)) n = rv b F (m + n) / b ^ m := by
  rw [rv_add, Nat.add_mul_div_left _ _ (Nat.pow_pos hb), Nat.div_eq_of_lt (rv_lt b F m h), Nat.zero_add]

/-- The three highest digits, the two highest digits of what is divided and of what divides. -/
def Gs (U V x2 x1 x0 t s : Nat) : Prop := ∃ P low lowv, 0 < P ∧ low < P ∧ U = low + P * (x0 + B * (x1 + B * x2)) ∧ V = lowv + P * (s + B * t) ∧ x0 < B ∧ x1 < B
theorem Gs.up {U V x2 x1 x0 t s : Nat} (h : Gs U V x2 x1 x0 t s) : ∃ P, 0 < P ∧ U < P * (x0 + B * (x1 + B * x2) + 1) ∧ P * (s + B * t) ≤ V ∧ x0 < B := by
  obtain ⟨P, low, lowv, h0, h1, h2, h3, h4, _⟩ := h
  exact ⟨P, h0, by have e := Nat.mul_succ P (x0 + B * (x1 + B * x2)); rw [Nat.succ_eq_add_one] at e; rw [h2, e]; omega, by rw [h3]; exact Nat.le_add_left _ _, h4⟩
theorem guess_start {U V x2 x1 x0 t s : Nat} (h : Gs U V x2 x1 x0 t s) (ht : 0 < t) : U / V ≤ (x2 * B + x1) / t := by
  obtain ⟨P, h0, h1, h2, h3⟩ := h.up
  rw [Nat.le_div_iff_mul_le ht]
  have h4 := Nat.div_mul_le_self U V
  generalize U / V = q at *
  have h5 : q * (P * (s + B * t)) ≤ q * V := Nat.mul_le_mul_left _ h2
  have h6 : q * (P * (s + B * t)) = P * (q * s + B * (q * t)) := by rw [Nat.mul_left_comm, Nat.mul_add, Nat.mul_left_comm q B]
  rw [h6] at h5
  have h7 : q * s + B * (q * t) < x0 + B * (x1 + B * x2) + 1 := Nat.lt_of_mul_lt_mul_left (Nat.lt_of_le_of_lt (Nat.le_trans h5 h4) h1)
  rw [Nat.mul_comm x2 B]
  generalize q * t = z at *
  generalize q * s = y at *
  generalize B * x2 = k at *
  rw [B_eq] at *
  omega
theorem guess_more {U V x2 x1 x0 t s q r : Nat} (h : Gs U V x2 x1 x0 t s) (hq : q * t + r = x2 * B + x1) (hc : r * B + x0 < q * s) : 0 < q ∧ U / V ≤ q - 1 := by
  obtain ⟨P, h0, h1, h2, h3⟩ := h.up
  have hq0 : 0 < q := Nat.pos_of_ne_zero (by rintro rfl; simp at hc)
  refine ⟨hq0, ?_⟩
  have h5 : x0 + B * (x1 + B * x2) + 1 ≤ q * (s + B * t) := by
    have e : q * (s + B * t) = q * s + B * (q * t) := by rw [Nat.mul_add, Nat.mul_left_comm q B]
    have e2 : B * (q * t) + B * r = B * (x1 + B * x2) := by rw [← Nat.mul_add, hq, Nat.mul_comm x2 B, Nat.add_comm]
    rw [e]
    rw [Nat.mul_comm r B] at hc
    omega
  have h6 : P * (x0 + B * (x1 + B * x2) + 1) ≤ P * (q * (s + B * t)) := Nat.mul_le_mul_left _ h5
  have h7 : P * (q * (s + B * t)) ≤ q * V := by rw [Nat.mul_left_comm]; exact Nat.mul_le_mul_left _ h2
  have h8 : U < q * V := by omega
  have hV : 0 < V := Nat.pos_of_ne_zero (by rintro rfl; simp at h8)
  have := (Nat.div_lt_iff_lt_mul hV).2 h8
  omega
/-- The three highest digits of a row beside the two highest of another. -/
theorem gs_of (F G : Nat → Nat) (n : Nat) (hn : 2 ≤ n) (hF : ∀ j, j ≤ n → F j < B) : Gs (rv B F (n + 1)) (rv B G n) (F n) (F (n - 1)) (F (n - 2)) (G (n - 1)) (G (n - 2)) := by
  obtain ⟨m, rfl⟩ : ∃ m, n = m + 2 := ⟨n - 2, by omega⟩
  refine ⟨B ^ m, rv B F m, rv B G m, Nat.pow_pos B_pos, rv_lt B F m (fun j hj => hF j (by omega)), ?_, ?_, hF _ (by omega), hF _ (by omega)⟩
  · show rv B F m + B ^ m * F m + B ^ (m + 1) * F (m + 1) + B ^ (m + 2) * F (m + 2) = rv B F m + B ^ m * (F m + B * (F (m + 1) + B * F (m + 2)))
    simp only [Nat.pow_succ, Nat.mul_add, Nat.mul_assoc, Nat.add_assoc]
  · show rv B G m + B ^ m * G m + B ^ (m + 1) * G (m + 1) = rv B G m + B ^ m * (G m + B * G (m + 1))
    rw [Nat.mul_add, Nat.pow_succ]
    simp only [Nat.mul_assoc, Nat.add_assoc]
/-- What the guess's loop asks. -/
theorem guess_ask (q s r x0 hi lo : Nat) (h : lo + B * hi = q * s) (hlo : lo < B) (hx : x0 < B) (h1 : ¬ hi < r) (h2 : ¬ (hi = r ∧ lo ≤ x0)) : r * B + x0 < q * s := by
  rw [← h, Nat.mul_comm r B]
  rw [B_eq] at *
  omega

/-- What is taken, a digit. -/
theorem takes_step (F F2 : Nat → Nat) (v : List Nat) (i q b c b2 c2 lo d : Nat)
    (h : rv B F2 i + q * val (v.take i) = rv B F i + B ^ i * (b + c)) (h1 : lo + B * c2 = q * v.getD i 0 + c) (h2 : d + lo + b = F i + B * b2) :
    rv B (fun j => if j = i then d else F2 j) (i + 1) + q * val (v.take (i + 1)) = rv B F (i + 1) + B ^ (i + 1) * (b2 + c2) := by
  rw [rv_succ, rv_succ, rv_congr B (G := F2) (fun j hj => if_neg (by omega)), if_pos rfl, val_take_getD, Nat.mul_add q, Nat.mul_left_comm q, Nat.pow_succ, Nat.mul_assoc]
  have e : B ^ i * d + B ^ i * (q * v.getD i 0) + B ^ i * (b + c) = B ^ i * F i + B ^ i * (B * (b2 + c2)) := by
    rw [← Nat.mul_add, ← Nat.mul_add, ← Nat.mul_add, Nat.mul_add B]; congr 1; omega
  omega
theorem takes_last (F F2 : Nat → Nat) (v : List Nat) (n q b c b2 d : Nat) (hn : v.length = n)
    (h : rv B F2 n + q * val (v.take n) = rv B F n + B ^ n * (b + c)) (h2 : d + c + b = F n + B * b2) :
    rv B (fun j => if j = n then d else F2 j) (n + 1) + q * val v = rv B F (n + 1) + B ^ (n + 1) * b2 := by
  rw [List.take_of_length_le (by omega)] at h
  rw [rv_succ, rv_succ, rv_congr B (G := F2) (fun j hj => if_neg (by omega)), if_pos rfl, Nat.pow_succ, Nat.mul_assoc]
  have e : B ^ n * d + B ^ n * (b + c) = B ^ n * F n + B ^ n * (B * b2) := by
    rw [← Nat.mul_add, ← Nat.mul_add]; congr 1; omega
  omega
/-- What is given back, a digit. -/
theorem gives_step (F F2 : Nat → Nat) (v : List Nat) (i c c2 d : Nat)
    (h : rv B F2 i + B ^ i * c = rv B F i + val (v.take i)) (h2 : d + B * c2 = F i + v.getD i 0 + c) :
    rv B (fun j => if j = i then d else F2 j) (i + 1) + B ^ (i + 1) * c2 = rv B F (i + 1) + val (v.take (i + 1)) := by
  rw [rv_succ, rv_succ, rv_congr B (G := F2) (fun j hj => if_neg (by omega)), if_pos rfl, val_take_getD, Nat.pow_succ, Nat.mul_assoc]
  have e : B ^ i * d + B ^ i * (B * c2) = B ^ i * F i + B ^ i * v.getD i 0 + B ^ i * c := by
    rw [← Nat.mul_add, ← Nat.mul_add, ← Nat.mul_add]; congr 1
  omega
theorem gives_last (F F2 : Nat → Nat) (v : List Nat) (n c : Nat) (hn : v.length = n) (h : rv B F2 n + B ^ n * c = rv B F n + val (v.take n)) :
    rv B (fun j => if j = n then (F n + c) % B else F2 j) (n + 1) + B ^ (n + 1) * ((F n + c) / B) = rv B F (n + 1) + val v := by
  rw [List.take_of_length_le (by omega)] at h
  rw [rv_succ, rv_succ, rv_congr B (G := F2) (fun j hj => if_neg (by omega)), if_pos rfl, Nat.pow_succ, Nat.mul_assoc]
  have e : B ^ n * ((F n + c) % B) + B ^ n * (B * ((F n + c) / B)) = B ^ n * F n + B ^ n * c := by
    rw [← Nat.mul_add, Nat.mod_add_div, ← Nat.mul_add]
  omega

/-- Was it too much? The quotient's guess q, what is left x; n digits divide. -/
def Over (n U V q x : Nat) (over : Bool) : Prop := x < B ^ (n + 1) ∧ U / V ≤ q ∧ q < B ∧ x + q * V = U + (if over then B ^ (n + 1) else 0)
theorem Over.done {n U V q x : Nat} (h : Over n U V q x false) (hV : 0 < V) : q = U / V ∧ x = U % V := by
  obtain ⟨_, h2, _, h4⟩ := h
  rw [if_neg (by decide), Nat.add_zero] at h4
  have e : q ≤ U / V := by rw [Nat.le_div_iff_mul_le hV]; omega
  have e2 : q = U / V := by omega
  refine ⟨e2, ?_⟩
  have := Nat.div_add_mod U V
  rw [← e2, Nat.mul_comm] at this
  omega
theorem Over.pos {n U V q x : Nat} (h : Over n U V q x true) (hV : 0 < V) : 0 < q ∧ U / V ≤ q - 1 := by
  obtain ⟨h1, h2, _, h4⟩ := h
  rw [if_pos rfl] at h4
  have h5 : U < q * V := by omega
  have := (Nat.div_lt_iff_lt_mul hV).2 h5
  generalize U / V = z at *
  omega
/-- One given back: the highest digit tells whether it is still too much. -/
theorem Over.back {n U V q x y k : Nat} (h : Over n U V q x true) (hV : 0 < V) (hVn : V < B ^ n) (hy : y < B ^ (n + 1)) (e : y + B ^ (n + 1) * k = x + V) : Over n U V (q - 1) y (decide (B ^ n ≤ y)) := by
  obtain ⟨p1, p2⟩ := h.pos hV
  obtain ⟨h1, h2, h3, h4⟩ := h
  rw [if_pos rfl] at h4
  have e3 : q * V = (q - 1) * V + V := by
    conv => lhs; rw [show q = q - 1 + 1 by omega]
    rw [Nat.add_mul, Nat.one_mul]
  have hpow : B ^ (n + 1) = B ^ n * B := Nat.pow_succ _ _
  have hB2 : B ^ n * 2 ≤ B ^ n * B := Nat.mul_le_mul_left _ (by decide)
  have hk : k = 0 ∨ k = 1 := by
    rcases Nat.lt_or_ge k 2 with h | h
    · omega
    · have : B ^ (n + 1) * 2 ≤ B ^ (n + 1) * k := Nat.mul_le_mul_left _ h
      omega
  have hq1 : (q - 1) * V ≤ (B - 2) * B ^ n := Nat.mul_le_mul (by omega) (by omega)
  have hq2 : (B - 2) * B ^ n + B ^ n * 2 = B ^ n * B := by
    rw [Nat.mul_comm, ← Nat.mul_add]; congr 1
  refine ⟨hy, p2, by omega, ?_⟩
  rcases hk with rfl | rfl
  · have hge : B ^ n ≤ y := by omega
    rw [decide_eq_true hge, if_pos rfl]
    omega
  · have hyU : y + (q - 1) * V = U := by omega
    have hq3 : q - 1 ≤ U / V := by rw [Nat.le_div_iff_mul_le hV]; omega
    have hq4 : q - 1 = U / V := by omega
    have hyV : y < V := by
      have h5 := Nat.div_add_mod U V
      have h6 := Nat.mod_lt U hV
      rw [← hq4, Nat.mul_comm] at h5
      omega
    rw [decide_eq_false (by omega), if_neg (by decide)]
    omega
theorem top_digit (F : Nat → Nat) (n : Nat) (h : ∀ j, j < n → F j < B) : (F n ≠ 0) ↔ B ^ n ≤ rv B F (n + 1) := by
  have h1 := rv_lt B F n h
  rw [rv_succ]
  constructor
  · intro h2
    have : B ^ n * 1 ≤ B ^ n * F n := Nat.mul_le_mul_left _ (by omega)
    omega
  · intro h2 h3
    rw [h3] at h2
    omega

/-- A quotient's digit; what is left. -/
theorem long_digit (a c i : Nat) (hc : 0 < c) : (a / B ^ i % B + B * (a / B ^ (i + 1) % c)) < B * c ∧
    (a / B ^ i % B + B * (a / B ^ (i + 1) % c)) / c = a / c / B ^ i % B ∧ (a / B ^ i % B + B * (a / B ^ (i + 1) % c)) % c = a / B ^ i % c := by
  have e : a / B ^ (i + 1) = a / B ^ i / B := by rw [Nat.pow_succ, ← Nat.div_div_eq_div_mul]
  have e2 : a / c / B ^ i = a / B ^ i / c := by rw [Nat.div_div_eq_div_mul, Nat.div_div_eq_div_mul, Nat.mul_comm]
  rw [e, e2]
  generalize a / B ^ i = A
  have h1 := Nat.div_add_mod A B
  have hd := Nat.mod_lt A B_pos
  have h2 := Nat.div_add_mod (A / B) c
  have hr := Nat.mod_lt (A / B) hc
  generalize A / B = Z at *
  generalize A % B = d at *
  generalize Z / c = Q at *
  generalize Z % c = r at *
  have hlt : d + B * r < B * c := by
    have : B * (r + 1) ≤ B * c := Nat.mul_le_mul_left _ hr
    rw [Nat.mul_add, Nat.mul_one] at this
    omega
  have hA : A = d + B * r + c * (B * Q) := by
    rw [← h1, ← h2, Nat.mul_add]
    have : B * (c * Q) = c * (B * Q) := by ac_rfl
    omega
  refine ⟨hlt, ?_, ?_⟩
  · rw [hA, Nat.add_mul_div_left _ _ hc, Nat.add_mul_mod_self_left]
    exact (Nat.mod_eq_of_lt ((Nat.div_lt_iff_lt_mul hc).2 hlt)).symm
  · rw [hA, Nat.add_mul_mod_self_left]
/-- The state of the long division: k digits of the quotient are still to come. -/
def Long (A V n m k : Nat) (R G : Nat → Nat) : Prop :=
  (∀ j, R j < B) ∧ (∀ j, j < k → R j = A / B ^ j % B) ∧ rv B (fun j => R (k + j)) n = A / B ^ k % V ∧ (∀ j, k ≤ j → j < m → G j = A / V / B ^ j % B) ∧ (k < m → R (k + n) = 0)
theorem long_start (A V n m : Nat) (R G : Nat → Nat) (hR : ∀ j, R j < B) (hA : rv B R (m + n) = A) (hlt : A < V * B ^ m) : Long A V n m m R G := by
  refine ⟨hR, fun j hj => ?_, ?_, fun j h1 h2 => absurd h2 (by omega), fun h => absurd h (by omega)⟩
  · rw [← hA]; exact digit_of_rv B R (m + n) B_pos (fun j _ => hR j) j (by omega)
  · rw [rv_high B R m n B_pos (fun j _ => hR j), hA, Nat.mod_eq_of_lt]
    exact (Nat.div_lt_iff_lt_mul (Nat.pow_pos B_pos)).2 hlt
/-- The part of the next digit. -/
theorem Long.part {A V n m k : Nat} {R G : Nat → Nat} (h : Long A V n m (k + 1) R G) : rv B (fun j => R (k + j)) (n + 1) = A / B ^ k % B + B * (A / B ^ (k + 1) % V) := by
  rw [Nat.add_comm n 1, rv_add, rv_succ, rv_zero, Nat.pow_zero, Nat.one_mul, Nat.zero_add, Nat.pow_one, ← h.2.2.1, Nat.add_zero, h.2.1 k (by omega)]
  congr 2
  exact rv_congr B fun j _ => by rw [Nat.add_assoc]
theorem Long.next {A V n m k : Nat} {R R2 G : Nat → Nat} (h : Long A V n m (k + 1) R G) (hk : k < m) (hV : 0 < V) (hVn : V < B ^ n) (hR2 : ∀ j, R2 j < B) (hlow : ∀ j, j < k → R2 j = R j)
    (hx : rv B (fun j => R2 (k + j)) (n + 1) = rv B (fun j => R (k + j)) (n + 1) % V) : Long A V n m k R2 (fun j => if j = k then rv B (fun j => R (k + j)) (n + 1) / V else G j) := by
  obtain ⟨d1, d2, d3⟩ := long_digit A V k hV
  rw [h.part, d3] at hx
  rw [h.part, d2]
  have hlt := Nat.mod_lt (A / B ^ k) hV
  have h0 : R2 (k + n) = 0 := by
    have h1 := top_digit (fun j => R2 (k + j)) n (fun j _ => hR2 _)
    rw [hx] at h1
    by_cases e : R2 (k + n) = 0
    · exact e
    · have := h1.1 e; omega
  refine ⟨hR2, fun j hj => by rw [hlow j hj]; exact h.2.1 j (by omega), ?_, fun j h1 h2 => ?_, fun _ => h0⟩
  · rw [rv_succ] at hx
    rw [h0, Nat.mul_zero, Nat.add_zero] at hx
    exact hx
  · dsimp only
    by_cases e : j = k
    · subst e; rw [if_pos rfl]
    · rw [if_neg e]; exact h.2.2.2.1 j (by omega) h2
theorem Long.quot {A V n m : Nat} {R G : Nat → Nat} (h : Long A V n m 0 R G) (hlt : A < V * B ^ m) : rv B G m = A / V := by
  rw [rv_digit B (A / V) m G (fun j hj => h.2.2.2.1 j (by omega) hj), Nat.mod_eq_of_lt]
  have hV : 0 < V := Nat.pos_of_ne_zero (by rintro rfl; simp at hlt)
  rw [Nat.div_lt_iff_lt_mul hV, Nat.mul_comm]; exact hlt
theorem Long.rest {A V n m : Nat} {R G : Nat → Nat} (h : Long A V n m 0 R G) (hm : 0 < m) : rv B R n = A % V ∧ R n = 0 := by
  have h1 := h.2.2.1
  have h2 := h.2.2.2.2 hm
  rw [Nat.pow_zero, Nat.div_one] at h1
  rw [Nat.zero_add] at h2
  refine ⟨?_, h2⟩
  rw [← h1]
  exact rv_congr B fun j _ => by rw [Nat.zero_add]

/-- Shifted to the right, digit by digit. -/
def shr (s : Nat) (R : Nat → Nat) (i : Nat) : Nat := R i / 2 ^ s + R (i + 1) % 2 ^ s * 2 ^ (64 - s)
theorem shr_row (s : Nat) (hs : s ≤ 64) (R : Nat → Nat) (n : Nat) : 2 ^ s * rv B (shr s R) n + R 0 % 2 ^ s = rv B R n + B ^ n * (R n % 2 ^ s) := by
  induction n with
  | zero => simp [rv_zero]
  | succ n ih =>
    rw [rv_succ, rv_succ, Nat.mul_add]
    have e : 2 ^ s * shr s R n + R n % 2 ^ s = R n + B * (R (n + 1) % 2 ^ s) := by
      unfold shr
      rw [B_split s hs, Nat.mul_add]
      have h1 := Nat.div_add_mod (R n) (2 ^ s)
      have h2 : 2 ^ s * (R (n + 1) % 2 ^ s * 2 ^ (64 - s)) = 2 ^ (64 - s) * 2 ^ s * (R (n + 1) % 2 ^ s) := by ac_rfl
      omega
    have e2 : B ^ n * (2 ^ s * shr s R n) + B ^ n * (R n % 2 ^ s) = B ^ n * R n + B ^ (n + 1) * (R (n + 1) % 2 ^ s) := by
      rw [Nat.pow_succ, Nat.mul_assoc, ← Nat.mul_add, ← Nat.mul_add, e]
    rw [Nat.mul_left_comm (2 ^ s)]
    omega
theorem shr_rv (s : Nat) (hs : s ≤ 64) (R : Nat → Nat) (n : Nat) (h : R n = 0) : rv B (shr s R) n = rv B R n / 2 ^ s := by
  have h1 := shr_row s hs R n
  rw [h, Nat.zero_mod, Nat.mul_zero, Nat.add_zero] at h1
  rw [← h1, Nat.mul_add_div (Nat.two_pow_pos s), Nat.div_eq_of_lt (Nat.mod_lt _ (Nat.two_pow_pos s)), Nat.add_zero]
theorem shr_limb (s : Nat) (hs : s ≤ 63) (R : Nat → Nat) (hR : ∀ j, R j < B) (i : Nat) : shr s R i < B := by
  unfold shr
  have h1 : R i / 2 ^ s < 2 ^ (64 - s) := by
    rw [Nat.div_lt_iff_lt_mul (Nat.two_pow_pos s), ← B_split s (by omega)]; exact hR i
  have h2 : (R (i + 1) % 2 ^ s + 1) * 2 ^ (64 - s) ≤ 2 ^ s * 2 ^ (64 - s) := Nat.mul_le_mul_right _ (Nat.mod_lt _ (Nat.two_pow_pos s))
  rw [Nat.add_mul, Nat.one_mul, Nat.mul_comm (2 ^ s), ← B_split s (by omega)] at h2
  omega
/-- Shifted to the left, a digit more. -/
theorem left_step (F : Nat → Nat) (a : List Nat) (s i : Nat) (hs : s ≤ 63) (h : rv B F (i + 1) = val (a.take i) * 2 ^ s) :
    rv B (fun j => if j = i + 1 then a.getD i 0 / 2 ^ (64 - s) else if j = i then F i + a.getD i 0 * 2 ^ s % B else F j) (i + 2) = val (a.take (i + 1)) * 2 ^ s := by
  have hp := shl_parts (a.getD i 0) s (by omega)
  rw [rv_succ, rv_succ, if_pos rfl, if_neg (by omega), if_pos rfl, rv_congr B (G := F) (fun j hj => by rw [if_neg (by omega), if_neg (by omega)]), val_take_getD, Nat.add_mul, ← h, rv_succ]
  have e : B ^ i * a.getD i 0 * 2 ^ s = B ^ i * (a.getD i 0 * 2 ^ s % B) + B ^ (i + 1) * (a.getD i 0 / 2 ^ (64 - s)) := by
    rw [Nat.mul_assoc, hp, Nat.mul_add, Nat.pow_succ, Nat.mul_assoc]
    rw [← hp]
    omega
  rw [e, Nat.mul_add]
  omega
/-- Both shifted, the quotient is the same, the rest is shifted. -/
theorem long_shift (a b s : Nat) : a * 2 ^ s / (b * 2 ^ s) = a / b ∧ a * 2 ^ s % (b * 2 ^ s) / 2 ^ s = a % b := by
  have hp := Nat.two_pow_pos s
  rw [Nat.mul_div_mul_right _ _ hp, Nat.mul_mod_mul_right, Nat.mul_div_cancel _ hp]
  exact ⟨rfl, rfl⟩
theorem long_room (a b : List Nat) (s : Nat) (ha : Limbs a) (hb : Norm b) (hne : b ≠ []) (hle : b.length ≤ a.length) : val a * 2 ^ s < val b * 2 ^ s * B ^ (a.length - b.length + 1) := by
  have h1 := val_lt a ha
  have h2 := norm_pos b hb hne
  have hl := List.length_pos_iff.2 hne
  have h3 : val a * 2 ^ s < B ^ a.length * 2 ^ s := Nat.mul_lt_mul_of_pos_right h1 (Nat.two_pow_pos s)
  have h4 : B ^ a.length * 2 ^ s = B ^ (b.length - 1) * 2 ^ s * B ^ (a.length - b.length + 1) := by
    rw [Nat.mul_right_comm, ← Nat.pow_add]; congr 2; omega
  have h5 : B ^ (b.length - 1) * 2 ^ s * B ^ (a.length - b.length + 1) ≤ val b * 2 ^ s * B ^ (a.length - b.length + 1) := Nat.mul_le_mul_right _ (Nat.mul_le_mul_right _ h2)
  omega
end
end Go.Proofs.YtcjjgdoafkdeaaaGreatDoor
