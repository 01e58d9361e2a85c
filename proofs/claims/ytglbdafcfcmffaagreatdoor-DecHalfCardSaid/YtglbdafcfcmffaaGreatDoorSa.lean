/- Layer 2's reference, plain: rows of digits, sums, differences, products, quotients by digits. No program here. -/
import Derived.Test.YtglbdafcfcmffaaGreatDoorQp
namespace Go.Proofs.YtglbdafcfcmffaaGreatDoor
set_option linter.unusedVariables false
set_option linter.unusedSimpArgs false

/-- The number of a row's first n digits, b of one. -/
def rv (b : Nat) (F : Nat → Nat) : Nat → Nat
  | 0 => 0
  | n + 1 => rv b F n + b ^ n * F n
theorem rv_zero (b : Nat) (F : Nat → Nat) : rv b F 0 = 0 := rfl
theorem rv_succ (b : Nat) (F : Nat → Nat) (n : Nat) : rv b F (n + 1) = rv b F n + b ^ n * F n := rfl
theorem rv_congr (b : Nat) {F G : Nat → Nat} {n : Nat} (h : ∀ j, j < n → F j = G j) : rv b F n = rv b G n := by
  induction n with
  | zero => rfl
  | succ n ih => rw [rv_succ, rv_succ, ih (fun j hj => h j (by omega)), h n (by omega)]
theorem rv_lt (b : Nat) (F : Nat → Nat) (n : Nat) (h : ∀ j, j < n → F j < b) : rv b F n < b ^ n := by
  induction n with
  | zero => rw [rv_zero, Nat.pow_zero]; exact Nat.one_pos
  | succ n ih =>
    rw [rv_succ, Nat.pow_succ]
    have h1 : b ^ n * (F n + 1) ≤ b ^ n * b := Nat.mul_le_mul_left _ (h n (by omega))
    have h2 := ih (fun j hj => h j (by omega))
    rw [Nat.mul_add, Nat.mul_one] at h1
    omega
/-- One digit set. -/
theorem rv_set (b : Nat) (F : Nat → Nat) (n k x : Nat) (h : k < n) : rv b (fun j => if j = k then x else F j) n + b ^ k * F k = rv b F n + b ^ k * x := by
  induction n with
  | zero => omega
  | succ n ih =>
    rw [rv_succ, rv_succ]
    by_cases e : k = n
    · subst e
      rw [if_pos rfl, rv_congr b (G := F) (fun j hj => if_neg (by omega))]
      omega
    · rw [if_neg (fun e2 => e e2.symm)]
      have := ih (by omega)
      omega
theorem rv_add (b : Nat) (F : Nat → Nat) (m n : Nat) : rv b F (m + n) = rv b F m + b ^ m * rv b (fun j => F (m + j)) n := by
  induction n with
  | zero => simp [rv_zero]
  | succ n ih => rw [← Nat.add_assoc, rv_succ, rv_succ, ih, Nat.mul_add, Nat.pow_add, Nat.mul_assoc, Nat.add_assoc]
theorem rv_nil (b : Nat) (F : Nat → Nat) (n : Nat) (h : ∀ j, j < n → F j = 0) : rv b F n = 0 := by
  induction n with
  | zero => rfl
  | succ n ih => rw [rv_succ, ih (fun j hj => h j (by omega)), h n (by omega), Nat.mul_zero]
theorem rv_le (b : Nat) (F : Nat → Nat) (m n : Nat) (h : m ≤ n) : rv b F m ≤ rv b F n := by
  obtain ⟨d, rfl⟩ : ∃ d, n = m + d := ⟨n - m, by omega⟩
  rw [rv_add]; exact Nat.le_add_right _ _
/-- Digits of a number beside a row. -/
theorem rv_digit (b N n : Nat) (F : Nat → Nat) (h : ∀ j, j < n → F j = N / b ^ j % b) : rv b F n = N % b ^ n := by
  induction n with
  | zero => rw [rv_zero, Nat.pow_zero, Nat.mod_one]
  | succ n ih => rw [rv_succ, ih (fun j hj => h j (by omega)), h n (by omega), Nat.pow_succ, Nat.mod_mul]

namespace Dg
theorem rv_val (F : Nat → Nat) (n : Nat) : val ((List.range n).map F) = rv D F n := by
  induction n with
  | zero => rfl
  | succ n ih => rw [List.range_succ, List.map_append, List.map_cons, List.map_nil, val_snoc, List.length_map, List.length_range, ih]; rfl
theorem val_take_le (l : List Nat) (k : Nat) : val (l.take k) ≤ val l := by
  conv => rhs; rw [← List.take_append_drop k l]
  rw [val_append]; exact Nat.le_add_right _ _
theorem rv_list (l : List Nat) (n : Nat) (h : l.length ≤ n) : rv D (l.getD · 0) n = val l := by
  have h2 : ∀ k, rv D (l.getD · 0) k = val (l.take k) := by
    intro k
    induction k with
    | zero => rfl
    | succ k ih => rw [rv_succ, ih, val_take_getD]
  rw [h2, List.take_of_length_le h]
theorem getD_lt {l : List Nat} (h : Limbs l) (k : Nat) : l.getD k 0 < D := by
  by_cases hk : k < l.length
  · rw [List.getD_eq_getElem?_getD, List.getElem?_eq_getElem hk]; exact h _ (List.getElem_mem hk)
  · rw [List.getD_eq_getElem?_getD, List.getElem?_eq_none (by omega)]; exact D_pos
/-- A sum's length. -/
theorem add_norm (r p q : List Nat) (hp : Norm p) (hq : Norm q) (h1 : p.length ≤ r.length) (h2 : q.length ≤ r.length) (hv : val r = val p + val q)
    (h : r.length ≤ max p.length q.length ∨ D ^ (r.length - 1) ≤ val r) : r = [] ∨ D ^ (r.length - 1) ≤ val r := by
  rcases h with h | h
  · by_cases h0 : r.length = 0
    · exact .inl (List.eq_nil_of_length_eq_zero h0)
    · refine .inr ?_
      by_cases h3 : q.length ≤ p.length
      · have e : p.length = r.length := by omega
        have := norm_pos p hp (by rintro rfl; simp at e; omega)
        rw [e] at this
        omega
      · have e : q.length = r.length := by omega
        have := norm_pos q hq (by rintro rfl; simp at e; omega)
        rw [e] at this
        omega
  · exact .inr h
theorem add_more (r : List Nat) (la lb c x y : Nat) (hc : c ≤ 1) (hx : la ≤ r.length → x = 0) (hy : lb ≤ r.length → y = 0) (hgo : r.length < la ∨ r.length < lb ∨ 0 < c)
    (h : r.length ≤ max la lb ∨ (c = 0 ∧ D ^ (r.length - 1) ≤ val r)) :
    r.length + 1 ≤ max la lb ∨ ((c + x + y) / D = 0 ∧ D ^ r.length ≤ val (r ++ [(c + x + y) % D])) := by
  by_cases h1 : r.length < la ∨ r.length < lb
  · exact .inl (by omega)
  · have hx := hx (by omega)
    have hy := hy (by omega)
    obtain rfl : c = 1 := by omega
    subst hx
    subst hy
    refine .inr ⟨by decide, ?_⟩
    rw [val_snoc, show (1 + 0 + 0) % D = 1 by decide, Nat.mul_one]
    exact Nat.le_add_left _ _
/-- Borrowed from above: the place itself. -/
theorem sub_first (F : Nat → Nat) (n i x : Nat) (h : i < n) (hx : F i < x) (hd : x < D) :
    rv D (fun j => if j = i then F i + (D - x) else F j) n + D ^ i * x = rv D F n + D ^ (i + 1) := by
  have h1 := rv_set D F n i (F i + (D - x)) h
  have h2 : D ^ i * (F i + (D - x)) + D ^ i * x = D ^ i * F i + D ^ (i + 1) := by
    rw [Nat.pow_succ, ← Nat.mul_add, ← Nat.mul_add]; congr 1; omega
  omega
/-- A nought borrows further. -/
theorem sub_on (F G : Nat → Nat) (n i k x : Nat) (h : k < n) (h0 : G k = 0) (hv : rv D G n + D ^ i * x = rv D F n + D ^ k) :
    rv D (fun j => if j = k then D - 1 else G j) n + D ^ i * x = rv D F n + D ^ (k + 1) := by
  have h1 := rv_set D G n k (D - 1) h
  have h2 : D ^ k * (D - 1) + D ^ k = D ^ (k + 1) := by
    rw [Nat.pow_succ, ← Nat.mul_succ]; congr 1
  rw [h0, Nat.mul_zero] at h1
  omega
theorem sub_off (F G : Nat → Nat) (n i k x : Nat) (h : k < n) (h0 : G k ≠ 0) (hv : rv D G n + D ^ i * x = rv D F n + D ^ k) :
    rv D (fun j => if j = k then G k - 1 else G j) n + D ^ i * x = rv D F n := by
  have h1 := rv_set D G n k (G k - 1) h
  have h2 : D ^ k * G k = D ^ k * (G k - 1) + D ^ k := by
    rw [← Nat.mul_succ]; congr 1; omega
  omega
/-- What is borrowed is there. -/
theorem sub_room (F G : Nat → Nat) (n i k x a : Nat) (b : List Nat) (hk : k ≤ n) (hG : ∀ j, G j < D) (hv : rv D G n + D ^ i * x = rv D F n + D ^ k)
    (hF : rv D F n + val (b.take i) = a) (hx : b.getD i 0 = x) (hle : val b ≤ a) : k < n := by
  rcases Nat.lt_or_ge k n with h | h
  · exact h
  · obtain rfl : k = n := by omega
    have h1 := rv_lt D G k (fun j _ => hG j)
    have h2 := val_take_le b (i + 1)
    rw [val_take_getD, hx] at h2
    omega
/-- A digit that is taken. -/
theorem sub_plain (F : Nat → Nat) (n i x : Nat) (h : i < n) (hx : x ≤ F i) : rv D (fun j => if j = i then F i - x else F j) n + D ^ i * x = rv D F n := by
  have h1 := rv_set D F n i (F i - x) h
  have h2 : D ^ i * F i = D ^ i * (F i - x) + D ^ i * x := by rw [← Nat.mul_add]; congr 1; omega
  omega
theorem sub_next (F G : Nat → Nat) (n i a : Nat) (b : List Nat) (hF : rv D F n + val (b.take i) = a) (hG : rv D G n + D ^ i * b.getD i 0 = rv D F n) :
    rv D G n + val (b.take (i + 1)) = a := by
  rw [val_take_getD]; omega

/-- A product's digit. -/
theorem mul_digit (F F2 : Nat → Nat) (n i k cc x s : Nat) (q : List Nat) (hn : i + k < n) (hs : s = F2 (i + k) + cc + x * q.getD k 0)
    (h : rv D F2 n + D ^ (i + k) * cc = rv D F n + D ^ i * (x * val (q.take k))) :
    rv D (fun j => if j = i + k then s % D else F2 j) n + D ^ (i + (k + 1)) * (s / D) = rv D F n + D ^ i * (x * val (q.take (k + 1))) := by
  have h1 := rv_set D F2 n (i + k) (s % D) hn
  have h2 : D ^ (i + k) * (s % D) + D ^ (i + (k + 1)) * (s / D) = D ^ (i + k) * F2 (i + k) + D ^ (i + k) * cc + D ^ (i + k) * (x * q.getD k 0) := by
    rw [← Nat.add_assoc, Nat.pow_succ, Nat.mul_assoc, ← Nat.mul_add, Nat.mod_add_div, hs, Nat.mul_add, Nat.mul_add]
  have e1 : D ^ i * (x * (D ^ k * q.getD k 0)) = D ^ (i + k) * (x * q.getD k 0) := by rw [Nat.pow_add]; ac_rfl
  rw [val_take_getD, Nat.mul_add x, Nat.mul_add (D ^ i), e1]
  omega
theorem mul_bound (f c x y : Nat) (hf : f < D) (hc : c < D) (hx : x < D) (hy : y < D) : f + c + x * y < B ∧ (f + c + x * y) / D < D := by
  have h : x * y ≤ 999999999 * 999999999 := Nat.mul_le_mul (by rw [D_eq] at hx; omega) (by rw [D_eq] at hy; omega)
  generalize x * y = z at *
  rw [B_eq, D_eq] at *
  omega
theorem mul_outer (F F2 : Nat → Nat) (n i : Nat) (p q : List Nat) (hF : rv D F n = val (p.take i) * val q) (h : rv D F2 n = rv D F n + D ^ i * (p.getD i 0 * val q)) :
    rv D F2 n = val (p.take (i + 1)) * val q := by
  rw [val_take_getD, Nat.add_mul, h, hF, Nat.mul_assoc]

/-- The greatest digit's first bound. -/
theorem most_top (r b : List Nat) (hr : Limbs r) (hb : Limbs b) (hl : r.length = b.length) (h0 : 0 < r.length) (ht : b.getD (b.length - 1) 0 ≠ 0) :
    val r < (r.getD (r.length - 1) 0 / b.getD (b.length - 1) 0 + 1) * val b ∧ r.getD (r.length - 1) 0 / b.getD (b.length - 1) 0 + 1 ≤ D := by
  have h1 := val_take_getD r (r.length - 1)
  have h2 := val_take_getD b (b.length - 1)
  rw [show r.length - 1 + 1 = r.length by omega, List.take_of_length_le (Nat.le_refl _)] at h1
  rw [show b.length - 1 + 1 = b.length by omega, List.take_of_length_le (Nat.le_refl _)] at h2
  have h3 := val_lt _ (limbs_take hr (r.length - 1))
  rw [List.length_take, Nat.min_eq_left (by omega)] at h3
  have hx := getD_lt hr (r.length - 1)
  rw [← hl] at h2 ht ⊢
  generalize r.getD (r.length - 1) 0 = x at *
  generalize b.getD (r.length - 1) 0 = y at *
  generalize D ^ (r.length - 1) = P at *
  have h4 : x < (x / y + 1) * y := by
    have := Nat.div_add_mod x y
    have := Nat.mod_lt x (Nat.pos_of_ne_zero ht)
    rw [Nat.add_mul, Nat.one_mul, Nat.mul_comm (x / y) y]; omega
  constructor
  · have h5 : P * (x + 1) ≤ P * ((x / y + 1) * y) := Nat.mul_le_mul_left _ h4
    have h6 : P * ((x / y + 1) * y) ≤ (x / y + 1) * val b := by
      rw [h2, Nat.mul_add, ← Nat.mul_assoc (x / y + 1), Nat.mul_comm (x / y + 1) P, Nat.mul_assoc]
      exact Nat.le_add_left _ _
    rw [Nat.mul_add, Nat.mul_one] at h5
    omega
  · have := Nat.div_le_self x y
    omega
theorem most_done (a c low high : Nat) (h1 : low * c ≤ a) (h2 : a < high * c) (h3 : high ≤ low + 1) (h4 : low < high) : low = a / c := by
  obtain rfl : high = low + 1 := by omega
  have hc : 0 < c := Nat.pos_of_ne_zero (by rintro rfl; simp at h2)
  exact ((Nat.div_eq_iff hc).2 ⟨h1, by rw [Nat.add_mul, Nat.one_mul] at h2; omega⟩).symm
/-- A quotient's digit; what is left. -/
theorem div_digit (a c i : Nat) (hc : 0 < c) : (a / D ^ i % D + D * (a / D ^ (i + 1) % c)) < D * c ∧
    (a / D ^ i % D + D * (a / D ^ (i + 1) % c)) / c = a / c / D ^ i % D ∧ (a / D ^ i % D + D * (a / D ^ (i + 1) % c)) % c = a / D ^ i % c := by
  have e : a / D ^ (i + 1) = a / D ^ i / D := by rw [Nat.pow_succ, ← Nat.div_div_eq_div_mul]
  have e2 : a / c / D ^ i = a / D ^ i / c := by rw [Nat.div_div_eq_div_mul, Nat.div_div_eq_div_mul, Nat.mul_comm]
  rw [e, e2]
  generalize a / D ^ i = A
  have h1 := Nat.div_add_mod A D
  have hd := Nat.mod_lt A D_pos
  have h2 := Nat.div_add_mod (A / D) c
  have hr := Nat.mod_lt (A / D) hc
  generalize A / D = Z at *
  generalize A % D = d at *
  generalize Z / c = Q at *
  generalize Z % c = r at *
  have hlt : d + D * r < D * c := by
    have : D * (r + 1) ≤ D * c := Nat.mul_le_mul_left _ hr
    rw [Nat.mul_add, Nat.mul_one] at this
    omega
  have hA : A = d + D * r + c * (D * Q) := by
    rw [← h1, ← h2, Nat.mul_add]
    have : D * (c * Q) = c * (D * Q) := by ac_rfl
    omega
  refine ⟨hlt, ?_, ?_⟩
  · rw [hA, Nat.add_mul_div_left _ _ hc, Nat.add_mul_mod_self_left]
    exact (Nat.mod_eq_of_lt ((Nat.div_lt_iff_lt_mul hc).2 hlt)).symm
  · rw [hA, Nat.add_mul_mod_self_left]
theorem sub_mod (t c : Nat) : t - c * (t / c) = t % c := by
  have := Nat.div_add_mod t c
  omega
theorem cons_val (d : Nat) (l : List Nat) : val (d :: l) = d + D * val l := rfl
end Dg
end Go.Proofs.YtglbdafcfcmffaaGreatDoor
