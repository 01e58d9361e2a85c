/- Layer 6, plain: the calendar. No program here; Layer 6, plain: a day's text; months as one number. No program here; Layer 6, plain: months on and back. No program here. -/
import Derived.Lib.ItoaNum
import GoSem.Op.String
namespace Go.Proofs.YtcjjgdoafkdeaaaGreatDoor
section

/-- A year of 366 days. -/
def leapB (y : Int) : Bool := y % 4 == 0 && (y % 100 != 0 || y % 400 == 0)
theorem leapB_iff (y : Int) : leapB y = true ↔ (y % 4 = 0 ∧ (y % 100 ≠ 0 ∨ y % 400 = 0)) := by
  unfold leapB; simp
def lp (y : Int) : Int := if leapB y then 1 else 0
theorem lp_01 (y : Int) : 0 ≤ lp y ∧ lp y ≤ 1 := by unfold lp; split <;> omega
/-- A month's length; 0: there is no such month. -/
def lenM (y m : Int) : Int :=
  if m = 2 then 28 + lp y else if m = 4 ∨ m = 6 ∨ m = 9 ∨ m = 11 then 30 else if m = 1 ∨ m = 3 ∨ m = 5 ∨ m = 7 ∨ m = 8 ∨ m = 10 ∨ m = 12 then 31 else 0
theorem lenM_bd (y m : Int) : 0 ≤ lenM y m ∧ lenM y m ≤ 31 := by
  have := lp_01 y
  unfold lenM
  split
  · omega
  · split
    · omega
    · split <;> omega
theorem lenM_pos (y m : Int) (h1 : 1 ≤ m) (h2 : m ≤ 12) : 28 ≤ lenM y m := by
  have := lp_01 y
  unfold lenM
  split
  · omega
  · split
    · omega
    · split <;> omega
theorem lenM_out (y m : Int) (h : m < 1 ∨ 12 < m) : lenM y m = 0 := by
  unfold lenM
  rw [if_neg (by omega), if_neg (by omega), if_neg (by omega)]
/-- Days ahead of a year, from January 1, 1900 on. -/
def befY (y : Int) : Int := 365 * (y - 1900) + ((y - 1) / 4 - (y - 1) / 100 + (y - 1) / 400) - 460
theorem befY_first : befY 1900 = 0 := by decide
theorem befY_end : befY 2200 = 109573 := by decide
theorem befY_succ (y : Int) : befY (y + 1) = befY y + 365 + lp y := by
  unfold befY lp
  by_cases h : leapB y = true
  · rw [if_pos h]
    have := (leapB_iff y).1 h
    omega
  · rw [if_neg h]
    have h1 : ¬ (y % 4 = 0 ∧ (y % 100 ≠ 0 ∨ y % 400 = 0)) := fun e => h ((leapB_iff y).2 e)
    omega
theorem befY_mono (a b : Int) (h : a ≤ b) : befY a + 365 * (b - a) ≤ befY b := by
  obtain ⟨n, rfl⟩ : ∃ n : Nat, b = a + n := ⟨(b - a).toNat, by omega⟩
  induction n with
  | zero => simp
  | succ n ih =>
    have h1 := befY_succ (a + n)
    have h2 := lp_01 (a + n)
    have h3 := ih (by omega)
    rw [show a + ((n + 1 : Nat) : Int) = a + n + 1 by omega, h1]
    omega
theorem befY_upper (y : Int) (h : 1900 ≤ y) : befY y ≤ 366 * (y - 1900) := by
  unfold befY; omega
/-- Days of a year ahead of a month. -/
def cumN (y : Int) : Nat → Int
  | 0 => 0
  | n + 1 => cumN y n + lenM y ((n : Int) + 1)
def cumM (y m : Int) : Int := cumN y (m - 1).toNat
theorem cumM_one (y : Int) : cumM y 1 = 0 := rfl
theorem cumM_succ (y m : Int) (h : 1 ≤ m) : cumM y (m + 1) = cumM y m + lenM y m := by
  unfold cumM
  obtain ⟨n, hn⟩ : ∃ n : Nat, m = n + 1 := ⟨(m - 1).toNat, by omega⟩
  subst hn
  rw [show ((n : Int) + 1 + 1 - 1).toNat = n + 1 by omega, show ((n : Int) + 1 - 1).toNat = n by omega]
  rfl
theorem cumN_mono (y : Int) (a b : Nat) (h : a ≤ b) : cumN y a ≤ cumN y b := by
  induction b with
  | zero => rw [Nat.le_zero.1 h]; exact Int.le_refl _
  | succ b ih =>
    rcases Nat.lt_or_ge b a with h1 | h1
    · rw [show a = b + 1 by omega]; exact Int.le_refl _
    · have := ih h1
      have := (lenM_bd y ((b : Int) + 1)).1
      show cumN y a ≤ cumN y b + lenM y ((b : Int) + 1)
      omega
theorem cumM_year (y : Int) : cumM y 13 = 365 + lp y := by
  show cumN y 12 = _
  have e : ∀ n, cumN y (n + 1) = cumN y n + lenM y ((n : Int) + 1) := fun _ => rfl
  have e0 : cumN y 0 = 0 := rfl
  rw [e, e, e, e, e, e, e, e, e, e, e, e, e0]
  simp [lenM]
  omega
/-- A civil day's number. -/
def IsDay (d y m k : Int) : Prop := 1900 ≤ y ∧ y ≤ 2199 ∧ 1 ≤ m ∧ m ≤ 12 ∧ 1 ≤ k ∧ k ≤ lenM y m ∧ d = befY y + cumM y m + k - 1
theorem cumM_le (y a b : Int) (_ : 1 ≤ a) (h : a ≤ b) : cumM y a ≤ cumM y b := cumN_mono y _ _ (by omega)
theorem cumM_nonneg (y m : Int) (h : 1 ≤ m) : 0 ≤ cumM y m := by have := cumM_le y 1 m (by omega) h; rw [cumM_one] at this; exact this
theorem isDay_in_year {d y m k : Int} (h : IsDay d y m k) : befY y ≤ d ∧ d < befY (y + 1) := by
  obtain ⟨h1, h2, h3, h4, h5, h6, h7⟩ := h
  have a := cumM_nonneg y m h3
  have b := cumM_succ y m h3
  have c := cumM_le y (m + 1) 13 (by omega) (by omega)
  rw [cumM_year] at c
  have e := befY_succ y
  omega
theorem isDay_range {d y m k : Int} (h : IsDay d y m k) : 0 ≤ d ∧ d ≤ 109572 := by
  have h1 := isDay_in_year h
  have h2 := befY_mono 1900 y h.1
  have h3 := befY_mono (y + 1) 2200 (by have := h.2.1; omega)
  rw [befY_first] at h2
  rw [befY_end] at h3
  have := h.1; have := h.2.1
  omega
theorem isDay_unique {d y m k y' m' k' : Int} (h : IsDay d y m k) (h' : IsDay d y' m' k') : y = y' ∧ m = m' ∧ k = k' := by
  have a := isDay_in_year h
  have b := isDay_in_year h'
  have hy : y = y' := by
    rcases Int.lt_trichotomy y y' with hlt | he | hgt
    · have := befY_mono (y + 1) y' (by omega); omega
    · exact he
    · have := befY_mono (y' + 1) y (by omega); omega
  subst hy
  have hm : m = m' := by
    have e1 := cumM_succ y m h.2.2.1
    have e2 := cumM_succ y m' h'.2.2.1
    have h7 := h.2.2.2.2.2.2
    have h7' := h'.2.2.2.2.2.2
    have h6 := h.2.2.2.2.2.1
    have h6' := h'.2.2.2.2.2.1
    have h5 := h.2.2.2.2.1
    have h5' := h'.2.2.2.2.1
    rcases Int.lt_trichotomy m m' with hlt | he | hgt
    · have := cumM_le y (m + 1) m' (by have := h.2.2.1; omega) (by omega); omega
    · exact he
    · have := cumM_le y (m' + 1) m (by have := h'.2.2.1; omega) (by omega); omega
  subst hm
  exact ⟨rfl, rfl, by have := h.2.2.2.2.2.2; have := h'.2.2.2.2.2.2; omega⟩
theorem year_of (d : Int) (h0 : 0 ≤ d) (h1 : d ≤ 109572) : ∃ y, 1900 ≤ y ∧ y ≤ 2199 ∧ befY y ≤ d ∧ d < befY (y + 1) := by
  have key : ∀ n : Nat, n ≤ 300 → d < befY (1900 + n) → ∃ y, 1900 ≤ y ∧ y ≤ 2199 ∧ befY y ≤ d ∧ d < befY (y + 1) := by
    intro n
    induction n with
    | zero => intro _ h; rw [show (1900 : Int) + ((0 : Nat) : Int) = 1900 by omega, befY_first] at h; omega
    | succ n ih =>
      intro hn h
      by_cases hc : d < befY (1900 + n)
      · exact ih (by omega) hc
      · exact ⟨1900 + n, by omega, by omega, by omega, by rw [show (1900 : Int) + n + 1 = 1900 + ((n + 1 : Nat) : Int) by omega]; exact h⟩
  exact key 300 (Nat.le_refl _) (by rw [show (1900 : Int) + ((300 : Nat) : Int) = 2200 by omega, befY_end]; omega)
theorem month_of (y r : Int) (h0 : 0 ≤ r) (h1 : r < 365 + lp y) : ∃ m, 1 ≤ m ∧ m ≤ 12 ∧ cumM y m ≤ r ∧ r < cumM y (m + 1) := by
  have key : ∀ n : Nat, n ≤ 12 → r < cumM y (1 + n) → ∃ m, 1 ≤ m ∧ m ≤ 12 ∧ cumM y m ≤ r ∧ r < cumM y (m + 1) := by
    intro n
    induction n with
    | zero => intro _ h; rw [show (1 : Int) + ((0 : Nat) : Int) = 1 by omega, cumM_one] at h; omega
    | succ n ih =>
      intro hn h
      by_cases hc : r < cumM y (1 + n)
      · exact ih (by omega) hc
      · exact ⟨1 + n, by omega, by omega, by omega, by rw [show (1 : Int) + n + 1 = 1 + ((n + 1 : Nat) : Int) by omega]; exact h⟩
  exact key 12 (Nat.le_refl _) (by rw [show (1 : Int) + ((12 : Nat) : Int) = 13 by omega, cumM_year]; omega)
/-- Each day has its civil one. -/
theorem isDay_of (d : Int) (h0 : 0 ≤ d) (h1 : d ≤ 109572) : ∃ y m k, IsDay d y m k := by
  obtain ⟨y, a1, a2, a3, a4⟩ := year_of d h0 h1
  have hs := befY_succ y
  obtain ⟨m, b1, b2, b3, b4⟩ := month_of y (d - befY y) (by omega) (by omega)
  have hc := cumM_succ y m b1
  exact ⟨y, m, d - befY y - cumM y m + 1, a1, a2, b1, b2, by omega, by omega, by omega⟩
/-- The day behind. -/
theorem isDay_next {d y m k : Int} (h : IsDay d y m k) (hd : d < 109572) :
    (k < lenM y m ∧ IsDay (d + 1) y m (k + 1)) ∨ (k = lenM y m ∧ ((m < 12 ∧ IsDay (d + 1) y (m + 1) 1) ∨ (m = 12 ∧ IsDay (d + 1) (y + 1) 1 1))) := by
  obtain ⟨h1, h2, h3, h4, h5, h6, h7⟩ := h
  by_cases hk : k < lenM y m
  · exact .inl ⟨hk, h1, h2, h3, h4, by omega, by omega, by omega⟩
  · refine .inr ⟨by omega, ?_⟩
    by_cases hm : m < 12
    · have := cumM_succ y m h3
      have := lenM_pos y (m + 1) (by omega) (by omega)
      exact .inl ⟨hm, h1, h2, by omega, by omega, by omega, by omega, by omega⟩
    · have hm12 : m = 12 := by omega
      subst hm12
      have e1 := cumM_succ y 12 (by omega)
      have e2 := cumM_year y
      rw [show (12 : Int) + 1 = 13 from rfl] at e1
      have e3 := befY_succ y
      have e4 := lenM_pos (y + 1) 1 (by omega) (by omega)
      have e5 := cumM_one (y + 1)
      have hy : y + 1 ≤ 2199 := by
        by_cases h8 : 2199 < y + 1
        · have : y = 2199 := by omega
          subst this
          have := befY_end
          rw [show (2199 : Int) + 1 = 2200 from rfl] at e3
          omega
        · omega
      exact .inr ⟨rfl, by omega, hy, by omega, by omega, by omega, by omega, by omega⟩
/-- Easter's month and day, all in one number. -/
def eastH (y : Int) : Int := (19 * (y % 19) + y / 100 - y / 100 / 4 - (y / 100 - (y / 100 + 8) / 25 + 1) / 3 + 15) % 30
def eastL (y : Int) : Int := (32 + 2 * (y / 100 % 4) + 2 * (y % 100 / 4) - eastH y - y % 100 % 4) % 7
def eastM (y : Int) : Int := (y % 19 + 11 * eastH y + 22 * eastL y) / 451
def eastAt (y : Int) : Int := eastH y + eastL y - 7 * eastM y + 114
def eastOk (y : Int) : Bool :=
  decide (eastAt y / 31 = 3 ∧ 22 ≤ eastAt y % 31 + 1 ∨ eastAt y / 31 = 4 ∧ eastAt y % 31 + 1 ≤ 25) && decide ((befY y + cumM y (eastAt y / 31) + (eastAt y % 31 + 1) - 1 + 1) % 7 = 0)
theorem east_all : ∀ n : Fin 300, eastOk (1900 + (n.val : Int)) = true := by decide +kernel
theorem east_ok (y : Int) (h0 : 1900 ≤ y) (h1 : y ≤ 2199) : (eastAt y / 31 = 3 ∧ 22 ≤ eastAt y % 31 + 1 ∨ eastAt y / 31 = 4 ∧ eastAt y % 31 + 1 ≤ 25) ∧ (befY y + cumM y (eastAt y / 31) + (eastAt y % 31 + 1) - 1 + 1) % 7 = 0 := by
  have h := east_all ⟨(y - 1900).toNat, by omega⟩
  rw [show (1900 : Int) + (((⟨(y - 1900).toNat, by omega⟩ : Fin 300).val : Nat) : Int) = y by show (1900 : Int) + ((y - 1900).toNat : Int) = y; omega] at h
  unfold eastOk at h
  simpa using h
theorem east_day (y : Int) (h0 : 1900 ≤ y) (h1 : y ≤ 2199) : IsDay (befY y + cumM y (eastAt y / 31) + (eastAt y % 31 + 1) - 1) y (eastAt y / 31) (eastAt y % 31 + 1) := by
  obtain ⟨h, _⟩ := east_ok y h0 h1
  have hm := Int.emod_nonneg (eastAt y) (show (31 : Int) ≠ 0 by decide)
  have hl := Int.emod_lt_of_pos (eastAt y) (show (0 : Int) < 31 by decide)
  generalize eastAt y % 31 = k at *
  generalize eastAt y / 31 = m at *
  rcases h with ⟨rfl, h2⟩ | ⟨rfl, h2⟩
  · have e : lenM y 3 = 31 := by simp [lenM]
    exact ⟨h0, h1, by omega, by omega, by omega, by omega, rfl⟩
  · have e : lenM y 4 = 30 := by simp [lenM]
    exact ⟨h0, h1, by omega, by omega, by omega, by omega, rfl⟩
/-- Months as one number. -/
theorem month_num (t : Int) : 12 * (t / 12) + (t % 12 + 1) - 1 = t := by omega
theorem month_uniq (y m y' m' : Int) (h1 : 1 ≤ m) (h2 : m ≤ 12) (h3 : 1 ≤ m') (h4 : m' ≤ 12) (h : 12 * y + m - 1 = 12 * y' + m' - 1) : y = y' ∧ m = m' := by omega
end
section

def pad (k n : Nat) : List UInt8 := List.replicate (k - (Lib.decDigits n).length) 48 ++ Lib.decDigits n
def ch (n : Nat) : UInt8 := UInt8.ofNat (48 + n % 10)
theorem dd_one (n : Nat) (h : n < 10) : Lib.decDigits n = [ch n] := by
  rw [Lib.decDigits, dif_pos h]; unfold ch; rw [Nat.mod_eq_of_lt h]
theorem dd_more (n : Nat) (h : 10 ≤ n) : Lib.decDigits n = Lib.decDigits (n / 10) ++ [ch n] := by
  rw [Lib.decDigits, dif_neg (by omega)]; rfl
theorem pad_two (n : Nat) (h : n < 100) : pad 2 n = [ch (n / 10), ch n] := by
  unfold pad
  by_cases h1 : n < 10
  · rw [dd_one n h1]
    rw [show n / 10 = 0 by omega]
    rfl
  · rw [dd_more n (by omega), dd_one (n / 10) (by omega)]
    rfl
theorem pad_four (n : Nat) (h0 : 1000 ≤ n) (h : n < 10000) : pad 4 n = [ch (n / 10 / 10 / 10), ch (n / 10 / 10), ch (n / 10), ch n] := by
  unfold pad
  rw [dd_more n (by omega), dd_more (n / 10) (by omega), dd_more (n / 10 / 10) (by omega), dd_one (n / 10 / 10 / 10) (by omega)]
  rfl
theorem pad_len_two (n : Nat) (h : n < 100) : (pad 2 n).length = 2 := by rw [pad_two n h]; rfl
theorem pad_len_four (n : Nat) (h0 : 1000 ≤ n) (h : n < 10000) : (pad 4 n).length = 4 := by rw [pad_four n h0 h]; rfl
/-- A day's text. -/
def dayL (y m k : Nat) : List UInt8 := pad 4 y ++ 45 :: pad 2 m ++ 45 :: pad 2 k
theorem ch_lt {a b : Nat} (ha : a < 10) (hb : b < 10) (h : a < b) : (ch a).toNat < (ch b).toNat := by
  unfold ch
  show (48 + a % 10) % 256 < (48 + b % 10) % 256
  omega
open Go.Op (bytesLess)
theorem lexLt_head (a b : UInt8) (s t : List UInt8) (h : a.toNat < b.toNat) : bytesLess (a :: s) (b :: t) = true := by
  have : a < b := UInt8.lt_iff_toNat_lt.2 h
  simp [bytesLess, this]
theorem lexLt_same (a : UInt8) (s t : List UInt8) : bytesLess (a :: s) (a :: t) = bytesLess s t := by
  have : ¬ a < a := fun h => Nat.lt_irrefl _ (UInt8.lt_iff_toNat_lt.1 h)
  simp [bytesLess, this]
theorem lexLt_pre (p s t : List UInt8) : bytesLess (p ++ s) (p ++ t) = bytesLess s t := by
  induction p with
  | nil => rfl
  | cons a p ih => rw [List.cons_append, List.cons_append, lexLt_same, ih]
theorem pad_two_lt (a b : Nat) (s t : List UInt8) (hb : b < 100) (h : a < b) : bytesLess (pad 2 a ++ s) (pad 2 b ++ t) = true := by
  rw [pad_two a (by omega), pad_two b hb]
  by_cases h1 : a / 10 < b / 10
  · exact lexLt_head _ _ _ _ (ch_lt (by omega) (by omega) h1)
  · have e : a / 10 = b / 10 := by omega
    rw [e]
    show bytesLess (ch (b / 10) :: (ch a :: s)) (ch (b / 10) :: (ch b :: t)) = true
    rw [lexLt_same]
    have := ch_lt (a := a % 10) (b := b % 10) (by omega) (by omega) (by omega)
    unfold ch at this ⊢
    rw [Nat.mod_mod, Nat.mod_mod] at this
    exact lexLt_head _ _ _ _ this
theorem pad_four_lt (a b : Nat) (s t : List UInt8) (ha : 1000 ≤ a) (hb : b < 10000) (h : a < b) : bytesLess (pad 4 a ++ s) (pad 4 b ++ t) = true := by
  have key : ∀ n, 1000 ≤ n → n < 10000 → pad 4 n = pad 2 (n / 100) ++ pad 2 (n % 100) := by
    intro n h0 h1
    rw [pad_four n h0 h1, pad_two (n / 100) (by omega), pad_two (n % 100) (by omega)]
    unfold ch
    rw [show n / 10 / 10 / 10 % 10 = n / 100 / 10 % 10 by omega, show n / 10 / 10 % 10 = n / 100 % 10 by omega, show n % 100 / 10 % 10 = n / 10 % 10 by omega, show n % 100 % 10 = n % 10 by omega]
    rfl
  rw [key a ha (by omega), key b (by omega) hb, List.append_assoc, List.append_assoc]
  by_cases h1 : a / 100 < b / 100
  · exact pad_two_lt _ _ _ _ (by omega) h1
  · rw [show a / 100 = b / 100 by omega, lexLt_pre]
    exact pad_two_lt _ _ _ _ (by omega) (by omega)
/-- Texts of days are in the days' order. -/
theorem dayL_lt (y m k y' m' k' : Nat) (h0 : 1000 ≤ y) (h1 : y' < 10000) (hm : m' < 100) (hk : k' < 100) (h : y < y' ∨ (y = y' ∧ (m < m' ∨ (m = m' ∧ k < k')))) : bytesLess (dayL y m k) (dayL y' m' k') = true := by
  unfold dayL
  rw [List.append_assoc, List.append_assoc]
  rcases h with h | ⟨rfl, h | ⟨rfl, h⟩⟩
  · exact pad_four_lt _ _ _ _ h0 h1 h
  · rw [lexLt_pre]
    show bytesLess (45 :: (pad 2 m ++ 45 :: pad 2 k)) (45 :: (pad 2 m' ++ 45 :: pad 2 k')) = true
    rw [lexLt_same]
    exact pad_two_lt _ _ _ _ hm h
  · rw [lexLt_pre]
    show bytesLess (45 :: (pad 2 m ++ 45 :: pad 2 k)) (45 :: (pad 2 m ++ 45 :: pad 2 k')) = true
    rw [lexLt_same, lexLt_pre, lexLt_same]
    have := pad_two_lt k k' [] [] hk h
    rwa [List.append_nil, List.append_nil] at this
theorem dayL_len (y m k : Nat) (h0 : 1000 ≤ y) (h1 : y < 10000) (hm : m < 100) (hk : k < 100) : (dayL y m k).length = 10 := by
  unfold dayL
  simp only [List.length_append, List.length_cons, pad_len_four y h0 h1, pad_len_two m hm, pad_len_two k hk]
/-- Month and year of so many months behind. -/
def monY (y m k : Int) : Int := (12 * y + m - 1 + k) / 12
def monM (y m k : Int) : Int := (12 * y + m - 1 + k) % 12 + 1
theorem mon_bd (y m k : Int) : 1 ≤ monM y m k ∧ monM y m k ≤ 12 := by unfold monM; omega
theorem mon_num (y m k : Int) : 12 * monY y m k + monM y m k - 1 = 12 * y + m - 1 + k := by unfold monY monM; omega
/-- The day that is told behind so many months: kept at the end, or the same day, or the last one. -/
def monD (y m q k : Int) (en : Bool) : Int := if en = true ∧ q = lenM y m then lenM (monY y m k) (monM y m k) else min q (lenM (monY y m k) (monM y m k))
theorem monD_bd (y m q k : Int) (en : Bool) (h1 : 1 ≤ q) : 1 ≤ monD y m q k en ∧ monD y m q k en ≤ lenM (monY y m k) (monM y m k) := by
  have := lenM_pos (monY y m k) (monM y m k) (mon_bd y m k).1 (mon_bd y m k).2
  unfold monD
  split <;> omega
end
section

theorem mon_then (y m a b : Int) : monY (monY y m a) (monM y m a) b = monY y m (a + b) ∧ monM (monY y m a) (monM y m a) b = monM y m (a + b) := by
  have := mon_num y m a
  unfold monY monM at *
  omega
theorem mon_zero (y m : Int) (h1 : 1 ≤ m) (h2 : m ≤ 12) : monY y m 0 = y ∧ monM y m 0 = m := by unfold monY monM; omega
theorem mon_back (y m k : Int) (h1 : 1 ≤ m) (h2 : m ≤ 12) : monY (monY y m k) (monM y m k) (-k) = y ∧ monM (monY y m k) (monM y m k) (-k) = m := by
  have h := mon_then y m k (-k)
  rw [show k + -k = 0 by omega] at h
  have h0 := mon_zero y m h1 h2
  exact ⟨h.1.trans h0.1, h.2.trans h0.2⟩
theorem monD_end (y m k : Int) : monD y m (lenM y m) k true = lenM (monY y m k) (monM y m k) := if_pos ⟨rfl, rfl⟩
theorem monD_noend {y m q k : Int} {en : Bool} (h : ¬ (en = true ∧ q = lenM y m)) : monD y m q k en = min q (lenM (monY y m k) (monM y m k)) := if_neg h
theorem monD_back_end (y m k : Int) (h1 : 1 ≤ m) (h2 : m ≤ 12) : monD (monY y m k) (monM y m k) (monD y m (lenM y m) k true) (-k) true = lenM y m := by
  rw [monD_end, monD_end, (mon_back y m k h1 h2).1, (mon_back y m k h1 h2).2]
theorem monD_back_le (y m q k : Int) (en : Bool) (h : ¬ (en = true ∧ q = lenM y m)) (h' : ¬ (en = true ∧ monD y m q k en = lenM (monY y m k) (monM y m k))) : monD (monY y m k) (monM y m k) (monD y m q k en) (-k) en ≤ q := by
  rw [monD_noend h', monD_noend h]
  omega
theorem monD_small (y m q k : Int) (en : Bool) (h1 : 1 ≤ m) (h2 : m ≤ 12) (hq : q ≤ 27) : monD y m q k en = q := by
  have a := lenM_pos y m h1 h2
  have b := lenM_pos (monY y m k) (monM y m k) (mon_bd y m k).1 (mon_bd y m k).2
  rw [monD_noend (fun h => by have := h.2; omega)]
  omega
/-- Between two days of months: how many months. -/
theorem mon_diff (y m k : Int) : (monY y m k - y) * 12 + monM y m k - m = k := by have := mon_num y m k; omega
end
end Go.Proofs.YtcjjgdoafkdeaaaGreatDoor
