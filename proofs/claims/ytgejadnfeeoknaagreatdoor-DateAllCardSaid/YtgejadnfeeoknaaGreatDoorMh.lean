/- Layer 6: two days' texts, ordered; what the two ways of reading a text answer, beside one another. -/
import Derived.Test.YtgejadnfeeoknaaGreatDoorMg
import Derived.Test.YtgejadnfeeoknaaGreatDoorLb
import Derived.Lib.ConvBytes
namespace Go.Proofs.YtgejadnfeeoknaaGreatDoor
open Go.RowKit Go.Extern.Stop Go.Stop Go.Extern
set_option linter.unusedVariables false
set_option linter.unusedSimpArgs false

open Go.Op (bytesLess)
theorem isDay_lex {a y m k b y' m' k' : Int} (h : IsDay a y m k) (h' : IsDay b y' m' k') (hab : a < b) : y < y' ∨ (y = y' ∧ (m < m' ∨ (m = m' ∧ k < k'))) := by
  have i1 := isDay_in_year h
  have i2 := isDay_in_year h'
  rcases Int.lt_trichotomy y y' with hlt | he | hgt
  · exact .inl hlt
  · subst he
    refine .inr ⟨rfl, ?_⟩
    have h7 := h.2.2.2.2.2.2
    have h7' := h'.2.2.2.2.2.2
    have h6' := h'.2.2.2.2.2.1
    have h5 := h.2.2.2.2.1
    have e2 := cumM_succ y m' h'.2.2.1
    rcases Int.lt_trichotomy m m' with hlt | he | hgt
    · exact .inl hlt
    · subst he; exact .inr ⟨rfl, by omega⟩
    · have := cumM_le y (m' + 1) m (by have := h'.2.2.1; omega) (by omega); omega
  · have := befY_mono (y' + 1) y (by omega); omega
theorem dayL_less {a y m k b y' m' k' : Int} (h : IsDay a y m k) (h' : IsDay b y' m' k') (hab : a < b) : bytesLess (dayL y.toNat m.toNat k.toNat) (dayL y'.toNat m'.toNat k'.toNat) = true := by
  have hl := isDay_lex h h' hab
  obtain ⟨a, b, c, rfl, rfl, rfl, ha, ha', hb, hb', hc, hc'⟩ := isDay_nat h
  obtain ⟨a2, b2, c2, rfl, rfl, rfl, ga, ga', gb, gb', gc, gc'⟩ := isDay_nat h'
  show bytesLess (dayL a b c) (dayL a2 b2 c2) = true
  exact dayL_lt a b c a2 b2 c2 (by omega) (by omega) (by omega) (by omega) (by omega)
theorem less_irr (l : List UInt8) : bytesLess l l = false := by
  induction l with
  | nil => rfl
  | cons x l ih => rw [lexLt_same]; exact ih
theorem less_asym (l l' : List UInt8) (h : bytesLess l l' = true) : bytesLess l' l = false := by
  induction l generalizing l' with
  | nil => cases l' <;> rfl
  | cons x l ih =>
    cases l' with
    | nil => exact absurd h (by simp [bytesLess])
    | cons y l' =>
      simp only [bytesLess] at h ⊢
      by_cases e : x = y
      · subst e
        have : ¬ x < x := fun e => Nat.lt_irrefl _ (UInt8.lt_iff_toNat_lt.1 e)
        simp [this] at h ⊢
        exact ih l' h
      · have e' : ¬ y = x := fun c => e c.symm
        simp [e] at h
        have c2 : ¬ y < x := fun c => absurd (UInt8.lt_iff_toNat_lt.1 h) (by have := UInt8.lt_iff_toNat_lt.1 c; omega)
        simp [c2, e']
/-- The two days' texts: as the days are ordered. -/
theorem texts_two {a y m k b y' m' k' : Int} (h : IsDay a y m k) (h' : IsDay b y' m' k') : ∃ A B : ByteArray, A.size = 10 ∧ bytesLess A.toList B.toList = decide (a < b) ∧ (A.toList == B.toList) = (a == b) ∧
    (∀ w, PowTab w → Calls Tryz.prog 20 #[.int .i64 a] w fun e w' => e = .returned (.string A) ∧ Gr w w') ∧ (∀ w, PowTab w → Calls Tryz.prog 20 #[.int .i64 b] w fun e w' => e = .returned (.string B) ∧ Gr w w') := by
  refine ⟨_, _, ?_, ?_, ?_, fun w hT => dtext_calls a y m k h w hT, fun w hT => dtext_calls b y' m' k' h' w hT⟩
  · obtain ⟨a, b, c, rfl, rfl, rfl, ha, ha', hb, hb', hc, hc'⟩ := isDay_nat h
    exact dayL_len a b c (by omega) (by omega) (by omega) (by omega)
  · rw [bytesLess_toList]
    rcases Int.lt_trichotomy a b with hlt | he | hgt
    · rw [dayL_less h h' hlt, decide_eq_true hlt]
    · subst he
      obtain ⟨rfl, rfl, rfl⟩ := isDay_unique h h'
      rw [less_irr, decide_eq_false (by omega)]
    · rw [less_asym _ _ (dayL_less h' h hgt), decide_eq_false (by omega)]
  · by_cases he : a = b
    · subst he
      obtain ⟨rfl, rfl, rfl⟩ := isDay_unique h h'
      rw [beq_self_eq_true, beq_self_eq_true]
    · rw [beq_eq_false_iff_ne.2 he, beq_eq_false_iff_ne]
      intro e
      rw [ByteArray.toList_eq, ByteArray.toList_eq] at e
      have e2 : dayL y.toNat m.toNat k.toNat = dayL y'.toNat m'.toNat k'.toNat := e
      rcases Int.lt_trichotomy a b with hlt | he2 | hgt
      · have := dayL_less h h' hlt; rw [e2, less_irr] at this; cases this
      · exact he he2
      · have := dayL_less h' h hgt; rw [e2, less_irr] at this; cases this
theorem get_calls (s : ByteArray) (hm : s.size ≤ 9223372036854775807) (w : World) : Calls Tryz.prog 41 #[.string s] w fun e w' => e = getE s.data.toList ∧ Gr w w' := by
  by_cases hs : s.size = 10
  · exact get_ten s hs w
  · exact get_len s hs hm w
theorem rget_calls (s : ByteArray) (hm : s.size ≤ 9223372036854775807) (w : World) : Calls Tryz.prog 44 #[.string s] w fun e w' => e = rgetE s.data.toList ∧ Gr w w' := by
  by_cases hs : s.size = 10
  · exact rget_ten s hs w
  · exact rget_len s hs hm w
theorem sameForm_calls (w : World) (hg : Has w) : Calls Tryz.prog 18 #[.iface 89 (.int .i64 1), .int .i64 1] w fun ev w' => ev = .returned (.bool true) ∧ Gr w w' :=
  same6_calls _ _ 1 w hg (.plain 1)
theorem sameNil_calls (w : World) (hg : Has w) : Calls Tryz.prog 18 #[.nilIface, .int .i64 0] w fun ev w' => ev = .returned (.bool true) ∧ Gr w w' :=
  same6_calls _ _ 0 w hg .nil
/-- What both answer to a text. -/
theorem get_pair (l : List UInt8) : ∃ (D c : Int) (v : Value), getE l = .returned (.tuple #[.int .i64 D, v]) ∧ rgetE l = .returned (.tuple #[.int .i64 D, .int .i64 c]) ∧
    ∀ w, Has w → Calls Tryz.prog 18 #[v, .int .i64 c] w fun ev w' => ev = .returned (.bool true) ∧ Gr w w' := by
  cases hf : formOk l with
  | false => exact ⟨0, 1, _, getE_no hf, rgetE_no hf, fun w hg => sameForm_calls w hg⟩
  | true =>
    unfold getE rgetE
    rw [hf, if_pos rfl, if_pos rfl, win_num4, win_num2a, win_num2b]
    generalize num4 _ _ _ _ = Y
    generalize num2 (l.getD 5 0) _ = M
    generalize num2 (l.getD 8 0) _ = D
    by_cases hok : OkC Y M D
    · rw [if_pos hok, ofE_ok hok]
      exact ⟨_, _, _, rfl, rfl, fun w hg => sameNil_calls w hg⟩
    · rw [if_neg hok, ofE_no hok]
      exact ⟨_, _, _, rfl, rfl, fun w hg => sameDate_calls w hg⟩
end Go.Proofs.YtgejadnfeeoknaaGreatDoor
