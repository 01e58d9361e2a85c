/- Layer 2: which texts are numbers; nat.Get of whatever text. -/
import Derived.Test.YtglbdafcfcmffaaGreatDoorQk
import Derived.Test.YtglbdafcfcmffaaGreatDoorQe
import Derived.Test.YtglbdafcfcmffaaGreatDoorQf
import Derived.Test.YtglbdafcfcmffaaGreatDoorFy
namespace Go.Proofs.YtglbdafcfcmffaaGreatDoor
open Go.RowKit Go.Extern.Stop Go.Stop Go.Extern Go.Sort
set_option linter.unusedVariables false
set_option linter.unusedSimpArgs false

/-- A text that is a number is that number's numeral. -/
theorem numT_own (s : ByteArray) (h : NumT s) : Lib.decDigits (dv s.data.toList) = s.data.toList := by
  obtain ⟨h1, h2, h3, h4⟩ := h
  have hl : s.data.toList.length = s.size := (Lib.size_eq s).symm
  refine digits_of _ _ rfl h4 (by intro e; rw [e] at hl; simp at hl; omega) ?_
  rcases h3 with h3 | h3
  · exact .inl (by omega)
  · refine .inr fun e => ?_
    have h5 := h3 h1
    have h6 := at_list s 0 h1 (by omega)
    rw [List.head?_eq_getElem?, List.getElem?_eq_getElem (by omega)] at e
    injection e with e
    rw [← h6, e] at h5
    exact h5 rfl
theorem bytes_own (s : ByteArray) : (⟨s.data.toList.toArray⟩ : ByteArray) = s := by
  cases s; simp
theorem numT_bad (s : ByteArray) (h : ¬ NumT s) : s.size = 0 ∨ 4000 < s.size ∨ (1 < s.size ∧ ∀ h : 0 < s.size, (s[0]'h).toNat = 48) ∨ ¬ Dig s.data.toList := by
  by_cases c1 : s.size = 0
  · exact .inl c1
  · by_cases c2 : 4000 < s.size
    · exact .inr (.inl c2)
    · by_cases c3 : Dig s.data.toList
      · refine .inr (.inr (.inl ⟨?_, fun hp => ?_⟩))
        · by_cases c4 : s.size = 1
          · exact absurd ⟨by omega, by omega, .inl c4, c3⟩ h
          · omega
        · by_cases c5 : (s[0]'hp).toNat = 48
          · exact c5
          · exact absurd ⟨hp, by omega, .inr fun _ => c5, c3⟩ h
      · exact .inr (.inr (.inr c3))
theorem numT_numeral (k : Nat) (h : k < 18446744073709551616) : NumT ⟨(Lib.decDigits k).toArray⟩ ∧ dv (⟨(Lib.decDigits k).toArray⟩ : ByteArray).data.toList = k := by
  obtain ⟨h1, h2, h3, h4⟩ := numeral k
  have hl : (⟨(Lib.decDigits k).toArray⟩ : ByteArray).size = (Lib.decDigits k).length := by rw [Lib.size_eq]
  have hlen : (Lib.decDigits k).length ≤ 20 := by
    rcases h4 with h4 | h4
    · omega
    · have h5 : 10 ^ ((Lib.decDigits k).length - 1) ≤ dv (Lib.decDigits k) := by
        cases hc : Lib.decDigits k with
        | nil => exact absurd hc h3
        | cons a l =>
          rw [hc] at h1 h4
          have ha := h1 a (by simp)
          rw [dv_cons, List.length_cons, Nat.add_sub_cancel]
          have : a.toNat ≠ 48 := fun e => h4 (by rw [List.head?_cons]; congr 1; exact UInt8.toNat_inj.1 e)
          have h6 : 1 * 10 ^ l.length ≤ (a.toNat - 48) * 10 ^ l.length := Nat.mul_le_mul_right _ (by omega)
          omega
      rw [h2] at h5
      by_cases hh : (Lib.decDigits k).length ≤ 20
      · exact hh
      · have h6 : 10 ^ 20 ≤ 10 ^ ((Lib.decDigits k).length - 1) := Nat.pow_le_pow_right (by decide) (by omega)
        have h7 : (10 : Nat) ^ 20 = 100000000000000000000 := by decide
        omega
  have hpos : 0 < (Lib.decDigits k).length := List.length_pos_iff.2 h3
  refine ⟨⟨by omega, by omega, ?_, h1⟩, h2⟩
  rcases h4 with h4 | h4
  · exact .inl (by omega)
  · refine .inr fun hp e => h4 ?_
    rw [← at_list _ 0 hp (by show 0 < (Lib.decDigits k).length; exact hpos)] at e
    rw [List.head?_eq_getElem?, List.getElem?_eq_getElem hpos]
    congr 1
    exact UInt8.toNat_inj.1 e
theorem dv_bd (s : ByteArray) (h : NumT s) : dv s.data.toList < B ^ 250 ∧ dv s.data.toList < Dg.D ^ 500 := by
  have h1 := dv_lt _ h.2.2.2
  have h2 : s.data.toList.length ≤ 4000 := by rw [← Lib.size_eq]; exact h.2.1
  exact ⟨Nat.lt_of_lt_of_le h1 (ten_pow_le _ 250 (by omega)), Nat.lt_of_lt_of_le h1 (Nat.le_trans (Nat.pow_le_pow_right (by decide) (show s.data.toList.length ≤ 9 * 500 by omega)) (Nat.le_of_eq (D_pow 500).symm))⟩
theorem small_bd (k : Nat) (h : k < 18446744073709551616) : k < Dg.D ^ 500 :=
  Nat.lt_of_lt_of_le (Nat.lt_trans h (show 18446744073709551616 < 10 ^ 20 by decide)) (Nat.le_trans (Nat.pow_le_pow_right (by decide) (show 20 ≤ 9 * 500 by omega)) (Nat.le_of_eq (D_pow 500).symm))
/-- nat.Get of whatever text. -/
theorem natGet_calls (s : ByteArray) (w : World) (hs : s.size ≤ 9223372036854775807) :
    Calls Tryz.prog 107 #[.string s] w fun e w' => ((NumT s → ∃ r, e = .returned (.tuple #[r, .nilIface]) ∧ NatP w' r (dv s.data.toList)) ∧ (¬ NumT s → e = .returned (.tuple #[.pointer none, .iface 187 (.int .i64 1)]))) ∧ Gr w w' := by
  by_cases h : NumT s
  · refine (get_nat_ok s w h.1 h.2.1 h.2.2.2 h.2.2.1).mono ?_
    rintro e w' ⟨h1, hg⟩
    exact ⟨⟨fun _ => h1, fun h2 => absurd h h2⟩, hg⟩
  · refine (get_nat_bad s w hs (numT_bad s h)).mono ?_
    rintro e w' ⟨h1, hg⟩
    exact ⟨⟨fun h2 => absurd h2 h, fun _ => h1⟩, hg⟩

end Go.Proofs.YtglbdafcfcmffaaGreatDoor
