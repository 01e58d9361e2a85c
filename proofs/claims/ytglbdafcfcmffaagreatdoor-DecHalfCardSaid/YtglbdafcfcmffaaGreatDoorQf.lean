/- Texts of digits, plain: what the numeral of a number is. No program here. -/
import Derived.Test.YtglbdafcfcmffaaGreatDoorQc
namespace Go.Proofs.YtglbdafcfcmffaaGreatDoor
open Go.RowKit

theorem digit_byte (k : Nat) : (UInt8.ofNat (48 + k % 10)).toNat = 48 + k % 10 := by
  rw [UInt8.toNat_ofNat']; omega
theorem numeral (n : Nat) : Dig (Lib.decDigits n) ∧ dv (Lib.decDigits n) = n ∧ Lib.decDigits n ≠ [] ∧ ((Lib.decDigits n).length = 1 ∨ (Lib.decDigits n).head? ≠ some 48) := by
  induction n using Nat.strongRecOn with
  | _ n ih =>
    by_cases h : n < 10
    · have e : (UInt8.ofNat (48 + n)).toNat = 48 + n := by rw [UInt8.toNat_ofNat']; omega
      rw [Lib.decDigits_one h]
      refine ⟨fun c hc => ?_, ?_, by simp, .inl rfl⟩
      · rw [List.mem_singleton.1 hc, e]; omega
      · rw [dv_one, e]; omega
    · obtain ⟨h1, h2, h3, h4⟩ := ih (n / 10) (by omega)
      rw [Lib.decDigits, dif_neg h]
      refine ⟨fun c hc => ?_, ?_, by simp, .inr ?_⟩
      · rcases List.mem_append.1 hc with hc | hc
        · exact h1 c hc
        · rw [List.mem_singleton.1 hc, digit_byte]; omega
      · rw [dv_append, h2, dv_one, digit_byte, List.length_singleton]; omega
      · rcases h4 with h4 | h4
        · have h5 : 1 ≤ n / 10 := by omega
          cases hl : Lib.decDigits (n / 10) with
          | nil => exact absurd hl h3
          | cons a l =>
            rw [hl] at h2 h4
            have : l = [] := List.eq_nil_of_length_eq_zero (by simpa using h4)
            subst this
            rw [dv_one] at h2
            intro h6
            simp at h6
            subst h6
            rw [show (48 : UInt8).toNat = 48 from rfl] at h2
            omega
        · cases hl : Lib.decDigits (n / 10) with
          | nil => exact absurd hl h3
          | cons a l => rw [hl] at h4; simpa using h4
end Go.Proofs.YtglbdafcfcmffaaGreatDoor
