/- Layer 6: 'a year has 365 days, or 366; four hundred years of the calendar go by whole weeks', walked. -/
import Derived.Test.YtgejadnfeeoknaaGreatDoorHi
namespace Go.Proofs.YtgejadnfeeoknaaGreatDoor
open Go.RowKit Go.Extern.Stop Go.Stop Go.Extern
set_option linter.unusedVariables false
set_option linter.unusedSimpArgs false

/-- What (y % k + k) % k comes to: the walk's two spellings. -/
theorem mod_two (y k : Int) (hk : 0 < k) : ∃ R : Int, (y.tmod k + k) % k = R ∧ y.tmod k % k = R ∧ 0 ≤ R ∧ R < k ∧ -k < y.tmod k ∧ y.tmod k < k :=
  ⟨(y.tmod k + k) % k, rfl, (Int.add_emod_right _ _).symm, Int.emod_nonneg _ (by omega), Int.emod_lt_of_pos _ hk, (tmod_bd y k hk).1, (tmod_bd y k hk).2⟩
theorem yearN (y : Int) (h0 : 1900 ≤ y) (h1 : y ≤ 2199) : ofD y 1 1 = befY y ∧ ofE y 1 1 = .nilIface := by
  have hl := lenM_pos y 1 (by decide) (by decide)
  have hok : OkC y 1 1 := ⟨h0, h1, by decide, by omega⟩
  refine ⟨?_, ofE_ok hok⟩
  rw [ofD_ok hok]; unfold dayN; rw [cumM_one]; omega
set_option maxRecDepth 100000 in
set_option maxHeartbeats 4000000 in
theorem dateYears_calls (y : Int) (n0 : -9223372036854775808 ≤ y) (n1 : y ≤ 9223372036854775807) (w : World) (hM : Met2 w) :
    Calls Tryz.prog 6 #[.int .i64 y] w fun e w' => e = .returned (.bool true) ∧ Gr w w' := by
  have HB := Lib.hid (begun6_calls w hM)
  obtain ⟨R, hR1, hR2, hR0, hR3, t0, t1⟩ := mod_two y 299 (by decide)
  have ha := fun w => day_of_calls (1900 + R) 1 1 w
  have hb := fun w => day_of_calls (1900 + R + 1) 1 1 w
  simp only [(yearN (1900 + R) (by omega) (by omega)).1, (yearN (1900 + R) (by omega) (by omega)).2] at ha
  simp only [(yearN (1900 + R + 1) (by omega) (by omega)).1, (yearN (1900 + R + 1) (by omega) (by omega)).2] at hb
  have hab := befY_bd (1900 + R) (by omega) (by omega)
  rw [befY_succ (1900 + R)] at hb
  have HL := Lib.hid (fun (m : Int) w => length_calls (1900 + R) m (by omega) (by omega) w)
  have hl0 := fun w => HL.out 0 w
  simp only [lenM_out (1900 + R) 0 (by omega)] at hl0
  have hl13 := fun w => HL.out 13 w
  simp only [lenM_out (1900 + R) 13 (by omega)] at hl13
  have HL0 := Lib.hid hl0
  have HL13 := Lib.hid hl13
  have hLP := fun w => leap_calls (1900 + R) (by omega) (by omega) w
  have hcy := cumM_year (1900 + R)
  unfold lp at hb hcy
  generalize befY (1900 + R) = A at ha hb hab
  have HA := Lib.hid ha
  clear hM ha hl0 hl13
  cases hlb : leapB (1900 + R)
  all_goals
    simp only [hlb, if_true, Bool.false_eq_true, if_false] at hLP hcy hb
    have HLP := Lib.hid hLP
    have HCY := Lib.hid hcy
    have HBB := Lib.hid hb
    clear hLP hcy hlb hb
    go_enter Tryz.func6, Tryz.ntmps6
    go_wp2_with (first | (go_at_call 16; (with_reducible refine HB.out.mono ?_); rintro ev w1 ⟨rfl, hg1⟩) | (go_at_call 28; (with_reducible refine (HA.out _).mono ?_); rintro ev w2 ⟨rfl, hg2⟩) | (go_at_call 28; (with_reducible refine (HBB.out _).mono ?_); rintro ev w3 ⟨rfl, hg3⟩))
    go_loopg [8, 9] 12 (fun g s8 s9 wr => ∃ j : Int, j = 13 - (g : Int) ∧ 1 ≤ j ∧ j ≤ 13 ∧ s9 = .int .i64 j ∧ s8 = .int .i64 (cumM (1900 + R) j) ∧ wr = w3)
    case atStart => exact ⟨1, by omega, by omega, by omega, rfl, by rw [cumM_one], rfl⟩
    case round =>
      obtain ⟨j, hj, hj0, hj1, rfl, rfl, rfl⟩ := hrel
      have HJ := Lib.hid hj
      clear hj
      by_cases hlt : j ≤ 12
      · have hcb := cumM_bd (1900 + R) j hj0 (by omega)
        have hlbd := lenM_bd (1900 + R) j
        have hs := cumM_succ (1900 + R) j hj0
        have hlj := fun w => HL.out j w
        generalize lenM (1900 + R) j = L at hlj hs hlbd
        have HLJ := Lib.hid hlj
        have HS := Lib.hid hs
        clear hlj hs
        generalize cumM (1900 + R) j = cj at hcb HS
        go_wp2_with (go_at_call 23; (with_reducible refine (HLJ.out _).mono ?_); rintro ev w4 ⟨rfl, rfl⟩)
        go_roundg (gk - 1)
        case measure => have := HJ.out; omega
        case rel => exact ⟨j + 1, by have := HJ.out; omega, by omega, by omega, rfl, by rw [HS.out], rfl⟩
      · have hje : j = 13 := by omega
        subst hje
        rw [HCY.out]
        go_wp2_with (first | (go_at_call 21; (with_reducible refine (HLP.out _).mono ?_); rintro ev w4 ⟨rfl, rfl⟩) | (go_at_call 23; (with_reducible refine (HL0.out _).mono ?_); rintro ev w4 ⟨rfl, rfl⟩) | (go_at_call 23; (with_reducible refine (HL13.out _).mono ?_); rintro ev w4 ⟨rfl, rfl⟩))
        go_ret
        exact ⟨by first | rfl | simp, (hg1.tr hg2).tr hg3⟩
end Go.Proofs.YtgejadnfeeoknaaGreatDoor
