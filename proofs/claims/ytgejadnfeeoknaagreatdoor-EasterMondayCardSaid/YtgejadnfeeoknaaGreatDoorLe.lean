/- Layer 6: 'rules by Easter: the Friday ahead, the Monday behind, the Thursday of forty days', walked. -/
import Derived.Test.YtgejadnfeeoknaaGreatDoorLc
namespace Go.Proofs.YtgejadnfeeoknaaGreatDoor
open Go.RowKit Go.Extern.Stop Go.Stop Go.Extern
set_option linter.unusedVariables false
set_option linter.unusedSimpArgs false

theorem east_far : ∀ n : Fin 300, decide (100 ≤ eastN (1900 + (n.val : Int)) ∧ eastN (1900 + (n.val : Int)) ≤ 109472) = true := by decide +kernel
theorem east_bd (y : Int) (h0 : 1900 ≤ y) (h1 : y ≤ 2199) : 100 ≤ eastN y ∧ eastN y ≤ 109472 := by
  have h := east_far ⟨(y - 1900).toNat, by omega⟩
  rw [show (1900 : Int) + (((⟨(y - 1900).toNat, by omega⟩ : Fin 300).val : Nat) : Int) = y by show (1900 : Int) + ((y - 1900).toNat : Int) = y; omega] at h
  exact of_decide_eq_true h
def ruE (n : Int) : Ru := ⟨3, 0, 0, n, 0, false⟩
theorem ruE_day (n y : Int) (h0 : -100 ≤ n) (h1 : n ≤ 100) (y0 : 1900 ≤ y) (y1 : y ≤ 2199) : holD (ruE n) y = some (eastN y + n) := by
  have hb := east_bd y y0 y1
  refine holD_may ?_ (show (if 1900 ≤ y ∧ y ≤ 2199 then some (eastN y + n) else none) = some (eastN y + n) from if_pos ⟨y0, y1⟩) (by omega)
  unfold mayR ruE
  simp
  omega
theorem near_year {d e y y' m k m' k' n : Int} (h : IsDay d y m k) (h' : IsDay e y' m' k') (hn : d = e + n) (h0 : -360 ≤ n) (h1 : n ≤ 360) : y - 1 ≤ y' ∧ y' ≤ y + 1 := by
  have a := isDay_in_year h
  have b := isDay_in_year h'
  refine ⟨?_, ?_⟩
  · by_cases c : y' + 2 ≤ y
    · have h2 := befY_mono (y' + 2) y c
      have h3 := befY_mono (y' + 1) (y' + 2) (by omega)
      omega
    · omega
  · by_cases c : y + 2 ≤ y'
    · have h2 := befY_mono (y + 2) y' c
      have h3 := befY_mono (y + 1) (y + 2) (by omega)
      omega
    · omega
set_option maxRecDepth 100000 in
set_option maxHeartbeats 4000000 in
theorem easterMonday_calls (y n : Int) (y0 : -9223372036854775808 ≤ y) (y1 : y ≤ 9223372036854775807) (n0 : -9223372036854775808 ≤ n) (n1 : n ≤ 9223372036854775807) (w : World) (hM : Met2 w) :
    Calls Tryz.prog 7 #[.int .i64 y, .int .i64 n] w fun e w' => e = .returned (.bool true) ∧ Gr w w' := by
  have HB := Lib.hid (begun6_calls w hM)
  obtain ⟨R, hR1, hR2, hR0, hR3, t0, t1⟩ := mod_two y 300 (by decide)
  obtain ⟨M, hM1, hM2, hM0, hM3, s0, s1⟩ := mod_two n 201 (by decide)
  have hs := fun w => sunday_calls (1900 + R) (by omega) (by omega) w
  have hd := ruE_day (M - 100) (1900 + R) (by omega) (by omega) (by omega) (by omega)
  have hc := fun w => hday_calls (ruE (M - 100)) (1900 + R) (by omega) (by omega) w
  simp only [holR_some hd] at hc
  have hbd := east_bd (1900 + R) (by omega) (by omega)
  obtain ⟨y', m', k', hday⟩ := isDay_of (eastN (1900 + R) + (M - 100)) (by omega) (by omega)
  have hny := near_year hday (eastN_day (1900 + R) (by omega) (by omega)) rfl (by omega) (by omega)
  have hi := fun w => his_calls (ruE (M - 100)) (eastN (1900 + R) + (M - 100)) y' m' k' hday w
  rw [isR_yes hny.1 hny.2 hd] at hi
  have hw := fun w => weekday_calls (eastN (1900 + R) + (M - 100)) w (by omega) (by omega)
  have hsu := eastN_sunday (1900 + R) (by omega) (by omega)
  obtain ⟨Q, hQ1, hQ2, hQ0, hQ3, q0, q1⟩ := mod_two (M - 100) 7 (by decide)
  have hq := mod_mod (M - 100) 7 (by decide)
  rw [hQ1] at hq
  rw [show (eastN (1900 + R) + (M - 100) + 1) % 7 = Q by omega] at hw
  generalize eastN (1900 + R) = E at hs hc hi hw hbd
  unfold ruE ruV at hc hi
  have HS := Lib.hid hs
  have HC := Lib.hid hc
  have HI := Lib.hid hi
  have HW := Lib.hid hw
  clear hs hc hi hw hM hd hday hny hsu hq
  go_enter Tryz.func7, Tryz.ntmps7
  go_wp2_with (first | (go_at_call 16; (with_reducible refine HB.out.mono ?_); rintro ev w1 ⟨rfl, hg1⟩) | (go_at_call 26; (with_reducible refine (HS.out _).mono ?_); rintro ev w2 ⟨rfl, hg2⟩) | (go_at_call 29; (with_reducible refine (HC.out _).mono ?_); rintro ev w3 ⟨rfl, hg3⟩) | (go_at_call 30; (with_reducible refine (HI.out _).mono ?_); rintro ev w4 ⟨rfl, hg4⟩) | (go_at_call 19; (with_reducible refine (HW.out _).mono ?_); rintro ev w5 ⟨rfl, rfl⟩))
  go_ret
  exact ⟨by first | rfl | simp, (hg1.tr hg2).tr (hg3.tr hg4)⟩
end Go.Proofs.YtgejadnfeeoknaaGreatDoor
