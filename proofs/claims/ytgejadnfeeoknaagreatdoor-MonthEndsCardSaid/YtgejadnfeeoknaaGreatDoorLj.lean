/- Layer 6: 'the last days of months, one behind the other', walked. -/
import Derived.Test.YtgejadnfeeoknaaGreatDoorLc
namespace Go.Proofs.YtgejadnfeeoknaaGreatDoor
open Go.RowKit Go.Extern.Stop Go.Stop Go.Extern
set_option linter.unusedVariables false
set_option linter.unusedSimpArgs false

set_option maxRecDepth 100000 in
set_option maxHeartbeats 8000000 in
theorem monthEnds_calls (y m k : Int) (y0 : -9223372036854775808 ≤ y) (y1 : y ≤ 9223372036854775807) (m0 : -9223372036854775808 ≤ m) (m1 : m ≤ 9223372036854775807) (k0 : -9223372036854775808 ≤ k) (k1 : k ≤ 9223372036854775807) (w : World) (hM : Met2 w) :
    Calls Tryz.prog 13 #[.int .i64 y, .int .i64 m, .int .i64 k] w fun e w' => e = .returned (.bool true) ∧ Gr w w' := by
  have HB := Lib.hid (begun6_calls w hM)
  obtain ⟨R, hR1, hR2, hR0, hR3, t0, t1⟩ := mod_two y 250 (by decide)
  obtain ⟨M, hM1, hM2, hM0, hM3, s0, s1⟩ := mod_two m 12 (by decide)
  have hkb := tmod_bd k 100 (by decide)
  obtain ⟨K, hK⟩ : ∃ K, k.tmod 100 = K := ⟨_, rfl⟩
  rw [hK] at hkb
  have u0 := hkb.1
  have u1 := hkb.2
  have hA := endN_day (1910 + R) (1 + M) (by omega) (by omega) (by omega) (by omega)
  have he := fun w => end_calls (1910 + R) (1 + M) (by omega) (by omega) w
  simp only [ofD_day hA, ofE_day hA] at he
  have hY : 1901 ≤ monY (1910 + R) (1 + M) K ∧ monY (1910 + R) (1 + M) K ≤ 2170 := by unfold monY; omega
  have hMm := mon_bd (1910 + R) (1 + M) K
  have ha := fun w => madd_calls _ _ _ _ K true hA (by omega) (by omega) w
  rw [monD_end] at ha
  have hBd := endN_day (monY (1910 + R) (1 + M) K) (monM (1910 + R) (1 + M) K) (by omega) (by omega) hMm.1 hMm.2
  simp only [ofD_day hBd, ofE_day hBd] at ha
  have hc := fun w => civil_calls _ _ _ _ hBd w
  have he2 := fun w => end_calls (monY (1910 + R) (1 + M) K) (monM (1910 + R) (1 + M) K) (by omega) (by omega) w
  simp only [ofD_day hBd, ofE_day hBd] at he2
  have hl1 := fun w => last_calls _ _ _ _ hA w
  rw [decide_eq_true rfl] at hl1
  have hl2 := fun w => last_calls _ _ _ _ hBd w
  rw [decide_eq_true rfl] at hl2
  have hbt := fun w => between_calls _ _ _ _ _ _ _ _ hA hBd w
  rw [mon_diff] at hbt
  have hlp := lenM_pos (monY (1910 + R) (1 + M) K) (monM (1910 + R) (1 + M) K) hMm.1 hMm.2
  have hB1 : IsDay (endN (monY (1910 + R) (1 + M) K) (monM (1910 + R) (1 + M) K) - 1) (monY (1910 + R) (1 + M) K) (monM (1910 + R) (1 + M) K) (lenM (monY (1910 + R) (1 + M) K) (monM (1910 + R) (1 + M) K) - 1) :=
    ⟨by omega, by omega, hMm.1, hMm.2, by omega, by omega, by unfold endN dayN; omega⟩
  have hl3 := fun w => last_calls _ _ _ _ hB1 w
  rw [decide_eq_false (by omega)] at hl3
  have hbr := isDay_range hBd
  generalize lenM (monY (1910 + R) (1 + M) K) (monM (1910 + R) (1 + M) K) = L at *
  generalize endN (monY (1910 + R) (1 + M) K) (monM (1910 + R) (1 + M) K) = E2 at *
  generalize monY (1910 + R) (1 + M) K = Y2 at *
  generalize monM (1910 + R) (1 + M) K = M2 at *
  generalize endN (1910 + R) (1 + M) = E1 at *
  have HE := Lib.hid he
  have HA := Lib.hid ha
  have HC := Lib.hid hc
  have HE2 := Lib.hid he2
  have HL1 := Lib.hid hl1
  have HL2 := Lib.hid hl2
  have HL3 := Lib.hid hl3
  have HBT := Lib.hid hbt
  clear he ha hc he2 hl1 hl2 hl3 hbt hA hBd hB1 hM hlp hkb
  go_enter Tryz.func13, Tryz.ntmps13
  go_wp2_with (first | (go_at_call 16; (with_reducible refine HB.out.mono ?_); rintro ev w1 ⟨rfl, hg1⟩) | (go_at_call 33; (with_reducible refine (HE.out _).mono ?_); rintro ev w2 ⟨rfl, hg2⟩) | (go_at_call 31; (with_reducible refine (HA.out _).mono ?_); rintro ev w3 ⟨rfl, hg3⟩) | (go_at_call 17; (with_reducible refine (HC.out _).mono ?_); rintro ev w4 ⟨rfl, hg4⟩))
  have hga : Gr w4 (w4.alloc (.cells #[.int .i64 Y2, .int .i64 M2, .int .i64 L] 24)) := (Gr.rf w4).alloc (Nat.le_refl _) _
  go_wp2_with (first | (go_at_call 33; (with_reducible refine (HE2.out _).mono ?_); rintro ev w5 ⟨rfl, hg5⟩))
  go_wp2_with (first | (go_at_call 35; (with_reducible refine (HL1.out _).mono ?_); rintro ev w6 ⟨rfl, hg6⟩))
  go_wp2_with (first | (go_at_call 35; (with_reducible refine (HL2.out _).mono ?_); rintro ev w7 ⟨rfl, hg7⟩) | (go_at_call 37; (with_reducible refine (HBT.out _).mono ?_); rintro ev w8 ⟨rfl, hg8⟩))
  go_wp2_with (first | (go_at_call 35; (with_reducible refine (HL3.out _).mono ?_); rintro ev w9 ⟨rfl, hg9⟩))
  go_ret
  exact ⟨by first | rfl | simp, ((hg1.tr hg2).tr (hg3.tr hg4)).tr (hga.tr ((hg5.tr hg6).tr (hg7.tr (hg8.tr hg9))))⟩
end Go.Proofs.YtgejadnfeeoknaaGreatDoor
