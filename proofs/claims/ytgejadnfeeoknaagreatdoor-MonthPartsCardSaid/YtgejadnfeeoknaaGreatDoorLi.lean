/- Layer 6: 'a month on, and another, is two on, but for a day that its month has not', walked. -/
import Derived.Test.YtgejadnfeeoknaaGreatDoorLc
import Derived.Deep.RegionHeld3
import Derived.StillTailTactics
namespace Go.Proofs.YtgejadnfeeoknaaGreatDoor
open Go.RowKit Go.Extern.Stop Go.Stop Go.Extern
set_option linter.unusedVariables false
set_option linter.unusedSimpArgs false

theorem sameNil_calls (w : World) (hg : Has w) : Calls Tryz.prog 18 #[.nilIface, .int .i64 4] w fun ev w' => ev = .returned (.bool false) ∧ Gr w w' := same6_calls _ _ 4 w hg .nil
set_option maxRecDepth 100000 in
set_option maxHeartbeats 8000000 in
theorem monthParts_core (n a b d y m q A B : Int) (w : World) (hM : Met2 w) (hd : n % 109573 = d) (h : IsDay d y m q) (hA : a.tmod 300 = A) (hB : b.tmod 300 = B) (A0 : -300 < A) (A1 : A < 300) (B0 : -300 < B) (B1 : B < 300) :
    Calls Tryz.prog 12 #[.int .i64 n, .int .i64 a, .int .i64 b] w fun e w' => e = .returned (.bool true) ∧ Gr w w' := by
  have HBG := Lib.hid (begun6_calls w hM)
  have HM := Lib.hid hM
  have hdy := fun w => day6_calls n w
  rw [hd] at hdy
  have HDY := Lib.hid hdy
  have ha := fun w => madd_calls d y m q A true h (by omega) (by omega) w
  have hz := fun w => madd_calls d y m q (A + B) true h (by omega) (by omega) w
  clear hdy hd hM
  by_cases hok : OkC (monY y m A) (monM y m A) (monD y m q A true)
  · have hX := okC_day hok
    simp only [ofD_ok hok, ofE_ok hok] at ha
    have hy := fun w => madd_calls _ _ _ _ B true hX (by omega) (by omega) w
    have hth := mon_then y m A B
    rw [hth.1, hth.2] at hy
    have hsm : q ≤ 27 → monD (monY y m A) (monM y m A) (monD y m q A true) B true = monD y m q (A + B) true := by
      intro h27
      have e1 := monD_small y m q A true h.2.2.1 h.2.2.2.1 h27
      rw [e1, monD_small y m q (A + B) true h.2.2.1 h.2.2.2.1 h27]
      exact monD_small _ _ _ _ true (mon_bd y m A).1 (mon_bd y m A).2 h27
    have hcd := fun w => civil_calls d y m q h w
    have HA := Lib.hid ha
    have HCD := Lib.hid hcd
    clear ha hcd hth hok
    generalize dayN (monY y m A) (monM y m A) (monD y m q A true) = X at *
    generalize monD (monY y m A) (monM y m A) (monD y m q A true) B true = D1 at *
    generalize monD y m q (A + B) true = D2 at *
    generalize monY y m (A + B) = Y2 at *
    generalize monM y m (A + B) = M2 at *
    by_cases h1 : OkC Y2 M2 D1
    · by_cases h2 : OkC Y2 M2 D2
      · have hb := fun w => between_calls _ _ _ _ _ _ _ _ (okC_day h1) (okC_day h2) w
        rw [show (Y2 - Y2) * 12 + M2 - M2 = 0 by omega] at hb
        have he : 27 < q ∨ dayN Y2 M2 D1 = dayN Y2 M2 D2 := by
          by_cases hq : q ≤ 27
          · exact .inr (by rw [hsm hq])
          · exact .inl (by omega)
        simp only [ofD_ok h1, ofE_ok h1] at hy
        simp only [ofD_ok h2, ofE_ok h2] at hz
        generalize dayN Y2 M2 D1 = P at *
        generalize dayN Y2 M2 D2 = Q at *
        have HY := Lib.hid hy
        have HZ := Lib.hid hz
        have HB := Lib.hid hb
        have HE := Lib.hid he
        clear hy hz hb hsm h1 h2 h hX he
        by_cases hq : 27 < q
        · have bq : decide (27 < q) = true := decide_eq_true hq
          go_enter Tryz.func12, Tryz.ntmps12
          go_wp2_with (first | (go_at_call 16; (with_reducible refine HBG.out.mono ?_); rintro ev w1 ⟨rfl, hg1⟩) | (go_at_call 25; (with_reducible refine (HDY.out _).mono ?_); rintro ev w2 ⟨rfl, rfl⟩) | (go_at_call 31; (with_reducible refine (HA.out _).mono ?_); rintro ev w2 ⟨rfl, hg2⟩))
          go_wp2_with (first | (go_at_call 31; (with_reducible refine (HY.out _).mono ?_); rintro ev w3 ⟨rfl, hg3⟩) | (go_at_call 31; (with_reducible refine (HZ.out _).mono ?_); rintro ev w4 ⟨rfl, hg4⟩))
          go_wp2_with (first | (go_at_call 17; (with_reducible refine (HCD.out _).mono ?_); rintro ev w5 ⟨rfl, hg5⟩))
          have hga : Gr w5 (w5.alloc (.cells #[.int .i64 y, .int .i64 m, .int .i64 q] 24)) := (Gr.rf w5).alloc (Nat.le_refl _) _
          have hblk := heap_alloc_new w5 (.cells #[.int .i64 y, .int .i64 m, .int .i64 q] 24)
          have HG5 := Lib.hid (((hg1.tr hg2).tr (hg3.tr hg4)).tr (hg5.tr hga))
          generalize w5.alloc (.cells #[.int .i64 y, .int .i64 m, .int .i64 q] 24) = W5 at hblk hga HG5 ⊢
          generalize w5.heap.size = bb at hblk ⊢
          have HBK := Lib.hid hblk
          clear hblk hga hg1 hg2 hg3 hg4 hg5
          go_wp2_with fail
          refine (HB.out _).mono ?_
          rintro ev w6 ⟨rfl, hg6⟩
          have c2 := heap_cell (hg6.heap HBK.out) 2
          have HG6 := Lib.hid (HG5.out.tr hg6)
          clear hg6
          go_wp2
          go_ret
          exact ⟨by first | rfl | simp, HG6.out⟩
        · have bq : decide (27 < q) = false := decide_eq_false hq
          have hpq : P = Q := HE.out.elim (fun h => absurd h hq) id
          subst hpq
          go_enter Tryz.func12, Tryz.ntmps12
          go_wp2_with (first | (go_at_call 16; (with_reducible refine HBG.out.mono ?_); rintro ev w1 ⟨rfl, hg1⟩) | (go_at_call 25; (with_reducible refine (HDY.out _).mono ?_); rintro ev w2 ⟨rfl, rfl⟩) | (go_at_call 31; (with_reducible refine (HA.out _).mono ?_); rintro ev w2 ⟨rfl, hg2⟩))
          go_wp2_with (first | (go_at_call 31; (with_reducible refine (HY.out _).mono ?_); rintro ev w3 ⟨rfl, hg3⟩) | (go_at_call 31; (with_reducible refine (HZ.out _).mono ?_); rintro ev w4 ⟨rfl, hg4⟩))
          go_wp2_with (first | (go_at_call 17; (with_reducible refine (HCD.out _).mono ?_); rintro ev w5 ⟨rfl, hg5⟩))
          have hga : Gr w5 (w5.alloc (.cells #[.int .i64 y, .int .i64 m, .int .i64 q] 24)) := (Gr.rf w5).alloc (Nat.le_refl _) _
          have hblk := heap_alloc_new w5 (.cells #[.int .i64 y, .int .i64 m, .int .i64 q] 24)
          have HG5 := Lib.hid (((hg1.tr hg2).tr (hg3.tr hg4)).tr (hg5.tr hga))
          generalize w5.alloc (.cells #[.int .i64 y, .int .i64 m, .int .i64 q] 24) = W5 at hblk hga HG5 ⊢
          generalize w5.heap.size = bb at hblk ⊢
          have HBK := Lib.hid hblk
          clear hblk hga hg1 hg2 hg3 hg4 hg5
          go_wp2_with fail
          refine (HB.out _).mono ?_
          rintro ev w6 ⟨rfl, hg6⟩
          have c2 := heap_cell (hg6.heap HBK.out) 2
          have HG6 := Lib.hid (HG5.out.tr hg6)
          clear hg6
          go_wp2
          go_ret
          exact ⟨by first | rfl | simp, HG6.out⟩
      · simp only [ofD_ok h1, ofE_ok h1] at hy
        simp only [ofD_no h2, ofE_no h2] at hz
        generalize dayN Y2 M2 D1 = P at *
        have HY := Lib.hid hy
        have HZ := Lib.hid hz
        clear hy hz hsm h1 h2 h hX
        go_enter Tryz.func12, Tryz.ntmps12
        go_wp2_with (first | (go_at_call 16; (with_reducible refine HBG.out.mono ?_); rintro ev w1 ⟨rfl, hg1⟩) | (go_at_call 25; (with_reducible refine (HDY.out _).mono ?_); rintro ev w2 ⟨rfl, rfl⟩) | (go_at_call 31; (with_reducible refine (HA.out _).mono ?_); rintro ev w2 ⟨rfl, hg2⟩))
        go_wp2_with (first | (go_at_call 31; (with_reducible refine (HY.out _).mono ?_); rintro ev w3 ⟨rfl, hg3⟩) | (go_at_call 31; (with_reducible refine (HZ.out _).mono ?_); rintro ev w4 ⟨rfl, hg4⟩))
        have HG4 := Lib.hid ((hg1.tr hg2).tr (hg3.tr hg4))
        have HS1 := Lib.hid (fun w' (hg : Gr w4 w') => sameDate_calls w' (HM.out.keep (HG4.out.tr hg)).1)
        have HS2 := Lib.hid (fun w' (hg : Gr w4 w') => sameNil_calls w' (HM.out.keep (HG4.out.tr hg)).1)
        clear hg1 hg2 hg3 hg4
        go_region_held3 (fun w' => True) (trivial)
          (first
            | (go_at_call 18; (with_reducible refine (HS1.out _ ?hh).mono ?_); (case hh => first | exact Gr.rf _ | exact grOne (Gr.rf _) | assumption | exact grOne (by assumption) | exact (grOne (Gr.rf _)).tr (by assumption)); rintro ev w5 ⟨rfl, hg5⟩)
            | (go_at_call 18; (with_reducible refine (HS2.out _ ?hh).mono ?_); (case hh => first | exact Gr.rf _ | exact grOne (Gr.rf _) | assumption | exact grOne (by assumption) | exact (grOne (Gr.rf _)).tr (by assumption)); rintro ev w6 ⟨rfl, hg6⟩))
        go_wp2
        go_ret
        exact ⟨by first | rfl | simp, HG4.out.tr ((grOneL hg6).tr hg5)⟩
    · simp only [ofD_no h1, ofE_no h1] at hy
      have HY := Lib.hid hy
      clear hy
      by_cases h2 : OkC Y2 M2 D2
      · simp only [ofD_ok h2, ofE_ok h2] at hz
        generalize dayN Y2 M2 D2 = Q at *
        have HZ := Lib.hid hz
        clear hz hsm h1 h2 h hX
        go_enter Tryz.func12, Tryz.ntmps12
        go_wp2_with (first | (go_at_call 16; (with_reducible refine HBG.out.mono ?_); rintro ev w1 ⟨rfl, hg1⟩) | (go_at_call 25; (with_reducible refine (HDY.out _).mono ?_); rintro ev w2 ⟨rfl, rfl⟩) | (go_at_call 31; (with_reducible refine (HA.out _).mono ?_); rintro ev w2 ⟨rfl, hg2⟩))
        go_wp2_with (first | (go_at_call 31; (with_reducible refine (HY.out _).mono ?_); rintro ev w3 ⟨rfl, hg3⟩) | (go_at_call 31; (with_reducible refine (HZ.out _).mono ?_); rintro ev w4 ⟨rfl, hg4⟩))
        have HG4 := Lib.hid ((hg1.tr hg2).tr (hg3.tr hg4))
        have HS1 := Lib.hid (fun w' (hg : Gr w4 w') => sameDate_calls w' (HM.out.keep (HG4.out.tr hg)).1)
        clear hg1 hg2 hg3 hg4
        go_still_tail 7, (by kernel_rfl)
        go_wp2_with (go_at_call 18; (with_reducible refine (HS1.out _ ?hh).mono ?_); (case hh => first | exact Gr.rf _ | exact grOne (Gr.rf _) | assumption | exact grOne (by assumption)); rintro ev w5 ⟨rfl, hg5⟩)
        go_ret
        exact ⟨by first | rfl | simp, HG4.out.tr (grOneL hg5)⟩
      · simp only [ofD_no h2, ofE_no h2] at hz
        have HZ := Lib.hid hz
        clear hz hsm h1 h2 h hX
        go_enter Tryz.func12, Tryz.ntmps12
        go_wp2_with (first | (go_at_call 16; (with_reducible refine HBG.out.mono ?_); rintro ev w1 ⟨rfl, hg1⟩) | (go_at_call 25; (with_reducible refine (HDY.out _).mono ?_); rintro ev w2 ⟨rfl, rfl⟩) | (go_at_call 31; (with_reducible refine (HA.out _).mono ?_); rintro ev w2 ⟨rfl, hg2⟩))
        go_wp2_with (first | (go_at_call 31; (with_reducible refine (HY.out _).mono ?_); rintro ev w3 ⟨rfl, hg3⟩) | (go_at_call 31; (with_reducible refine (HZ.out _).mono ?_); rintro ev w4 ⟨rfl, hg4⟩))
        have HG4 := Lib.hid ((hg1.tr hg2).tr (hg3.tr hg4))
        clear hg1 hg2 hg3 hg4
        go_quiet (fail)
        go_wp2
        go_ret
        exact ⟨by first | rfl | simp, grDrew HG4.out _⟩
  · simp only [ofD_no hok, ofE_no hok] at ha
    have HA := Lib.hid ha
    clear ha hok h hz
    go_enter Tryz.func12, Tryz.ntmps12
    go_wp2_with (first | (go_at_call 16; (with_reducible refine HBG.out.mono ?_); rintro ev w1 ⟨rfl, hg1⟩) | (go_at_call 25; (with_reducible refine (HDY.out _).mono ?_); rintro ev w2 ⟨rfl, rfl⟩) | (go_at_call 31; (with_reducible refine (HA.out _).mono ?_); rintro ev w2 ⟨rfl, hg2⟩))
    have HS := Lib.hid (sameDate_calls w2 (HM.out.keep (hg1.tr hg2)).1)
    go_wp2_with (go_at_call 18; (with_reducible refine HS.out.mono ?_); rintro ev w3 ⟨rfl, hg3⟩)
    go_ret
    exact ⟨by first | rfl | simp, (hg1.tr hg2).tr hg3⟩
theorem monthParts_calls (n a b : Int) (n0 : -9223372036854775808 ≤ n) (n1 : n ≤ 9223372036854775807) (a0 : -9223372036854775808 ≤ a) (a1 : a ≤ 9223372036854775807) (b0 : -9223372036854775808 ≤ b) (b1 : b ≤ 9223372036854775807) (w : World) (hM : Met2 w) :
    Calls Tryz.prog 12 #[.int .i64 n, .int .i64 a, .int .i64 b] w fun e w' => e = .returned (.bool true) ∧ Gr w w' := by
  have hb := day6_bd n
  obtain ⟨y, m, q, h⟩ := isDay_of (n % 109573) hb.1 hb.2
  have h1 := tmod_bd a 300 (by decide)
  have h2 := tmod_bd b 300 (by decide)
  exact monthParts_core n a b _ y m q _ _ w hM rfl h rfl rfl h1.1 h1.2 h2.1 h2.2
end Go.Proofs.YtgejadnfeeoknaaGreatDoor
