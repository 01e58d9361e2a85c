/- Layer 6: 'Easter of each year: a Sunday, from March 22 to April 25', walked. -/
import Derived.Test.YtgejadnfeeoknaaGreatDoorMa
import Derived.Test.YtgejadnfeeoknaaGreatDoorLc
namespace Go.Proofs.YtgejadnfeeoknaaGreatDoor
open Go.RowKit Go.Extern.Stop Go.Stop Go.Extern
set_option linter.unusedVariables false
set_option linter.unusedSimpArgs false

set_option maxRecDepth 100000 in
set_option maxHeartbeats 1000000 in
theorem easterR_calls (y : Int) (h0 : 1900 ≤ y) (h1 : y ≤ 2199) (w : World) :
    Calls Tryz.prog 27 #[.int .i64 y] w fun e w' => e = .returned (.int .i64 (eastN y)) ∧ Gr w w' := by
  have hO := fun w => refOf_calls y (eastAt y / 31) (eastAt y % 31 + 1) w
  simp only [ofD_day (eastN_day y h0 h1), decide_eq_true (day_okC (eastN_day y h0 h1)).1] at hO
  generalize eastN y = D at hO ⊢
  simp only [eastAt, eastM, eastL, eastH, show y % 100 % 4 = y % 4 by omega] at hO
  have HO := Lib.hid hO
  clear hO
  go_enter Tryz.func27, Tryz.ntmps27
  go_wp2_with (go_at_call 34; (with_reducible refine (HO.out _).mono ?_); rintro ev w1 ⟨rfl, hg1⟩)
  go_ret
  exact ⟨rfl, hg1⟩
set_option maxRecDepth 100000 in
set_option maxHeartbeats 4000000 in
theorem easterAll_calls (y : Int) (y0 : -9223372036854775808 ≤ y) (y1 : y ≤ 9223372036854775807) (w : World) (hM : Met2 w) :
    Calls Tryz.prog 5 #[.int .i64 y] w fun e w' => e = .returned (.bool true) ∧ Gr w w' := by
  have HB := Lib.hid (begun6_calls w hM)
  have HM := Lib.hid hM
  obtain ⟨R, hR1, hR2, hR0, hR3, t0, t1⟩ := mod_two y 340 (by decide)
  clear hM
  by_cases hlo : R < 20 ∨ 319 < R
  · have HS := Lib.hid (fun w => sunday_no (1880 + R) (by omega) w)
    rcases hlo with hlo | hlo
    · have b1 : decide (1880 + R < 1900) = true := decide_eq_true (by omega)
      go_enter Tryz.func5, Tryz.ntmps5
      go_wp2_with (first | (go_at_call 16; (with_reducible refine HB.out.mono ?_); rintro ev w1 ⟨rfl, hg1⟩) | (go_at_call 26; (with_reducible refine (HS.out _).mono ?_); rintro ev w2 ⟨rfl, rfl⟩))
      have HD := Lib.hid (sameDate_calls w1 (HM.out.keep hg1).1)
      go_wp2_with (first | (go_at_call 18; (with_reducible refine HD.out.mono ?_); rintro ev w3 ⟨rfl, hg3⟩))
      go_ret
      exact ⟨by first | rfl | simp, hg1.tr hg3⟩
    · have b1 : decide (1880 + R < 1900) = false := decide_eq_false (by omega)
      have b2 : decide (2199 < 1880 + R) = true := decide_eq_true (by omega)
      go_enter Tryz.func5, Tryz.ntmps5
      go_wp2_with (first | (go_at_call 16; (with_reducible refine HB.out.mono ?_); rintro ev w1 ⟨rfl, hg1⟩) | (go_at_call 26; (with_reducible refine (HS.out _).mono ?_); rintro ev w2 ⟨rfl, rfl⟩))
      have HD := Lib.hid (sameDate_calls w1 (HM.out.keep hg1).1)
      go_wp2_with (first | (go_at_call 18; (with_reducible refine HD.out.mono ?_); rintro ev w3 ⟨rfl, hg3⟩))
      go_ret
      exact ⟨by first | rfl | simp, hg1.tr hg3⟩
  · have b1 : decide (1880 + R < 1900) = false := decide_eq_false (by omega)
    have b2 : decide (2199 < 1880 + R) = false := decide_eq_false (by omega)
    have hs := fun w => sunday_calls (1880 + R) (by omega) (by omega) w
    have he := fun w => easterR_calls (1880 + R) (by omega) (by omega) w
    have hday := eastN_day (1880 + R) (by omega) (by omega)
    have hr := isDay_range hday
    have hc := fun w => civil_calls _ _ _ _ hday w
    have hw := fun w => weekday_calls (eastN (1880 + R)) w hr.1 hr.2
    rw [eastN_sunday (1880 + R) (by omega) (by omega)] at hw
    have hok := (east_ok (1880 + R) (by omega) (by omega)).1
    generalize eastN (1880 + R) = D at hs he hc hw hr
    generalize eastAt (1880 + R) / 31 = mo at hc hok
    generalize eastAt (1880 + R) % 31 + 1 = dd at hc hok
    have HS := Lib.hid hs
    have HE := Lib.hid he
    have HC := Lib.hid hc
    have HW := Lib.hid hw
    clear hs he hc hw hday
    rcases hok with ⟨rfl, h22⟩ | ⟨rfl, h25⟩
    · have b3 : decide (22 ≤ dd) = true := decide_eq_true (by omega)
      go_enter Tryz.func5, Tryz.ntmps5
      go_wp2_with (first | (go_at_call 16; (with_reducible refine HB.out.mono ?_); rintro ev w1 ⟨rfl, hg1⟩) | (go_at_call 26; (with_reducible refine (HS.out _).mono ?_); rintro ev w2 ⟨rfl, hg2⟩) | (go_at_call 17; (with_reducible refine (HC.out _).mono ?_); rintro ev w3 ⟨rfl, hg3⟩))
      have hb := heap_alloc_new w3 (.cells #[.int .i64 (1880 + R), .int .i64 3, .int .i64 dd] 24)
      have HG4 := Lib.hid ((hg1.tr (hg2.tr hg3)).tr ((Gr.rf w3).alloc (Nat.le_refl _) (.cells #[.int .i64 (1880 + R), .int .i64 3, .int .i64 dd] 24)))
      generalize w3.alloc (.cells #[.int .i64 (1880 + R), .int .i64 3, .int .i64 dd] 24) = w4 at hb HG4 ⊢
      generalize w3.heap.size = cb at hb ⊢
      have HCB := Lib.hid hb
      clear hb hg1 hg2 hg3
      go_wp2_with fail
      refine (HE.out _).mono ?_
      rintro ev w5 ⟨rfl, hg5⟩
      have hb5 := hg5.heap HCB.out
      have c0 := heap_cell hb5 0
      have c1 := heap_cell hb5 1
      have c2 := heap_cell hb5 2
      have HG5 := Lib.hid (HG4.out.tr hg5)
      clear hb5 hg5
      go_wp2_with (first | (go_at_call 19; (with_reducible refine (HW.out _).mono ?_); rintro ev w6 ⟨rfl, rfl⟩))
      go_ret
      exact ⟨by first | rfl | simp, HG5.out⟩
    · have b3 : decide (dd ≤ 25) = true := decide_eq_true (by omega)
      go_enter Tryz.func5, Tryz.ntmps5
      go_wp2_with (first | (go_at_call 16; (with_reducible refine HB.out.mono ?_); rintro ev w1 ⟨rfl, hg1⟩) | (go_at_call 26; (with_reducible refine (HS.out _).mono ?_); rintro ev w2 ⟨rfl, hg2⟩) | (go_at_call 17; (with_reducible refine (HC.out _).mono ?_); rintro ev w3 ⟨rfl, hg3⟩))
      have hb := heap_alloc_new w3 (.cells #[.int .i64 (1880 + R), .int .i64 4, .int .i64 dd] 24)
      have HG4 := Lib.hid ((hg1.tr (hg2.tr hg3)).tr ((Gr.rf w3).alloc (Nat.le_refl _) (.cells #[.int .i64 (1880 + R), .int .i64 4, .int .i64 dd] 24)))
      generalize w3.alloc (.cells #[.int .i64 (1880 + R), .int .i64 4, .int .i64 dd] 24) = w4 at hb HG4 ⊢
      generalize w3.heap.size = cb at hb ⊢
      have HCB := Lib.hid hb
      clear hb hg1 hg2 hg3
      go_wp2_with fail
      refine (HE.out _).mono ?_
      rintro ev w5 ⟨rfl, hg5⟩
      have hb5 := hg5.heap HCB.out
      have c0 := heap_cell hb5 0
      have c1 := heap_cell hb5 1
      have c2 := heap_cell hb5 2
      have HG5 := Lib.hid (HG4.out.tr hg5)
      clear hb5 hg5
      go_wp2_with (first | (go_at_call 19; (with_reducible refine (HW.out _).mono ?_); rintro ev w6 ⟨rfl, rfl⟩))
      go_ret
      exact ⟨by first | rfl | simp, HG5.out⟩
end Go.Proofs.YtgejadnfeeoknaaGreatDoor
