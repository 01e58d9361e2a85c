/- Layer 6: 'what is no day is told; months' lengths; leap years', walked. -/
import Derived.Test.YtgejadnfeeoknaaGreatDoorHi
namespace Go.Proofs.YtgejadnfeeoknaaGreatDoor
open Go.RowKit Go.Extern.Stop Go.Stop Go.Extern
set_option linter.unusedVariables false
set_option linter.unusedSimpArgs false

theorem and4095 (y : Int) : ∃ Y, bits .and .i64 y 4095 = Y ∧ 0 ≤ Y ∧ Y ≤ 4095 := ⟨_, rfl, (and_bd y 4095 (by decide)).1, (and_bd y 4095 (by decide)).2⟩
set_option maxRecDepth 100000 in
set_option maxHeartbeats 4000000 in
theorem dateEdge_calls (n y m : Int) (n0 : -9223372036854775808 ≤ n) (n1 : n ≤ 9223372036854775807) (y0 : -9223372036854775808 ≤ y) (y1 : y ≤ 9223372036854775807) (m0 : -9223372036854775808 ≤ m) (m1 : m ≤ 9223372036854775807) (w : World) (hM : Met2 w) :
    Calls Tryz.prog 3 #[.int .i64 n, .int .i64 y, .int .i64 m] w fun e w' => e = .returned (.bool true) ∧ Gr w w' := by
  have HB := Lib.hid (begun6_calls w hM)
  have HM := Lib.hid hM
  obtain ⟨Y, hY, hY0, hY1⟩ := and4095 y
  have hL1 := fun w => leap_calls Y hY0 (by omega) w
  have hL2 := fun w => leapR_calls Y hY0 (by omega) w
  have hL3 := fun w => length_calls Y m hY0 (by omega) w
  have hL4 := fun w => lengthR_calls Y m hY0 (by omega) w
  generalize leapB Y = lb at hL1 hL2
  generalize lenM Y m = lm at hL3 hL4
  have HL1 := Lib.hid hL1
  have HL2 := Lib.hid hL2
  have HL3 := Lib.hid hL3
  have HL4 := Lib.hid hL4
  clear hL1 hL2 hL3 hL4 hM
  by_cases h0 : 0 ≤ n
  · by_cases h1 : n ≤ 109572
    · have HC := Lib.hid (fun w => civil_no (-n - 1) w (by omega))
      have HWD := Lib.hid (fun w => weekday_no (-n - 1) w (by omega))
      have HTX := Lib.hid (fun w => text_no (-n - 1) w (by omega))
      go_enter Tryz.func3, Tryz.ntmps3
      go_wp2_with (go_at_call 16; (with_reducible refine HB.out.mono ?_); rintro ev w1 ⟨rfl, hg1⟩)
      go_wp2_with (go_at_call 17; (with_reducible refine (HC.out _).mono ?_); rintro ev w2 ⟨rfl, hg2⟩)
      have hb := heap_alloc_new w2 (.cells #[.int .i64 0, .int .i64 0, .int .i64 0] 24)
      have HG3 := Lib.hid ((hg1.tr hg2).tr ((Gr.rf w2).alloc (Nat.le_refl _) (.cells #[.int .i64 0, .int .i64 0, .int .i64 0] 24)))
      generalize w2.alloc (.cells #[.int .i64 0, .int .i64 0, .int .i64 0] 24) = w3 at hb HG3 ⊢
      generalize w2.heap.size = cb at hb ⊢
      have HCB := Lib.hid hb
      clear hb hg1 hg2
      have HS := Lib.hid (sameDate_calls w3 (HM.out.keep HG3.out).1)
      go_wp2_with fail
      refine HS.out.mono ?_
      rintro ev w4 ⟨rfl, hg4⟩
      have hb4 := hg4.heap HCB.out
      have c0 := heap_cell hb4 0
      have c1 := heap_cell hb4 1
      have c2 := heap_cell hb4 2
      have HG4 := Lib.hid (HG3.out.tr hg4)
      clear hb4 hg4
      go_wp2_with (first | (go_at_call 19; (with_reducible refine (HWD.out _).mono ?_); rintro ev w5 ⟨rfl, rfl⟩) | (go_at_call 20; (with_reducible refine (HTX.out _).mono ?_); rintro ev w5 ⟨rfl, hg5⟩) | (go_at_call 21; (with_reducible refine (HL1.out _).mono ?_); rintro ev w6 ⟨rfl, rfl⟩) | (go_at_call 22; (with_reducible refine (HL2.out _).mono ?_); rintro ev w6 ⟨rfl, rfl⟩) | (go_at_call 23; (with_reducible refine (HL3.out _).mono ?_); rintro ev w6 ⟨rfl, rfl⟩) | (go_at_call 24; (with_reducible refine (HL4.out _).mono ?_); rintro ev w6 ⟨rfl, rfl⟩))
      go_ret
      exact ⟨rfl, HG4.out.tr hg5⟩
    · have d1 : decide (n ≤ 109572) = false := decide_eq_false h1
      have HC := Lib.hid (fun w => civil_no (n) w (by omega))
      have HWD := Lib.hid (fun w => weekday_no (n) w (by omega))
      have HTX := Lib.hid (fun w => text_no (n) w (by omega))
      go_enter Tryz.func3, Tryz.ntmps3
      go_wp2_with (go_at_call 16; (with_reducible refine HB.out.mono ?_); rintro ev w1 ⟨rfl, hg1⟩)
      go_wp2_with (go_at_call 17; (with_reducible refine (HC.out _).mono ?_); rintro ev w2 ⟨rfl, hg2⟩)
      have hb := heap_alloc_new w2 (.cells #[.int .i64 0, .int .i64 0, .int .i64 0] 24)
      have HG3 := Lib.hid ((hg1.tr hg2).tr ((Gr.rf w2).alloc (Nat.le_refl _) (.cells #[.int .i64 0, .int .i64 0, .int .i64 0] 24)))
      generalize w2.alloc (.cells #[.int .i64 0, .int .i64 0, .int .i64 0] 24) = w3 at hb HG3 ⊢
      generalize w2.heap.size = cb at hb ⊢
      have HCB := Lib.hid hb
      clear hb hg1 hg2
      have HS := Lib.hid (sameDate_calls w3 (HM.out.keep HG3.out).1)
      go_wp2_with fail
      refine HS.out.mono ?_
      rintro ev w4 ⟨rfl, hg4⟩
      have hb4 := hg4.heap HCB.out
      have c0 := heap_cell hb4 0
      have c1 := heap_cell hb4 1
      have c2 := heap_cell hb4 2
      have HG4 := Lib.hid (HG3.out.tr hg4)
      clear hb4 hg4
      go_wp2_with (first | (go_at_call 19; (with_reducible refine (HWD.out _).mono ?_); rintro ev w5 ⟨rfl, rfl⟩) | (go_at_call 20; (with_reducible refine (HTX.out _).mono ?_); rintro ev w5 ⟨rfl, hg5⟩) | (go_at_call 21; (with_reducible refine (HL1.out _).mono ?_); rintro ev w6 ⟨rfl, rfl⟩) | (go_at_call 22; (with_reducible refine (HL2.out _).mono ?_); rintro ev w6 ⟨rfl, rfl⟩) | (go_at_call 23; (with_reducible refine (HL3.out _).mono ?_); rintro ev w6 ⟨rfl, rfl⟩) | (go_at_call 24; (with_reducible refine (HL4.out _).mono ?_); rintro ev w6 ⟨rfl, rfl⟩))
      go_ret
      exact ⟨rfl, HG4.out.tr hg5⟩
  · have d0 : decide (0 ≤ n) = false := decide_eq_false h0
    have HC := Lib.hid (fun w => civil_no (n) w (by omega))
    have HWD := Lib.hid (fun w => weekday_no (n) w (by omega))
    have HTX := Lib.hid (fun w => text_no (n) w (by omega))
    go_enter Tryz.func3, Tryz.ntmps3
    go_wp2_with (go_at_call 16; (with_reducible refine HB.out.mono ?_); rintro ev w1 ⟨rfl, hg1⟩)
    go_wp2_with (go_at_call 17; (with_reducible refine (HC.out _).mono ?_); rintro ev w2 ⟨rfl, hg2⟩)
    have hb := heap_alloc_new w2 (.cells #[.int .i64 0, .int .i64 0, .int .i64 0] 24)
    have HG3 := Lib.hid ((hg1.tr hg2).tr ((Gr.rf w2).alloc (Nat.le_refl _) (.cells #[.int .i64 0, .int .i64 0, .int .i64 0] 24)))
    generalize w2.alloc (.cells #[.int .i64 0, .int .i64 0, .int .i64 0] 24) = w3 at hb HG3 ⊢
    generalize w2.heap.size = cb at hb ⊢
    have HCB := Lib.hid hb
    clear hb hg1 hg2
    have HS := Lib.hid (sameDate_calls w3 (HM.out.keep HG3.out).1)
    go_wp2_with fail
    refine HS.out.mono ?_
    rintro ev w4 ⟨rfl, hg4⟩
    have hb4 := hg4.heap HCB.out
    have c0 := heap_cell hb4 0
    have c1 := heap_cell hb4 1
    have c2 := heap_cell hb4 2
    have HG4 := Lib.hid (HG3.out.tr hg4)
    clear hb4 hg4
    go_wp2_with (first | (go_at_call 19; (with_reducible refine (HWD.out _).mono ?_); rintro ev w5 ⟨rfl, rfl⟩) | (go_at_call 20; (with_reducible refine (HTX.out _).mono ?_); rintro ev w5 ⟨rfl, hg5⟩) | (go_at_call 21; (with_reducible refine (HL1.out _).mono ?_); rintro ev w6 ⟨rfl, rfl⟩) | (go_at_call 22; (with_reducible refine (HL2.out _).mono ?_); rintro ev w6 ⟨rfl, rfl⟩) | (go_at_call 23; (with_reducible refine (HL3.out _).mono ?_); rintro ev w6 ⟨rfl, rfl⟩) | (go_at_call 24; (with_reducible refine (HL4.out _).mono ?_); rintro ev w6 ⟨rfl, rfl⟩))
    go_ret
    exact ⟨rfl, HG4.out.tr hg5⟩
end Go.Proofs.YtgejadnfeeoknaaGreatDoor
