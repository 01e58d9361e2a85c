/- Layer 6: 'nothing', walked. -/
import Derived.Test.YtjgihjpckjdikaaGreatDoorKe
import Derived.Test.YtjgihjpckjdikaaGreatDoorHh
namespace Go.Proofs.YtjgihjpckjdikaaGreatDoor
open Go.RowKit Go.Extern.Stop Go.Stop Go.Extern
set_option linter.unusedVariables false
set_option linter.unusedSimpArgs false

theorem errF_calls (w : World) : Calls Tryz.prog 47 #[.int .i64 1] w fun e w' => e = .returned (.iface 97 (.int .i64 1)) ∧ w = w' := of_calls 1 (by decide) w
set_option maxRecDepth 100000 in
theorem part_none (a b s t f : Int) (w : World) : Calls Tryz.prog 32 #[.int .i64 0, .int .i64 a, .int .i64 b, .int .i64 s, .int .i64 t, .int .i64 f] w fun e w' => e = .returned (.tuple #[.pointer none, .iface 97 (.int .i64 1)]) ∧ w = w' := by
  have hm := fun w => cmay_calls 0 w
  rw [decide_eq_false (show ¬ ((1 : Int) ≤ 0 ∧ (0 : Int) ≤ 4) by omega)] at hm
  have HM := Lib.hid hm
  clear hm
  go_enter Tryz.func32, Tryz.ntmps32
  go_wp2_with (first | (go_at_call 68; (with_reducible refine (HM.out _).mono ?_); rintro ev w3 ⟨rfl, rfl⟩) | (go_at_call 47; (with_reducible refine (errF_calls _).mono ?_); rintro ev w3 ⟨rfl, rfl⟩))
  go_ret2
  exact ⟨rfl, rfl⟩
set_option maxRecDepth 100000 in
theorem between_none (w : World) : Calls Tryz.prog 39 #[.int .i64 (-1), .int .i64 5] w fun e w' => e = .returned (.int .i64 0) ∧ Gr w w' := by
  obtain ⟨y, m, q, h⟩ := isDay_of 5 (by decide) (by decide)
  have HC := Lib.hid (fun w => civil_no (-1) w (by omega))
  have HD := Lib.hid (fun w => civil_calls 5 y m q h w)
  clear h
  go_enter Tryz.func39, Tryz.ntmps39
  go_wp2_with ((go_at_call 17; (with_reducible refine (HC.out _).mono ?_); rintro ev w1 ⟨rfl, hg1⟩))
  have hga : Gr w (w1.alloc (.cells #[.int .i64 0, .int .i64 0, .int .i64 0] 23)) := hg1.tr ((Gr.rf w1).alloc (Nat.le_refl _) _)
  generalize w1.alloc (.cells #[.int .i64 0, .int .i64 0, .int .i64 0] 23) = W1 at hga ⊢
  have HGA := Lib.hid hga
  clear hga hg1
  go_wp2_with fail
  refine (HD.out _).mono ?_
  rintro ev w2 ⟨rfl, hg2⟩
  go_wp2
  go_ret
  exact ⟨rfl, (HGA.out.tr hg2).tr ((Gr.rf w2).alloc (Nat.le_refl _) _)⟩
set_option maxRecDepth 100000 in
theorem last_none (w : World) : Calls Tryz.prog 43 #[.int .i64 (-1)] w fun e w' => e = .returned (.bool false) ∧ Gr w w' := by
  have HC := Lib.hid (fun w => civil_no (-1) w (by omega))
  go_enter Tryz.func43, Tryz.ntmps43
  go_wp2_with (go_at_call 17; (refine (HC.out _).mono ?_); rintro ev w1 ⟨rfl, hg1⟩)
  have hga := Lib.hid (hg1.tr ((Gr.rf w1).alloc (Nat.le_refl _) (.cells #[.int .i64 0, .int .i64 0, .int .i64 0] 23)))
  go_quiet (fail)
  go_wp2
  go_ret
  exact ⟨rfl, grDrew hga.out _⟩
/-- No calendar. -/
def noS : Int → Bool := fun _ => false
theorem noCal (w : World) : CalAt w (.pointer none) noS := .inl ⟨rfl, rfl⟩
theorem noAdd : AddR noS 0 1 1 := .inr (.inl ⟨by decide, by decide, by decide, by decide +kernel⟩)
theorem noRoll {r : Int} (h : RollR noS 5 1 r) : r = 7 := by
  rcases h with ⟨h, _⟩ | ⟨h, h2⟩ | ⟨h, h2⟩ | ⟨h, _⟩ | ⟨h, _⟩
  · exact absurd h (by decide)
  · exact upR_uniq h2 (.inr ⟨by decide, by decide, by decide, by decide +kernel⟩)
  · exact absurd h (by decide)
  · exact absurd h (by decide)
  · exact absurd h (by decide)
theorem dayZ : IsDay 109572 2199 12 31 := by unfold IsDay; decide +kernel
theorem textZ_calls (w : World) (hT : PowTab w) : Calls Tryz.prog 44 #[.int .i64 109572] w fun e w' => e = .returned (.string ⟨#[50, 49, 57, 57, 45, 49, 50, 45, 51, 49]⟩) ∧ Gr w w' := by
  have h := dtext_calls 109572 2199 12 31 dayZ w hT
  have e : dayL (2199 : Int).toNat (12 : Int).toNat (31 : Int).toNat = [50, 49, 57, 57, 45, 49, 50, 45, 51, 49] := by
    show pad 4 2199 ++ 45 :: pad 2 12 ++ 45 :: pad 2 31 = _
    rw [pad_four 2199 (by decide) (by decide), pad_two 12 (by decide), pad_two 31 (by decide)]
    rfl
  rw [e] at h
  exact h
set_option maxRecDepth 100000 in
set_option maxHeartbeats 16000000 in
theorem countNone_calls (w : World) (hM : Met2 w) : Calls Tryz.prog 14 #[] w fun e w' => e = .returned (.bool true) ∧ Gr w w' := by
  have HM := Lib.hid hM
  clear hM
  have HA := Lib.hid (cadd_calls (.pointer none) noS 0 1 (by decide) (by decide) (by decide) (by decide) w (noCal w))
  have HF := Lib.hid (roll_form (.pointer none) 5 9 (by decide) w)
  have HR := Lib.hid (roll_calls (.pointer none) noS 5 1 (by decide) (by decide) (by decide) (by decide) w (noCal w))
  go_enter Tryz.func14, Tryz.ntmps14
  go_wp2_with fail
  refine HA.out.mono ?_
  rintro ev w1 ⟨⟨r, hr, he⟩, rfl⟩
  rw [addR_uniq hr noAdd, atE_ok (by decide)] at he
  subst he
  clear hr
  go_wp2_with (go_at_call 29; (with_reducible refine HF.out.mono ?_); rintro ev w2 ⟨rfl, rfl⟩)
  refine HR.out.mono ?_
  rintro ev w2 ⟨⟨r, hr, he⟩, hg2⟩
  rw [noRoll hr, atE_ok (by decide)] at he
  subst he
  have HG2 := Lib.hid hg2
  clear hr hg2
  go_wp2_with (go_at_call 32; (with_reducible refine (part_none _ _ _ _ _ _).mono ?_); rintro ev w3 ⟨rfl, rfl⟩)
  refine (begun6_calls w2 (HM.out.keep HG2.out)).mono ?_
  rintro ev w3 ⟨rfl, hg3⟩
  have HG3 := Lib.hid (HG2.out.tr hg3)
  clear hg3
  have ho0 := open_calls (.pointer none) noS 0 (by decide) (by decide) w3 (noCal w3)
  rw [show openB noS 0 = true by decide] at ho0
  have ho5 := open_calls (.pointer none) noS 5 (by decide) (by decide) w3 (noCal w3)
  rw [show openB noS 5 = false by decide] at ho5
  have hk := count_calls (.pointer none) noS 0 7 (by decide) (by decide) (by decide) (by decide) w3 (noCal w3)
  rw [show cntV noS 0 7 = 5 by decide +kernel] at hk
  have HO0 := Lib.hid ho0
  have HO5 := Lib.hid ho5
  have HK := Lib.hid hk
  have HS1 := Lib.hid (same6_calls (.iface 97 (.int .i64 1)) _ 1 w3 (HM.out.keep HG3.out).1 (.plain 1))
  clear ho0 ho5 hk
  go_wp2_with (first | (go_at_call 27; (with_reducible refine HO0.out.mono ?_); rintro ev w4 ⟨rfl, rfl⟩) | (go_at_call 27; (with_reducible refine HO5.out.mono ?_); rintro ev w4 ⟨rfl, rfl⟩) | (go_at_call 36; (with_reducible refine HK.out.mono ?_); rintro ev w4 ⟨rfl, rfl⟩))
  refine HS1.out.mono ?_
  rintro ev w4 ⟨rfl, hg4⟩
  have HG4 := Lib.hid (HG3.out.tr hg4)
  clear hg4
  go_wp2_with fail
  refine (same6_calls (.iface 97 (.int .i64 1)) _ 1 w4 (HM.out.keep HG4.out).1 (.plain 1)).mono ?_
  rintro ev w5 ⟨rfl, hg5⟩
  have HG5 := Lib.hid (HG4.out.tr hg5)
  clear hg5
  have hmy := fun w => may_calls ⟨0, 0, 0, 0, 0, false⟩ w
  rw [show mayR ⟨0, 0, 0, 0, 0, false⟩ = false by decide] at hmy
  unfold ruV at hmy
  have HMY := Lib.hid hmy
  clear hmy
  go_wp2_with (go_at_call 42; (with_reducible refine (HMY.out _).mono ?_); rintro ev w6 ⟨rfl, hg6⟩)
  refine (between_none _).mono ?_
  rintro ev w7 ⟨rfl, hg7⟩
  have HG7 := Lib.hid (HG5.out.tr (hg6.tr hg7))
  clear hg6 hg7
  go_wp2_with fail
  refine (last_none _).mono ?_
  rintro ev w8 ⟨rfl, hg8⟩
  have HG8 := Lib.hid (HG7.out.tr hg8)
  clear hg8
  go_wp2_with fail
  refine (textZ_calls _ (HM.out.keep HG8.out).2.2).mono ?_
  rintro ev w9 ⟨rfl, hg9⟩
  go_wp2
  go_ret
  exact ⟨by first | rfl | simp, HG8.out.tr hg9⟩
end Go.Proofs.YtjgihjpckjdikaaGreatDoor
