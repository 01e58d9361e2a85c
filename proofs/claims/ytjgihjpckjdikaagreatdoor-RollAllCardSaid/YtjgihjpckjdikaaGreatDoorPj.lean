/- Layer 6: 'a day that is none for business, by each rule', walked. -/
import Derived.Test.YtjgihjpckjdikaaGreatDoorKw
import Derived.Test.YtjgihjpckjdikaaGreatDoorPi
namespace Go.Proofs.YtjgihjpckjdikaaGreatDoor
open Go.RowKit Go.Extern.Stop Go.Stop Go.Extern
set_option linter.unusedVariables false
set_option linter.unusedSimpArgs false

theorem and7 (y : Int) : ∃ Y, bits .and .i64 y 7 = Y ∧ 0 ≤ Y ∧ Y ≤ 7 := ⟨_, rfl, (and_bd y 7 (by decide)).1, (and_bd y 7 (by decide)).2⟩
set_option maxRecDepth 100000 in
set_option maxHeartbeats 32000000 in
theorem rollAll_calls (rs : List Ru) (v : Value) (ms : List Int) (v2 : Value) (n rule : Int) (n0 : -9223372036854775808 ≤ n) (n1 : n ≤ 9223372036854775807) (r0 : -9223372036854775808 ≤ rule) (r1 : rule ≤ 9223372036854775807) (w : World) (hM : Met2 w)
    (hr : RulesAt w v rs) (hi : ∀ r ∈ rs, RuIn r) (hl : rs.length ≤ 9223372036854775807) (hr2 : DaysAt w v2 ms) (hi2 : ∀ x ∈ ms, in64 x) (hl2 : ms.length ≤ 9223372036854775807) :
    Calls Tryz.prog 6 #[v, v2, .int .i64 n, .int .i64 rule] w fun e w' => e = .returned (.bool true) ∧ Gr w w' := by
  have HBG := Lib.hid (begun6_calls w hM)
  have HM := Lib.hid hM
  have HR := Lib.hid hr
  have HR2 := Lib.hid hr2
  have HL := Lib.hid hl
  have HL2 := Lib.hid hl2
  have hd := day6_bd n
  have hdy := fun w => day6_calls n w
  generalize n % 109573 = d at hd hdy
  have HDY := Lib.hid hdy
  have hd0 := hd.1
  have hd1 := hd.2
  obtain ⟨X, hX, hX0, hX1⟩ := and7 n
  clear hdy hd hM hr hi hl hr2 hi2 hl2
  go_enter Tryz.func6, Tryz.ntmps6
  go_wp2_with (go_at_call 18; (with_reducible refine HBG.out.mono ?_); rintro ev w1 ⟨rfl, hg1⟩)
  refine (rules_calls rs v w1 (HR.out.gr hg1) HL.out).mono ?_
  rintro ev w2 ⟨⟨u, rfl, hu⟩, hg2⟩
  have HU := Lib.hid hu
  have HG2 := Lib.hid (hg1.tr hg2)
  clear hu hg1 hg2
  go_wp2_with fail
  refine (days_calls ms v2 w2 (HR2.out.gr HG2.out) HL2.out).mono ?_
  rintro ev w3 ⟨⟨u3, rfl, hu3⟩, hg3⟩
  have hu2 := HU.out.gr hg3
  obtain ⟨ao, uc, hue, _⟩ := hu2.view
  obtain ⟨ao3, uc3, hue3, _⟩ := hu3.view
  subst hue hue3
  have HU3 := Lib.hid hu3
  have HU2 := Lib.hid hu2
  have HG3 := Lib.hid (HG2.out.tr hg3)
  clear hu3 hg3 hu2
  go_wp2_with fail
  refine (newL_calls rs ms _ _ w3 HU2.out HU3.out).mono ?_
  rintro ev w4 ⟨⟨p, bc, nc, S, rfl, hci, hsb, hnc⟩, hg4⟩
  have HG4 := Lib.hid (HG3.out.tr hg4)
  have HCA := Lib.hid hci.at_
  have HSH := Lib.hid (shutC_one hsb)
  have HSB := Lib.hid hsb
  have HU4 := Lib.hid (HU2.out.gr hg4)
  have HV4 := Lib.hid (HU3.out.gr hg4)
  clear hci hsb hnc hg4
  by_cases hX7 : 0 < X
  · have bX : decide (0 < X) = true := decide_eq_true hX7
    go_wp2_with (go_at_call 26; (with_reducible refine (HDY.out _).mono ?_); rintro ev w7 ⟨rfl, rfl⟩)
    by_cases hrl : rule < 0 ∨ 4 < rule
    · refine (roll_form (.pointer (some ⟨p, 0, none⟩)) d rule hrl w4).mono ?_
      rintro ev w5 ⟨rfl, rfl⟩
      have hgc : Gr w4 (w4.alloc (.cells #[.slice ao (rulesL rs).length uc, .slice ao3 (daysL ms).length uc3] 48)) := (Gr.rf w4).alloc (Nat.le_refl _) _
      go_wp2_with fail
      generalize w4.alloc (.cells #[.slice ao (rulesL rs).length uc, .slice ao3 (daysL ms).length uc3] 48) = W5 at hgc ⊢
      generalize w4.heap.size = rb
      refine (rroll_form _ d rule hrl W5).mono ?_
      rintro ev w6 ⟨rfl, rfl⟩
      have HG6 := Lib.hid (HG4.out.tr hgc)
      clear hgc
      go_wp2_with fail
      refine (same6_calls (.iface 97 (.int .i64 1)) _ 1 _ (HM.out.keep HG6.out).1 (.plain 1)).mono ?_
      rintro ev w7 ⟨rfl, hg7⟩
      go_wp2
      go_ret
      exact ⟨by first | rfl | simp, HG6.out.tr hg7⟩
    · have hr0 : 0 ≤ rule := by omega
      have hr1 : rule ≤ 4 := by omega
      clear hrl
      refine (roll_calls (.pointer (some ⟨p, 0, none⟩)) S d rule (by omega) (by omega) hr0 hr1 w4 HCA.out).mono ?_
      rintro ev w5 ⟨⟨r, hra, he⟩, hg5⟩
      have HRA := Lib.hid hra
      have HU5 := Lib.hid (HU4.out.gr hg5)
      have HV5 := Lib.hid (HV4.out.gr hg5)
      have HG5 := Lib.hid (HG4.out.tr hg5)
      have hrc := rcal_one w5 HU5.out HV5.out (by have := rulesL_le rs; omega) (by have := daysL_le ms; omega)
      have hgc : Gr w5 (w5.alloc (.cells #[.slice ao (rulesL rs).length uc, .slice ao3 (daysL ms).length uc3] 48)) := (Gr.rf w5).alloc (Nat.le_refl _) _
      clear hra hg5
      by_cases hne : r = -1
      · rw [hne, atE_no] at he
        subst he
        go_wp2_with fail
        generalize w5.alloc (.cells #[.slice ao (rulesL rs).length uc, .slice ao3 (daysL ms).length uc3] 48) = W5 at hrc hgc ⊢
        generalize w5.heap.size = rb at hrc ⊢
        refine (rroll_calls _ _ S HSH.out (rulesL rs) (daysL ms) HSB.out (rulesL_le rs) (daysL_le ms) d rule (by omega) (by omega) hr0 hr1 W5 hrc (by simp)).mono ?_
        rintro ev w6 ⟨⟨r2, hr2, he2⟩, hg6⟩
        rw [rollR_uniq hr2 HRA.out, hne, rollE_no] at he2
        subst he2
        have HG6 := Lib.hid (HG5.out.tr (hgc.tr hg6))
        clear hrc hgc hr2 hg6 hne
        go_wp2_with fail
        refine (sameDate_calls w6 (HM.out.keep HG6.out).1).mono ?_
        rintro ev w7 ⟨rfl, hg7⟩
        go_wp2
        go_ret
        exact ⟨by first | rfl | simp, HG6.out.tr hg7⟩
      · rw [atE_ok hne] at he
        subst he
        go_wp2_with fail
        generalize w5.alloc (.cells #[.slice ao (rulesL rs).length uc, .slice ao3 (daysL ms).length uc3] 48) = W5 at hrc hgc ⊢
        generalize w5.heap.size = rb at hrc ⊢
        refine (rroll_calls _ _ S HSH.out (rulesL rs) (daysL ms) HSB.out (rulesL_le rs) (daysL_le ms) d rule (by omega) (by omega) hr0 hr1 W5 hrc (by simp)).mono ?_
        rintro ev w6 ⟨⟨r2, hr2, he2⟩, hg6⟩
        rw [rollR_uniq hr2 HRA.out, rollE_ok hne] at he2
        subst he2
        have HG6 := Lib.hid (HG5.out.tr (hgc.tr hg6))
        clear hrc hgc hr2 hg6 hne
        go_wp2_with fail
        refine (same6_calls .nilIface _ 0 w6 (HM.out.keep HG6.out).1 .nil).mono ?_
        rintro ev w7 ⟨rfl, hg7⟩
        go_wp2
        go_ret
        exact ⟨by first | rfl | simp, HG6.out.tr hg7⟩
  · have bX : decide (0 < X) = false := decide_eq_false hX7
    go_wp2_with fail
    by_cases hrl : rule < 0 ∨ 4 < rule
    · refine (roll_form (.pointer (some ⟨p, 0, none⟩)) n rule hrl w4).mono ?_
      rintro ev w5 ⟨rfl, rfl⟩
      have hgc : Gr w4 (w4.alloc (.cells #[.slice ao (rulesL rs).length uc, .slice ao3 (daysL ms).length uc3] 48)) := (Gr.rf w4).alloc (Nat.le_refl _) _
      go_wp2_with fail
      generalize w4.alloc (.cells #[.slice ao (rulesL rs).length uc, .slice ao3 (daysL ms).length uc3] 48) = W5 at hgc ⊢
      generalize w4.heap.size = rb
      refine (rroll_form _ n rule hrl W5).mono ?_
      rintro ev w6 ⟨rfl, rfl⟩
      have HG6 := Lib.hid (HG4.out.tr hgc)
      clear hgc
      go_wp2_with fail
      refine (same6_calls (.iface 97 (.int .i64 1)) _ 1 _ (HM.out.keep HG6.out).1 (.plain 1)).mono ?_
      rintro ev w7 ⟨rfl, hg7⟩
      go_wp2
      go_ret
      exact ⟨by first | rfl | simp, HG6.out.tr hg7⟩
    · have hr0 : 0 ≤ rule := by omega
      have hr1 : rule ≤ 4 := by omega
      clear hrl
      by_cases hdd : n < 0 ∨ 109572 < n
      · refine (roll_date (.pointer (some ⟨p, 0, none⟩)) n rule hr0 hr1 hdd w4).mono ?_
        rintro ev w5 ⟨rfl, rfl⟩
        have hgc : Gr w4 (w4.alloc (.cells #[.slice ao (rulesL rs).length uc, .slice ao3 (daysL ms).length uc3] 48)) := (Gr.rf w4).alloc (Nat.le_refl _) _
        go_wp2_with fail
        generalize w4.alloc (.cells #[.slice ao (rulesL rs).length uc, .slice ao3 (daysL ms).length uc3] 48) = W5 at hgc ⊢
        generalize w4.heap.size = rb
        refine (rroll_date _ n rule hr0 hr1 hdd W5).mono ?_
        rintro ev w6 ⟨rfl, rfl⟩
        have HG6 := Lib.hid (HG4.out.tr hgc)
        clear hgc
        go_wp2_with fail
        refine (same6_calls (.iface 97 (.int .i64 4)) _ 4 _ (HM.out.keep HG6.out).1 (.plain 4)).mono ?_
        rintro ev w7 ⟨rfl, hg7⟩
        go_wp2
        go_ret
        exact ⟨by first | rfl | simp, HG6.out.tr hg7⟩
      · have hdd0 : 0 ≤ n := by omega
        have hdd1 : n ≤ 109572 := by omega
        clear hdd
        refine (roll_calls (.pointer (some ⟨p, 0, none⟩)) S n rule (by omega) (by omega) hr0 hr1 w4 HCA.out).mono ?_
        rintro ev w5 ⟨⟨r, hra, he⟩, hg5⟩
        have HRA := Lib.hid hra
        have HU5 := Lib.hid (HU4.out.gr hg5)
        have HV5 := Lib.hid (HV4.out.gr hg5)
        have HG5 := Lib.hid (HG4.out.tr hg5)
        have hrc := rcal_one w5 HU5.out HV5.out (by have := rulesL_le rs; omega) (by have := daysL_le ms; omega)
        have hgc : Gr w5 (w5.alloc (.cells #[.slice ao (rulesL rs).length uc, .slice ao3 (daysL ms).length uc3] 48)) := (Gr.rf w5).alloc (Nat.le_refl _) _
        clear hra hg5
        by_cases hne : r = -1
        · rw [hne, atE_no] at he
          subst he
          go_wp2_with fail
          generalize w5.alloc (.cells #[.slice ao (rulesL rs).length uc, .slice ao3 (daysL ms).length uc3] 48) = W5 at hrc hgc ⊢
          generalize w5.heap.size = rb at hrc ⊢
          refine (rroll_calls _ _ S HSH.out (rulesL rs) (daysL ms) HSB.out (rulesL_le rs) (daysL_le ms) n rule (by omega) (by omega) hr0 hr1 W5 hrc (by simp)).mono ?_
          rintro ev w6 ⟨⟨r2, hr2, he2⟩, hg6⟩
          rw [rollR_uniq hr2 HRA.out, hne, rollE_no] at he2
          subst he2
          have HG6 := Lib.hid (HG5.out.tr (hgc.tr hg6))
          clear hrc hgc hr2 hg6 hne
          go_wp2_with fail
          refine (sameDate_calls w6 (HM.out.keep HG6.out).1).mono ?_
          rintro ev w7 ⟨rfl, hg7⟩
          go_wp2
          go_ret
          exact ⟨by first | rfl | simp, HG6.out.tr hg7⟩
        · rw [atE_ok hne] at he
          subst he
          go_wp2_with fail
          generalize w5.alloc (.cells #[.slice ao (rulesL rs).length uc, .slice ao3 (daysL ms).length uc3] 48) = W5 at hrc hgc ⊢
          generalize w5.heap.size = rb at hrc ⊢
          refine (rroll_calls _ _ S HSH.out (rulesL rs) (daysL ms) HSB.out (rulesL_le rs) (daysL_le ms) n rule (by omega) (by omega) hr0 hr1 W5 hrc (by simp)).mono ?_
          rintro ev w6 ⟨⟨r2, hr2, he2⟩, hg6⟩
          rw [rollR_uniq hr2 HRA.out, rollE_ok hne] at he2
          subst he2
          have HG6 := Lib.hid (HG5.out.tr (hgc.tr hg6))
          clear hrc hgc hr2 hg6 hne
          go_wp2_with fail
          refine (same6_calls .nilIface _ 0 w6 (HM.out.keep HG6.out).1 .nil).mono ?_
          rintro ev w7 ⟨rfl, hg7⟩
          go_wp2
          go_ret
          exact ⟨by first | rfl | simp, HG6.out.tr hg7⟩
end Go.Proofs.YtjgihjpckjdikaaGreatDoor
