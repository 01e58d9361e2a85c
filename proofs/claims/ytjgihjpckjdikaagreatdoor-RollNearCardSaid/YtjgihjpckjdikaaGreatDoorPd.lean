/- Layer 6: 'the day that is told is the nearest open one on its side', walked. -/
import Derived.Test.YtjgihjpckjdikaaGreatDoorKh
namespace Go.Proofs.YtjgihjpckjdikaaGreatDoor
open Go.RowKit Go.Extern.Stop Go.Stop Go.Extern
set_option linter.unusedVariables false
set_option linter.unusedSimpArgs false

set_option maxRecDepth 100000 in
set_option maxHeartbeats 8000000 in
theorem rollNear_calls (rs : List Ru) (v : Value) (n : Int) (back : Bool) (n0 : -9223372036854775808 ≤ n) (n1 : n ≤ 9223372036854775807) (w : World) (hM : Met2 w)
    (hr : RulesAt w v rs) (hi : ∀ r ∈ rs, RuIn r) (hl : rs.length ≤ 9223372036854775807) :
    Calls Tryz.prog 10 #[v, .int .i64 n, .bool back] w fun e w' => e = .returned (.bool true) ∧ Gr w w' := by
  have HBG := Lib.hid (begun6_calls w hM)
  have HM := Lib.hid hM
  have HR := Lib.hid hr
  have HL := Lib.hid hl
  have hd := day6_bd n
  have hdy := fun w => day6_calls n w
  generalize n % 109573 = d at hd hdy
  have HDY := Lib.hid hdy
  have hd0 := hd.1
  have hd1 := hd.2
  clear hdy hd hM hr hi hl
  cases back
  · go_enter Tryz.func10, Tryz.ntmps10
    go_wp2_with (go_at_call 18; (with_reducible refine HBG.out.mono ?_); rintro ev w1 ⟨rfl, hg1⟩)
    refine (rules_calls rs v w1 (HR.out.gr hg1) HL.out).mono ?_
    rintro ev w2 ⟨⟨u, rfl, hu⟩, hg2⟩
    have HU := Lib.hid hu
    have HG2 := Lib.hid (hg1.tr hg2)
    clear hu hg1 hg2
    go_wp2_with fail
    refine (newR_calls rs u w2 HU.out).mono ?_
    rintro ev w3 ⟨⟨p, b0, nn, S, rfl, hci, hsb, hnn⟩, hg3⟩
    have HG3 := Lib.hid (HG2.out.tr hg3)
    have HCA := Lib.hid hci.at_
    have HSD := Lib.hid (sameDate_calls w3 (HM.out.keep HG3.out).1)
    have HRO := Lib.hid (roll_calls (.pointer (some ⟨p, 0, none⟩)) S d 1 hd0 hd1 (by decide) (by decide) w3 hci.at_)
    clear hci hsb hnn hg3
    go_wp2_with (go_at_call 26; (with_reducible refine (HDY.out _).mono ?_); rintro ev w4 ⟨rfl, rfl⟩)
    refine HRO.out.mono ?_
    rintro ev w4 ⟨⟨a, ha, he⟩, hg4⟩
    by_cases hne : a = -1
    · rw [hne, atE_no] at he
      subst he
      have HSE := Lib.hid (sameDate_calls w4 (HM.out.keep (HG3.out.tr hg4)).1)
      have HG4 := Lib.hid (HG3.out.tr hg4)
      clear ha hne hg4
      go_wp2_with (go_at_call 22; (with_reducible refine HSE.out.mono ?_); rintro ev w5 ⟨rfl, hg5⟩)
      go_ret
      exact ⟨rfl, HG4.out.tr hg5⟩
    · rw [atE_ok hne] at he
      subst he
      have hur : UpR S d a := by
        rcases ha with ⟨h, _⟩ | ⟨h, h2⟩ | ⟨h, h2⟩ | ⟨h, _⟩ | ⟨h, _⟩ <;> first | (exfalso; omega) | exact h2
      have hur2 := hur.resolve_left (fun h => hne h.1)
      have ho := open_calls (.pointer (some ⟨p, 0, none⟩)) S a (by omega) (by omega) w4 (HCA.out.gr hg4)
      rw [hur2.2.2.1] at ho
      have HO := Lib.hid ho
      have hk := count_calls (.pointer (some ⟨p, 0, none⟩)) S d a (by omega) (by omega) (by omega) (by omega) w4 (HCA.out.gr hg4)
      rw [show cntV S d a = 0 by rw [cntV_lt (by omega)]; have h2 := hur2.2.2.2; omega] at hk
      have HK := Lib.hid hk
      have hle : d ≤ a := by omega
      have HG4 := Lib.hid (HG3.out.tr hg4)
      clear ho hk hur hur2 ha hne hg4
      go_wp2_with (first | (go_at_call 27; (with_reducible refine HO.out.mono ?_); rintro ev w6 ⟨rfl, rfl⟩) | (go_at_call 36; (with_reducible refine HK.out.mono ?_); rintro ev w6 ⟨rfl, rfl⟩))
      go_ret
      exact ⟨by first | rfl | simp, HG4.out⟩
  · go_enter Tryz.func10, Tryz.ntmps10
    go_wp2_with (go_at_call 18; (with_reducible refine HBG.out.mono ?_); rintro ev w1 ⟨rfl, hg1⟩)
    refine (rules_calls rs v w1 (HR.out.gr hg1) HL.out).mono ?_
    rintro ev w2 ⟨⟨u, rfl, hu⟩, hg2⟩
    have HU := Lib.hid hu
    have HG2 := Lib.hid (hg1.tr hg2)
    clear hu hg1 hg2
    go_wp2_with fail
    refine (newR_calls rs u w2 HU.out).mono ?_
    rintro ev w3 ⟨⟨p, b0, nn, S, rfl, hci, hsb, hnn⟩, hg3⟩
    have HG3 := Lib.hid (HG2.out.tr hg3)
    have HCA := Lib.hid hci.at_
    have HSD := Lib.hid (sameDate_calls w3 (HM.out.keep HG3.out).1)
    have HRO := Lib.hid (roll_calls (.pointer (some ⟨p, 0, none⟩)) S d 3 hd0 hd1 (by decide) (by decide) w3 hci.at_)
    clear hci hsb hnn hg3
    go_wp2_with (go_at_call 26; (with_reducible refine (HDY.out _).mono ?_); rintro ev w4 ⟨rfl, rfl⟩)
    refine HRO.out.mono ?_
    rintro ev w4 ⟨⟨a, ha, he⟩, hg4⟩
    by_cases hne : a = -1
    · rw [hne, atE_no] at he
      subst he
      have HSE := Lib.hid (sameDate_calls w4 (HM.out.keep (HG3.out.tr hg4)).1)
      have HG4 := Lib.hid (HG3.out.tr hg4)
      clear ha hne hg4
      go_wp2_with (go_at_call 22; (with_reducible refine HSE.out.mono ?_); rintro ev w5 ⟨rfl, hg5⟩)
      go_ret
      exact ⟨rfl, HG4.out.tr hg5⟩
    · rw [atE_ok hne] at he
      subst he
      have hur : DnR S d a := by
        rcases ha with ⟨h, _⟩ | ⟨h, h2⟩ | ⟨h, h2⟩ | ⟨h, _⟩ | ⟨h, _⟩ <;> first | (exfalso; omega) | exact h2
      have hur2 := hur.resolve_left (fun h => hne h.1)
      have ho := open_calls (.pointer (some ⟨p, 0, none⟩)) S a (by omega) (by omega) w4 (HCA.out.gr hg4)
      rw [hur2.2.2.1] at ho
      have HO := Lib.hid ho
      have hk := count_calls (.pointer (some ⟨p, 0, none⟩)) S a (d + 1) (by omega) (by omega) (by omega) (by omega) w4 (HCA.out.gr hg4)
      rw [show cntV S a (d + 1) = 1 by rw [cntV_lt (by omega)]; have h1 := opU_on hur2.2.2.1; have h2 := hur2.2.2.2; omega] at hk
      have HK := Lib.hid hk
      have hle : a ≤ d := by omega
      have HG4 := Lib.hid (HG3.out.tr hg4)
      clear ho hk hur hur2 ha hne hg4
      go_wp2_with (first | (go_at_call 27; (with_reducible refine HO.out.mono ?_); rintro ev w6 ⟨rfl, rfl⟩) | (go_at_call 36; (with_reducible refine HK.out.mono ?_); rintro ev w6 ⟨rfl, rfl⟩))
      go_ret
      exact ⟨by first | rfl | simp, HG4.out⟩
end Go.Proofs.YtjgihjpckjdikaaGreatDoor
