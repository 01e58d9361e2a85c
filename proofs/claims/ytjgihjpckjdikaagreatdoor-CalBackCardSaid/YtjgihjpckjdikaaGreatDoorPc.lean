/- Layer 6: 'so many open days on, and as many back: the same day, if it is open', walked. -/
import Derived.Test.YtjgihjpckjdikaaGreatDoorKh
namespace Go.Proofs.YtjgihjpckjdikaaGreatDoor
open Go.RowKit Go.Extern.Stop Go.Stop Go.Extern
set_option linter.unusedVariables false
set_option linter.unusedSimpArgs false

set_option maxRecDepth 100000 in
set_option maxHeartbeats 8000000 in
theorem calBack_calls (rs : List Ru) (v : Value) (n k : Int) (n0 : -9223372036854775808 ≤ n) (n1 : n ≤ 9223372036854775807) (k0 : -9223372036854775808 ≤ k) (k1 : k ≤ 9223372036854775807) (w : World) (hM : Met2 w)
    (hr : RulesAt w v rs) (hi : ∀ r ∈ rs, RuIn r) (hl : rs.length ≤ 9223372036854775807) :
    Calls Tryz.prog 12 #[v, .int .i64 n, .int .i64 k] w fun e w' => e = .returned (.bool true) ∧ Gr w w' := by
  have HBG := Lib.hid (begun6_calls w hM)
  have HM := Lib.hid hM
  have HR := Lib.hid hr
  have HL := Lib.hid hl
  obtain ⟨R, hR1, hR2, hR0, hR3, t0, t1⟩ := mod_two k 30 (by decide)
  have hd := day6_bd n
  have hdy := fun w => day6_calls n w
  generalize n % 109573 = d at hd hdy
  have HDY := Lib.hid hdy
  have hd0 := hd.1
  have hd1 := hd.2
  clear hdy hd hM hr hi hl
  go_enter Tryz.func12, Tryz.ntmps12
  go_wp2_with (go_at_call 18; (with_reducible refine HBG.out.mono ?_); rintro ev w1 ⟨rfl, hg1⟩)
  refine (rules_calls rs v w1 (HR.out.gr hg1) HL.out).mono ?_
  rintro ev w2 ⟨⟨u, rfl, hu⟩, hg2⟩
  have HU := Lib.hid hu
  have HG2 := Lib.hid (hg1.tr hg2)
  clear hu hg1 hg2
  go_wp2_with fail
  refine (newR_calls rs u w2 HU.out).mono ?_
  rintro ev w3 ⟨⟨p, b, nn, S, rfl, hci, hsb, hnn⟩, hg3⟩
  have HG3 := Lib.hid (HG2.out.tr hg3)
  have HCA := Lib.hid hci.at_
  have HSD := Lib.hid (sameDate_calls w3 (HM.out.keep HG3.out).1)
  have HAD := Lib.hid (cadd_calls (.pointer (some ⟨p, 0, none⟩)) S d R hd0 hd1 (by omega) (by omega) w3 hci.at_)
  clear hci hsb hnn hg3
  go_wp2_with (go_at_call 26; (with_reducible refine (HDY.out _).mono ?_); rintro ev w4 ⟨rfl, rfl⟩)
  refine HAD.out.mono ?_
  rintro ev w4 ⟨⟨a, ha, he⟩, rfl⟩
  by_cases hne : a = -1
  · rw [hne, atE_no] at he
    subst he
    clear ha hne
    go_wp2_with (go_at_call 22; (with_reducible refine HSD.out.mono ?_); rintro ev w5 ⟨rfl, hg5⟩)
    go_ret
    exact ⟨rfl, HG3.out.tr hg5⟩
  · rw [atE_ok hne] at he
    subst he
    have har := (addR_range hd0 hd1 ha).resolve_left hne
    have HAB := Lib.hid (cadd_calls (.pointer (some ⟨p, 0, none⟩)) S a (-R) har.1 har.2 (by omega) (by omega) w3 HCA.out)
    have HBK := Lib.hid (fun b hb => addR_back (b := b) hd0 hR0 ha hb hne)
    have ho := open_calls _ S d (by omega) (by omega) w3 HCA.out
    clear ha hne har
    go_wp2_with fail
    refine HAB.out.mono ?_
    rintro ev w5 ⟨⟨b, hb, he⟩, rfl⟩
    have hbk := HBK.out b hb
    cases hop : openB S d with
    | true =>
      have hbd := hbk.1 hop
      subst hbd
      rw [atE_ok (show b ≠ -1 by omega)] at he
      subst he
      rw [hop] at ho
      have HO := Lib.hid ho
      clear ho hop hbk hb
      go_wp2_with (go_at_call 27; (with_reducible refine HO.out.mono ?_); rintro ev w6 ⟨rfl, rfl⟩)
      go_ret
      exact ⟨by first | rfl | simp, HG3.out⟩
    | false =>
      rw [hop] at ho
      have HO := Lib.hid ho
      have hbd := hbk.2 hop
      clear ho hop hbk hb
      by_cases hb1 : b = -1
      · rw [hb1, atE_no] at he
        subst he
        clear hb1 hbd
        go_wp2_with (go_at_call 27; (with_reducible refine HO.out.mono ?_); rintro ev w6 ⟨rfl, rfl⟩)
        go_ret
        exact ⟨by first | rfl | simp, HG3.out⟩
      · rw [atE_ok hb1] at he
        subst he
        have hbd2 := hbd.resolve_left hb1
        clear hb1 hbd
        go_wp2_with (go_at_call 27; (with_reducible refine HO.out.mono ?_); rintro ev w6 ⟨rfl, rfl⟩)
        go_ret
        exact ⟨by first | rfl | simp, HG3.out⟩
end Go.Proofs.YtjgihjpckjdikaaGreatDoor
