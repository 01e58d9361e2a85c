/- Layer 6: 'an open day stays; rolled twice is rolled once; a modified one stays in its month, if that has an open day', walked. -/
import Derived.Test.YtjgihjpckjdikaaGreatDoorKh
namespace Go.Proofs.YtjgihjpckjdikaaGreatDoor
open Go.RowKit Go.Extern.Stop Go.Stop Go.Extern
set_option linter.unusedVariables false
set_option linter.unusedSimpArgs false

set_option maxRecDepth 100000 in
set_option maxHeartbeats 32000000 in
theorem rollLaws_core (rs : List Ru) (v : Value) (n k d R y m q : Int) (hR1 : (k.tmod 5 + 5) % 5 = R) (hR2 : k.tmod 5 % 5 = R) (t0 : -5 < k.tmod 5) (t1 : k.tmod 5 < 5) (hR : R = 0 ∨ R = 1 ∨ R = 2 ∨ R = 3 ∨ R = 4)
    (hday : IsDay d y m q) (hdy : ∀ w, Calls Tryz.prog 26 #[.int .i64 n] w fun e w' => e = .returned (.int .i64 d) ∧ w = w') (n0 : -9223372036854775808 ≤ n) (n1 : n ≤ 9223372036854775807) (k0 : -9223372036854775808 ≤ k) (k1 : k ≤ 9223372036854775807) (w : World) (hM : Met2 w)
    (hr : RulesAt w v rs) (hl : rs.length ≤ 9223372036854775807) :
    Calls Tryz.prog 11 #[v, .int .i64 n, .int .i64 k] w fun e w' => e = .returned (.bool true) ∧ Gr w w' := by
  have HBG := Lib.hid (begun6_calls w hM)
  have HM := Lib.hid hM
  have HR := Lib.hid hr
  have HL := Lib.hid hl
  have HDY := Lib.hid hdy
  have hdr := isDay_range hday
  have hd0 := hdr.1
  have hd1 := hdr.2
  have HD := Lib.hid hday
  have hE := isDay_range (endN_day y m hday.1 hday.2.1 hday.2.2.1 hday.2.2.2.1)
  have hF := isDay_range (firstN_day y m hday.1 hday.2.1 hday.2.2.1 hday.2.2.2.1)
  have hFE := (month_of_day hday)
  have hof := fun w => day_of_calls y m 1 w
  have hok1 : OkC y m 1 := ⟨hday.1, hday.2.1, by decide, by have := lenM_pos y m hday.2.2.1 hday.2.2.2.1; omega⟩
  simp only [ofD_ok hok1, ofE_ok hok1] at hof
  have hen := fun w => end_calls y m (by have := hday.1; omega) (by have := hday.2.1; omega) w
  have hok2 : OkC y m (lenM y m) := (day_okC (endN_day y m hday.1 hday.2.1 hday.2.2.1 hday.2.2.2.1)).1
  simp only [ofD_ok hok2, ofE_ok hok2] at hen
  have HMO := Lib.hid (fun S rule a h1 h2 h3 => rollR_month (S := S) (rule := rule) (a := a) hday h1 h2 h3)
  have HCI := Lib.hid (fun w => civil_calls d y m q hday w)
  unfold endN at hE hFE HMO
  generalize dayN y m (lenM y m) = E at hE hFE HMO hen
  generalize dayN y m 1 = F at hF hFE HMO hof
  have HOF := Lib.hid hof
  have HEN := Lib.hid hen
  clear hof hen hok1 hok2 hday hdr hM hr hl hdy
  rcases hR with rfl | rfl | rfl | rfl | rfl
  · go_enter Tryz.func11, Tryz.ntmps11
    go_wp2_with (go_at_call 18; (with_reducible refine HBG.out.mono ?_); rintro ev w1 ⟨rfl, hg1⟩)
    refine (rules_calls rs v w1 (HR.out.gr hg1) HL.out).mono ?_
    rintro ev w2 ⟨⟨u, rfl, hu⟩, hg2⟩
    have HU := Lib.hid hu
    have HG2 := Lib.hid (hg1.tr hg2)
    clear hu hg1 hg2
    go_wp2_with fail
    refine (newR_calls rs u w2 HU.out).mono ?_
    rintro ev w3 ⟨⟨p, b0, nn, S, rfl, hci, hsb, hnn⟩, hg3⟩
    have HG3 := Lib.hid (HG2.out.tr hg3)
    have HCA := Lib.hid hci.at_
    have HSD := Lib.hid (sameDate_calls w3 (HM.out.keep HG3.out).1)
    have HRO := Lib.hid (roll_calls (.pointer (some ⟨p, 0, none⟩)) S d 0 hd0 hd1 (by decide) (by decide) w3 hci.at_)
    clear hci hsb hnn hg3
    go_wp2_with (go_at_call 26; (with_reducible refine (HDY.out _).mono ?_); rintro ev w4 ⟨rfl, rfl⟩)
    refine HRO.out.mono ?_
    rintro ev w4 ⟨⟨a, ha, he⟩, hg4⟩
    have HG4 := Lib.hid (HG3.out.tr hg4)
    have HCA4 := Lib.hid (HCA.out.gr hg4)
    clear hg4
    by_cases hne : a = -1
    · rw [hne, atE_no] at he
      subst he
      have HSE := Lib.hid (sameDate_calls w4 (HM.out.keep HG4.out).1)
      clear ha hne
      go_wp2_with (go_at_call 22; (with_reducible refine HSE.out.mono ?_); rintro ev w5 ⟨rfl, hg5⟩)
      go_ret
      exact ⟨rfl, HG4.out.tr hg5⟩
    · rw [atE_ok hne] at he
      subst he
      have har := (rollR_range hd0 hd1 ha).resolve_left hne
      have ha0 := har.1
      have ha1 := har.2
      have HRO2 := Lib.hid (roll_calls (.pointer (some ⟨p, 0, none⟩)) S a 0 ha0 ha1 (by decide) (by decide) w4 HCA4.out)
      have HTW := Lib.hid (fun b hb => rollR_twice (b := b) ha hne (by decide) (by decide) hb)
      have HHA := Lib.hid ha
      have HNE := Lib.hid hne
      clear ha hne har
      go_wp2_with fail
      refine HRO2.out.mono ?_
      rintro ev w5 ⟨⟨b, hb, he⟩, hg5⟩
      have hba := HTW.out b hb
      rw [hba, atE_ok HNE.out] at he
      subst he
      have HG5 := Lib.hid (HG4.out.tr hg5)
      have HCA5 := Lib.hid (HCA4.out.gr hg5)
      clear hb hba hg5
      have ho := open_calls (.pointer (some ⟨p, 0, none⟩)) S d (by omega) (by omega) w5 HCA5.out
      have had : a = d := by
        rcases HHA.out with ⟨_, h⟩ | ⟨h, h2⟩ | ⟨h, h2⟩ | ⟨h, _⟩ | ⟨h, _⟩ <;> first | exact h | (exfalso; omega)
      subst had
      generalize openB S a = ob at ho
      have HO := Lib.hid ho
      clear ho
      cases ob
      all_goals
        go_wp2_with (go_at_call 27; (with_reducible refine HO.out.mono ?_); rintro ev w6 ⟨rfl, rfl⟩)
        go_ret
        exact ⟨by first | rfl | simp, HG5.out⟩
  · go_enter Tryz.func11, Tryz.ntmps11
    go_wp2_with (go_at_call 18; (with_reducible refine HBG.out.mono ?_); rintro ev w1 ⟨rfl, hg1⟩)
    refine (rules_calls rs v w1 (HR.out.gr hg1) HL.out).mono ?_
    rintro ev w2 ⟨⟨u, rfl, hu⟩, hg2⟩
    have HU := Lib.hid hu
    have HG2 := Lib.hid (hg1.tr hg2)
    clear hu hg1 hg2
    go_wp2_with fail
    refine (newR_calls rs u w2 HU.out).mono ?_
    rintro ev w3 ⟨⟨p, b0, nn, S, rfl, hci, hsb, hnn⟩, hg3⟩
    have HG3 := Lib.hid (HG2.out.tr hg3)
    have HCA := Lib.hid hci.at_
    have HSD := Lib.hid (sameDate_calls w3 (HM.out.keep HG3.out).1)
    have HRO := Lib.hid (roll_calls (.pointer (some ⟨p, 0, none⟩)) S d 1 hd0 hd1 (by decide) (by decide) w3 hci.at_)
    clear hci hsb hnn hg3
    go_wp2_with (go_at_call 26; (with_reducible refine (HDY.out _).mono ?_); rintro ev w4 ⟨rfl, rfl⟩)
    refine HRO.out.mono ?_
    rintro ev w4 ⟨⟨a, ha, he⟩, hg4⟩
    have HG4 := Lib.hid (HG3.out.tr hg4)
    have HCA4 := Lib.hid (HCA.out.gr hg4)
    clear hg4
    by_cases hne : a = -1
    · rw [hne, atE_no] at he
      subst he
      have HSE := Lib.hid (sameDate_calls w4 (HM.out.keep HG4.out).1)
      clear ha hne
      go_wp2_with (go_at_call 22; (with_reducible refine HSE.out.mono ?_); rintro ev w5 ⟨rfl, hg5⟩)
      go_ret
      exact ⟨rfl, HG4.out.tr hg5⟩
    · rw [atE_ok hne] at he
      subst he
      have har := (rollR_range hd0 hd1 ha).resolve_left hne
      have ha0 := har.1
      have ha1 := har.2
      have HRO2 := Lib.hid (roll_calls (.pointer (some ⟨p, 0, none⟩)) S a 1 ha0 ha1 (by decide) (by decide) w4 HCA4.out)
      have HTW := Lib.hid (fun b hb => rollR_twice (b := b) ha hne (by decide) (by decide) hb)
      have HHA := Lib.hid ha
      have HNE := Lib.hid hne
      clear ha hne har
      go_wp2_with fail
      refine HRO2.out.mono ?_
      rintro ev w5 ⟨⟨b, hb, he⟩, hg5⟩
      have hba := HTW.out b hb
      rw [hba, atE_ok HNE.out] at he
      subst he
      have HG5 := Lib.hid (HG4.out.tr hg5)
      have HCA5 := Lib.hid (HCA4.out.gr hg5)
      clear hb hba hg5
      have ho := open_calls (.pointer (some ⟨p, 0, none⟩)) S d (by omega) (by omega) w5 HCA5.out
      have hoa := open_calls (.pointer (some ⟨p, 0, none⟩)) S a (by omega) (by omega) w5 HCA5.out
      rw [rollR_open HHA.out (by decide) HNE.out] at hoa
      have HOA := Lib.hid hoa
      clear hoa
      cases hop : openB S d with
      | true =>
        have had : a = d := rollR_uniq HHA.out (rollR_here hop (by decide) (by decide))
        rw [hop] at ho
        have HO := Lib.hid ho
        have bad : (a != d) = false := by simp [had]
        clear ho hop had
        go_wp2_with (first | (go_at_call 27; (with_reducible refine HO.out.mono ?_); rintro ev w6 ⟨rfl, rfl⟩) | (go_at_call 27; (with_reducible refine HOA.out.mono ?_); rintro ev w6 ⟨rfl, rfl⟩))
        go_ret
        exact ⟨by first | rfl | simp, HG5.out⟩
      | false =>
        rw [hop] at ho
        have HO := Lib.hid ho
        clear ho hop
        go_wp2_with (first | (go_at_call 27; (with_reducible refine HO.out.mono ?_); rintro ev w6 ⟨rfl, rfl⟩) | (go_at_call 27; (with_reducible refine HOA.out.mono ?_); rintro ev w6 ⟨rfl, rfl⟩))
        go_ret
        exact ⟨by first | rfl | simp, HG5.out⟩
  · go_enter Tryz.func11, Tryz.ntmps11
    go_wp2_with (go_at_call 18; (with_reducible refine HBG.out.mono ?_); rintro ev w1 ⟨rfl, hg1⟩)
    refine (rules_calls rs v w1 (HR.out.gr hg1) HL.out).mono ?_
    rintro ev w2 ⟨⟨u, rfl, hu⟩, hg2⟩
    have HU := Lib.hid hu
    have HG2 := Lib.hid (hg1.tr hg2)
    clear hu hg1 hg2
    go_wp2_with fail
    refine (newR_calls rs u w2 HU.out).mono ?_
    rintro ev w3 ⟨⟨p, b0, nn, S, rfl, hci, hsb, hnn⟩, hg3⟩
    have HG3 := Lib.hid (HG2.out.tr hg3)
    have HCA := Lib.hid hci.at_
    have HSD := Lib.hid (sameDate_calls w3 (HM.out.keep HG3.out).1)
    have HRO := Lib.hid (roll_calls (.pointer (some ⟨p, 0, none⟩)) S d 2 hd0 hd1 (by decide) (by decide) w3 hci.at_)
    clear hci hsb hnn hg3
    go_wp2_with (go_at_call 26; (with_reducible refine (HDY.out _).mono ?_); rintro ev w4 ⟨rfl, rfl⟩)
    refine HRO.out.mono ?_
    rintro ev w4 ⟨⟨a, ha, he⟩, hg4⟩
    have HG4 := Lib.hid (HG3.out.tr hg4)
    have HCA4 := Lib.hid (HCA.out.gr hg4)
    clear hg4
    by_cases hne : a = -1
    · rw [hne, atE_no] at he
      subst he
      have HSE := Lib.hid (sameDate_calls w4 (HM.out.keep HG4.out).1)
      clear ha hne
      go_wp2_with (go_at_call 22; (with_reducible refine HSE.out.mono ?_); rintro ev w5 ⟨rfl, hg5⟩)
      go_ret
      exact ⟨rfl, HG4.out.tr hg5⟩
    · rw [atE_ok hne] at he
      subst he
      have har := (rollR_range hd0 hd1 ha).resolve_left hne
      have ha0 := har.1
      have ha1 := har.2
      have HRO2 := Lib.hid (roll_calls (.pointer (some ⟨p, 0, none⟩)) S a 2 ha0 ha1 (by decide) (by decide) w4 HCA4.out)
      have HTW := Lib.hid (fun b hb => rollR_twice (b := b) ha hne (by decide) (by decide) hb)
      have HHA := Lib.hid ha
      have HNE := Lib.hid hne
      clear ha hne har
      go_wp2_with fail
      refine HRO2.out.mono ?_
      rintro ev w5 ⟨⟨b, hb, he⟩, hg5⟩
      have hba := HTW.out b hb
      rw [hba, atE_ok HNE.out] at he
      subst he
      have HG5 := Lib.hid (HG4.out.tr hg5)
      have HCA5 := Lib.hid (HCA4.out.gr hg5)
      clear hb hba hg5
      have ho := open_calls (.pointer (some ⟨p, 0, none⟩)) S d (by omega) (by omega) w5 HCA5.out
      have hoa := open_calls (.pointer (some ⟨p, 0, none⟩)) S a (by omega) (by omega) w5 HCA5.out
      rw [rollR_open HHA.out (by decide) HNE.out] at hoa
      have HOA := Lib.hid hoa
      clear hoa
      cases hop : openB S d with
      | true =>
        have had : a = d := rollR_uniq HHA.out (rollR_here hop (by decide) (by decide))
        rw [hop] at ho
        have HO := Lib.hid ho
        have bad : (a != d) = false := by simp [had]
        clear ho hop had
        obtain ⟨ya, ma, qa, hda⟩ := isDay_of a ha0 ha1
        have HBT := Lib.hid (fun w => between_calls a d ya ma qa y m q hda HD.out w)
        have hcn : opU S (E + 1) - opU S F = 0 ∨ (ya = y ∧ ma = m) := by
          by_cases hs : SameM a d
          · right
            exact (sameM_iff hda HD.out).1 hs
          · left
            have := HMO.out S 2 a HHA.out (by decide) hs
            omega
        clear hda
        go_wp2_with (first | (go_at_call 27; (with_reducible refine HO.out.mono ?_); rintro ev w6 ⟨rfl, rfl⟩) | (go_at_call 27; (with_reducible refine HOA.out.mono ?_); rintro ev w6 ⟨rfl, rfl⟩) | (go_at_call 17; (with_reducible refine (HCI.out _).mono ?_); rintro ev w7 ⟨rfl, hg7⟩))
        have HG7 := Lib.hid (HG5.out.tr (hg7.tr ((Gr.rf w7).alloc (Nat.le_refl _) (.cells #[.int .i64 y, .int .i64 m, .int .i64 q] 23))))
        have HG57 := Lib.hid (hg7.tr ((Gr.rf w7).alloc (Nat.le_refl _) (.cells #[.int .i64 y, .int .i64 m, .int .i64 q] 23)))
        have hblk : (w7.alloc (.cells #[.int .i64 y, .int .i64 m, .int .i64 q] 23)).heap[w7.heap.size]? = some (.cells #[.int .i64 y, .int .i64 m, .int .i64 q] 23 (0, 0)) := heap_alloc_new w7 _
        generalize w7.alloc (.cells #[.int .i64 y, .int .i64 m, .int .i64 q] 23) = W7 at HG7 HG57 hblk ⊢
        generalize w7.heap.size = bb at hblk ⊢
        have HBK := Lib.hid hblk
        clear hblk hg7
        go_wp2_with fail
        refine (HOF.out _).mono ?_
        rintro ev w8 ⟨rfl, hg8⟩
        have hb8 := hg8.heap HBK.out
        have c0 := heap_cell hb8 0
        have c1 := heap_cell hb8 1
        have HG8 := Lib.hid hg8
        clear hb8 hg8
        go_wp2_with fail
        refine (HEN.out _).mono ?_
        rintro ev w9 ⟨rfl, hg9⟩
        have HG9 := Lib.hid (HG8.out.tr hg9)
        have hk := count_calls (.pointer (some ⟨p, 0, none⟩)) S F (E + 1) (by omega) (by omega) (by omega) (by omega) w9 (HCA5.out.gr (HG57.out.tr HG9.out))
        rw [cntV_lt (by omega)] at hk
        clear c0 c1 hg9
        by_cases hcz : opU S (E + 1) - opU S F = 0
        · rw [hcz] at hk
          have HK := Lib.hid hk
          clear hk hcz hcn
          go_wp2_with (go_at_call 36; (with_reducible refine HK.out.mono ?_); rintro ev w6 ⟨rfl, rfl⟩)
          go_ret
          exact ⟨by first | rfl | simp, HG7.out.tr HG9.out⟩
        · have hym := hcn.resolve_left hcz
          have hbt := fun w => HBT.out w
          rw [hym.1, hym.2, show (y - y) * 12 + m - m = 0 by omega] at hbt
          have HBT2 := Lib.hid hbt
          have HK := Lib.hid hk
          have bc : (opU S (E + 1) - opU S F == 0) = false := beq_eq_false_iff_ne.2 hcz
          clear hk hcn hbt hym
          generalize opU S (E + 1) - opU S F = cc at HK bc hcz
          go_wp2_with (first | (go_at_call 36; (with_reducible refine HK.out.mono ?_); rintro ev w6 ⟨rfl, rfl⟩) | (go_at_call 39; (with_reducible refine (HBT2.out _).mono ?_); rintro ev w10 ⟨rfl, hg10⟩))
          go_ret
          exact ⟨by first | rfl | simp, (HG7.out.tr HG9.out).tr hg10⟩
      | false =>
        rw [hop] at ho
        have HO := Lib.hid ho
        clear ho hop
        obtain ⟨ya, ma, qa, hda⟩ := isDay_of a ha0 ha1
        have HBT := Lib.hid (fun w => between_calls a d ya ma qa y m q hda HD.out w)
        have hcn : opU S (E + 1) - opU S F = 0 ∨ (ya = y ∧ ma = m) := by
          by_cases hs : SameM a d
          · right
            exact (sameM_iff hda HD.out).1 hs
          · left
            have := HMO.out S 2 a HHA.out (by decide) hs
            omega
        clear hda
        go_wp2_with (first | (go_at_call 27; (with_reducible refine HO.out.mono ?_); rintro ev w6 ⟨rfl, rfl⟩) | (go_at_call 27; (with_reducible refine HOA.out.mono ?_); rintro ev w6 ⟨rfl, rfl⟩) | (go_at_call 17; (with_reducible refine (HCI.out _).mono ?_); rintro ev w7 ⟨rfl, hg7⟩))
        have HG7 := Lib.hid (HG5.out.tr (hg7.tr ((Gr.rf w7).alloc (Nat.le_refl _) (.cells #[.int .i64 y, .int .i64 m, .int .i64 q] 23))))
        have HG57 := Lib.hid (hg7.tr ((Gr.rf w7).alloc (Nat.le_refl _) (.cells #[.int .i64 y, .int .i64 m, .int .i64 q] 23)))
        have hblk : (w7.alloc (.cells #[.int .i64 y, .int .i64 m, .int .i64 q] 23)).heap[w7.heap.size]? = some (.cells #[.int .i64 y, .int .i64 m, .int .i64 q] 23 (0, 0)) := heap_alloc_new w7 _
        generalize w7.alloc (.cells #[.int .i64 y, .int .i64 m, .int .i64 q] 23) = W7 at HG7 HG57 hblk ⊢
        generalize w7.heap.size = bb at hblk ⊢
        have HBK := Lib.hid hblk
        clear hblk hg7
        go_wp2_with fail
        refine (HOF.out _).mono ?_
        rintro ev w8 ⟨rfl, hg8⟩
        have hb8 := hg8.heap HBK.out
        have c0 := heap_cell hb8 0
        have c1 := heap_cell hb8 1
        have HG8 := Lib.hid hg8
        clear hb8 hg8
        go_wp2_with fail
        refine (HEN.out _).mono ?_
        rintro ev w9 ⟨rfl, hg9⟩
        have HG9 := Lib.hid (HG8.out.tr hg9)
        have hk := count_calls (.pointer (some ⟨p, 0, none⟩)) S F (E + 1) (by omega) (by omega) (by omega) (by omega) w9 (HCA5.out.gr (HG57.out.tr HG9.out))
        rw [cntV_lt (by omega)] at hk
        clear c0 c1 hg9
        by_cases hcz : opU S (E + 1) - opU S F = 0
        · rw [hcz] at hk
          have HK := Lib.hid hk
          clear hk hcz hcn
          go_wp2_with (go_at_call 36; (with_reducible refine HK.out.mono ?_); rintro ev w6 ⟨rfl, rfl⟩)
          go_ret
          exact ⟨by first | rfl | simp, HG7.out.tr HG9.out⟩
        · have hym := hcn.resolve_left hcz
          have hbt := fun w => HBT.out w
          rw [hym.1, hym.2, show (y - y) * 12 + m - m = 0 by omega] at hbt
          have HBT2 := Lib.hid hbt
          have HK := Lib.hid hk
          have bc : (opU S (E + 1) - opU S F == 0) = false := beq_eq_false_iff_ne.2 hcz
          clear hk hcn hbt hym
          generalize opU S (E + 1) - opU S F = cc at HK bc hcz
          go_wp2_with (first | (go_at_call 36; (with_reducible refine HK.out.mono ?_); rintro ev w6 ⟨rfl, rfl⟩) | (go_at_call 39; (with_reducible refine (HBT2.out _).mono ?_); rintro ev w10 ⟨rfl, hg10⟩))
          go_ret
          exact ⟨by first | rfl | simp, (HG7.out.tr HG9.out).tr hg10⟩
  · go_enter Tryz.func11, Tryz.ntmps11
    go_wp2_with (go_at_call 18; (with_reducible refine HBG.out.mono ?_); rintro ev w1 ⟨rfl, hg1⟩)
    refine (rules_calls rs v w1 (HR.out.gr hg1) HL.out).mono ?_
    rintro ev w2 ⟨⟨u, rfl, hu⟩, hg2⟩
    have HU := Lib.hid hu
    have HG2 := Lib.hid (hg1.tr hg2)
    clear hu hg1 hg2
    go_wp2_with fail
    refine (newR_calls rs u w2 HU.out).mono ?_
    rintro ev w3 ⟨⟨p, b0, nn, S, rfl, hci, hsb, hnn⟩, hg3⟩
    have HG3 := Lib.hid (HG2.out.tr hg3)
    have HCA := Lib.hid hci.at_
    have HSD := Lib.hid (sameDate_calls w3 (HM.out.keep HG3.out).1)
    have HRO := Lib.hid (roll_calls (.pointer (some ⟨p, 0, none⟩)) S d 3 hd0 hd1 (by decide) (by decide) w3 hci.at_)
    clear hci hsb hnn hg3
    go_wp2_with (go_at_call 26; (with_reducible refine (HDY.out _).mono ?_); rintro ev w4 ⟨rfl, rfl⟩)
    refine HRO.out.mono ?_
    rintro ev w4 ⟨⟨a, ha, he⟩, hg4⟩
    have HG4 := Lib.hid (HG3.out.tr hg4)
    have HCA4 := Lib.hid (HCA.out.gr hg4)
    clear hg4
    by_cases hne : a = -1
    · rw [hne, atE_no] at he
      subst he
      have HSE := Lib.hid (sameDate_calls w4 (HM.out.keep HG4.out).1)
      clear ha hne
      go_wp2_with (go_at_call 22; (with_reducible refine HSE.out.mono ?_); rintro ev w5 ⟨rfl, hg5⟩)
      go_ret
      exact ⟨rfl, HG4.out.tr hg5⟩
    · rw [atE_ok hne] at he
      subst he
      have har := (rollR_range hd0 hd1 ha).resolve_left hne
      have ha0 := har.1
      have ha1 := har.2
      have HRO2 := Lib.hid (roll_calls (.pointer (some ⟨p, 0, none⟩)) S a 3 ha0 ha1 (by decide) (by decide) w4 HCA4.out)
      have HTW := Lib.hid (fun b hb => rollR_twice (b := b) ha hne (by decide) (by decide) hb)
      have HHA := Lib.hid ha
      have HNE := Lib.hid hne
      clear ha hne har
      go_wp2_with fail
      refine HRO2.out.mono ?_
      rintro ev w5 ⟨⟨b, hb, he⟩, hg5⟩
      have hba := HTW.out b hb
      rw [hba, atE_ok HNE.out] at he
      subst he
      have HG5 := Lib.hid (HG4.out.tr hg5)
      have HCA5 := Lib.hid (HCA4.out.gr hg5)
      clear hb hba hg5
      have ho := open_calls (.pointer (some ⟨p, 0, none⟩)) S d (by omega) (by omega) w5 HCA5.out
      have hoa := open_calls (.pointer (some ⟨p, 0, none⟩)) S a (by omega) (by omega) w5 HCA5.out
      rw [rollR_open HHA.out (by decide) HNE.out] at hoa
      have HOA := Lib.hid hoa
      clear hoa
      cases hop : openB S d with
      | true =>
        have had : a = d := rollR_uniq HHA.out (rollR_here hop (by decide) (by decide))
        rw [hop] at ho
        have HO := Lib.hid ho
        have bad : (a != d) = false := by simp [had]
        clear ho hop had
        go_wp2_with (first | (go_at_call 27; (with_reducible refine HO.out.mono ?_); rintro ev w6 ⟨rfl, rfl⟩) | (go_at_call 27; (with_reducible refine HOA.out.mono ?_); rintro ev w6 ⟨rfl, rfl⟩))
        go_ret
        exact ⟨by first | rfl | simp, HG5.out⟩
      | false =>
        rw [hop] at ho
        have HO := Lib.hid ho
        clear ho hop
        go_wp2_with (first | (go_at_call 27; (with_reducible refine HO.out.mono ?_); rintro ev w6 ⟨rfl, rfl⟩) | (go_at_call 27; (with_reducible refine HOA.out.mono ?_); rintro ev w6 ⟨rfl, rfl⟩))
        go_ret
        exact ⟨by first | rfl | simp, HG5.out⟩
  · go_enter Tryz.func11, Tryz.ntmps11
    go_wp2_with (go_at_call 18; (with_reducible refine HBG.out.mono ?_); rintro ev w1 ⟨rfl, hg1⟩)
    refine (rules_calls rs v w1 (HR.out.gr hg1) HL.out).mono ?_
    rintro ev w2 ⟨⟨u, rfl, hu⟩, hg2⟩
    have HU := Lib.hid hu
    have HG2 := Lib.hid (hg1.tr hg2)
    clear hu hg1 hg2
    go_wp2_with fail
    refine (newR_calls rs u w2 HU.out).mono ?_
    rintro ev w3 ⟨⟨p, b0, nn, S, rfl, hci, hsb, hnn⟩, hg3⟩
    have HG3 := Lib.hid (HG2.out.tr hg3)
    have HCA := Lib.hid hci.at_
    have HSD := Lib.hid (sameDate_calls w3 (HM.out.keep HG3.out).1)
    have HRO := Lib.hid (roll_calls (.pointer (some ⟨p, 0, none⟩)) S d 4 hd0 hd1 (by decide) (by decide) w3 hci.at_)
    clear hci hsb hnn hg3
    go_wp2_with (go_at_call 26; (with_reducible refine (HDY.out _).mono ?_); rintro ev w4 ⟨rfl, rfl⟩)
    refine HRO.out.mono ?_
    rintro ev w4 ⟨⟨a, ha, he⟩, hg4⟩
    have HG4 := Lib.hid (HG3.out.tr hg4)
    have HCA4 := Lib.hid (HCA.out.gr hg4)
    clear hg4
    by_cases hne : a = -1
    · rw [hne, atE_no] at he
      subst he
      have HSE := Lib.hid (sameDate_calls w4 (HM.out.keep HG4.out).1)
      clear ha hne
      go_wp2_with (go_at_call 22; (with_reducible refine HSE.out.mono ?_); rintro ev w5 ⟨rfl, hg5⟩)
      go_ret
      exact ⟨rfl, HG4.out.tr hg5⟩
    · rw [atE_ok hne] at he
      subst he
      have har := (rollR_range hd0 hd1 ha).resolve_left hne
      have ha0 := har.1
      have ha1 := har.2
      have HRO2 := Lib.hid (roll_calls (.pointer (some ⟨p, 0, none⟩)) S a 4 ha0 ha1 (by decide) (by decide) w4 HCA4.out)
      have HTW := Lib.hid (fun b hb => rollR_twice (b := b) ha hne (by decide) (by decide) hb)
      have HHA := Lib.hid ha
      have HNE := Lib.hid hne
      clear ha hne har
      go_wp2_with fail
      refine HRO2.out.mono ?_
      rintro ev w5 ⟨⟨b, hb, he⟩, hg5⟩
      have hba := HTW.out b hb
      rw [hba, atE_ok HNE.out] at he
      subst he
      have HG5 := Lib.hid (HG4.out.tr hg5)
      have HCA5 := Lib.hid (HCA4.out.gr hg5)
      clear hb hba hg5
      have ho := open_calls (.pointer (some ⟨p, 0, none⟩)) S d (by omega) (by omega) w5 HCA5.out
      have hoa := open_calls (.pointer (some ⟨p, 0, none⟩)) S a (by omega) (by omega) w5 HCA5.out
      rw [rollR_open HHA.out (by decide) HNE.out] at hoa
      have HOA := Lib.hid hoa
      clear hoa
      cases hop : openB S d with
      | true =>
        have had : a = d := rollR_uniq HHA.out (rollR_here hop (by decide) (by decide))
        rw [hop] at ho
        have HO := Lib.hid ho
        have bad : (a != d) = false := by simp [had]
        clear ho hop had
        obtain ⟨ya, ma, qa, hda⟩ := isDay_of a ha0 ha1
        have HBT := Lib.hid (fun w => between_calls a d ya ma qa y m q hda HD.out w)
        have hcn : opU S (E + 1) - opU S F = 0 ∨ (ya = y ∧ ma = m) := by
          by_cases hs : SameM a d
          · right
            exact (sameM_iff hda HD.out).1 hs
          · left
            have := HMO.out S 4 a HHA.out (by decide) hs
            omega
        clear hda
        go_wp2_with (first | (go_at_call 27; (with_reducible refine HO.out.mono ?_); rintro ev w6 ⟨rfl, rfl⟩) | (go_at_call 27; (with_reducible refine HOA.out.mono ?_); rintro ev w6 ⟨rfl, rfl⟩) | (go_at_call 17; (with_reducible refine (HCI.out _).mono ?_); rintro ev w7 ⟨rfl, hg7⟩))
        have HG7 := Lib.hid (HG5.out.tr (hg7.tr ((Gr.rf w7).alloc (Nat.le_refl _) (.cells #[.int .i64 y, .int .i64 m, .int .i64 q] 23))))
        have HG57 := Lib.hid (hg7.tr ((Gr.rf w7).alloc (Nat.le_refl _) (.cells #[.int .i64 y, .int .i64 m, .int .i64 q] 23)))
        have hblk : (w7.alloc (.cells #[.int .i64 y, .int .i64 m, .int .i64 q] 23)).heap[w7.heap.size]? = some (.cells #[.int .i64 y, .int .i64 m, .int .i64 q] 23 (0, 0)) := heap_alloc_new w7 _
        generalize w7.alloc (.cells #[.int .i64 y, .int .i64 m, .int .i64 q] 23) = W7 at HG7 HG57 hblk ⊢
        generalize w7.heap.size = bb at hblk ⊢
        have HBK := Lib.hid hblk
        clear hblk hg7
        go_wp2_with fail
        refine (HOF.out _).mono ?_
        rintro ev w8 ⟨rfl, hg8⟩
        have hb8 := hg8.heap HBK.out
        have c0 := heap_cell hb8 0
        have c1 := heap_cell hb8 1
        have HG8 := Lib.hid hg8
        clear hb8 hg8
        go_wp2_with fail
        refine (HEN.out _).mono ?_
        rintro ev w9 ⟨rfl, hg9⟩
        have HG9 := Lib.hid (HG8.out.tr hg9)
        have hk := count_calls (.pointer (some ⟨p, 0, none⟩)) S F (E + 1) (by omega) (by omega) (by omega) (by omega) w9 (HCA5.out.gr (HG57.out.tr HG9.out))
        rw [cntV_lt (by omega)] at hk
        clear c0 c1 hg9
        by_cases hcz : opU S (E + 1) - opU S F = 0
        · rw [hcz] at hk
          have HK := Lib.hid hk
          clear hk hcz hcn
          go_wp2_with (go_at_call 36; (with_reducible refine HK.out.mono ?_); rintro ev w6 ⟨rfl, rfl⟩)
          go_ret
          exact ⟨by first | rfl | simp, HG7.out.tr HG9.out⟩
        · have hym := hcn.resolve_left hcz
          have hbt := fun w => HBT.out w
          rw [hym.1, hym.2, show (y - y) * 12 + m - m = 0 by omega] at hbt
          have HBT2 := Lib.hid hbt
          have HK := Lib.hid hk
          have bc : (opU S (E + 1) - opU S F == 0) = false := beq_eq_false_iff_ne.2 hcz
          clear hk hcn hbt hym
          generalize opU S (E + 1) - opU S F = cc at HK bc hcz
          go_wp2_with (first | (go_at_call 36; (with_reducible refine HK.out.mono ?_); rintro ev w6 ⟨rfl, rfl⟩) | (go_at_call 39; (with_reducible refine (HBT2.out _).mono ?_); rintro ev w10 ⟨rfl, hg10⟩))
          go_ret
          exact ⟨by first | rfl | simp, (HG7.out.tr HG9.out).tr hg10⟩
      | false =>
        rw [hop] at ho
        have HO := Lib.hid ho
        clear ho hop
        obtain ⟨ya, ma, qa, hda⟩ := isDay_of a ha0 ha1
        have HBT := Lib.hid (fun w => between_calls a d ya ma qa y m q hda HD.out w)
        have hcn : opU S (E + 1) - opU S F = 0 ∨ (ya = y ∧ ma = m) := by
          by_cases hs : SameM a d
          · right
            exact (sameM_iff hda HD.out).1 hs
          · left
            have := HMO.out S 4 a HHA.out (by decide) hs
            omega
        clear hda
        go_wp2_with (first | (go_at_call 27; (with_reducible refine HO.out.mono ?_); rintro ev w6 ⟨rfl, rfl⟩) | (go_at_call 27; (with_reducible refine HOA.out.mono ?_); rintro ev w6 ⟨rfl, rfl⟩) | (go_at_call 17; (with_reducible refine (HCI.out _).mono ?_); rintro ev w7 ⟨rfl, hg7⟩))
        have HG7 := Lib.hid (HG5.out.tr (hg7.tr ((Gr.rf w7).alloc (Nat.le_refl _) (.cells #[.int .i64 y, .int .i64 m, .int .i64 q] 23))))
        have HG57 := Lib.hid (hg7.tr ((Gr.rf w7).alloc (Nat.le_refl _) (.cells #[.int .i64 y, .int .i64 m, .int .i64 q] 23)))
        have hblk : (w7.alloc (.cells #[.int .i64 y, .int .i64 m, .int .i64 q] 23)).heap[w7.heap.size]? = some (.cells #[.int .i64 y, .int .i64 m, .int .i64 q] 23 (0, 0)) := heap_alloc_new w7 _
        generalize w7.alloc (.cells #[.int .i64 y, .int .i64 m, .int .i64 q] 23) = W7 at HG7 HG57 hblk ⊢
        generalize w7.heap.size = bb at hblk ⊢
        have HBK := Lib.hid hblk
        clear hblk hg7
        go_wp2_with fail
        refine (HOF.out _).mono ?_
        rintro ev w8 ⟨rfl, hg8⟩
        have hb8 := hg8.heap HBK.out
        have c0 := heap_cell hb8 0
        have c1 := heap_cell hb8 1
        have HG8 := Lib.hid hg8
        clear hb8 hg8
        go_wp2_with fail
        refine (HEN.out _).mono ?_
        rintro ev w9 ⟨rfl, hg9⟩
        have HG9 := Lib.hid (HG8.out.tr hg9)
        have hk := count_calls (.pointer (some ⟨p, 0, none⟩)) S F (E + 1) (by omega) (by omega) (by omega) (by omega) w9 (HCA5.out.gr (HG57.out.tr HG9.out))
        rw [cntV_lt (by omega)] at hk
        clear c0 c1 hg9
        by_cases hcz : opU S (E + 1) - opU S F = 0
        · rw [hcz] at hk
          have HK := Lib.hid hk
          clear hk hcz hcn
          go_wp2_with (go_at_call 36; (with_reducible refine HK.out.mono ?_); rintro ev w6 ⟨rfl, rfl⟩)
          go_ret
          exact ⟨by first | rfl | simp, HG7.out.tr HG9.out⟩
        · have hym := hcn.resolve_left hcz
          have hbt := fun w => HBT.out w
          rw [hym.1, hym.2, show (y - y) * 12 + m - m = 0 by omega] at hbt
          have HBT2 := Lib.hid hbt
          have HK := Lib.hid hk
          have bc : (opU S (E + 1) - opU S F == 0) = false := beq_eq_false_iff_ne.2 hcz
          clear hk hcn hbt hym
          generalize opU S (E + 1) - opU S F = cc at HK bc hcz
          go_wp2_with (first | (go_at_call 36; (with_reducible refine HK.out.mono ?_); rintro ev w6 ⟨rfl, rfl⟩) | (go_at_call 39; (with_reducible refine (HBT2.out _).mono ?_); rintro ev w10 ⟨rfl, hg10⟩))
          go_ret
          exact ⟨by first | rfl | simp, (HG7.out.tr HG9.out).tr hg10⟩
theorem rollLaws_calls (rs : List Ru) (v : Value) (n k : Int) (n0 : -9223372036854775808 ≤ n) (n1 : n ≤ 9223372036854775807) (k0 : -9223372036854775808 ≤ k) (k1 : k ≤ 9223372036854775807) (w : World) (hM : Met2 w)
    (hr : RulesAt w v rs) (hi : ∀ r ∈ rs, RuIn r) (hl : rs.length ≤ 9223372036854775807) :
    Calls Tryz.prog 11 #[v, .int .i64 n, .int .i64 k] w fun e w' => e = .returned (.bool true) ∧ Gr w w' := by
  obtain ⟨R, hR1, hR2, hR0, hR3, t0, t1⟩ := mod_two k 5 (by decide)
  have hd := day6_bd n
  obtain ⟨y, m, q, h⟩ := isDay_of (n % 109573) hd.1 hd.2
  exact rollLaws_core rs v n k _ R y m q hR1 hR2 t0 t1 (by omega) h (fun w => day6_calls n w) n0 n1 k0 k1 w hM hr hl
end Go.Proofs.YtjgihjpckjdikaaGreatDoor
