/- Layer 6: 'months on and back again: the same day, or an earlier one of its month; ends stay ends', walked. -/
import Derived.Test.YtgejadnfeeoknaaGreatDoorLc
namespace Go.Proofs.YtgejadnfeeoknaaGreatDoor
open Go.RowKit Go.Extern.Stop Go.Stop Go.Extern
set_option linter.unusedVariables false
set_option linter.unusedSimpArgs false

theorem monD_ok {d y m q : Int} (h : IsDay d y m q) (k : Int) (en : Bool) : OkC y m (monD (monY y m k) (monM y m k) (monD y m q k en) (-k) en) := by
  have hb := mon_back y m k h.2.2.1 h.2.2.2.1
  have h1 := monD_bd y m q k en h.2.2.2.2.1
  have h2 := monD_bd (monY y m k) (monM y m k) (monD y m q k en) (-k) en h1.1
  rw [hb.1, hb.2] at h2
  exact ⟨h.1, h.2.1, h2.1, h2.2⟩
set_option maxRecDepth 100000 in
set_option maxHeartbeats 8000000 in
theorem monthBack_core (n k d y m q R : Int) (en : Bool) (w : World) (hM : Met2 w) (hd : n % 109573 = d) (h : IsDay d y m q) (hR1 : (k.tmod 600 + 600) % 600 = R) (hR2 : k.tmod 600 % 600 = R) (hR0 : 0 ≤ R) (hR3 : R < 600) (t0 : -600 < k.tmod 600) (t1 : k.tmod 600 < 600) :
    Calls Tryz.prog 11 #[.int .i64 n, .int .i64 k, .bool en] w fun e w' => e = .returned (.bool true) ∧ Gr w w' := by
  have HB := Lib.hid (begun6_calls w hM)
  have HM := Lib.hid hM
  have hdy := fun w => day6_calls n w
  rw [hd] at hdy
  have HDY := Lib.hid hdy
  have ha := fun w => madd_calls d y m q R en h (by omega) (by omega) w
  clear hdy hd hM
  by_cases hok : OkC (monY y m R) (monM y m R) (monD y m q R en)
  · have hA := okC_day hok
    simp only [ofD_ok hok, ofE_ok hok] at ha
    have hok2 := monD_ok h R en
    have hmb := mon_back y m R h.2.2.1 h.2.2.2.1
    have hb := fun w => madd_calls (dayN (monY y m R) (monM y m R) (monD y m q R en)) _ _ _ (-R) en hA (by omega) (by omega) w
    rw [hmb.1, hmb.2] at hb
    simp only [ofD_ok hok2, ofE_ok hok2] at hb
    have hBd := okC_day hok2
    have hb1 := fun w => between_calls d (dayN (monY y m R) (monM y m R) (monD y m q R en)) y m q _ _ _ h hA w
    rw [mon_diff] at hb1
    have hb2 := fun w => between_calls _ d y m _ y m q hBd h w
    rw [show (y - y) * 12 + m - m = 0 by omega] at hb2
    have hl1 := fun w => last_calls d y m q h w
    have hl2 := fun w => last_calls _ _ _ _ hA w
    have hcx := fun w => civil_calls d y m q h w
    have hcz := fun w => civil_calls _ y m _ hBd w
    have hend : en = true → q = lenM y m → decide (monD y m q R en = lenM (monY y m R) (monM y m R)) = true ∧ dayN y m (monD (monY y m R) (monM y m R) (monD y m q R en) (-R) en) = d := by
      rintro rfl e
      refine ⟨decide_eq_true (by rw [e]; exact monD_end y m R), ?_⟩
      rw [e, monD_back_end y m R h.2.2.1 h.2.2.2.1, ← e]
      exact (day_okC h).2.symm
    have hle : ¬ (en = true ∧ q = lenM y m) → ¬ monD (monY y m R) (monM y m R) (monD y m q R en) (-R) en ≤ q → en = true ∧ decide (monD y m q R en = lenM (monY y m R) (monM y m R)) = true := by
      intro h1 h2
      by_cases h3 : en = true ∧ monD y m q R en = lenM (monY y m R) (monM y m R)
      · exact ⟨h3.1, decide_eq_true h3.2⟩
      · exact absurd (monD_back_le y m q R en h1 h3) h2
    generalize dayN (monY y m R) (monM y m R) (monD y m q R en) = A at *
    generalize decide (monD y m q R en = lenM (monY y m R) (monM y m R)) = la at *
    generalize dayN y m (monD (monY y m R) (monM y m R) (monD y m q R en) (-R) en) = Bd at *
    generalize monD (monY y m R) (monM y m R) (monD y m q R en) (-R) en = D2 at *
    have HA := Lib.hid ha
    have HBD := Lib.hid hb
    have HB1 := Lib.hid hb1
    have HB2 := Lib.hid hb2
    have HL2 := Lib.hid hl2
    have HCX := Lib.hid hcx
    have HCZ := Lib.hid hcz
    clear ha hb hb1 hb2 hl2 hcx hcz hok hok2 hmb hA hBd
    by_cases hc : en = true ∧ q = lenM y m
    · obtain ⟨e1, e2⟩ := hc
      obtain ⟨e3, e4⟩ := hend e1 e2
      simp only [decide_eq_true e2] at hl1
      have HL1 := Lib.hid hl1
      subst e1
      subst e3
      have be : (Bd == d) = true := beq_iff_eq.2 e4
      clear hend hle hl1 e2 e4 h
      go_enter Tryz.func11, Tryz.ntmps11
      go_wp2_with (first | (go_at_call 16; (with_reducible refine HB.out.mono ?_); rintro ev w1 ⟨rfl, hg1⟩) | (go_at_call 25; (with_reducible refine (HDY.out _).mono ?_); rintro ev w2 ⟨rfl, rfl⟩) | (go_at_call 31; (with_reducible refine (HA.out _).mono ?_); rintro ev w2 ⟨rfl, hg2⟩))
      go_wp2_with (first | (go_at_call 31; (with_reducible refine (HBD.out _).mono ?_); rintro ev w3 ⟨rfl, hg3⟩) | (go_at_call 37; (with_reducible refine (HB1.out _).mono ?_); rintro ev w4 ⟨rfl, hg4⟩))
      go_wp2_with (first | (go_at_call 37; (with_reducible refine (HB2.out _).mono ?_); rintro ev w5 ⟨rfl, hg5⟩))
      go_wp2_with (first | (go_at_call 35; (with_reducible refine (HL1.out _).mono ?_); rintro ev w6 ⟨rfl, hg6⟩))
      go_wp2_with (first | (go_at_call 35; (with_reducible refine (HL2.out _).mono ?_); rintro ev w7 ⟨rfl, hg7⟩))
      go_ret
      exact ⟨by first | rfl | simp, (hg1.tr hg2).tr ((hg3.tr hg4).tr (hg5.tr (hg6.tr hg7)))⟩
    · have hle2 := hle hc
      by_cases hD : D2 ≤ q
      · have bD : decide (D2 ≤ q) = true := decide_eq_true hD
        clear hend hle hle2 hD
        cases en with
        | false =>
          clear hc hl1 h
          go_enter Tryz.func11, Tryz.ntmps11
          go_wp2_with (first | (go_at_call 16; (with_reducible refine HB.out.mono ?_); rintro ev w1 ⟨rfl, hg1⟩) | (go_at_call 25; (with_reducible refine (HDY.out _).mono ?_); rintro ev w2 ⟨rfl, rfl⟩) | (go_at_call 31; (with_reducible refine (HA.out _).mono ?_); rintro ev w2 ⟨rfl, hg2⟩))
          go_wp2_with (first | (go_at_call 31; (with_reducible refine (HBD.out _).mono ?_); rintro ev w3 ⟨rfl, hg3⟩) | (go_at_call 37; (with_reducible refine (HB1.out _).mono ?_); rintro ev w4 ⟨rfl, hg4⟩))
          go_wp2_with (first | (go_at_call 37; (with_reducible refine (HB2.out _).mono ?_); rintro ev w5 ⟨rfl, hg5⟩))
          go_wp2_with (first | (go_at_call 17; (with_reducible refine (HCX.out _).mono ?_); rintro ev w7 ⟨rfl, hg7⟩))
          have hblk := heap_alloc_new w7 (.cells #[.int .i64 y, .int .i64 m, .int .i64 q] 24)
          have hga : Gr w7 (w7.alloc (.cells #[.int .i64 y, .int .i64 m, .int .i64 q] 24)) := (Gr.rf w7).alloc (Nat.le_refl _) _
          have HG7 := Lib.hid (((hg1.tr hg2).tr ((hg3.tr hg4).tr hg5)).tr (hg7.tr hga))
          generalize w7.alloc (.cells #[.int .i64 y, .int .i64 m, .int .i64 q] 24) = W8 at hblk hga HG7 ⊢
          generalize w7.heap.size = bb at hblk ⊢
          have HBK := Lib.hid hblk
          clear hblk hga
          go_wp2_with fail
          refine (HCZ.out _).mono ?_
          rintro ev w9 ⟨rfl, hg9⟩
          have hb9 := hg9.heap HBK.out
          have c2 := heap_cell hb9 2
          have hlt9 := cells_lt hb9
          have hn1 : bb ≠ w9.heap.size := by omega
          have hn2 : w9.heap.size ≠ bb := by omega
          have HG9 := Lib.hid (HG7.out.tr hg9)
          clear hb9 hg9
          go_wp2
          go_ret
          have hga9 : Gr w9 (w9.alloc (.cells #[.int .i64 y, .int .i64 m, .int .i64 D2] 24)) := (Gr.rf w9).alloc (Nat.le_refl _) _
          exact ⟨by first | rfl | simp, HG9.out.tr hga9⟩
        | true =>
          have hq : q ≠ lenM y m := fun e => hc ⟨rfl, e⟩
          simp only [decide_eq_false hq] at hl1
          have HL1 := Lib.hid hl1
          clear hc hl1 h hq
          go_enter Tryz.func11, Tryz.ntmps11
          go_wp2_with (first | (go_at_call 16; (with_reducible refine HB.out.mono ?_); rintro ev w1 ⟨rfl, hg1⟩) | (go_at_call 25; (with_reducible refine (HDY.out _).mono ?_); rintro ev w2 ⟨rfl, rfl⟩) | (go_at_call 31; (with_reducible refine (HA.out _).mono ?_); rintro ev w2 ⟨rfl, hg2⟩))
          go_wp2_with (first | (go_at_call 31; (with_reducible refine (HBD.out _).mono ?_); rintro ev w3 ⟨rfl, hg3⟩) | (go_at_call 37; (with_reducible refine (HB1.out _).mono ?_); rintro ev w4 ⟨rfl, hg4⟩))
          go_wp2_with (first | (go_at_call 37; (with_reducible refine (HB2.out _).mono ?_); rintro ev w5 ⟨rfl, hg5⟩))
          go_wp2_with (first | (go_at_call 35; (with_reducible refine (HL1.out _).mono ?_); rintro ev w6 ⟨rfl, hg6⟩) | (go_at_call 17; (with_reducible refine (HCX.out _).mono ?_); rintro ev w7 ⟨rfl, hg7⟩))
          have hblk := heap_alloc_new w7 (.cells #[.int .i64 y, .int .i64 m, .int .i64 q] 24)
          have hga : Gr w7 (w7.alloc (.cells #[.int .i64 y, .int .i64 m, .int .i64 q] 24)) := (Gr.rf w7).alloc (Nat.le_refl _) _
          have HG7 := Lib.hid (((hg1.tr hg2).tr ((hg3.tr hg4).tr (hg5.tr hg6))).tr (hg7.tr hga))
          generalize w7.alloc (.cells #[.int .i64 y, .int .i64 m, .int .i64 q] 24) = W8 at hblk hga HG7 ⊢
          generalize w7.heap.size = bb at hblk ⊢
          have HBK := Lib.hid hblk
          clear hblk hga
          go_wp2_with fail
          refine (HCZ.out _).mono ?_
          rintro ev w9 ⟨rfl, hg9⟩
          have hb9 := hg9.heap HBK.out
          have c2 := heap_cell hb9 2
          have hlt9 := cells_lt hb9
          have hn1 : bb ≠ w9.heap.size := by omega
          have hn2 : w9.heap.size ≠ bb := by omega
          have HG9 := Lib.hid (HG7.out.tr hg9)
          clear hb9 hg9
          go_wp2
          go_ret
          have hga9 : Gr w9 (w9.alloc (.cells #[.int .i64 y, .int .i64 m, .int .i64 D2] 24)) := (Gr.rf w9).alloc (Nat.le_refl _) _
          exact ⟨by first | rfl | simp, HG9.out.tr hga9⟩
      · have bD : decide (D2 ≤ q) = false := decide_eq_false hD
        obtain ⟨e1, e3⟩ := hle2 hD
        subst e1
        subst e3
        have hq : q ≠ lenM y m := fun e => hc ⟨rfl, e⟩
        simp only [decide_eq_false hq] at hl1
        have HL1 := Lib.hid hl1
        clear hend hle hle2 hD hc hl1 h hq
        go_enter Tryz.func11, Tryz.ntmps11
        go_wp2_with (first | (go_at_call 16; (with_reducible refine HB.out.mono ?_); rintro ev w1 ⟨rfl, hg1⟩) | (go_at_call 25; (with_reducible refine (HDY.out _).mono ?_); rintro ev w2 ⟨rfl, rfl⟩) | (go_at_call 31; (with_reducible refine (HA.out _).mono ?_); rintro ev w2 ⟨rfl, hg2⟩))
        go_wp2_with (first | (go_at_call 31; (with_reducible refine (HBD.out _).mono ?_); rintro ev w3 ⟨rfl, hg3⟩) | (go_at_call 37; (with_reducible refine (HB1.out _).mono ?_); rintro ev w4 ⟨rfl, hg4⟩))
        go_wp2_with (first | (go_at_call 37; (with_reducible refine (HB2.out _).mono ?_); rintro ev w5 ⟨rfl, hg5⟩))
        go_wp2_with (first | (go_at_call 35; (with_reducible refine (HL1.out _).mono ?_); rintro ev w6 ⟨rfl, hg6⟩) | (go_at_call 17; (with_reducible refine (HCX.out _).mono ?_); rintro ev w7 ⟨rfl, hg7⟩))
        have hblk := heap_alloc_new w7 (.cells #[.int .i64 y, .int .i64 m, .int .i64 q] 24)
        have hga : Gr w7 (w7.alloc (.cells #[.int .i64 y, .int .i64 m, .int .i64 q] 24)) := (Gr.rf w7).alloc (Nat.le_refl _) _
        have HG7 := Lib.hid (((hg1.tr hg2).tr ((hg3.tr hg4).tr (hg5.tr hg6))).tr (hg7.tr hga))
        generalize w7.alloc (.cells #[.int .i64 y, .int .i64 m, .int .i64 q] 24) = W8 at hblk hga HG7 ⊢
        generalize w7.heap.size = bb at hblk ⊢
        have HBK := Lib.hid hblk
        clear hblk hga
        go_wp2_with fail
        refine (HCZ.out _).mono ?_
        rintro ev w9 ⟨rfl, hg9⟩
        have hb9 := hg9.heap HBK.out
        have c2 := heap_cell hb9 2
        have hlt9 := cells_lt hb9
        have hn1 : bb ≠ w9.heap.size := by omega
        have hn2 : w9.heap.size ≠ bb := by omega
        have HG9 := Lib.hid (HG7.out.tr hg9)
        clear hb9 hg9
        have hga9 : Gr w9 (w9.alloc (.cells #[.int .i64 y, .int .i64 m, .int .i64 D2] 24)) := (Gr.rf w9).alloc (Nat.le_refl _) _
        go_wp2_with (first | (go_at_call 35; (with_reducible refine (HL2.out _).mono ?_); rintro ev w10 ⟨rfl, hg10⟩))
        go_ret
        exact ⟨by first | rfl | simp, HG9.out.tr (hga9.tr hg10)⟩
  · simp only [ofD_no hok, ofE_no hok] at ha
    have HA := Lib.hid ha
    clear ha hok h
    go_enter Tryz.func11, Tryz.ntmps11
    go_wp2_with (first | (go_at_call 16; (with_reducible refine HB.out.mono ?_); rintro ev w1 ⟨rfl, hg1⟩) | (go_at_call 25; (with_reducible refine (HDY.out _).mono ?_); rintro ev w2 ⟨rfl, rfl⟩) | (go_at_call 31; (with_reducible refine (HA.out _).mono ?_); rintro ev w2 ⟨rfl, hg2⟩))
    have HS := Lib.hid (sameDate_calls w2 (HM.out.keep (hg1.tr hg2)).1)
    go_wp2_with (go_at_call 18; (with_reducible refine HS.out.mono ?_); rintro ev w3 ⟨rfl, hg3⟩)
    go_ret
    exact ⟨by first | rfl | simp, (hg1.tr hg2).tr hg3⟩
theorem monthBack_calls (n k : Int) (en : Bool) (n0 : -9223372036854775808 ≤ n) (n1 : n ≤ 9223372036854775807) (k0 : -9223372036854775808 ≤ k) (k1 : k ≤ 9223372036854775807) (w : World) (hM : Met2 w) :
    Calls Tryz.prog 11 #[.int .i64 n, .int .i64 k, .bool en] w fun e w' => e = .returned (.bool true) ∧ Gr w w' := by
  have hb := day6_bd n
  obtain ⟨y, m, q, h⟩ := isDay_of (n % 109573) hb.1 hb.2
  obtain ⟨R, hR1, hR2, hR0, hR3, t0, t1⟩ := mod_two k 600 (by decide)
  exact monthBack_core n k _ y m q R en w hM rfl h hR1 hR2 hR0 hR3 t0 t1
end Go.Proofs.YtgejadnfeeoknaaGreatDoor
