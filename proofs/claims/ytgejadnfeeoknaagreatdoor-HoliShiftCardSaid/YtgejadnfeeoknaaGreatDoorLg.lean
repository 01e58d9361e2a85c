/- Layer 6: 'a fixed holiday that is shifted is never on a weekend; it is at most a day away', walked. -/
import Derived.Test.YtgejadnfeeoknaaGreatDoorLe
namespace Go.Proofs.YtgejadnfeeoknaaGreatDoor
open Go.RowKit Go.Extern.Stop Go.Stop Go.Extern
set_option linter.unusedVariables false
set_option linter.unusedSimpArgs false

theorem lenR_cases (m : Int) (h0 : 1 ≤ m) (h1 : m ≤ 12) : lenM 2000 m = 29 ∨ lenM 2000 m = 30 ∨ lenM 2000 m = 31 := by
  rcases (by omega : m = 1 ∨ m = 2 ∨ m = 3 ∨ m = 4 ∨ m = 5 ∨ m = 6 ∨ m = 7 ∨ m = 8 ∨ m = 9 ∨ m = 10 ∨ m = 11 ∨ m = 12) with rfl | rfl | rfl | rfl | rfl | rfl | rfl | rfl | rfl | rfl | rfl | rfl <;> decide +kernel
theorem mod_three (y k : Int) (hk : 0 < k) : (y.tmod k + k).tmod k = (y.tmod k + k) % k := Int.tmod_eq_emod_of_nonneg (by have := tmod_bd y k hk; omega)
/-- The day of the month that is drawn, as Go reckons it. -/
theorem day_form (d k : Int) (hk : 28 ≤ k) (hk2 : k ≤ 31) : ∃ D : Int, wrap64 (1 + (wrap64 (d.tmod k + k)).tmod k) = D ∧ 1 ≤ D ∧ D ≤ k := by
  have hb := tmod_bd d k (by omega)
  have h0 := Int.emod_nonneg (d.tmod k + k) (show k ≠ 0 by omega)
  have h1 := Int.emod_lt_of_pos (d.tmod k + k) (show 0 < k by omega)
  refine ⟨1 + (d.tmod k + k) % k, ?_, by omega, by omega⟩
  rw [IntWalk.wrap64_in (d.tmod k + k) (by omega), mod_three d k (by omega), IntWalk.wrap64_in _ (by omega)]
def ruF (m d : Int) (sh : Bool) : Ru := ⟨1, m, d, 0, 0, sh⟩
theorem ruF_may (m d : Int) (sh : Bool) (d0 : 1 ≤ d) (d1 : d ≤ lenM 2000 m) : mayR (ruF m d sh) = true := by
  unfold mayR ruF
  simp
  omega
theorem ruF_raw (m d y : Int) (sh : Bool) : rawD (ruF m d sh) y = if OkC y m d then some (if sh then shiftD (dayN y m d) else dayN y m d) else none := rfl
theorem shiftD_wd (x : Int) : (shiftD x + 1) % 7 ≠ 0 ∧ (shiftD x + 1) % 7 ≠ 6 := by
  unfold shiftD
  split
  · omega
  · split <;> omega
theorem shift_facts (y m d : Int) (h0 : 1901 ≤ y) (h1 : y ≤ 2198) (hm0 : 1 ≤ m) (hm1 : m ≤ 12) (d0 : 1 ≤ d) (d1 : d ≤ lenM 2000 m) :
    (holD (ruF m d false) y = none ∧ holD (ruF m d true) y = none ∧ m = 2 ∧ d = 29 ∧ leapB y = false) ∨
    ∃ A b, holD (ruF m d false) y = some A ∧ holD (ruF m d true) y = some b ∧ IsDay A y m d ∧ (b + 1) % 7 ≠ 0 ∧ (b + 1) % 7 ≠ 6 ∧ -1 ≤ b - A ∧ b - A ≤ 1 ∧ 0 ≤ b ∧ b ≤ 109572 ∧ (b = A ∨ (b ≠ A ∧ ∀ j, holD (ruF m d true) j ≠ some A)) := by
  by_cases hok : OkC y m d
  · have hA := okC_day hok
    have hyr := isDay_in_year hA
    have hb0 := befY_mono 1901 y h0
    have hb1 := befY_mono (y + 1) 2199 (by omega)
    have e0 : befY 1901 = 365 := by decide
    have e1 : befY 2199 = 109208 := by decide
    have hw := shiftD_wd (dayN y m d)
    have hs : -1 ≤ shiftD (dayN y m d) - dayN y m d ∧ shiftD (dayN y m d) - dayN y m d ≤ 1 := by
      unfold shiftD; split
      · omega
      · split <;> omega
    refine .inr ⟨dayN y m d, shiftD (dayN y m d), holD_may (ruF_may m d false d0 d1) (by rw [ruF_raw, if_pos hok]; rfl) (isDay_range hA), holD_may (ruF_may m d true d0 d1) (by rw [ruF_raw, if_pos hok]; rfl) (by omega), hA, hw.1, hw.2, hs.1, hs.2, by omega, by omega, ?_⟩
    by_cases e : shiftD (dayN y m d) = dayN y m d
    · exact .inl e
    · refine .inr ⟨e, fun j hj => ?_⟩
      have hx : (dayN y m d + 1) % 7 = 0 ∨ (dayN y m d + 1) % 7 = 6 := by
        unfold shiftD at e
        split at e
        · exact .inr (by assumption)
        · split at e
          · exact .inl (by assumption)
          · exact absurd rfl e
      have hraw : ∃ x, dayN y m d = shiftD x := by
        unfold holD at hj
        rw [if_pos (ruF_may m d true d0 d1), ruF_raw] at hj
        split at hj
        · simp only [if_true, Option.bind_some] at hj
          split at hj
          · exact ⟨_, (Option.some.inj hj).symm⟩
          · cases hj
        · cases hj
      obtain ⟨x, hxx⟩ := hraw
      have := shiftD_wd x
      rw [← hxx] at this
      omega
  · refine .inl ⟨holD_raw (by rw [ruF_raw, if_neg hok]), holD_raw (by rw [ruF_raw, if_neg hok]), ?_⟩
    have hlt : lenM y m < d := by
      by_cases c : d ≤ lenM y m
      · exact absurd ⟨by omega, by omega, d0, c⟩ hok
      · omega
    by_cases hm : m = 2
    · subst hm
      have e1 : lenM y 2 = 28 + lp y := by simp [lenM]
      have e2 : lenM 2000 2 = 29 := by decide
      have := lp_01 y
      have e3 : lp y = 0 := by omega
      refine ⟨rfl, by omega, ?_⟩
      cases hb : leapB y with
      | false => rfl
      | true => unfold lp at e3; rw [hb] at e3; simp at e3
    · have e : lenM y m = lenM 2000 m := by unfold lenM; rw [if_neg hm, if_neg hm]
      omega
theorem box5 {w : World} {b : Nat} {m d : Int} (h : BoxAt w b (ruF m d false)) : BoxAt (w.setCell ⟨b, 5, none⟩ (.bool true)) b (ruF m d true) := by
  unfold BoxAt
  rw [heap_setCell_same _ _ _ _ _ _ h]
  rfl
set_option maxRecDepth 100000 in
set_option maxHeartbeats 8000000 in
theorem holiShift_core (y m d R M L : Int) (w : World) (hM : Met2 w) (hR1 : (y.tmod 298 + 298) % 298 = R) (hR2 : y.tmod 298 % 298 = R) (hR0 : 0 ≤ R) (hR3 : R < 298) (t0 : -298 < y.tmod 298) (t1 : y.tmod 298 < 298)
    (hM1 : (m.tmod 12 + 12) % 12 = M) (hM2 : m.tmod 12 % 12 = M) (hM0 : 0 ≤ M) (hM3 : M < 12) (s0 : -12 < m.tmod 12) (s1 : m.tmod 12 < 12)
    (d0 : -9223372036854775808 ≤ d) (d1 : d ≤ 9223372036854775807) (hL : lenM 2000 (1 + M) = L) (hLc : L = 29 ∨ L = 30 ∨ L = 31) :
    Calls Tryz.prog 9 #[.int .i64 y, .int .i64 m, .int .i64 d] w fun e w' => e = .returned (.bool true) ∧ Gr w w' := by
  have HB := Lib.hid (begun6_calls w hM)
  have hl := fun w => lengthR_calls 2000 (1 + M) (by decide) (by decide) w
  rw [hL] at hl
  obtain ⟨D, hD, hD0, hD1⟩ := day_form d L (by omega) (by omega)
  have hsf := shift_facts (1901 + R) (1 + M) D (by omega) (by omega) (by omega) (by omega) hD0 (by omega)
  have hD31 : D ≤ 31 := by omega
  clear hL hM hD1
  rcases hLc with rfl | rfl | rfl
  all_goals
    have HLR := Lib.hid hl
    have HD := Lib.hid hD
    clear hl hD
    rcases hsf with ⟨hn1, hn2, hm2, hd29, hlp⟩ | ⟨A, b, ha, hb, hA, hw0, hw6, hs0, hs1, hb0, hb1, hor⟩
    · have hc1 := fun w => hday_calls (ruF (1 + M) D false) (1901 + R) (by omega) (by omega) w
      have hc2 := fun w => hday_calls (ruF (1 + M) D true) (1901 + R) (by omega) (by omega) w
      simp only [holR_none hn1] at hc1
      simp only [holR_none hn2] at hc2
      unfold ruF ruV at hc1 hc2
      have HC1 := Lib.hid hc1
      have HC2 := Lib.hid hc2
      have hlc := fun w => leap_calls (1901 + R) (by omega) (by omega) w
      rw [hlp] at hlc
      have HLP := Lib.hid hlc
      have bm : (1 + M == 2) = true := beq_iff_eq.2 hm2
      have bd : (D == 29) = true := beq_iff_eq.2 hd29
      clear hc1 hc2 hlc hn1 hn2 hm2 hd29 hlp
      go_enter Tryz.func9, Tryz.ntmps9
      go_wp2_with (first | (go_at_call 16; (with_reducible refine HB.out.mono ?_); rintro ev w1 ⟨rfl, hg1⟩))
      go_quiet ((go_at_call 24; exact qsame HLR.out))
      rw [HD.out]
      have hg1q := grDrew hg1 nq
      generalize w1.drewN nq = W1 at hg1q ⊢
      have HG1 := Lib.hid hg1q
      have HRB := Lib.hid hg1q.size
      clear hg1 hg1q
      go_wp2_with fail
      have HBX := Lib.hid (boxAt_new W1 (ruF (1 + M) D false))
      have hga := boxGr W1 (ruF (1 + M) D false)
      refine (HC1.out _).mono ?_
      rintro ev w2 ⟨rfl, hg2⟩
      have hbx2 := HBX.out.gr hg2
      have HBX2 := Lib.hid hbx2
      have HG2 := Lib.hid (HG1.out.tr (Gr.tr hga hg2))
      obtain ⟨c0, c1, c2, c3, c4, c5⟩ := hbx2.cells
      have f5 := heap_free hbx2 5
      clear hbx2 hga hg2
      generalize W1.heap.size = rb at *
      unfold ruF at c0 c1 c2 c3 c4 c5
      dsimp only at c0 c1 c2 c3 c4 c5
      go_wp2_with fail
      have HG3 := Lib.hid (grSet HG2.out (a := ⟨rb, 5, none⟩) HRB.out (.bool true))
      have HBX3 := Lib.hid (box5 HBX2.out)
      generalize w2.setCell ⟨rb, 5, none⟩ (.bool true) = W3 at HG3 HBX3 ⊢
      refine (HC2.out _).mono ?_
      rintro ev w4 ⟨rfl, hg4⟩
      have HG4 := Lib.hid (HG3.out.tr hg4)
      have HBX4 := Lib.hid (HBX3.out.gr hg4)
      clear hg4 c0 c1 c2 c3 c4 c5 f5
      go_wp2_with (first | (go_at_call 21; (with_reducible refine (HLP.out _).mono ?_); rintro ev w5 ⟨rfl, rfl⟩))
      go_ret
      exact ⟨by first | rfl | simp, HG4.out⟩
    · have hc1 := fun w => hday_calls (ruF (1 + M) D false) (1901 + R) (by omega) (by omega) w
      have hc2 := fun w => hday_calls (ruF (1 + M) D true) (1901 + R) (by omega) (by omega) w
      simp only [holR_some ha] at hc1
      simp only [holR_some hb] at hc2
      obtain ⟨y', m', k', hbd⟩ := isDay_of b hb0 hb1
      have hny := near_year (n := b - A) hbd hA (by omega) (by omega) (by omega)
      have hi := fun w => his_calls (ruF (1 + M) D true) b y' m' k' hbd w
      rw [isR_yes hny.1 hny.2 hb] at hi
      have hw := fun w => weekday_calls b w hb0 hb1
      generalize (b + 1) % 7 = X at hw hw0 hw6
      have bx0 : (X != 0) = true := bne_iff_ne.2 hw0
      have bx6 : (X != 6) = true := bne_iff_ne.2 hw6
      have bs1 : decide (b - A ≤ 1) = true := decide_eq_true hs1
      have bs0 : decide (A - b ≤ 1) = true := decide_eq_true (by omega)
      have hAr := isDay_range hA
      have hi2 : b ≠ A → ∀ w, Calls Tryz.prog 30 #[ruV (ruF (1 + M) D true), .int .i64 A] w fun e w' => e = .returned (.bool false) ∧ Gr w w' := by
        intro hne w
        have h := his_calls (ruF (1 + M) D true) A _ _ _ hA w
        rw [isR_no (fun i _ _ => (hor.resolve_left hne).2 i)] at h
        exact h
      unfold ruF ruV at hc1 hc2 hi hi2
      have HC1 := Lib.hid hc1
      have HC2 := Lib.hid hc2
      have HW := Lib.hid hw
      have HI := Lib.hid hi
      have HI2 := Lib.hid hi2
      clear hc1 hc2 hi hi2 hw ha hb hA hw0 hw6 hbd hny hor
      by_cases hba : b = A
      · subst hba
        have bab : (b == b) = true := beq_self_eq_true b
        go_enter Tryz.func9, Tryz.ntmps9
        go_wp2_with (first | (go_at_call 16; (with_reducible refine HB.out.mono ?_); rintro ev w1 ⟨rfl, hg1⟩))
        go_quiet ((go_at_call 24; exact qsame HLR.out))
        rw [HD.out]
        have hg1q := grDrew hg1 nq
        generalize w1.drewN nq = W1 at hg1q ⊢
        have HG1 := Lib.hid hg1q
        have HRB := Lib.hid hg1q.size
        clear hg1 hg1q
        go_wp2_with fail
        have HBX := Lib.hid (boxAt_new W1 (ruF (1 + M) D false))
        have hga := boxGr W1 (ruF (1 + M) D false)
        refine (HC1.out _).mono ?_
        rintro ev w2 ⟨rfl, hg2⟩
        have hbx2 := HBX.out.gr hg2
        have HBX2 := Lib.hid hbx2
        have HG2 := Lib.hid (HG1.out.tr (Gr.tr hga hg2))
        obtain ⟨c0, c1, c2, c3, c4, c5⟩ := hbx2.cells
        have f5 := heap_free hbx2 5
        clear hbx2 hga hg2
        generalize W1.heap.size = rb at *
        unfold ruF at c0 c1 c2 c3 c4 c5
        dsimp only at c0 c1 c2 c3 c4 c5
        go_wp2_with fail
        have HG3 := Lib.hid (grSet HG2.out (a := ⟨rb, 5, none⟩) HRB.out (.bool true))
        have HBX3 := Lib.hid (box5 HBX2.out)
        generalize w2.setCell ⟨rb, 5, none⟩ (.bool true) = W3 at HG3 HBX3 ⊢
        refine (HC2.out _).mono ?_
        rintro ev w4 ⟨rfl, hg4⟩
        have HG4 := Lib.hid (HG3.out.tr hg4)
        have HBX4 := Lib.hid (HBX3.out.gr hg4)
        clear hg4 c0 c1 c2 c3 c4 c5 f5
        obtain ⟨c0, c1, c2, c3, c4, c5⟩ := HBX4.out.cells
        unfold ruF at c0 c1 c2 c3 c4 c5
        dsimp only at c0 c1 c2 c3 c4 c5
        go_wp2_with (first | (go_at_call 19; (with_reducible refine (HW.out _).mono ?_); rintro ev w5 ⟨rfl, rfl⟩))
        refine (HI.out _).mono ?_
        rintro ev w6 ⟨rfl, hg6⟩
        clear c0 c1 c2 c3 c4 c5
        obtain ⟨c0, c1, c2, c3, c4, c5⟩ := (HBX4.out.gr hg6).cells
        unfold ruF at c0 c1 c2 c3 c4 c5
        dsimp only at c0 c1 c2 c3 c4 c5
        have HG6 := Lib.hid (HG4.out.tr hg6)
        clear hg6
        go_wp2
        go_ret
        exact ⟨by first | rfl | simp, HG6.out⟩
      · have bab : (A == b) = false := beq_eq_false_iff_ne.2 (fun e => hba e.symm)
        have HI3 := Lib.hid (HI2.out hba)
        clear hba HI2
        go_enter Tryz.func9, Tryz.ntmps9
        go_wp2_with (first | (go_at_call 16; (with_reducible refine HB.out.mono ?_); rintro ev w1 ⟨rfl, hg1⟩))
        go_quiet ((go_at_call 24; exact qsame HLR.out))
        rw [HD.out]
        have hg1q := grDrew hg1 nq
        generalize w1.drewN nq = W1 at hg1q ⊢
        have HG1 := Lib.hid hg1q
        have HRB := Lib.hid hg1q.size
        clear hg1 hg1q
        go_wp2_with fail
        have HBX := Lib.hid (boxAt_new W1 (ruF (1 + M) D false))
        have hga := boxGr W1 (ruF (1 + M) D false)
        refine (HC1.out _).mono ?_
        rintro ev w2 ⟨rfl, hg2⟩
        have hbx2 := HBX.out.gr hg2
        have HBX2 := Lib.hid hbx2
        have HG2 := Lib.hid (HG1.out.tr (Gr.tr hga hg2))
        obtain ⟨c0, c1, c2, c3, c4, c5⟩ := hbx2.cells
        have f5 := heap_free hbx2 5
        clear hbx2 hga hg2
        generalize W1.heap.size = rb at *
        unfold ruF at c0 c1 c2 c3 c4 c5
        dsimp only at c0 c1 c2 c3 c4 c5
        go_wp2_with fail
        have HG3 := Lib.hid (grSet HG2.out (a := ⟨rb, 5, none⟩) HRB.out (.bool true))
        have HBX3 := Lib.hid (box5 HBX2.out)
        generalize w2.setCell ⟨rb, 5, none⟩ (.bool true) = W3 at HG3 HBX3 ⊢
        refine (HC2.out _).mono ?_
        rintro ev w4 ⟨rfl, hg4⟩
        have HG4 := Lib.hid (HG3.out.tr hg4)
        have HBX4 := Lib.hid (HBX3.out.gr hg4)
        clear hg4 c0 c1 c2 c3 c4 c5 f5
        obtain ⟨c0, c1, c2, c3, c4, c5⟩ := HBX4.out.cells
        unfold ruF at c0 c1 c2 c3 c4 c5
        dsimp only at c0 c1 c2 c3 c4 c5
        go_wp2_with (first | (go_at_call 19; (with_reducible refine (HW.out _).mono ?_); rintro ev w5 ⟨rfl, rfl⟩))
        refine (HI.out _).mono ?_
        rintro ev w6 ⟨rfl, hg6⟩
        clear c0 c1 c2 c3 c4 c5
        obtain ⟨c0, c1, c2, c3, c4, c5⟩ := (HBX4.out.gr hg6).cells
        unfold ruF at c0 c1 c2 c3 c4 c5
        dsimp only at c0 c1 c2 c3 c4 c5
        have HG6 := Lib.hid (HG4.out.tr hg6)
        clear hg6
        go_wp2_with (first | (go_at_call 30; (with_reducible refine (HI3.out _).mono ?_); rintro ev w7 ⟨rfl, hg7⟩))
        go_ret
        exact ⟨by first | rfl | simp, HG6.out.tr hg7⟩
theorem holiShift_calls (y m d : Int) (y0 : -9223372036854775808 ≤ y) (y1 : y ≤ 9223372036854775807) (m0 : -9223372036854775808 ≤ m) (m1 : m ≤ 9223372036854775807) (d0 : -9223372036854775808 ≤ d) (d1 : d ≤ 9223372036854775807) (w : World) (hM : Met2 w) :
    Calls Tryz.prog 9 #[.int .i64 y, .int .i64 m, .int .i64 d] w fun e w' => e = .returned (.bool true) ∧ Gr w w' := by
  obtain ⟨R, hR1, hR2, hR0, hR3, t0, t1⟩ := mod_two y 298 (by decide)
  obtain ⟨M, hM1, hM2, hM0, hM3, s0, s1⟩ := mod_two m 12 (by decide)
  exact holiShift_core y m d R M _ w hM hR1 hR2 hR0 hR3 t0 t1 hM1 hM2 hM0 hM3 s0 s1 d0 d1 rfl (lenR_cases (1 + M) (by omega) (by omega))
end Go.Proofs.YtgejadnfeeoknaaGreatDoor
