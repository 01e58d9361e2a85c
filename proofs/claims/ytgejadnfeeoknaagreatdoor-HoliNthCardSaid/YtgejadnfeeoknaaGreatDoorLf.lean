/- Layer 6: 'the N-th weekday of a month is one, in its week; the last one is in the last seven days', walked. -/
import Derived.Test.YtgejadnfeeoknaaGreatDoorLc
namespace Go.Proofs.YtgejadnfeeoknaaGreatDoor
open Go.RowKit Go.Extern.Stop Go.Stop Go.Extern
set_option linter.unusedVariables false
set_option linter.unusedSimpArgs false

def ruN (m n wd : Int) : Ru := ⟨2, m, 0, n, wd, false⟩
theorem ruN_may (m n wd : Int) (h0 : 1 ≤ m) (h1 : m ≤ 12) (h2 : (1 ≤ n ∧ n ≤ 5) ∨ n = -1) (h3 : 0 ≤ wd) (h4 : wd ≤ 6) : mayR (ruN m n wd) = true := by
  unfold mayR ruN
  simp
  omega
theorem last_facts (y m wd : Int) (h0 : 1900 ≤ y) (h1 : y ≤ 2199) (hm0 : 1 ≤ m) (hm1 : m ≤ 12) (w0 : 0 ≤ wd) (w1 : wd ≤ 6) :
    ∃ x : Int, 0 ≤ x ∧ x ≤ 6 ∧ lastWd y m wd = endN y m - x ∧ IsDay (lastWd y m wd) y m (lenM y m - x) ∧ (lastWd y m wd + 1) % 7 = wd ∧ holD (ruN m (-1) wd) y = some (lastWd y m wd) := by
  have hE := endN_day y m h0 h1 hm0 hm1
  have hl := lenM_pos y m hm0 hm1
  have hd : IsDay (lastWd y m wd) y m (lenM y m - ((endN y m + 1) % 7 - wd) % 7) := by
    refine ⟨h0, h1, hm0, hm1, by omega, by omega, ?_⟩
    unfold lastWd endN dayN
    omega
  refine ⟨((endN y m + 1) % 7 - wd) % 7, by omega, by omega, rfl, hd, by unfold lastWd; omega, ?_⟩
  refine holD_may (ruN_may m (-1) wd hm0 hm1 (.inr rfl) w0 w1) ?_ (isDay_range hd)
  show (if 1900 ≤ y ∧ y ≤ 2199 then (if (-1 : Int) = -1 then some (lastWd y m wd) else if nthWd y m (-1) wd ≤ endN y m then some (nthWd y m (-1) wd) else none) else none) = _
  rw [if_pos ⟨h0, h1⟩, if_pos rfl]
theorem nth_facts (y m n wd : Int) (h0 : 1900 ≤ y) (h1 : y ≤ 2199) (hm0 : 1 ≤ m) (hm1 : m ≤ 12) (n0 : 1 ≤ n) (n1 : n ≤ 5) (w0 : 0 ≤ wd) (w1 : wd ≤ 6) :
    (holD (ruN m n wd) y = none ∧ n = 5) ∨ ∃ d q : Int, holD (ruN m n wd) y = some d ∧ IsDay d y m q ∧ (d + 1) % 7 = wd ∧ (q - 1) / 7 = n - 1 ∧ d ≤ lastWd y m wd := by
  have hF := firstN_day y m h0 h1 hm0 hm1
  have hl := lenM_pos y m hm0 hm1
  have hfe := endN_first y m
  have hraw : rawD (ruN m n wd) y = if nthWd y m n wd ≤ endN y m then some (nthWd y m n wd) else none := by
    show (if 1900 ≤ y ∧ y ≤ 2199 then (if n = -1 then some (lastWd y m wd) else if nthWd y m n wd ≤ endN y m then some (nthWd y m n wd) else none) else none) = _
    rw [if_pos ⟨h0, h1⟩, if_neg (by omega)]
  by_cases hle : nthWd y m n wd ≤ endN y m
  · rw [if_pos hle] at hraw
    refine .inr ⟨nthWd y m n wd, (wd - (dayN y m 1 + 1) % 7) % 7 + 7 * (n - 1) + 1, ?_, ?_, ?_, ?_, ?_⟩
    · refine holD_may (ruN_may m n wd hm0 hm1 (.inl ⟨n0, n1⟩) w0 w1) hraw ?_
      have := isDay_range hF
      have := endN_bd y m h0 h1 hm0 hm1
      unfold nthWd at hle ⊢
      omega
    · refine ⟨h0, h1, hm0, hm1, by omega, ?_, ?_⟩
      · unfold nthWd at hle; omega
      · unfold nthWd dayN; omega
    · unfold nthWd; omega
    · omega
    · unfold lastWd nthWd at *; omega
  · rw [if_neg hle] at hraw
    refine .inl ⟨holD_raw hraw, ?_⟩
    unfold nthWd at hle
    omega
set_option maxRecDepth 100000 in
set_option maxHeartbeats 4000000 in
theorem holiNth_calls (y m n wd : Int) (y0 : -9223372036854775808 ≤ y) (y1 : y ≤ 9223372036854775807) (m0 : -9223372036854775808 ≤ m) (m1 : m ≤ 9223372036854775807) (n0 : -9223372036854775808 ≤ n) (n1 : n ≤ 9223372036854775807) (v0 : -9223372036854775808 ≤ wd) (v1 : wd ≤ 9223372036854775807) (w : World) (hM : Met2 w) :
    Calls Tryz.prog 8 #[.int .i64 y, .int .i64 m, .int .i64 n, .int .i64 wd] w fun e w' => e = .returned (.bool true) ∧ Gr w w' := by
  have HB := Lib.hid (begun6_calls w hM)
  obtain ⟨R, hR1, hR2, hR0, hR3, t0, t1⟩ := mod_two y 300 (by decide)
  obtain ⟨M, hM1, hM2, hM0, hM3, s0, s1⟩ := mod_two m 12 (by decide)
  obtain ⟨N, hN1, hN2, hN0, hN3, p0, p1⟩ := mod_two n 5 (by decide)
  obtain ⟨V, hV1, hV2, hV0, hV3, q0, q1⟩ := mod_two wd 7 (by decide)
  obtain ⟨x, hx0, hx1, hle, hld, hlw, hlh⟩ := last_facts (1900 + R) (1 + M) V (by omega) (by omega) (by omega) (by omega) (by omega) (by omega)
  have hnf := nth_facts (1900 + R) (1 + M) (1 + N) V (by omega) (by omega) (by omega) (by omega) (by omega) (by omega) (by omega) (by omega)
  have hlr := isDay_range hld
  have hc1 := fun w => hday_calls (ruN (1 + M) (-1) V) (1900 + R) (by omega) (by omega) w
  simp only [holR_some hlh] at hc1
  have hcv := fun w => civil_calls _ _ _ _ hld w
  have hw1 := fun w => weekday_calls (lastWd (1900 + R) (1 + M) V) w hlr.1 hlr.2
  rw [hlw] at hw1
  have hL := fun w => length_calls (1900 + R) (1 + M) (by omega) (by omega) w
  have hlb := lenM_pos (1900 + R) (1 + M) (by omega) (by omega)
  have hlc := (lenM_bd (1900 + R) (1 + M)).2
  generalize lastWd (1900 + R) (1 + M) V = ld at *
  generalize lenM (1900 + R) (1 + M) = L at *
  have hwr : IntKind.i64.wrap (L - 7) = L - 7 := IntWalk.i64_in _ (by omega)
  obtain ⟨lk, hlk⟩ : ∃ lk, L - x = lk := ⟨_, rfl⟩
  rw [hlk] at hcv hld
  have bk : decide (lk ≤ L - 7) = false := decide_eq_false (by omega)
  have hlk0 : 1 ≤ lk := by omega
  have hlk1 : lk ≤ 31 := by omega
  unfold ruN ruV at hc1
  have HC1 := Lib.hid hc1
  have HCV := Lib.hid hcv
  have HW1 := Lib.hid hw1
  have HL := Lib.hid hL
  have HWR := Lib.hid hwr
  clear hc1 hcv hw1 hL hM hle hld hlw hlh hwr hlk hx0 hx1
  rcases hnf with ⟨hn, h5⟩ | ⟨d, q, hd, hdd, hdw, hdq, hdl⟩
  · have hc0 := fun w => hday_calls (ruN (1 + M) (1 + N) V) (1900 + R) (by omega) (by omega) w
    simp only [holR_none hn] at hc0
    unfold ruN ruV at hc0
    have HC0 := Lib.hid hc0
    have b5 : (1 + N == 5) = true := beq_iff_eq.2 h5
    clear hc0 hn h5
    go_enter Tryz.func8, Tryz.ntmps8
    go_wp2_with (first | (go_at_call 16; (with_reducible refine HB.out.mono ?_); rintro ev w1 ⟨rfl, hg1⟩) | (go_at_call 29; (with_reducible refine (HC0.out _).mono ?_); rintro ev w2 ⟨rfl, hg2⟩) | (go_at_call 29; (with_reducible refine (HC1.out _).mono ?_); rintro ev w3 ⟨rfl, hg3⟩) | (go_at_call 17; (with_reducible refine (HCV.out _).mono ?_); rintro ev w4 ⟨rfl, hg4⟩))
    have hga : Gr w4 (w4.alloc (.cells #[.int .i64 (1900 + R), .int .i64 (1 + M), .int .i64 lk] 24)) := (Gr.rf w4).alloc (Nat.le_refl _) _
    have HG := Lib.hid (((hg1.tr hg2).tr (hg3.tr hg4)).tr hga)
    have hwr := HWR.out
    go_quiet ((first | (go_at_call 19; exact qsame HW1.out) | (go_at_call 23; exact qsame HL.out)))
    go_wp2
    go_ret
    exact ⟨by first | rfl | simp, grDrew HG.out _⟩
  · have hc0 := fun w => hday_calls (ruN (1 + M) (1 + N) V) (1900 + R) (by omega) (by omega) w
    simp only [holR_some hd] at hc0
    unfold ruN ruV at hc0
    have HC0 := Lib.hid hc0
    have hdr := isDay_range hdd
    have hcw := fun w => civil_calls _ _ _ _ hdd w
    have hw2 := fun w => weekday_calls d w hdr.1 hdr.2
    rw [hdw] at hw2
    have HCW := Lib.hid hcw
    have HW2 := Lib.hid hw2
    have hq0 := hdd.2.2.2.2.1
    have hq1 := hdd.2.2.2.2.2.1
    have hq2 := (lenM_bd (1900 + R) (1 + M)).2
    have hq3 : q ≤ 31 := by omega
    have bq : ((q - 1) / 7 == 1 + N - 1) = true := beq_iff_eq.2 hdq
    have bq2 : ((q - 1) / 7 == N) = true := beq_iff_eq.2 (by omega)
    have bl : decide (d ≤ ld) = true := decide_eq_true hdl
    clear hc0 hd hcw hw2 hdw hdd hdq hdl hq1 hq2
    go_enter Tryz.func8, Tryz.ntmps8
    go_wp2_with (first | (go_at_call 16; (with_reducible refine HB.out.mono ?_); rintro ev w1 ⟨rfl, hg1⟩) | (go_at_call 29; (with_reducible refine (HC0.out _).mono ?_); rintro ev w2 ⟨rfl, hg2⟩) | (go_at_call 29; (with_reducible refine (HC1.out _).mono ?_); rintro ev w3 ⟨rfl, hg3⟩) | (go_at_call 17; (with_reducible refine (HCV.out _).mono ?_); rintro ev w4 ⟨rfl, hg4⟩))
    have hga : Gr w4 (w4.alloc (.cells #[.int .i64 (1900 + R), .int .i64 (1 + M), .int .i64 lk] 24)) := (Gr.rf w4).alloc (Nat.le_refl _) _
    have HG := Lib.hid (((hg1.tr hg2).tr (hg3.tr hg4)).tr hga)
    have hwr := HWR.out
    go_quiet ((first | (go_at_call 19; exact qsame HW1.out) | (go_at_call 23; exact qsame HL.out)))
    clear hwr hg1 hg2 hg3 hg4 hga
    go_wp2_with (first | (go_at_call 17; (refine (HCW.out _).mono ?_); rintro ev w5 ⟨rfl, hg5⟩))
    have hga5 : Gr w5 (w5.alloc (.cells #[.int .i64 (1900 + R), .int .i64 (1 + M), .int .i64 q] 24)) := (Gr.rf w5).alloc (Nat.le_refl _) _
    have HG5 := Lib.hid (((grDrew HG.out _).tr hg5).tr hga5)
    go_wp2_with (first | (go_at_call 19; (with_reducible refine (HW2.out _).mono ?_); rintro ev w6 ⟨rfl, rfl⟩))
    go_ret
    exact ⟨by first | rfl | simp, HG5.out⟩
end Go.Proofs.YtgejadnfeeoknaaGreatDoor
