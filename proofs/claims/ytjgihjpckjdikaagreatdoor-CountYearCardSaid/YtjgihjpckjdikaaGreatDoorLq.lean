/- Layer 6: 'a year is one by 30E/360; by the others as many days as there are', walked. -/
import Derived.Test.YtjgihjpckjdikaaGreatDoorKe
import Derived.Test.YtjgihjpckjdikaaGreatDoorKp
namespace Go.Proofs.YtjgihjpckjdikaaGreatDoor
open Go.RowKit Go.Extern.Stop Go.Stop Go.Extern
set_option linter.unusedVariables false
set_option linter.unusedSimpArgs false

/-- By 365 days a part is less than by 360. -/
theorem part_less {n2 n3 z : Int} {d2 d3 : Nat} (hz : 0 < z) (h2 : n2 * 365 = z * (d2 : Int)) (h3 : n3 * 360 = z * (d3 : Int)) (p2 : 0 < d2) (p3 : 0 < d3) : 0 < n3 * (d2 : Int) - n2 * (d3 : Int) := by
  have q2 : 0 < (d2 : Int) := by omega
  have q3 : 0 < (d3 : Int) := by omega
  generalize (d2 : Int) = x at *
  generalize (d3 : Int) = y at *
  have e1 : (n3 * x) * 131400 = (z * (x * y)) * 365 := by
    have := congrArg (fun t => t * (x * 365)) h3
    calc (n3 * x) * 131400 = n3 * 360 * (x * 365) := by rw [Int.mul_assoc, Int.mul_assoc n3, show (360 : Int) * (x * 365) = x * 131400 by omega]
      _ = z * y * (x * 365) := this
      _ = (z * (x * y)) * 365 := by rw [Int.mul_assoc z, Int.mul_assoc z, ← Int.mul_assoc y, Int.mul_comm y x]
  have e2 : (n2 * y) * 131400 = (z * (x * y)) * 360 := by
    have := congrArg (fun t => t * (y * 360)) h2
    calc (n2 * y) * 131400 = n2 * 365 * (y * 360) := by rw [Int.mul_assoc, Int.mul_assoc n2, show (365 : Int) * (y * 360) = y * 131400 by omega]
      _ = z * x * (y * 360) := this
      _ = (z * (x * y)) * 360 := by rw [Int.mul_assoc z, Int.mul_assoc z, ← Int.mul_assoc x]
  have hp : 0 < z * (x * y) := Int.mul_pos hz (Int.mul_pos q2 q3)
  omega
theorem part_pos {n z : Int} {d : Nat} (hz : 0 < z) (h : n * 360 = z * (d : Int)) (p : 0 < d) : 0 < n := by
  have : 0 < z * (d : Int) := Int.mul_pos hz (by omega)
  omega
theorem year_on (d y m q R b : Int) (hd : IsDay d y m q) (R0 : 0 ≤ R) (R1 : R < 20) (hok : OkC (monY y m (12 * (1 + R))) (monM y m (12 * (1 + R))) (monD y m q (12 * (1 + R)) false)) (hb : b = dayN (monY y m (12 * (1 + R))) (monM y m (12 * (1 + R))) (monD y m q (12 * (1 + R)) false)) :
    ∃ q', IsDay b (y + 1 + R) m q' ∧ d < b ∧ (days30 y m q (y + 1 + R) m q' = 360 * (1 + R) ∨ (m = 2 ∧ q = 29 ∧ days30 y m q (y + 1 + R) m q' = 360 * (1 + R) - 1)) := by
  have e1 : monY y m (12 * (1 + R)) = y + 1 + R := by unfold monY; have := hd.2.2.1; have := hd.2.2.2.1; omega
  have e2 : monM y m (12 * (1 + R)) = m := by unfold monM; have := hd.2.2.1; have := hd.2.2.2.1; omega
  have e3 : monD y m q (12 * (1 + R)) false = min q (lenM (y + 1 + R) m) := by
    rw [monD_noend (by simp), e1, e2]
  rw [e1, e2, e3] at hb hok
  have hI := okC_day hok
  rw [← hb] at hI
  refine ⟨_, hI, ?_, ?_⟩
  · have a := isDay_in_year hd
    have b2 := isDay_in_year hI
    have c := befY_mono (y + 1) (y + 1 + R) (by omega)
    omega
  · have h5 := hd.2.2.2.2.1
    have h6 := hd.2.2.2.2.2.1
    have hl : lenM y m = lenM (y + 1 + R) m ∨ (m = 2 ∧ lenM y m = 28 + lp y ∧ lenM (y + 1 + R) m = 28 + lp (y + 1 + R)) := by
      by_cases h2 : m = 2
      · subst h2; exact .inr ⟨rfl, by simp [lenM], by simp [lenM]⟩
      · left; unfold lenM; simp [h2]
    have l0 := lp_01 y
    have l1 := lp_01 (y + 1 + R)
    unfold days30
    rcases hl with hl | ⟨h2, hl, hl2⟩
    · left
      rw [← hl]; omega
    · rw [hl2]
      rw [hl] at h6
      subst h2
      omega
set_option maxRecDepth 100000 in
set_option maxHeartbeats 8000000 in
theorem countYear_core (n k d y m q R : Int) (w : World) (hM : Met2 w) (hdn : n % 109573 = d) (hd : IsDay d y m q) (k0 : -9223372036854775808 ≤ k) (k1 : k ≤ 9223372036854775807) (hR1 : (k.tmod 20 + 20) % 20 = R) (hR2 : k.tmod 20 % 20 = R) (hR0 : 0 ≤ R) (hR3 : R < 20) (t0 : -20 < k.tmod 20) (t1 : k.tmod 20 < 20) :
    Calls Tryz.prog 8 #[.int .i64 n, .int .i64 k] w fun e w' => e = .returned (.bool true) ∧ Gr w w' := by
  have HBG := Lib.hid (begun6_calls w hM)
  have hdy := fun w => day6_calls n w
  rw [hdn] at hdy
  have HDY := Lib.hid hdy
  have HM := Lib.hid hM
  have ha := fun w => madd_calls d y m q (12 * (1 + R)) false hd (by omega) (by omega) w
  have hyo := year_on d y m q R
  clear hdy hM hdn
  by_cases hok : OkC (monY y m (12 * (1 + R))) (monM y m (12 * (1 + R))) (monD y m q (12 * (1 + R)) false)
  · obtain ⟨b, hb⟩ : ∃ b, b = dayN (monY y m (12 * (1 + R))) (monM y m (12 * (1 + R))) (monD y m q (12 * (1 + R)) false) := ⟨_, rfl⟩
    simp only [ofD_ok hok, ofE_ok hok, ← hb] at ha
    obtain ⟨q', hI, hlt, h30⟩ := hyo b hd hR0 hR3 hok hb
    have hra := isDay_range hd
    have hrb := isDay_range hI
    have HX := Lib.hid (fun w hT => part30_calls d b y m q (y + 1 + R) m q' 0 0 0 hd hI (by omega) w hT)
    have HY := Lib.hid (fun w hT => partK_calls 3 365 d b y m q (y + 1 + R) m q' 0 0 0 (.inr ⟨rfl, rfl⟩) hd hI (by omega) w hT)
    have HZ := Lib.hid (fun w hT => partK_calls 2 360 d b y m q (y + 1 + R) m q' 0 0 0 (.inl ⟨rfl, rfl⟩) hd hI (by omega) w hT)
    have HC := Lib.hid (fun w => civil_calls d y m q hd w)
    have HD1 := Lib.hid (fun w => days30_calls d b y m q (y + 1 + R) m q' hd hI w)
    have HD3 := Lib.hid (fun w => daysK_calls 3 d b y m q (y + 1 + R) m q' (by omega) hd hI w)
    have HA := Lib.hid ha
    have hm1 := hd.2.2.1
    have hm2 := hd.2.2.2.1
    clear ha hyo hok hb hd hI
    generalize days30 y m q (y + 1 + R) m q' = D30 at HX HD1 h30
    rcases h30 with rfl | ⟨rfl, rfl, rfl⟩
    · go_enter Tryz.func8, Tryz.ntmps8
      go_wp2_with (first | (go_at_call 18; (with_reducible refine HBG.out.mono ?_); rintro ev w1 ⟨rfl, hg1⟩) | (go_at_call 26; (with_reducible refine (HDY.out _).mono ?_); rintro ev w2 ⟨rfl, rfl⟩) | (go_at_call 31; (with_reducible refine (HA.out _).mono ?_); rintro ev w2 ⟨rfl, hg2⟩))
      have HG2 := Lib.hid (hg1.tr hg2)
      clear hg1 hg2
      refine (HX.out _ (HM.out.keep HG2.out).2.1).mono ?_
      rintro ev w3 ⟨⟨bx, nx, dx, rfl, hrx, hx1, hx2, hx3⟩, hg3⟩
      have HG3 := Lib.hid (HG2.out.tr hg3)
      have HRX := Lib.hid hrx
      have HPX := Lib.hid (And.intro hx1 (And.intro hx2 hx3))
      clear hrx hx1 hx2 hx3 hg3
      go_wp2_with fail
      refine (HY.out _ (HM.out.keep HG3.out).2.1).mono ?_
      rintro ev w4 ⟨⟨by', ny, dy, rfl, hry, hy1, hy2, hy3⟩, hg4⟩
      have HG4 := Lib.hid (HG3.out.tr hg4)
      have HG34 := Lib.hid hg4
      have HRY := Lib.hid hry
      have HPY := Lib.hid (And.intro hy1 (And.intro hy2 hy3))
      clear hry hy1 hy2 hy3 hg4
      go_wp2_with fail
      refine (HZ.out _ (HM.out.keep HG4.out).2.1).mono ?_
      rintro ev w5 ⟨⟨bz, nz, dz, rfl, hrz, hz1, hz2, hz3⟩, hg5⟩
      have HG5 := Lib.hid (HG4.out.tr hg5)
      have HRX5 := Lib.hid (HRX.out.gr (HG34.out.tr hg5))
      have HRY5 := Lib.hid (HRY.out.gr hg5)
      have HRZ := Lib.hid hrz
      have HCM := Lib.hid (cmpRat_calls _ _ nz ny dz dy w5 hrz (HRY.out.gr hg5) 1 (by rw [B_eq]; omega) (by have := HPY.out.2; rw [B_eq]; omega) (by rw [B_eq]; omega) (by have := HPY.out.2; rw [B_eq]; omega) (by decide))
      have hsg : (nz * (dy : Int) - ny * (dz : Int)).sign = 1 := Int.sign_eq_one_of_pos (part_less (z := b - d) (by omega) HPY.out.1 hz1 HRY.out.pos hrz.pos)
      rw [hsg] at HCM
      have hsx : nx.sign = 1 := Int.sign_eq_one_of_pos (part_pos (z := (360 * (1 + R))) (by omega) HPX.out.1 HRX.out.pos)
      have HSX := Lib.hid hsx
      clear hsx hsg hrz hz1 hz2 hz3 hg5
      go_wp2_with (first | (go_at_call 33; (with_reducible refine HCM.out.mono ?_); rintro ev w6 ⟨rfl, hg6⟩) | (go_at_call 17; (with_reducible refine (HC.out _).mono ?_); rintro ev w7 ⟨rfl, hg7⟩))
      have HG57 := Lib.hid (Gr.tr (Gr.tr hg6 hg7) ((Gr.rf w7).alloc (Nat.le_refl _) (.cells #[.int .i64 y, .int .i64 m, .int .i64 q] 23)))
      have hblk : (w7.alloc (.cells #[.int .i64 y, .int .i64 m, .int .i64 q] 23)).heap[w7.heap.size]? = some (.cells #[.int .i64 y, .int .i64 m, .int .i64 q] 23 (0, 0)) := heap_alloc_new w7 _
      generalize w7.alloc (.cells #[.int .i64 y, .int .i64 m, .int .i64 q] 23) = W7 at HG57 hblk ⊢
      generalize w7.heap.size = bb at hblk ⊢
      have HBK := Lib.hid hblk
      clear hblk hg6 hg7
      go_wp2_with fail
      refine (HD1.out _).mono ?_
      rintro ev w8 ⟨rfl, hg8⟩
      have HG8 := Lib.hid (HG57.out.tr hg8)
      have HB8 := Lib.hid (hg8.heap HBK.out)
      clear hg8
      go_wp2_with fail
      refine (HD3.out _).mono ?_
      rintro ev w9 ⟨rfl, hg9⟩
      have hb9 := hg9.heap HB8.out
      have c1 := heap_cell hb9 1
      have c2 := heap_cell hb9 2
      have HG9 := Lib.hid (HG8.out.tr hg9)
      have hsi := signRat_calls _ nx dx w9 (HRX5.out.gr (HG8.out.tr hg9))
      rw [HSX.out] at hsi
      have HSI := Lib.hid hsi
      clear hsi hb9 hg9
      go_wp2_with (go_at_call 35; (with_reducible refine HSI.out.mono ?_); rintro ev w10 ⟨rfl, hg10⟩)
      go_ret
      exact ⟨by first | rfl | simp, (HG5.out.tr HG9.out).tr hg10⟩
    · have b360 : (360 * (1 + R) - 1 == 360 * (1 + R)) = false := beq_eq_false_iff_ne.2 (by omega)
      go_enter Tryz.func8, Tryz.ntmps8
      go_wp2_with (first | (go_at_call 18; (with_reducible refine HBG.out.mono ?_); rintro ev w1 ⟨rfl, hg1⟩) | (go_at_call 26; (with_reducible refine (HDY.out _).mono ?_); rintro ev w2 ⟨rfl, rfl⟩) | (go_at_call 31; (with_reducible refine (HA.out _).mono ?_); rintro ev w2 ⟨rfl, hg2⟩))
      have HG2 := Lib.hid (hg1.tr hg2)
      clear hg1 hg2
      refine (HX.out _ (HM.out.keep HG2.out).2.1).mono ?_
      rintro ev w3 ⟨⟨bx, nx, dx, rfl, hrx, hx1, hx2, hx3⟩, hg3⟩
      have HG3 := Lib.hid (HG2.out.tr hg3)
      have HRX := Lib.hid hrx
      have HPX := Lib.hid (And.intro hx1 (And.intro hx2 hx3))
      clear hrx hx1 hx2 hx3 hg3
      go_wp2_with fail
      refine (HY.out _ (HM.out.keep HG3.out).2.1).mono ?_
      rintro ev w4 ⟨⟨by', ny, dy, rfl, hry, hy1, hy2, hy3⟩, hg4⟩
      have HG4 := Lib.hid (HG3.out.tr hg4)
      have HG34 := Lib.hid hg4
      have HRY := Lib.hid hry
      have HPY := Lib.hid (And.intro hy1 (And.intro hy2 hy3))
      clear hry hy1 hy2 hy3 hg4
      go_wp2_with fail
      refine (HZ.out _ (HM.out.keep HG4.out).2.1).mono ?_
      rintro ev w5 ⟨⟨bz, nz, dz, rfl, hrz, hz1, hz2, hz3⟩, hg5⟩
      have HG5 := Lib.hid (HG4.out.tr hg5)
      have HRX5 := Lib.hid (HRX.out.gr (HG34.out.tr hg5))
      have HRY5 := Lib.hid (HRY.out.gr hg5)
      have HRZ := Lib.hid hrz
      have HCM := Lib.hid (cmpRat_calls _ _ nz ny dz dy w5 hrz (HRY.out.gr hg5) 1 (by rw [B_eq]; omega) (by have := HPY.out.2; rw [B_eq]; omega) (by rw [B_eq]; omega) (by have := HPY.out.2; rw [B_eq]; omega) (by decide))
      have hsg : (nz * (dy : Int) - ny * (dz : Int)).sign = 1 := Int.sign_eq_one_of_pos (part_less (z := b - d) (by omega) HPY.out.1 hz1 HRY.out.pos hrz.pos)
      rw [hsg] at HCM
      have hsx : nx.sign = 1 := Int.sign_eq_one_of_pos (part_pos (z := (360 * (1 + R) - 1)) (by omega) HPX.out.1 HRX.out.pos)
      have HSX := Lib.hid hsx
      clear hsx hsg hrz hz1 hz2 hz3 hg5
      go_wp2_with (first | (go_at_call 33; (with_reducible refine HCM.out.mono ?_); rintro ev w6 ⟨rfl, hg6⟩) | (go_at_call 17; (with_reducible refine (HC.out _).mono ?_); rintro ev w7 ⟨rfl, hg7⟩))
      have HG57 := Lib.hid (Gr.tr (Gr.tr hg6 hg7) ((Gr.rf w7).alloc (Nat.le_refl _) (.cells #[.int .i64 y, .int .i64 2, .int .i64 29] 23)))
      have hblk : (w7.alloc (.cells #[.int .i64 y, .int .i64 2, .int .i64 29] 23)).heap[w7.heap.size]? = some (.cells #[.int .i64 y, .int .i64 2, .int .i64 29] 23 (0, 0)) := heap_alloc_new w7 _
      generalize w7.alloc (.cells #[.int .i64 y, .int .i64 2, .int .i64 29] 23) = W7 at HG57 hblk ⊢
      generalize w7.heap.size = bb at hblk ⊢
      have HBK := Lib.hid hblk
      clear hblk hg6 hg7
      go_wp2_with fail
      refine (HD1.out _).mono ?_
      rintro ev w8 ⟨rfl, hg8⟩
      have HG8 := Lib.hid (HG57.out.tr hg8)
      have HB8 := Lib.hid (hg8.heap HBK.out)
      clear hg8
      go_wp2_with fail
      refine (HD3.out _).mono ?_
      rintro ev w9 ⟨rfl, hg9⟩
      have hb9 := hg9.heap HB8.out
      have c1 := heap_cell hb9 1
      have c2 := heap_cell hb9 2
      have HG9 := Lib.hid (HG8.out.tr hg9)
      have hsi := signRat_calls _ nx dx w9 (HRX5.out.gr (HG8.out.tr hg9))
      rw [HSX.out] at hsi
      have HSI := Lib.hid hsi
      clear hsi hb9 hg9
      go_wp2_with (go_at_call 35; (with_reducible refine HSI.out.mono ?_); rintro ev w10 ⟨rfl, hg10⟩)
      go_ret
      exact ⟨by first | rfl | simp, (HG5.out.tr HG9.out).tr hg10⟩
  · simp only [ofD_no hok, ofE_no hok] at ha
    have HA := Lib.hid ha
    clear ha hok hyo
    go_enter Tryz.func8, Tryz.ntmps8
    go_wp2_with (first | (go_at_call 18; (with_reducible refine HBG.out.mono ?_); rintro ev w1 ⟨rfl, hg1⟩) | (go_at_call 26; (with_reducible refine (HDY.out _).mono ?_); rintro ev w2 ⟨rfl, rfl⟩) | (go_at_call 31; (with_reducible refine (HA.out _).mono ?_); rintro ev w2 ⟨rfl, hg2⟩))
    have HS := Lib.hid (sameDate_calls w2 (HM.out.keep (hg1.tr hg2)).1)
    go_wp2_with (go_at_call 22; (with_reducible refine HS.out.mono ?_); rintro ev w3 ⟨rfl, hg3⟩)
    go_ret
    exact ⟨by first | rfl | simp, (hg1.tr hg2).tr hg3⟩
theorem countYear_calls (n k : Int) (n0 : -9223372036854775808 ≤ n) (n1 : n ≤ 9223372036854775807) (k0 : -9223372036854775808 ≤ k) (k1 : k ≤ 9223372036854775807) (w : World) (hM : Met2 w) :
    Calls Tryz.prog 8 #[.int .i64 n, .int .i64 k] w fun e w' => e = .returned (.bool true) ∧ Gr w w' := by
  obtain ⟨R, hR1, hR2, hR0, hR3, t0, t1⟩ := mod_two k 20 (by decide)
  have hd := day6_bd n
  obtain ⟨y, m, q, h⟩ := isDay_of (n % 109573) hd.1 hd.2
  exact countYear_core n k _ y m q R w hM rfl h k0 k1 hR1 hR2 hR0 hR3 t0 t1
end Go.Proofs.YtjgihjpckjdikaaGreatDoor
