/- Layer 5: 'rounded to more places, and then to fewer toward nought, is rounded once', walked. -/
import Derived.Test.YtcjjgdoafkdeaaaGreatDoorWp
import Derived.Test.YtcjjgdoafkdeaaaGreatDoorWo
import Derived.Test.YtcjjgdoafkdeaaaGreatDoorWt
import Derived.Test.YtcjjgdoafkdeaaaGreatDoorQk
namespace Go.Proofs.YtcjjgdoafkdeaaaGreatDoor
open Go.RowKit Go.Extern.Stop Go.Stop Go.Extern Go.Sort
set_option linter.unusedVariables false
set_option linter.unusedSimpArgs false

theorem roundN_three (a d : Nat) : roundN a d 3 = a / d := roundN_no a d 3 (fun h => h.2 rfl)
theorem sgn_mul_neg (b : Bool) (m P : Nat) (hP : 0 < P) : decide (sgn b m * (P : Int) < 0) = (b && decide (0 < m)) := by
  cases b
  · exact decide_eq_false (by
      have : (0 : Int) ≤ (m : Int) * (P : Int) := Int.mul_nonneg (by omega) (by omega)
      show ¬ (m : Int) * (P : Int) < 0
      omega)
  · rcases Nat.eq_zero_or_pos m with h | h
    · subst h
      show decide (-((0 : Nat) : Int) * (P : Int) < 0) = _
      simp
    · rw [decide_eq_true h]
      refine decide_eq_true ?_
      have : (0 : Int) < (m : Int) * (P : Int) := Int.mul_pos (by omega) (by omega)
      show -(m : Int) * (P : Int) < 0
      rw [Int.neg_mul]; omega
theorem neg_mul_pos (n : Int) (P : Nat) (hP : 0 < P) : decide (n * (P : Int) < 0) = decide (n < 0) := by
  by_cases h : n < 0
  · rw [decide_eq_true h]; exact decide_eq_true (Int.mul_neg_of_neg_of_pos h (by omega))
  · rw [decide_eq_false h]; exact decide_eq_false (by have : 0 ≤ n * (P : Int) := Int.mul_nonneg (by omega) (by omega); omega)
theorem more_plain (n : Int) (d p P : Nat) (hd : 0 < d) (hp : p ≤ P) (Z : Int) (hZ : Z = sgn (decide (n * ((10 ^ P : Nat) : Int) < 0)) (roundN (n * ((10 ^ P : Nat) : Int)).natAbs d 3)) :
    sgn (decide (sgn (decide (Z < 0)) (Z.natAbs / Nat.gcd Z.natAbs (10 ^ P)) * ((10 ^ p : Nat) : Int) < 0)) (roundN (sgn (decide (Z < 0)) (Z.natAbs / Nat.gcd Z.natAbs (10 ^ P)) * ((10 ^ p : Nat) : Int)).natAbs (10 ^ P / Nat.gcd Z.natAbs (10 ^ P)) 3) = sgn (decide (n * ((10 ^ p : Nat) : Int) < 0)) (roundN (n * ((10 ^ p : Nat) : Int)).natAbs d 3) := by
  have hP0 : 0 < 10 ^ P := Nat.pow_pos (by decide)
  have hp0 : 0 < 10 ^ p := Nat.pow_pos (by decide)
  have hT0 : 0 < 10 ^ (P - p) := Nat.pow_pos (by decide)
  have hPT : 10 ^ P = 10 ^ p * 10 ^ (P - p) := by rw [← Nat.pow_add]; congr 1; omega
  have hZa : Z.natAbs = n.natAbs * 10 ^ P / d := by rw [hZ, sgn_abs, roundN_three, Int.natAbs_mul, Int.natAbs_natCast]
  have hZs : Z.natAbs ≠ 0 → decide (Z < 0) = decide (n < 0) := by
    intro h0
    rw [neg_mul_pos n _ hP0] at hZ
    by_cases hn : n < 0
    · rw [decide_eq_true hn] at hZ ⊢
      exact decide_eq_true (by have : Z = -((roundN (n * ((10 ^ P : Nat) : Int)).natAbs d 3 : Nat) : Int) := hZ; omega)
    · rw [decide_eq_false hn] at hZ ⊢
      exact decide_eq_false (by have : Z = ((roundN (n * ((10 ^ P : Nat) : Int)).natAbs d 3 : Nat) : Int) := hZ; omega)
  rw [roundN_three, roundN_three, sgn_mul_neg _ _ _ hp0, neg_mul_pos n _ hp0, Int.natAbs_mul, Int.natAbs_mul, sgn_abs, Int.natAbs_natCast]
  clear hZ
  generalize Z.natAbs = N at *
  have hg : 0 < Nat.gcd N (10 ^ P) := Nat.gcd_pos_of_pos_right _ hP0
  have e1 := Nat.div_mul_cancel (Nat.gcd_dvd_left N (10 ^ P))
  have e2 := Nat.div_mul_cancel (Nat.gcd_dvd_right N (10 ^ P))
  have key : N / Nat.gcd N (10 ^ P) * 10 ^ p / (10 ^ P / Nat.gcd N (10 ^ P)) = n.natAbs * 10 ^ p / d := by
    have h1 : N / Nat.gcd N (10 ^ P) * 10 ^ p / (10 ^ P / Nat.gcd N (10 ^ P)) = N * 10 ^ p / 10 ^ P := by
      have h2 := Nat.mul_div_mul_right (N / Nat.gcd N (10 ^ P) * 10 ^ p) (10 ^ P / Nat.gcd N (10 ^ P)) hg
      rw [e2] at h2
      rw [← h2]
      congr 1
      rw [Nat.mul_right_comm, e1]
    rw [h1, hPT, Nat.mul_comm (10 ^ p) (10 ^ (P - p)), Nat.mul_div_mul_right _ _ hp0, hZa, hPT, Nat.div_div_eq_div_mul, ← Nat.mul_assoc, Nat.mul_div_mul_right _ _ hT0]
  rw [key]
  by_cases hN : N = 0
  · have hz : n.natAbs * 10 ^ p / d = 0 := by rw [← key, hN]; simp
    rw [hz]
    generalize (decide (Z < 0) && decide (0 < N / Nat.gcd N (10 ^ P))) = b1
    cases b1 <;> cases decide (n < 0) <;> rfl
  · rw [hZs hN, decide_eq_true (Nat.div_pos (Nat.gcd_le_left _ (by omega)) hg), Bool.and_true]
theorem more_bd (n : Int) (X d P : Nat) (hX : X < Dg.D ^ 4) (hn : n.natAbs ≤ X) (hP : P ≤ 20) (b : Bool) : (sgn b (roundN (n * ((10 ^ P : Nat) : Int)).natAbs d 3)).natAbs < 10 ^ 57 := by
  rw [sgn_abs, roundN_three, Int.natAbs_mul, Int.natAbs_natCast]
  refine Nat.lt_of_le_of_lt (Nat.div_le_self _ _) ?_
  refine Nat.lt_of_lt_of_le (Nat.mul_lt_mul_of_lt_of_le (Nat.lt_of_le_of_lt hn hX) (Nat.pow_le_pow_right (by decide) hP) (Nat.pow_pos (by decide))) (by decide)
set_option maxRecDepth 100000 in
set_option maxHeartbeats 16000000 in
theorem decMore_go (s t : ByteArray) (neg : Bool) (a b : Int) (hs : s.size ≤ 9223372036854775807) (ht : t.size ≤ 9223372036854775807) (w : World) (hM : Met2 w) (R1 R2 p P : Nat) (h1 : (a.tmod 18 + 18) % 18 = (R1 : Int)) (h2 : a.tmod 18 % 18 = (R1 : Int)) (h3 : -18 < a.tmod 18) (h4 : a.tmod 18 < 18) (g1 : (b.tmod 18 + 18) % 18 = (R2 : Int)) (g2 : b.tmod 18 % 18 = (R2 : Int)) (g3 : -18 < b.tmod 18) (g4 : b.tmod 18 < 18) (hpP : p ≤ P) (hP : P < 18) (hc : (decide ((R2 : Int) < (R1 : Int)) = true ∧ p = R2 ∧ P = R1) ∨ (decide ((R2 : Int) < (R1 : Int)) = false ∧ p = R1 ∧ P = R2)) :
    Calls Tryz.prog 3 #[.string s, .string t, .bool neg, .int .i64 a, .int .i64 b] w fun e w' => e = .returned (.bool true) ∧ Gr w w' := by
  have HM := Lib.hid hM
  have HBG := Lib.hid (begun_met w hM)
  have HRC := Lib.hid (fun w hB => r_calls s t neg hs ht w hB)
  have HP := Lib.hid (And.intro hpP hP)
  clear hM hs ht hpP hP
  rcases hc with ⟨b1, rfl, rfl⟩ | ⟨b1, rfl, rfl⟩
  case' inl =>
    have b1n : decide (p < P) = true := decide_eq_true (by have := of_decide_eq_true b1; omega)
    have b1r : decide ((b.tmod 18 + 18) % 18 < (a.tmod 18 + 18) % 18) = true := by rw [h1, g1]; exact b1
  case' inr =>
    have b1n : decide (P < p) = false := decide_eq_false (by have := of_decide_eq_false b1; omega)
    have b1r : decide ((b.tmod 18 + 18) % 18 < (a.tmod 18 + 18) % 18) = false := by rw [h1, g1]; exact b1
  all_goals
    go_enter Tryz.func3, Tryz.ntmps3
    go_wp2_with (go_at_call 11; (with_reducible refine HBG.out.mono ?_); rintro ev w1 ⟨rfl, hg1⟩; have HG1 := Lib.hid hg1; clear hg1)
    have HR1 := Lib.hid (HRC.out w1 (HM.out.gr HG1.out).2.1)
    go_wp2_with fail
    refine HR1.out.mono ?_
    rintro ev w2 ⟨⟨bR, sb, vx, vy, n, d, X, Y, rfl, htw⟩, hg2⟩
    obtain ⟨aa, la, ca, rfl⟩ := rn_sl htw.2.1.1
    obtain ⟨ab, lb, cb, rfl⟩ := rn_sl htw.2.1.2
    have hga : Gr w2 (w2.alloc (.cells #[.bool sb, .slice aa la ca, .slice ab lb cb] 29)) := gr_al (Gr.rf w2)
    have HG2 := Lib.hid (HG1.out.tr (hg2.tr hga))
    have HRA := Lib.hid (htw.1.gr hga)
    have HBN := Lib.hid (show n.natAbs ≤ X ∧ d ≤ Y ∧ X < Dg.D ^ 4 ∧ Y < Dg.D ^ 4 from by
      obtain ⟨g, hg, e1, e2⟩ := htw.2.2.2.2.1
      exact ⟨by rw [e1]; exact Nat.le_mul_of_pos_right _ hg, by rw [e2]; exact Nat.le_mul_of_pos_right _ hg, htw.2.2.2.2.2.1, htw.2.2.2.2.2.2⟩)
    clear htw hg2 hga
    go_wp2_with fail
    generalize w2.alloc (.cells #[.bool sb, .slice aa la ca, .slice ab lb cb] 29) = w3 at *
    obtain ⟨Z, hZ⟩ : ∃ Z, Z = sgn (decide (n * ((10 ^ P : Nat) : Int) < 0)) (roundN (n * ((10 ^ P : Nat) : Int)).natAbs d 3) := ⟨_, rfl⟩
    have hzb : Z.natAbs < 10 ^ 57 := by rw [hZ]; exact more_bd n X d P HBN.out.2.2.1 HBN.out.1 (by have := HP.out.2; omega) _
    obtain ⟨F, hF⟩ : ∃ F : ByteArray, F = ⟨(placedL Z P).toArray⟩ := ⟨_, rfl⟩
    obtain ⟨zt, za, zr, zpt, zp, zc, zd, zs, zv⟩ := dec_back Z P (by have := HP.out.2; omega) hzb
    rw [← hF] at zp zd
    have hlen : F.size ≤ 60 := zd.1
    have b2 : decide (60 < (F.size : Int)) = false := decide_eq_false (by omega)
    have b2n : decide (60 < F.size) = false := decide_eq_false (by omega)
    have hr4 := roundG_calls (.pointer (some ⟨bR, 0, none⟩)) n d P 3 w3 HRA.out 4 (Nat.lt_of_le_of_lt HBN.out.1 (b_B HBN.out.2.2.1)) (Nat.lt_of_le_of_lt HBN.out.2.1 (b_B HBN.out.2.2.2)) (by decide) (by have := HP.out.2; omega) (by decide) (HM.out.gr HG2.out).2.2
    rw [← hZ, ← hF] at hr4
    have HR4 := Lib.hid hr4
    have hget := fun w' hB => decGet_calls F zt za zr _ zpt (by omega) zp zc w' hB
    rw [zv, zs] at hget
    have HGET := Lib.hid hget
    have HZD := Lib.hid zd
    obtain ⟨F2, hF2⟩ : ∃ F2 : ByteArray, F2 = ⟨(placedL (sgn (decide (n * ((10 ^ p : Nat) : Int) < 0)) (roundN (n * ((10 ^ p : Nat) : Int)).natAbs d 3)) p).toArray⟩ := ⟨_, rfl⟩
    have HF2 := Lib.hid hF2
    have HPL := Lib.hid (more_plain n d p P HRA.out.pos HP.out.1 Z hZ)
    have HZB := Lib.hid hzb
    clear hZ hF hF2 zp zc zd zs zv hlen hr4 hget hzb
    refine HR4.out.mono ?_
    rintro ev w4 ⟨rfl, hg4⟩
    have HG4 := Lib.hid hg4
    have HC5 := Lib.hid (HGET.out w4 (HM.out.gr (HG2.out.tr hg4)).2.1)
    clear hg4
    go_wp2_with fail
    refine HC5.out.mono ?_
    rintro ev w5 ⟨⟨hr, _⟩, hg5⟩
    obtain ⟨b5, rfl, hr5⟩ := hr HZD.out
    have HR5 := Lib.hid hr5
    have HG5 := Lib.hid (HG4.out.tr hg5)
    clear hr hr5 hg5
    have hr6 := roundG_calls (.pointer (some ⟨b5, 0, none⟩)) _ _ p 3 w5 HR5.out 4 (by rw [sgn_abs]; exact Nat.lt_of_le_of_lt (Nat.div_le_self _ _) (Nat.lt_of_lt_of_le HZB.out (by decide))) (Nat.lt_of_le_of_lt (Nat.div_le_self _ _) (b_upB (ten_B2 P (by have := HP.out.2; omega)) (by decide))) (by decide) (by have := HP.out; omega) (by decide) (HM.out.gr (HG2.out.tr HG5.out)).2.2
    rw [HPL.out, ← HF2.out] at hr6
    have HR6 := Lib.hid hr6
    clear hr6
    go_wp2_with fail
    refine HR6.out.mono ?_
    rintro ev w6 ⟨rfl, hg6⟩
    have HG6 := Lib.hid (HG5.out.tr hg6)
    have hr7 := (roundG_calls (.pointer (some ⟨bR, 0, none⟩)) n d p 3 w6 (HRA.out.gr HG6.out) 4 (Nat.lt_of_le_of_lt HBN.out.1 (b_B HBN.out.2.2.1)) (Nat.lt_of_le_of_lt HBN.out.2.1 (b_B HBN.out.2.2.2)) (by decide) (by have := HP.out; omega) (by decide) (HM.out.gr (HG2.out.tr HG6.out)).2.2)
    rw [← HF2.out] at hr7
    have HR7 := Lib.hid hr7
    clear hg6 hr7
    go_wp2_with fail
    refine HR7.out.mono ?_
    rintro ev w7 ⟨rfl, hg7⟩
    have HG7 := Lib.hid (HG2.out.tr (HG6.out.tr hg7))
    clear hg7
    go_wp2
    go_ret
    exact ⟨by first | rfl | simp, HG7.out⟩
theorem decMore_calls (s t : ByteArray) (neg : Bool) (a b : Int) (hs : s.size ≤ 9223372036854775807) (ht : t.size ≤ 9223372036854775807) (a0 : -9223372036854775808 ≤ a) (a1 : a ≤ 9223372036854775807) (b0 : -9223372036854775808 ≤ b) (b1 : b ≤ 9223372036854775807) (w : World) (hM : Met2 w) :
    Calls Tryz.prog 3 #[.string s, .string t, .bool neg, .int .i64 a, .int .i64 b] w fun e w' => e = .returned (.bool true) ∧ Gr w w' := by
  obtain ⟨R1, h1, h2, h3, h4, h5⟩ := rem_nat a 18 (by decide)
  obtain ⟨R2, g1, g2, g3, g4, g5⟩ := rem_nat b 18 (by decide)
  by_cases h : (R2 : Int) < (R1 : Int)
  · exact decMore_go s t neg a b hs ht w hM R1 R2 R2 R1 h1 h2 h4 h5 g1 g2 g4 g5 (by omega) (by omega) (.inl ⟨decide_eq_true h, rfl, rfl⟩)
  · exact decMore_go s t neg a b hs ht w hM R1 R2 R1 R2 h1 h2 h4 h5 g1 g2 g4 g5 (by omega) (by omega) (.inr ⟨decide_eq_false h, rfl, rfl⟩)
end Go.Proofs.YtcjjgdoafkdeaaaGreatDoor
