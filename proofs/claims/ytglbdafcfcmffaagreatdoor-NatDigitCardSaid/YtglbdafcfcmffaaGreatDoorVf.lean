/- Layer 2: 'a quotient's digits where the first guess is too great', walked. -/
import Derived.Test.YtglbdafcfcmffaaGreatDoorQk
import Derived.Test.YtglbdafcfcmffaaGreatDoorUb
import Derived.Test.YtglbdafcfcmffaaGreatDoorUc
namespace Go.Proofs.YtglbdafcfcmffaaGreatDoor
open Go.RowKit Go.Extern.Stop Go.Stop Go.Extern Go.Sort
set_option linter.unusedVariables false
set_option linter.unusedSimpArgs false

theorem b_BD {x k m : Nat} (h : x < B ^ k) (hm : 3 * k = m) : x < Dg.D ^ m := by
  subst hm
  rw [Nat.pow_mul]
  exact Nat.lt_of_lt_of_le h (Nat.pow_le_pow_left (by decide) k)
theorem dig_grow {b c x k : Nat} (h : b < B ^ k) (hc : c < B) (hx : x < B) : b * c + x < B ^ (k + 1) := by
  rw [Nat.pow_succ]
  have h1 : b * c ≤ (B ^ k - 1) * (B - 1) := Nat.mul_le_mul (by omega) (by omega)
  have h2 : (B ^ k - 1) * (B - 1) + (B - 1) = (B ^ k - 1 + 1) * (B - 1) := by rw [Nat.add_mul, Nat.one_mul]
  have h3 : B ^ k - 1 + 1 = B ^ k := by omega
  have h4 : B ^ k * (B - 1) + B ^ k = B ^ k * B := by
    rw [← Nat.mul_succ]
    rfl
  have h5 : 1 ≤ B ^ k := by omega
  rw [h3] at h2
  omega
theorem and7 (m : Nat) (h : m < B) : bits .and .u64 (m : Int) 7 = ((m % 8 : Nat) : Int) := by
  rw [B_eq] at h
  have h1 := bits_and_u64_nat m 7 h (by omega)
  have e : m &&& 7 = m % 8 := Nat.and_two_pow_sub_one_eq_mod m 3
  rw [e] at h1
  exact h1
set_option maxRecDepth 100000 in
set_option maxHeartbeats 16000000 in
theorem natDigit_calls (n m k j : Int) (n0 : 0 ≤ n) (n1 : n ≤ 18446744073709551615) (m0 : 0 ≤ m) (m1 : m ≤ 18446744073709551615) (k0 : -9223372036854775808 ≤ k) (k1 : k ≤ 9223372036854775807) (j0 : -9223372036854775808 ≤ j) (j1 : j ≤ 9223372036854775807) (w : World) (hM : Met2 w) :
    Calls Tryz.prog 12 #[.int .u64 n, .int .u64 m, .int .i64 k, .int .i64 j] w fun e w' => e = .returned (.bool true) ∧ Gr w w' := by
  have HM := Lib.hid hM
  clear hM
  obtain ⟨N, rfl⟩ : ∃ N : Nat, n = (N : Int) := ⟨n.toNat, by omega⟩
  obtain ⟨M, rfl⟩ : ∃ M : Nat, m = (M : Int) := ⟨m.toNat, by omega⟩
  have hNB : N < B := by rw [B_eq]; omega
  have hMB : M < B := by rw [B_eq]; omega
  obtain ⟨K, hk1, hk2, hk3, hk4, hk5⟩ := rem_nat k 5 (by decide)
  obtain ⟨J, hj1, hj2, hj3, hj4, hj5⟩ := rem_nat j 5 (by decide)
  obtain ⟨H, hH1, hH2, hH3⟩ : ∃ H : Nat, (9223372036854775808 : Int) + (N : Int) / 2 = (H : Int) ∧ H < B ∧ 0 < H := ⟨9223372036854775808 + N / 2, by omega, by rw [B_eq]; omega, by omega⟩
  have hHw := wrapN H hH2
  have hand := and7 M hMB
  obtain ⟨C, hC1, hC2⟩ : ∃ C : Nat, (18446744073709551615 : Int) - ((M % 8 : Nat) : Int) = (C : Int) ∧ C < B := ⟨18446744073709551615 - M % 8, by omega, by rw [B_eq]; omega⟩
  have hCw := wrapN C hC2
  have hC3 : 0 < C := by omega
  generalize hmm : M % 8 = M8 at *
  clear hmm
  have HH := Lib.hid (And.intro hH2 hH3)
  have HNB := Lib.hid hNB
  have HMB := Lib.hid hMB
  have HC := Lib.hid (And.intro hC2 hC3)
  clear hH2 hH3 hNB hMB hC2 hC3
  go_enter Tryz.func12, Tryz.ntmps12
  have HBG := Lib.hid (begun_met w HM.out)
  have HOH := Lib.hid (fun w' => c_of H HH.out.1 w')
  go_wp2_with (first | (go_at_call 35; (with_reducible refine HBG.out.mono ?_); rintro ev w1 ⟨rfl, hg1⟩; have HG1 := Lib.hid hg1; clear hg1) | (go_at_call 36; (with_reducible refine (HOH.out _).mono ?_); rintro ev w2 ⟨⟨r2, rfl, hr2⟩, hg2⟩; have HR2 := Lib.hid hr2; have HG2 := Lib.hid hg2; clear hr2 hg2))
  go_loopg [11, 12] (K + 1) (fun g sb si wr => ∃ (i bv : Nat), g = K + 1 - i ∧ i ≤ K + 1 ∧ si = .int .i64 (i : Int) ∧ Hid (NatAt wr sb bv) ∧ Hid (bv < B ^ (i + 1) ∧ 0 < bv) ∧ Hid (Gr w wr))
  case atStart => exact ⟨0, H, rfl, Nat.zero_le _, rfl, Lib.hid HR2.out.at_, Lib.hid ⟨by rw [Nat.pow_one]; exact HH.out.1, HH.out.2⟩, Lib.hid (HG1.out.tr HG2.out)⟩
  case round =>
    obtain ⟨i, bv, hg, hi, rfl, HB, HBV, HG⟩ := hrel
    have HGG := Lib.hid hg
    clear hg
    by_cases hlt : i < K + 1
    · have b1 : decide ((i : Int) < 1 + (K : Int)) = true := decide_eq_true (by omega)
      have b1n : (i : Int) < 1 + (K : Int) := by omega
      have HO1 : Hid (∀ w', Calls Tryz.prog 36 #[.int .u64 18446744073709551615] w' fun e w2 => (∃ r, e = .returned r ∧ NatP w2 r 18446744073709551615) ∧ Gr w' w2) := Lib.hid (fun w' => c_of 18446744073709551615 (by decide) w')
      go_wp2_with (go_at_call 36; (with_reducible refine (HO1.out _).mono ?_); rintro ev w3 ⟨⟨r3, rfl, hr3⟩, hg3⟩; have HR3 := Lib.hid hr3; have HG3 := Lib.hid hg3; clear hr3 hg3)
      have HMU := Lib.hid (mul_calls _ _ bv 18446744073709551615 w3 (HB.out.gr HG3.out) HR3.out.at_ 20 (Nat.lt_of_lt_of_le HBV.out.1 (Nat.pow_le_pow_right B_pos (by omega))) (Nat.lt_of_lt_of_le (show 18446744073709551615 < B from (by decide)) (by rw [← Nat.pow_one B]; exact Nat.pow_le_pow_right B_pos (by decide))) (by decide))
      go_wp2_with (go_at_call 43; (with_reducible refine HMU.out.mono ?_); rintro ev w4 ⟨⟨r4, rfl, hr4⟩, hg4⟩; have HR4 := Lib.hid hr4; have HG4 := Lib.hid hg4; clear hr4 hg4)
      have HO2 := Lib.hid (fun w' => c_of M HMB.out w')
      go_wp2_with (go_at_call 36; (with_reducible refine (HO2.out _).mono ?_); rintro ev w5 ⟨⟨r5, rfl, hr5⟩, hg5⟩; have HR5 := Lib.hid hr5; have HG5 := Lib.hid hg5; clear hr5 hg5)
      have HGR := Lib.hid (dig_grow (x := M) HBV.out.1 (show 18446744073709551615 < B from (by decide)) HMB.out)
      have HLE : Hid (bv * 18446744073709551615 < B ^ 20) := Lib.hid (Nat.lt_of_le_of_lt (Nat.le_add_right _ M) (Nat.lt_of_lt_of_le HGR.out (Nat.pow_le_pow_right B_pos (by omega))))
      have HPO : Hid (0 < bv * 18446744073709551615 + M) := Lib.hid (Nat.lt_of_lt_of_le (Nat.mul_pos HBV.out.2 (show 0 < 18446744073709551615 from (by decide))) (Nat.le_add_right _ _))
      have HAD := Lib.hid (add_calls _ _ (bv * 18446744073709551615) M w5 (HR4.out.gr HG5.out).at_ HR5.out.at_ 20 HLE.out (Nat.lt_of_lt_of_le (show M < B from HMB.out) (by rw [← Nat.pow_one B]; exact Nat.pow_le_pow_right B_pos (by decide))) (by decide))
      go_wp2_with (go_at_call 46; (with_reducible refine HAD.out.mono ?_); rintro ev w6 ⟨⟨r6, rfl, hr6⟩, hg6⟩; have HR6 := Lib.hid hr6; have HG6 := Lib.hid hg6; clear hr6 hg6)
      go_roundg (K + 1 - (i + 1))
      case measure => have := HGG.out; omega
      case rel => exact ⟨i + 1, _, rfl, by omega, by first | rfl | go_num, Lib.hid HR6.out.at_, Lib.hid ⟨HGR.out, HPO.out⟩, Lib.hid (HG.out.tr (HG3.out.tr (HG4.out.tr (HG5.out.tr HG6.out))))⟩
    · have hie : i = K + 1 := by omega
      subst hie
      have b1 : decide (((K + 1 : Nat) : Int) < 1 + (K : Int)) = false := decide_eq_false (by omega)
      have b1n : decide ((K : Int) + 1 < 1 + (K : Int)) = false := decide_eq_false (by omega)
      have b1m : ¬ ((K : Int) + 1 < 1 + (K : Int)) := by omega
      rename World => wb
      go_wp2_with fail
      go_loopg [13, 14] (J + 1) (fun g sa si wr => ∃ (i av : Nat), g = J + 1 - i ∧ i ≤ J + 1 ∧ si = .int .i64 (i : Int) ∧ Hid (NatAt wr sa av) ∧ Hid (av < B ^ (K + 2 + i) ∧ 0 < av) ∧ Hid (Gr wb wr))
      case atStart => exact ⟨0, bv, rfl, Nat.zero_le _, rfl, HB, HBV, Lib.hid (Gr.rf wb)⟩
      case round =>
        obtain ⟨i, av, hg, hi, rfl, HA, HAV, HGB⟩ := hrel
        have HGG2 := Lib.hid hg
        clear hg
        by_cases hlt : i < J + 1
        · have b2 : decide ((i : Int) < (J : Int) + 1) = true := decide_eq_true (by omega)
          have b2n : (i : Int) < (J : Int) + 1 := by omega
          have HO1 := Lib.hid (fun w' => c_of C HC.out.1 w')
          go_wp2_with (go_at_call 36; (with_reducible refine (HO1.out _).mono ?_); rintro ev w3 ⟨⟨r3, rfl, hr3⟩, hg3⟩; have HR3 := Lib.hid hr3; have HG3 := Lib.hid hg3; clear hr3 hg3)
          have HMU := Lib.hid (mul_calls _ _ av C w3 (HA.out.gr HG3.out) HR3.out.at_ 20 (Nat.lt_of_lt_of_le HAV.out.1 (Nat.pow_le_pow_right B_pos (by omega))) (Nat.lt_of_lt_of_le (show C < B from HC.out.1) (by rw [← Nat.pow_one B]; exact Nat.pow_le_pow_right B_pos (by decide))) (by decide))
          go_wp2_with (go_at_call 43; (with_reducible refine HMU.out.mono ?_); rintro ev w4 ⟨⟨r4, rfl, hr4⟩, hg4⟩; have HR4 := Lib.hid hr4; have HG4 := Lib.hid hg4; clear hr4 hg4)
          have HO2 := Lib.hid (fun w' => c_of N HNB.out w')
          go_wp2_with (go_at_call 36; (with_reducible refine (HO2.out _).mono ?_); rintro ev w5 ⟨⟨r5, rfl, hr5⟩, hg5⟩; have HR5 := Lib.hid hr5; have HG5 := Lib.hid hg5; clear hr5 hg5)
          have HGR := Lib.hid (dig_grow (x := N) HAV.out.1 (show C < B from HC.out.1) HNB.out)
          have HLE : Hid (av * C < B ^ 20) := Lib.hid (Nat.lt_of_le_of_lt (Nat.le_add_right _ N) (Nat.lt_of_lt_of_le HGR.out (Nat.pow_le_pow_right B_pos (by omega))))
          have HPO : Hid (0 < av * C + N) := Lib.hid (Nat.lt_of_lt_of_le (Nat.mul_pos HAV.out.2 (show 0 < C from HC.out.2)) (Nat.le_add_right _ _))
          have HAD := Lib.hid (add_calls _ _ (av * C) N w5 (HR4.out.gr HG5.out).at_ HR5.out.at_ 20 HLE.out (Nat.lt_of_lt_of_le (show N < B from HNB.out) (by rw [← Nat.pow_one B]; exact Nat.pow_le_pow_right B_pos (by decide))) (by decide))
          go_wp2_with (go_at_call 46; (with_reducible refine HAD.out.mono ?_); rintro ev w6 ⟨⟨r6, rfl, hr6⟩, hg6⟩; have HR6 := Lib.hid hr6; have HG6 := Lib.hid hg6; clear hr6 hg6)
          go_roundg (J + 1 - (i + 1))
          case measure => have := HGG2.out; omega
          case rel => exact ⟨i + 1, _, rfl, by omega, by first | rfl | go_num, Lib.hid HR6.out.at_, Lib.hid ⟨HGR.out, HPO.out⟩, Lib.hid (HGB.out.tr (HG3.out.tr (HG4.out.tr (HG5.out.tr HG6.out))))⟩
        · have hie : i = J + 1 := by omega
          subst hie
          have b2 : decide (((J + 1 : Nat) : Int) < (J : Int) + 1) = false := decide_eq_false (by omega)
          have b2n : decide ((J : Int) + 1 < (J : Int) + 1) = false := decide_eq_false (by omega)
          have HM := Lib.hid (Met2.gr HM.out (HG.out.tr HGB.out))
          have HBB : Hid (bv < Dg.D ^ 18) := Lib.hid (b_BD (k := 6) (Nat.lt_of_lt_of_le HBV.out.1 (Nat.pow_le_pow_right B_pos (by omega))) rfl)
          have HAA : Hid (av < Dg.D ^ 33) := Lib.hid (b_BD (k := 11) (Nat.lt_of_lt_of_le HAV.out.1 (Nat.pow_le_pow_right B_pos (by omega))) rfl)
          have HBW := Lib.hid (HB.out.gr HGB.out)
          rename World => w0
          have HC1 := Lib.hid (c_div HA.out HBW.out (k := 33) HAA.out (b_up HBB.out (by decide)) (by decide) HBV.out.2)
          go_wp2_with (go_at_call 66; (with_reducible refine HC1.out.mono ?_); rintro ev w1 ⟨⟨q1, r1, rfl, hq1, hr1⟩, hg1⟩; have HG1 := Lib.hid hg1; have HQ1 := Lib.hid hq1; have HR1 := Lib.hid hr1; clear hg1 hq1 hr1)
          have HBQ1 : Hid ((av / bv) < Dg.D ^ 33) := Lib.hid (b_div HAA.out)
          have HBD1 : Hid ((av % bv) < Dg.D ^ 33) := Lib.hid (b_mod HAA.out)
          obtain ⟨X2, hX2⟩ : ∃ X2 : ByteArray, X2 = ⟨(Lib.decDigits av).toArray⟩ := ⟨_, rfl⟩
          have HX2 := Lib.hid hX2
          clear hX2
          have HC3 := Lib.hid (c_text (HM.out.gr HG1.out).2.2 (HA.out.gr HG1.out) (k := 33) HAA.out (by decide) (by decide) (X := X2) HX2.out)
          go_wp2_with (go_at_call 41; (with_reducible refine HC3.out.mono ?_); rintro ev w2 ⟨rfl, hg2⟩; have HG2 := Lib.hid hg2; clear hg2 )
          have HC4 := Lib.hid (r_getN (n := av) (k := 33) (X := X2) (w := w2) HX2.out HAA.out (by decide) (by decide))
          go_wp2_with (go_at_call 72; (with_reducible refine HC4.out.mono ?_); rintro ev w3 ⟨⟨r4, rfl, hr4⟩, hg3⟩; have HG3 := Lib.hid hg3; have HR4 := Lib.hid hr4; clear hg3 hr4)
          obtain ⟨X5, hX5⟩ : ∃ X5 : ByteArray, X5 = ⟨(Lib.decDigits bv).toArray⟩ := ⟨_, rfl⟩
          have HX5 := Lib.hid hX5
          clear hX5
          have HC6 := Lib.hid (c_text (HM.out.gr ((HG1.out.tr HG2.out).tr HG3.out)).2.2 (HBW.out.gr ((HG1.out.tr HG2.out).tr HG3.out)) (k := 18) HBB.out (by decide) (by decide) (X := X5) HX5.out)
          go_wp2_with (go_at_call 41; (with_reducible refine HC6.out.mono ?_); rintro ev w4 ⟨rfl, hg4⟩; have HG4 := Lib.hid hg4; clear hg4 )
          have HC7 := Lib.hid (r_getN (n := bv) (k := 18) (X := X5) (w := w4) HX5.out HBB.out (by decide) (by decide))
          go_wp2_with (go_at_call 72; (with_reducible refine HC7.out.mono ?_); rintro ev w5 ⟨⟨r7, rfl, hr7⟩, hg5⟩; have HG5 := Lib.hid hg5; have HR7 := Lib.hid hr7; clear hg5 hr7)
          have HC8 := Lib.hid (r_div (HR4.out.gr (HG4.out.tr HG5.out)) HR7.out (k := 33) HAA.out (b_up HBB.out (by decide)) (by decide) HBV.out.2)
          go_wp2_with (go_at_call 67; (with_reducible refine HC8.out.mono ?_); rintro ev w6 ⟨⟨q8, r8, rfl, hq8, hr8⟩, hg6⟩; have HG6 := Lib.hid hg6; have HQ8 := Lib.hid hq8; have HR8 := Lib.hid hr8; clear hg6 hq8 hr8)
          have HBQ8 : Hid ((av / bv) < Dg.D ^ 33) := Lib.hid (b_div HAA.out)
          have HBD8 : Hid ((av % bv) < Dg.D ^ 33) := Lib.hid (b_mod HAA.out)
          obtain ⟨X9, hX9⟩ : ∃ X9 : ByteArray, X9 = ⟨(Lib.decDigits (av / bv)).toArray⟩ := ⟨_, rfl⟩
          have HX9 := Lib.hid hX9
          clear hX9
          have HC10 := Lib.hid (c_text (HM.out.gr (((((HG1.out.tr HG2.out).tr HG3.out).tr HG4.out).tr HG5.out).tr HG6.out)).2.2 ((HQ1.out.gr ((((HG2.out.tr HG3.out).tr HG4.out).tr HG5.out).tr HG6.out)).at_) (k := 33) HBQ1.out (by decide) (by decide) (X := X9) HX9.out)
          go_wp2_with (go_at_call 41; (with_reducible refine HC10.out.mono ?_); rintro ev w7 ⟨rfl, hg7⟩; have HG7 := Lib.hid hg7; clear hg7 )
          have HC11 := Lib.hid (r_text (HQ8.out.gr HG7.out) (k := 33) HBQ8.out (by decide) (X := X9) HX9.out)
          go_wp2_with (go_at_call 42; (with_reducible refine HC11.out.mono ?_); rintro ev w8 ⟨rfl, hg8⟩; have HG8 := Lib.hid hg8; clear hg8 )
          obtain ⟨X12, hX12⟩ : ∃ X12 : ByteArray, X12 = ⟨(Lib.decDigits (av % bv)).toArray⟩ := ⟨_, rfl⟩
          have HX12 := Lib.hid hX12
          clear hX12
          have HC13 := Lib.hid (c_text (HM.out.gr (((((((HG1.out.tr HG2.out).tr HG3.out).tr HG4.out).tr HG5.out).tr HG6.out).tr HG7.out).tr HG8.out)).2.2 ((HR1.out.gr ((((((HG2.out.tr HG3.out).tr HG4.out).tr HG5.out).tr HG6.out).tr HG7.out).tr HG8.out)).at_) (k := 33) HBD1.out (by decide) (by decide) (X := X12) HX12.out)
          go_wp2_with (go_at_call 41; (with_reducible refine HC13.out.mono ?_); rintro ev w9 ⟨rfl, hg9⟩; have HG9 := Lib.hid hg9; clear hg9 )
          have HC14 := Lib.hid (r_text (HR8.out.gr ((HG7.out.tr HG8.out).tr HG9.out)) (k := 33) HBD8.out (by decide) (X := X12) HX12.out)
          go_wp2_with (go_at_call 42; (with_reducible refine HC14.out.mono ?_); rintro ev w10 ⟨rfl, hg10⟩; have HG10 := Lib.hid hg10; clear hg10 )
          have HC15 := Lib.hid (c_cmp ((HR1.out.gr ((((((((HG2.out.tr HG3.out).tr HG4.out).tr HG5.out).tr HG6.out).tr HG7.out).tr HG8.out).tr HG9.out).tr HG10.out)).at_) (HBW.out.gr (((((((((HG1.out.tr HG2.out).tr HG3.out).tr HG4.out).tr HG5.out).tr HG6.out).tr HG7.out).tr HG8.out).tr HG9.out).tr HG10.out)) (k := 33) HBD1.out (b_up HBB.out (by decide)) (by decide) (z := -1) (cmpN_lt (Nat.mod_lt _ HBV.out.2)))
          go_wp2_with (go_at_call 47; (with_reducible refine HC15.out.mono ?_); rintro ev w11 ⟨rfl, hg11⟩; have HG11 := Lib.hid hg11; clear hg11 )
          have HC16 := Lib.hid (c_mul ((HQ1.out.gr (((((((((HG2.out.tr HG3.out).tr HG4.out).tr HG5.out).tr HG6.out).tr HG7.out).tr HG8.out).tr HG9.out).tr HG10.out).tr HG11.out)).at_) (HBW.out.gr ((((((((((HG1.out.tr HG2.out).tr HG3.out).tr HG4.out).tr HG5.out).tr HG6.out).tr HG7.out).tr HG8.out).tr HG9.out).tr HG10.out).tr HG11.out)) (k := 33) HBQ1.out (b_up HBB.out (by decide)) (by decide))
          go_wp2_with (go_at_call 43; (with_reducible refine HC16.out.mono ?_); rintro ev w12 ⟨⟨r16, rfl, hr16⟩, hg12⟩; have HG12 := Lib.hid hg12; have HR16 := Lib.hid hr16; clear hg12 hr16)
          have HBD16 : Hid (((av / bv) * bv) < Dg.D ^ 51) := Lib.hid (b_mul HBQ1.out HBB.out rfl)
          have HC17 := Lib.hid (c_add (HR16.out.at_) ((HR1.out.gr ((((((((((HG2.out.tr HG3.out).tr HG4.out).tr HG5.out).tr HG6.out).tr HG7.out).tr HG8.out).tr HG9.out).tr HG10.out).tr HG11.out).tr HG12.out)).at_) (k := 51) HBD16.out (b_up HBD1.out (by decide)) (by decide))
          go_wp2_with (go_at_call 46; (with_reducible refine HC17.out.mono ?_); rintro ev w13 ⟨⟨r17, rfl, hr17⟩, hg13⟩; have HG13 := Lib.hid hg13; have HR17 := Lib.hid hr17; clear hg13 hr17)
          have HBD17 : Hid ((((av / bv) * bv) + (av % bv)) < Dg.D ^ 52) := Lib.hid (b_add HBD16.out (b_up HBD1.out (by decide)) rfl)
          have HC18 := Lib.hid (c_cmp (HR17.out.at_) (HA.out.gr ((((((((((((HG1.out.tr HG2.out).tr HG3.out).tr HG4.out).tr HG5.out).tr HG6.out).tr HG7.out).tr HG8.out).tr HG9.out).tr HG10.out).tr HG11.out).tr HG12.out).tr HG13.out)) (k := 52) HBD17.out (b_up HAA.out (by decide)) (by decide) (z := 0) (cmp_same (by rw [Nat.mul_comm]; exact Nat.div_add_mod av bv)))
          go_wp2_with (go_at_call 47; (with_reducible refine HC18.out.mono ?_); rintro ev w14 ⟨rfl, hg14⟩; have HG14 := Lib.hid hg14; clear hg14 )
          go_ret
          exact ⟨by first | rfl | exact ret_bool (by simp), (HG.out.tr HGB.out).tr (((((((((((((HG1.out.tr HG2.out).tr HG3.out).tr HG4.out).tr HG5.out).tr HG6.out).tr HG7.out).tr HG8.out).tr HG9.out).tr HG10.out).tr HG11.out).tr HG12.out).tr HG13.out).tr HG14.out)⟩
end Go.Proofs.YtglbdafcfcmffaaGreatDoor
