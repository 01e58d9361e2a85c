/- Layer 2: 'numbers beside powers of two and of ten: sums, differences, products carry', walked. -/
import Derived.Test.YtglbdafcfcmffaaGreatDoorQk
import Derived.Test.YtglbdafcfcmffaaGreatDoorUb
import Derived.Test.YtglbdafcfcmffaaGreatDoorUc
namespace Go.Proofs.YtglbdafcfcmffaaGreatDoor
open Go.RowKit Go.Extern.Stop Go.Stop Go.Extern Go.Sort
set_option linter.unusedVariables false
set_option linter.unusedSimpArgs false

theorem pow2_bd {e q : Nat} (h : e ≤ 30 * q) (hq : q ≤ 29) : 2 ^ e < Dg.D ^ (q + 1) := by
  have h1 : 2 ^ e ≤ 2 ^ (30 * q) := Nat.pow_le_pow_right (by decide) h
  have h2 : 2 ^ (30 * q) ≤ (2 * Dg.D) ^ q := by rw [Nat.pow_mul]; exact Nat.pow_le_pow_left (by decide) q
  have h3 : 2 ^ q < Dg.D := Nat.lt_of_le_of_lt (Nat.pow_le_pow_right (by decide) hq) (by decide)
  rw [Nat.mul_pow] at h2
  have h4 : 2 ^ q * Dg.D ^ q < Dg.D * Dg.D ^ q := Nat.mul_lt_mul_of_pos_right h3 (Nat.pow_pos Dg.D_pos)
  rw [Nat.pow_succ, Nat.mul_comm (Dg.D ^ q)]
  omega
set_option maxRecDepth 100000 in
set_option maxHeartbeats 16000000 in
theorem natCarry_calls (k m : Int) (ten : Bool) (k0 : -9223372036854775808 ≤ k) (k1 : k ≤ 9223372036854775807) (m0 : -9223372036854775808 ≤ m) (m1 : m ≤ 9223372036854775807) (w : World) (hM : Met2 w) :
    Calls Tryz.prog 6 #[.int .i64 k, .int .i64 m, .bool ten] w fun e w' => e = .returned (.bool true) ∧ Gr w w' := by
  have HM := Lib.hid hM
  clear hM
  obtain ⟨K, hk1, hk2, hk3, hk4, hk5⟩ := rem_nat k 300 (by decide)
  obtain ⟨M, hm1, hm2, hm3, hm4, hm5⟩ := rem_nat m 300 (by decide)
  cases ten
  case false =>
    have hKb : K ≤ 299 := by omega
    have hMb : M ≤ 299 := by omega
    have HPK : Hid (2 ^ K < Dg.D ^ 11) := Lib.hid (b_up (pow2_bd (q := 10) (show K ≤ 30 * 10 by omega) (by decide)) (by decide))
    have HPM : Hid (2 ^ M < Dg.D ^ 11) := Lib.hid (b_up (pow2_bd (q := 10) (show M ≤ 30 * 10 by omega) (by decide)) (by decide))
    have HPK1 : Hid (2 ^ (K + 1) < Dg.D ^ 11) := Lib.hid (b_up (pow2_bd (q := 10) (show (K + 1) ≤ 30 * 10 by omega) (by decide)) (by decide))
    have HPM1 : Hid (2 ^ (M + 1) < Dg.D ^ 11) := Lib.hid (b_up (pow2_bd (q := 10) (show (M + 1) ≤ 30 * 10 by omega) (by decide)) (by decide))
    have HPS : Hid (2 ^ (K + M) < Dg.D ^ 22) := Lib.hid (b_up (pow2_bd (q := 20) (show (K + M) ≤ 30 * 20 by omega) (by decide)) (by decide))
    have HONE : Hid (1 ≤ 2 ^ K) := Lib.hid (Nat.pow_pos (by decide))
    go_enter Tryz.func6, Tryz.ntmps6
    have HBG := Lib.hid (begun_met w HM.out)
    go_wp2_with (go_at_call 35; (with_reducible refine HBG.out.mono ?_); rintro ev w1 ⟨rfl, hg1⟩; have HG1 := Lib.hid hg1; clear hg1)
    have HC1 := Lib.hid ((show Calls Tryz.prog 36 #[.int .u64 2] w1 fun e w' => (∃ r, e = .returned r ∧ NatP w' r 2) ∧ Gr w1 w' from c_of 2 (by decide) w1))
    go_wp2_with (go_at_call 36; (with_reducible refine HC1.out.mono ?_); rintro ev w2 ⟨⟨r1, rfl, hr1⟩, hg2⟩; have HG2 := Lib.hid hg2; have HR1 := Lib.hid hr1; clear hg2 hr1)
    have HBD1 : Hid (2 < Dg.D ^ 3) := Lib.hid (b_u64 (by decide))
    have HC2 := Lib.hid (c_pow (HR1.out.at_) K (m := 11) (b_up HBD1.out (by decide)) HPK.out (by decide) (by decide) (by omega))
    go_wp2_with (go_at_call 37; (with_reducible refine HC2.out.mono ?_); rintro ev w3 ⟨⟨r2, rfl, hr2⟩, hg3⟩; have HG3 := Lib.hid hg3; have HR2 := Lib.hid hr2; clear hg3 hr2)
    have HC3 := Lib.hid ((show Calls Tryz.prog 36 #[.int .u64 2] w3 fun e w' => (∃ r, e = .returned r ∧ NatP w' r 2) ∧ Gr w3 w' from c_of 2 (by decide) w3))
    go_wp2_with (go_at_call 36; (with_reducible refine HC3.out.mono ?_); rintro ev w4 ⟨⟨r3, rfl, hr3⟩, hg4⟩; have HG4 := Lib.hid hg4; have HR3 := Lib.hid hr3; clear hg4 hr3)
    have HBD3 : Hid (2 < Dg.D ^ 3) := Lib.hid (b_u64 (by decide))
    have HC4 := Lib.hid (c_pow (HR3.out.at_) M (m := 11) (b_up HBD3.out (by decide)) HPM.out (by decide) (by decide) (by omega))
    go_wp2_with (go_at_call 37; (with_reducible refine HC4.out.mono ?_); rintro ev w5 ⟨⟨r4, rfl, hr4⟩, hg5⟩; have HG5 := Lib.hid hg5; have HR4 := Lib.hid hr4; clear hg5 hr4)
    have HC5 := Lib.hid ((show Calls Tryz.prog 39 #[.int .u64 2] w5 fun e w' => (∃ r, e = .returned r ∧ RN w' r 2) ∧ Gr w5 w' from r_ofU 2 (by decide) w5))
    go_wp2_with (go_at_call 39; (with_reducible refine HC5.out.mono ?_); rintro ev w6 ⟨⟨r5, rfl, hr5⟩, hg6⟩; have HG6 := Lib.hid hg6; have HR5 := Lib.hid hr5; clear hg6 hr5)
    have HBD5 : Hid (2 < Dg.D ^ 3) := Lib.hid (b_u64 (by decide))
    have HC6 := Lib.hid (r_pow HR5.out K (k := 11) (b_up HBD5.out (by decide)) HPK1.out (by decide) (by decide) (by omega))
    go_wp2_with (go_at_call 38; (with_reducible refine HC6.out.mono ?_); rintro ev w7 ⟨⟨r6, rfl, hr6⟩, hg7⟩; have HG7 := Lib.hid hg7; have HR6 := Lib.hid hr6; clear hg7 hr6)
    have HC7 := Lib.hid ((show Calls Tryz.prog 39 #[.int .u64 2] w7 fun e w' => (∃ r, e = .returned r ∧ RN w' r 2) ∧ Gr w7 w' from r_ofU 2 (by decide) w7))
    go_wp2_with (go_at_call 39; (with_reducible refine HC7.out.mono ?_); rintro ev w8 ⟨⟨r7, rfl, hr7⟩, hg8⟩; have HG8 := Lib.hid hg8; have HR7 := Lib.hid hr7; clear hg8 hr7)
    have HBD7 : Hid (2 < Dg.D ^ 3) := Lib.hid (b_u64 (by decide))
    have HC8 := Lib.hid (r_pow HR7.out M (k := 11) (b_up HBD7.out (by decide)) HPM1.out (by decide) (by decide) (by omega))
    go_wp2_with (go_at_call 38; (with_reducible refine HC8.out.mono ?_); rintro ev w9 ⟨⟨r8, rfl, hr8⟩, hg9⟩; have HG9 := Lib.hid hg9; have HR8 := Lib.hid hr8; clear hg9 hr8)
    have HC9 := Lib.hid ((show Calls Tryz.prog 36 #[.int .u64 1] w9 fun e w' => (∃ r, e = .returned r ∧ NatP w' r 1) ∧ Gr w9 w' from c_of 1 (by decide) w9))
    go_wp2_with (go_at_call 36; (with_reducible refine HC9.out.mono ?_); rintro ev w10 ⟨⟨r9, rfl, hr9⟩, hg10⟩; have HG10 := Lib.hid hg10; have HR9 := Lib.hid hr9; clear hg10 hr9)
    have HBD9 : Hid (1 < Dg.D ^ 3) := Lib.hid (b_u64 (by decide))
    have HC10 := Lib.hid (c_sub_ptr (HR2.out.gr ((((((HG4.out.tr HG5.out).tr HG6.out).tr HG7.out).tr HG8.out).tr HG9.out).tr HG10.out)) (HR9.out.at_) (k := 11) HPK.out (b_up HBD9.out (by decide)) (by decide) HONE.out)
    go_wp2_with (go_at_call 40; (with_reducible refine HC10.out.mono ?_); rintro ev w11 ⟨⟨p10, rfl, hr10⟩, hg11⟩; have HG11 := Lib.hid hg11; have HR10 := Lib.hid hr10; clear hg11 hr10)
    have HBS : Hid ((2 ^ K - 1) < Dg.D ^ 11) := Lib.hid (b_sub HPK.out)
    obtain ⟨X11, hX11⟩ : ∃ X11 : ByteArray, X11 = ⟨(Lib.decDigits (2 ^ K)).toArray⟩ := ⟨_, rfl⟩
    have HX11 := Lib.hid hX11
    clear hX11
    have HC12 := Lib.hid (c_text (HM.out.gr ((((((((((HG1.out.tr HG2.out).tr HG3.out).tr HG4.out).tr HG5.out).tr HG6.out).tr HG7.out).tr HG8.out).tr HG9.out).tr HG10.out).tr HG11.out)).2.2 (HR2.out.gr (((((((HG4.out.tr HG5.out).tr HG6.out).tr HG7.out).tr HG8.out).tr HG9.out).tr HG10.out).tr HG11.out)) (k := 11) HPK.out (by decide) (by decide) (X := X11) HX11.out)
    go_wp2_with (go_at_call 41; (with_reducible refine HC12.out.mono ?_); rintro ev w12 ⟨rfl, hg12⟩; have HG12 := Lib.hid hg12; clear hg12 )
    have HC13 := Lib.hid (r_text (HR6.out.gr ((((HG8.out.tr HG9.out).tr HG10.out).tr HG11.out).tr HG12.out)) (k := 11) HPK.out (by decide) (X := X11) HX11.out)
    go_wp2_with (go_at_call 42; (with_reducible refine HC13.out.mono ?_); rintro ev w13 ⟨rfl, hg13⟩; have HG13 := Lib.hid hg13; clear hg13 )
    have HC14 := Lib.hid (c_mul (HR2.out.gr (((((((((HG4.out.tr HG5.out).tr HG6.out).tr HG7.out).tr HG8.out).tr HG9.out).tr HG10.out).tr HG11.out).tr HG12.out).tr HG13.out)) (HR4.out.gr (((((((HG6.out.tr HG7.out).tr HG8.out).tr HG9.out).tr HG10.out).tr HG11.out).tr HG12.out).tr HG13.out)) (k := 11) HPK.out HPM.out (by decide))
    go_wp2_with (go_at_call 43; (with_reducible refine HC14.out.mono ?_); rintro ev w14 ⟨⟨r14, rfl, hr14⟩, hg14⟩; have HG14 := Lib.hid hg14; have HR14 := Lib.hid hr14; clear hg14 hr14)
    have HBD14 : Hid (((2 ^ K) * (2 ^ M)) < Dg.D ^ 22) := Lib.hid (b_mul HPK.out HPM.out rfl)
    obtain ⟨X15, hX15⟩ : ∃ X15 : ByteArray, X15 = ⟨(Lib.decDigits ((2 ^ K) * (2 ^ M))).toArray⟩ := ⟨_, rfl⟩
    have HX15 := Lib.hid hX15
    clear hX15
    have HC16 := Lib.hid (c_text (HM.out.gr (((((((((((((HG1.out.tr HG2.out).tr HG3.out).tr HG4.out).tr HG5.out).tr HG6.out).tr HG7.out).tr HG8.out).tr HG9.out).tr HG10.out).tr HG11.out).tr HG12.out).tr HG13.out).tr HG14.out)).2.2 (HR14.out.at_) (k := 22) HBD14.out (by decide) (by decide) (X := X15) HX15.out)
    go_wp2_with (go_at_call 41; (with_reducible refine HC16.out.mono ?_); rintro ev w15 ⟨rfl, hg15⟩; have HG15 := Lib.hid hg15; clear hg15 )
    have HC17 := Lib.hid (r_mul (HR6.out.gr (((((((HG8.out.tr HG9.out).tr HG10.out).tr HG11.out).tr HG12.out).tr HG13.out).tr HG14.out).tr HG15.out)) (HR8.out.gr (((((HG10.out.tr HG11.out).tr HG12.out).tr HG13.out).tr HG14.out).tr HG15.out)) (k := 11) HPK.out HPM.out (by decide))
    go_wp2_with (go_at_call 44; (with_reducible refine HC17.out.mono ?_); rintro ev w16 ⟨⟨r17, rfl, hr17⟩, hg16⟩; have HG16 := Lib.hid hg16; have HR17 := Lib.hid hr17; clear hg16 hr17)
    have HBD17 : Hid (((2 ^ K) * (2 ^ M)) < Dg.D ^ 22) := Lib.hid (b_mul HPK.out HPM.out rfl)
    have HC18 := Lib.hid (r_text HR17.out (k := 22) HBD17.out (by decide) (X := X15) HX15.out)
    go_wp2_with (go_at_call 42; (with_reducible refine HC18.out.mono ?_); rintro ev w17 ⟨rfl, hg17⟩; have HG17 := Lib.hid hg17; clear hg17 )
    obtain ⟨X19, hX19⟩ : ∃ X19 : ByteArray, X19 = ⟨(Lib.decDigits (2 ^ K - 1)).toArray⟩ := ⟨_, rfl⟩
    have HX19 := Lib.hid hX19
    clear hX19
    have HC20 := Lib.hid (c_text (HM.out.gr ((((((((((((((((HG1.out.tr HG2.out).tr HG3.out).tr HG4.out).tr HG5.out).tr HG6.out).tr HG7.out).tr HG8.out).tr HG9.out).tr HG10.out).tr HG11.out).tr HG12.out).tr HG13.out).tr HG14.out).tr HG15.out).tr HG16.out).tr HG17.out)).2.2 ((HR10.out.gr (((((HG12.out.tr HG13.out).tr HG14.out).tr HG15.out).tr HG16.out).tr HG17.out)).at_) (k := 11) HBS.out (by decide) (by decide) (X := X19) HX19.out)
    go_wp2_with (go_at_call 41; (with_reducible refine HC20.out.mono ?_); rintro ev w18 ⟨rfl, hg18⟩; have HG18 := Lib.hid hg18; clear hg18 )
    have HC21 := Lib.hid ((show Calls Tryz.prog 39 #[.int .u64 1] w18 fun e w' => (∃ r, e = .returned r ∧ RN w' r 1) ∧ Gr w18 w' from r_ofU 1 (by decide) w18))
    go_wp2_with (go_at_call 39; (with_reducible refine HC21.out.mono ?_); rintro ev w19 ⟨⟨r21, rfl, hr21⟩, hg19⟩; have HG19 := Lib.hid hg19; have HR21 := Lib.hid hr21; clear hg19 hr21)
    have HBD21 : Hid (1 < Dg.D ^ 3) := Lib.hid (b_u64 (by decide))
    have HC22 := Lib.hid (r_sub (HR6.out.gr (((((((((((HG8.out.tr HG9.out).tr HG10.out).tr HG11.out).tr HG12.out).tr HG13.out).tr HG14.out).tr HG15.out).tr HG16.out).tr HG17.out).tr HG18.out).tr HG19.out)) HR21.out (k := 11) HPK.out (b_up HBD21.out (by decide)) (by decide) HONE.out)
    go_wp2_with (go_at_call 45; (with_reducible refine HC22.out.mono ?_); rintro ev w20 ⟨⟨r22, rfl, hr22⟩, hg20⟩; have HG20 := Lib.hid hg20; have HR22 := Lib.hid hr22; clear hg20 hr22)
    have HBD22 : Hid (((2 ^ K) - 1) < Dg.D ^ 11) := Lib.hid (b_sub HPK.out)
    have HC23 := Lib.hid (r_text HR22.out (k := 11) HBD22.out (by decide) (X := X19) HX19.out)
    go_wp2_with (go_at_call 42; (with_reducible refine HC23.out.mono ?_); rintro ev w21 ⟨rfl, hg21⟩; have HG21 := Lib.hid hg21; clear hg21 )
    have HC24 := Lib.hid ((show Calls Tryz.prog 36 #[.int .u64 1] w21 fun e w' => (∃ r, e = .returned r ∧ NatP w' r 1) ∧ Gr w21 w' from c_of 1 (by decide) w21))
    go_wp2_with (go_at_call 36; (with_reducible refine HC24.out.mono ?_); rintro ev w22 ⟨⟨r24, rfl, hr24⟩, hg22⟩; have HG22 := Lib.hid hg22; have HR24 := Lib.hid hr24; clear hg22 hr24)
    have HBD24 : Hid (1 < Dg.D ^ 3) := Lib.hid (b_u64 (by decide))
    have HC25 := Lib.hid (c_add ((HR10.out.gr ((((((((((HG12.out.tr HG13.out).tr HG14.out).tr HG15.out).tr HG16.out).tr HG17.out).tr HG18.out).tr HG19.out).tr HG20.out).tr HG21.out).tr HG22.out)).at_) (HR24.out.at_) (k := 11) HBS.out (b_up HBD24.out (by decide)) (by decide))
    go_wp2_with (go_at_call 46; (with_reducible refine HC25.out.mono ?_); rintro ev w23 ⟨⟨r25, rfl, hr25⟩, hg23⟩; have HG23 := Lib.hid hg23; have HR25 := Lib.hid hr25; clear hg23 hr25)
    have HBD25 : Hid (((2 ^ K - 1) + 1) < Dg.D ^ 12) := Lib.hid (b_add HBS.out (b_up HBD24.out (by decide)) rfl)
    have HC26 := Lib.hid (c_cmp (HR25.out.at_) (HR2.out.gr (((((((((((((((((((HG4.out.tr HG5.out).tr HG6.out).tr HG7.out).tr HG8.out).tr HG9.out).tr HG10.out).tr HG11.out).tr HG12.out).tr HG13.out).tr HG14.out).tr HG15.out).tr HG16.out).tr HG17.out).tr HG18.out).tr HG19.out).tr HG20.out).tr HG21.out).tr HG22.out).tr HG23.out)) (k := 12) HBD25.out (b_up HPK.out (by decide)) (by decide) (z := 0) (cmp_same (Nat.sub_add_cancel HONE.out)))
    go_wp2_with (go_at_call 47; (with_reducible refine HC26.out.mono ?_); rintro ev w24 ⟨rfl, hg24⟩; have HG24 := Lib.hid hg24; clear hg24 )
    have HC27 := Lib.hid (c_mul (HR2.out.gr ((((((((((((((((((((HG4.out.tr HG5.out).tr HG6.out).tr HG7.out).tr HG8.out).tr HG9.out).tr HG10.out).tr HG11.out).tr HG12.out).tr HG13.out).tr HG14.out).tr HG15.out).tr HG16.out).tr HG17.out).tr HG18.out).tr HG19.out).tr HG20.out).tr HG21.out).tr HG22.out).tr HG23.out).tr HG24.out)) (HR4.out.gr ((((((((((((((((((HG6.out.tr HG7.out).tr HG8.out).tr HG9.out).tr HG10.out).tr HG11.out).tr HG12.out).tr HG13.out).tr HG14.out).tr HG15.out).tr HG16.out).tr HG17.out).tr HG18.out).tr HG19.out).tr HG20.out).tr HG21.out).tr HG22.out).tr HG23.out).tr HG24.out)) (k := 11) HPK.out HPM.out (by decide))
    go_wp2_with (go_at_call 43; (with_reducible refine HC27.out.mono ?_); rintro ev w25 ⟨⟨r27, rfl, hr27⟩, hg25⟩; have HG25 := Lib.hid hg25; have HR27 := Lib.hid hr27; clear hg25 hr27)
    have HBD27 : Hid (((2 ^ K) * (2 ^ M)) < Dg.D ^ 22) := Lib.hid (b_mul HPK.out HPM.out rfl)
    have HC28 := Lib.hid ((show Calls Tryz.prog 36 #[.int .u64 2] w25 fun e w' => (∃ r, e = .returned r ∧ NatP w' r 2) ∧ Gr w25 w' from c_of 2 (by decide) w25))
    go_wp2_with (go_at_call 36; (with_reducible refine HC28.out.mono ?_); rintro ev w26 ⟨⟨r28, rfl, hr28⟩, hg26⟩; have HG26 := Lib.hid hg26; have HR28 := Lib.hid hr28; clear hg26 hr28)
    have HBD28 : Hid (2 < Dg.D ^ 3) := Lib.hid (b_u64 (by decide))
    have hpw := c_pow (w := w26) (HR28.out.at_) (K + M) (m := 22) (b_up HBD28.out (by decide)) HPS.out (by decide) (by decide) (by omega)
    rw [Int.natCast_add] at hpw
    have HPW := Lib.hid hpw
    clear hpw
    have HC29 := Lib.hid (HPW.out)
    go_wp2_with (go_at_call 37; (with_reducible refine HC29.out.mono ?_); rintro ev w27 ⟨⟨r29, rfl, hr29⟩, hg27⟩; have HG27 := Lib.hid hg27; have HR29 := Lib.hid hr29; clear hg27 hr29)
    have HC30 := Lib.hid (c_cmp ((HR27.out.gr (HG26.out.tr HG27.out)).at_) HR29.out (k := 22) HBD27.out HPS.out (by decide) (z := 0) (cmp_same (Nat.pow_add 2 K M).symm))
    go_wp2_with (go_at_call 47; (with_reducible refine HC30.out.mono ?_); rintro ev w28 ⟨rfl, hg28⟩; have HG28 := Lib.hid hg28; clear hg28 )
    go_ret
    exact ⟨by first | rfl | exact ret_bool (by simp), (((((((((((((((((((((((((((HG1.out.tr HG2.out).tr HG3.out).tr HG4.out).tr HG5.out).tr HG6.out).tr HG7.out).tr HG8.out).tr HG9.out).tr HG10.out).tr HG11.out).tr HG12.out).tr HG13.out).tr HG14.out).tr HG15.out).tr HG16.out).tr HG17.out).tr HG18.out).tr HG19.out).tr HG20.out).tr HG21.out).tr HG22.out).tr HG23.out).tr HG24.out).tr HG25.out).tr HG26.out).tr HG27.out).tr HG28.out)⟩
  case true =>
    obtain ⟨K2, hk6, hk7⟩ : ∃ K2 : Nat, (K : Int) % 80 = (K2 : Int) ∧ K2 ≤ 79 := ⟨K % 80, by omega, by omega⟩
    obtain ⟨M2, hm6, hm7⟩ : ∃ M2 : Nat, (M : Int) % 80 = (M2 : Int) ∧ M2 ≤ 79 := ⟨M % 80, by omega, by omega⟩
    have hk8 : (K : Int).tmod 80 = (K2 : Int) := by rw [Int.tmod_eq_emod_of_nonneg (by omega)]; exact hk6
    have hm8 : (M : Int).tmod 80 = (M2 : Int) := by rw [Int.tmod_eq_emod_of_nonneg (by omega)]; exact hm6
    have hKb : K2 ≤ 79 := by omega
    have hMb : M2 ≤ 79 := by omega
    have HPK : Hid (10 ^ K2 < Dg.D ^ 11) := Lib.hid (Nat.lt_of_le_of_lt (Nat.pow_le_pow_right (by decide) (show K2 ≤ 80 by omega)) (by decide))
    have HPM : Hid (10 ^ M2 < Dg.D ^ 11) := Lib.hid (Nat.lt_of_le_of_lt (Nat.pow_le_pow_right (by decide) (show M2 ≤ 80 by omega)) (by decide))
    have HPK1 : Hid (10 ^ (K2 + 1) < Dg.D ^ 11) := Lib.hid (Nat.lt_of_le_of_lt (Nat.pow_le_pow_right (by decide) (show (K2 + 1) ≤ 80 by omega)) (by decide))
    have HPM1 : Hid (10 ^ (M2 + 1) < Dg.D ^ 11) := Lib.hid (Nat.lt_of_le_of_lt (Nat.pow_le_pow_right (by decide) (show (M2 + 1) ≤ 80 by omega)) (by decide))
    have HPS : Hid (10 ^ (K2 + M2) < Dg.D ^ 22) := Lib.hid (Nat.lt_of_le_of_lt (Nat.pow_le_pow_right (by decide) (show (K2 + M2) ≤ 158 by omega)) (by decide))
    have HONE : Hid (1 ≤ 10 ^ K2) := Lib.hid (Nat.pow_pos (by decide))
    go_enter Tryz.func6, Tryz.ntmps6
    have HBG := Lib.hid (begun_met w HM.out)
    go_wp2_with (go_at_call 35; (with_reducible refine HBG.out.mono ?_); rintro ev w1 ⟨rfl, hg1⟩; have HG1 := Lib.hid hg1; clear hg1)
    have HC1 := Lib.hid ((show Calls Tryz.prog 36 #[.int .u64 10] w1 fun e w' => (∃ r, e = .returned r ∧ NatP w' r 10) ∧ Gr w1 w' from c_of 10 (by decide) w1))
    go_wp2_with (go_at_call 36; (with_reducible refine HC1.out.mono ?_); rintro ev w2 ⟨⟨r1, rfl, hr1⟩, hg2⟩; have HG2 := Lib.hid hg2; have HR1 := Lib.hid hr1; clear hg2 hr1)
    have HBD1 : Hid (10 < Dg.D ^ 3) := Lib.hid (b_u64 (by decide))
    have HC2 := Lib.hid (c_pow (HR1.out.at_) K2 (m := 11) (b_up HBD1.out (by decide)) HPK.out (by decide) (by decide) (by omega))
    go_wp2_with (go_at_call 37; (with_reducible refine HC2.out.mono ?_); rintro ev w3 ⟨⟨r2, rfl, hr2⟩, hg3⟩; have HG3 := Lib.hid hg3; have HR2 := Lib.hid hr2; clear hg3 hr2)
    have HC3 := Lib.hid ((show Calls Tryz.prog 36 #[.int .u64 10] w3 fun e w' => (∃ r, e = .returned r ∧ NatP w' r 10) ∧ Gr w3 w' from c_of 10 (by decide) w3))
    go_wp2_with (go_at_call 36; (with_reducible refine HC3.out.mono ?_); rintro ev w4 ⟨⟨r3, rfl, hr3⟩, hg4⟩; have HG4 := Lib.hid hg4; have HR3 := Lib.hid hr3; clear hg4 hr3)
    have HBD3 : Hid (10 < Dg.D ^ 3) := Lib.hid (b_u64 (by decide))
    have HC4 := Lib.hid (c_pow (HR3.out.at_) M2 (m := 11) (b_up HBD3.out (by decide)) HPM.out (by decide) (by decide) (by omega))
    go_wp2_with (go_at_call 37; (with_reducible refine HC4.out.mono ?_); rintro ev w5 ⟨⟨r4, rfl, hr4⟩, hg5⟩; have HG5 := Lib.hid hg5; have HR4 := Lib.hid hr4; clear hg5 hr4)
    have HC5 := Lib.hid ((show Calls Tryz.prog 39 #[.int .u64 10] w5 fun e w' => (∃ r, e = .returned r ∧ RN w' r 10) ∧ Gr w5 w' from r_ofU 10 (by decide) w5))
    go_wp2_with (go_at_call 39; (with_reducible refine HC5.out.mono ?_); rintro ev w6 ⟨⟨r5, rfl, hr5⟩, hg6⟩; have HG6 := Lib.hid hg6; have HR5 := Lib.hid hr5; clear hg6 hr5)
    have HBD5 : Hid (10 < Dg.D ^ 3) := Lib.hid (b_u64 (by decide))
    have HC6 := Lib.hid (r_pow HR5.out K2 (k := 11) (b_up HBD5.out (by decide)) HPK1.out (by decide) (by decide) (by omega))
    go_wp2_with (go_at_call 38; (with_reducible refine HC6.out.mono ?_); rintro ev w7 ⟨⟨r6, rfl, hr6⟩, hg7⟩; have HG7 := Lib.hid hg7; have HR6 := Lib.hid hr6; clear hg7 hr6)
    have HC7 := Lib.hid ((show Calls Tryz.prog 39 #[.int .u64 10] w7 fun e w' => (∃ r, e = .returned r ∧ RN w' r 10) ∧ Gr w7 w' from r_ofU 10 (by decide) w7))
    go_wp2_with (go_at_call 39; (with_reducible refine HC7.out.mono ?_); rintro ev w8 ⟨⟨r7, rfl, hr7⟩, hg8⟩; have HG8 := Lib.hid hg8; have HR7 := Lib.hid hr7; clear hg8 hr7)
    have HBD7 : Hid (10 < Dg.D ^ 3) := Lib.hid (b_u64 (by decide))
    have HC8 := Lib.hid (r_pow HR7.out M2 (k := 11) (b_up HBD7.out (by decide)) HPM1.out (by decide) (by decide) (by omega))
    go_wp2_with (go_at_call 38; (with_reducible refine HC8.out.mono ?_); rintro ev w9 ⟨⟨r8, rfl, hr8⟩, hg9⟩; have HG9 := Lib.hid hg9; have HR8 := Lib.hid hr8; clear hg9 hr8)
    have HC9 := Lib.hid ((show Calls Tryz.prog 36 #[.int .u64 1] w9 fun e w' => (∃ r, e = .returned r ∧ NatP w' r 1) ∧ Gr w9 w' from c_of 1 (by decide) w9))
    go_wp2_with (go_at_call 36; (with_reducible refine HC9.out.mono ?_); rintro ev w10 ⟨⟨r9, rfl, hr9⟩, hg10⟩; have HG10 := Lib.hid hg10; have HR9 := Lib.hid hr9; clear hg10 hr9)
    have HBD9 : Hid (1 < Dg.D ^ 3) := Lib.hid (b_u64 (by decide))
    have HC10 := Lib.hid (c_sub_ptr (HR2.out.gr ((((((HG4.out.tr HG5.out).tr HG6.out).tr HG7.out).tr HG8.out).tr HG9.out).tr HG10.out)) (HR9.out.at_) (k := 11) HPK.out (b_up HBD9.out (by decide)) (by decide) HONE.out)
    go_wp2_with (go_at_call 40; (with_reducible refine HC10.out.mono ?_); rintro ev w11 ⟨⟨p10, rfl, hr10⟩, hg11⟩; have HG11 := Lib.hid hg11; have HR10 := Lib.hid hr10; clear hg11 hr10)
    have HBS : Hid ((10 ^ K2 - 1) < Dg.D ^ 11) := Lib.hid (b_sub HPK.out)
    obtain ⟨X11, hX11⟩ : ∃ X11 : ByteArray, X11 = ⟨(Lib.decDigits (10 ^ K2)).toArray⟩ := ⟨_, rfl⟩
    have HX11 := Lib.hid hX11
    clear hX11
    have HC12 := Lib.hid (c_text (HM.out.gr ((((((((((HG1.out.tr HG2.out).tr HG3.out).tr HG4.out).tr HG5.out).tr HG6.out).tr HG7.out).tr HG8.out).tr HG9.out).tr HG10.out).tr HG11.out)).2.2 (HR2.out.gr (((((((HG4.out.tr HG5.out).tr HG6.out).tr HG7.out).tr HG8.out).tr HG9.out).tr HG10.out).tr HG11.out)) (k := 11) HPK.out (by decide) (by decide) (X := X11) HX11.out)
    go_wp2_with (go_at_call 41; (with_reducible refine HC12.out.mono ?_); rintro ev w12 ⟨rfl, hg12⟩; have HG12 := Lib.hid hg12; clear hg12 )
    have HC13 := Lib.hid (r_text (HR6.out.gr ((((HG8.out.tr HG9.out).tr HG10.out).tr HG11.out).tr HG12.out)) (k := 11) HPK.out (by decide) (X := X11) HX11.out)
    go_wp2_with (go_at_call 42; (with_reducible refine HC13.out.mono ?_); rintro ev w13 ⟨rfl, hg13⟩; have HG13 := Lib.hid hg13; clear hg13 )
    have HC14 := Lib.hid (c_mul (HR2.out.gr (((((((((HG4.out.tr HG5.out).tr HG6.out).tr HG7.out).tr HG8.out).tr HG9.out).tr HG10.out).tr HG11.out).tr HG12.out).tr HG13.out)) (HR4.out.gr (((((((HG6.out.tr HG7.out).tr HG8.out).tr HG9.out).tr HG10.out).tr HG11.out).tr HG12.out).tr HG13.out)) (k := 11) HPK.out HPM.out (by decide))
    go_wp2_with (go_at_call 43; (with_reducible refine HC14.out.mono ?_); rintro ev w14 ⟨⟨r14, rfl, hr14⟩, hg14⟩; have HG14 := Lib.hid hg14; have HR14 := Lib.hid hr14; clear hg14 hr14)
    have HBD14 : Hid (((10 ^ K2) * (10 ^ M2)) < Dg.D ^ 22) := Lib.hid (b_mul HPK.out HPM.out rfl)
    obtain ⟨X15, hX15⟩ : ∃ X15 : ByteArray, X15 = ⟨(Lib.decDigits ((10 ^ K2) * (10 ^ M2))).toArray⟩ := ⟨_, rfl⟩
    have HX15 := Lib.hid hX15
    clear hX15
    have HC16 := Lib.hid (c_text (HM.out.gr (((((((((((((HG1.out.tr HG2.out).tr HG3.out).tr HG4.out).tr HG5.out).tr HG6.out).tr HG7.out).tr HG8.out).tr HG9.out).tr HG10.out).tr HG11.out).tr HG12.out).tr HG13.out).tr HG14.out)).2.2 (HR14.out.at_) (k := 22) HBD14.out (by decide) (by decide) (X := X15) HX15.out)
    go_wp2_with (go_at_call 41; (with_reducible refine HC16.out.mono ?_); rintro ev w15 ⟨rfl, hg15⟩; have HG15 := Lib.hid hg15; clear hg15 )
    have HC17 := Lib.hid (r_mul (HR6.out.gr (((((((HG8.out.tr HG9.out).tr HG10.out).tr HG11.out).tr HG12.out).tr HG13.out).tr HG14.out).tr HG15.out)) (HR8.out.gr (((((HG10.out.tr HG11.out).tr HG12.out).tr HG13.out).tr HG14.out).tr HG15.out)) (k := 11) HPK.out HPM.out (by decide))
    go_wp2_with (go_at_call 44; (with_reducible refine HC17.out.mono ?_); rintro ev w16 ⟨⟨r17, rfl, hr17⟩, hg16⟩; have HG16 := Lib.hid hg16; have HR17 := Lib.hid hr17; clear hg16 hr17)
    have HBD17 : Hid (((10 ^ K2) * (10 ^ M2)) < Dg.D ^ 22) := Lib.hid (b_mul HPK.out HPM.out rfl)
    have HC18 := Lib.hid (r_text HR17.out (k := 22) HBD17.out (by decide) (X := X15) HX15.out)
    go_wp2_with (go_at_call 42; (with_reducible refine HC18.out.mono ?_); rintro ev w17 ⟨rfl, hg17⟩; have HG17 := Lib.hid hg17; clear hg17 )
    obtain ⟨X19, hX19⟩ : ∃ X19 : ByteArray, X19 = ⟨(Lib.decDigits (10 ^ K2 - 1)).toArray⟩ := ⟨_, rfl⟩
    have HX19 := Lib.hid hX19
    clear hX19
    have HC20 := Lib.hid (c_text (HM.out.gr ((((((((((((((((HG1.out.tr HG2.out).tr HG3.out).tr HG4.out).tr HG5.out).tr HG6.out).tr HG7.out).tr HG8.out).tr HG9.out).tr HG10.out).tr HG11.out).tr HG12.out).tr HG13.out).tr HG14.out).tr HG15.out).tr HG16.out).tr HG17.out)).2.2 ((HR10.out.gr (((((HG12.out.tr HG13.out).tr HG14.out).tr HG15.out).tr HG16.out).tr HG17.out)).at_) (k := 11) HBS.out (by decide) (by decide) (X := X19) HX19.out)
    go_wp2_with (go_at_call 41; (with_reducible refine HC20.out.mono ?_); rintro ev w18 ⟨rfl, hg18⟩; have HG18 := Lib.hid hg18; clear hg18 )
    have HC21 := Lib.hid ((show Calls Tryz.prog 39 #[.int .u64 1] w18 fun e w' => (∃ r, e = .returned r ∧ RN w' r 1) ∧ Gr w18 w' from r_ofU 1 (by decide) w18))
    go_wp2_with (go_at_call 39; (with_reducible refine HC21.out.mono ?_); rintro ev w19 ⟨⟨r21, rfl, hr21⟩, hg19⟩; have HG19 := Lib.hid hg19; have HR21 := Lib.hid hr21; clear hg19 hr21)
    have HBD21 : Hid (1 < Dg.D ^ 3) := Lib.hid (b_u64 (by decide))
    have HC22 := Lib.hid (r_sub (HR6.out.gr (((((((((((HG8.out.tr HG9.out).tr HG10.out).tr HG11.out).tr HG12.out).tr HG13.out).tr HG14.out).tr HG15.out).tr HG16.out).tr HG17.out).tr HG18.out).tr HG19.out)) HR21.out (k := 11) HPK.out (b_up HBD21.out (by decide)) (by decide) HONE.out)
    go_wp2_with (go_at_call 45; (with_reducible refine HC22.out.mono ?_); rintro ev w20 ⟨⟨r22, rfl, hr22⟩, hg20⟩; have HG20 := Lib.hid hg20; have HR22 := Lib.hid hr22; clear hg20 hr22)
    have HBD22 : Hid (((10 ^ K2) - 1) < Dg.D ^ 11) := Lib.hid (b_sub HPK.out)
    have HC23 := Lib.hid (r_text HR22.out (k := 11) HBD22.out (by decide) (X := X19) HX19.out)
    go_wp2_with (go_at_call 42; (with_reducible refine HC23.out.mono ?_); rintro ev w21 ⟨rfl, hg21⟩; have HG21 := Lib.hid hg21; clear hg21 )
    have HC24 := Lib.hid ((show Calls Tryz.prog 36 #[.int .u64 1] w21 fun e w' => (∃ r, e = .returned r ∧ NatP w' r 1) ∧ Gr w21 w' from c_of 1 (by decide) w21))
    go_wp2_with (go_at_call 36; (with_reducible refine HC24.out.mono ?_); rintro ev w22 ⟨⟨r24, rfl, hr24⟩, hg22⟩; have HG22 := Lib.hid hg22; have HR24 := Lib.hid hr24; clear hg22 hr24)
    have HBD24 : Hid (1 < Dg.D ^ 3) := Lib.hid (b_u64 (by decide))
    have HC25 := Lib.hid (c_add ((HR10.out.gr ((((((((((HG12.out.tr HG13.out).tr HG14.out).tr HG15.out).tr HG16.out).tr HG17.out).tr HG18.out).tr HG19.out).tr HG20.out).tr HG21.out).tr HG22.out)).at_) (HR24.out.at_) (k := 11) HBS.out (b_up HBD24.out (by decide)) (by decide))
    go_wp2_with (go_at_call 46; (with_reducible refine HC25.out.mono ?_); rintro ev w23 ⟨⟨r25, rfl, hr25⟩, hg23⟩; have HG23 := Lib.hid hg23; have HR25 := Lib.hid hr25; clear hg23 hr25)
    have HBD25 : Hid (((10 ^ K2 - 1) + 1) < Dg.D ^ 12) := Lib.hid (b_add HBS.out (b_up HBD24.out (by decide)) rfl)
    have HC26 := Lib.hid (c_cmp (HR25.out.at_) (HR2.out.gr (((((((((((((((((((HG4.out.tr HG5.out).tr HG6.out).tr HG7.out).tr HG8.out).tr HG9.out).tr HG10.out).tr HG11.out).tr HG12.out).tr HG13.out).tr HG14.out).tr HG15.out).tr HG16.out).tr HG17.out).tr HG18.out).tr HG19.out).tr HG20.out).tr HG21.out).tr HG22.out).tr HG23.out)) (k := 12) HBD25.out (b_up HPK.out (by decide)) (by decide) (z := 0) (cmp_same (Nat.sub_add_cancel HONE.out)))
    go_wp2_with (go_at_call 47; (with_reducible refine HC26.out.mono ?_); rintro ev w24 ⟨rfl, hg24⟩; have HG24 := Lib.hid hg24; clear hg24 )
    have HC27 := Lib.hid (c_mul (HR2.out.gr ((((((((((((((((((((HG4.out.tr HG5.out).tr HG6.out).tr HG7.out).tr HG8.out).tr HG9.out).tr HG10.out).tr HG11.out).tr HG12.out).tr HG13.out).tr HG14.out).tr HG15.out).tr HG16.out).tr HG17.out).tr HG18.out).tr HG19.out).tr HG20.out).tr HG21.out).tr HG22.out).tr HG23.out).tr HG24.out)) (HR4.out.gr ((((((((((((((((((HG6.out.tr HG7.out).tr HG8.out).tr HG9.out).tr HG10.out).tr HG11.out).tr HG12.out).tr HG13.out).tr HG14.out).tr HG15.out).tr HG16.out).tr HG17.out).tr HG18.out).tr HG19.out).tr HG20.out).tr HG21.out).tr HG22.out).tr HG23.out).tr HG24.out)) (k := 11) HPK.out HPM.out (by decide))
    go_wp2_with (go_at_call 43; (with_reducible refine HC27.out.mono ?_); rintro ev w25 ⟨⟨r27, rfl, hr27⟩, hg25⟩; have HG25 := Lib.hid hg25; have HR27 := Lib.hid hr27; clear hg25 hr27)
    have HBD27 : Hid (((10 ^ K2) * (10 ^ M2)) < Dg.D ^ 22) := Lib.hid (b_mul HPK.out HPM.out rfl)
    have HC28 := Lib.hid ((show Calls Tryz.prog 36 #[.int .u64 10] w25 fun e w' => (∃ r, e = .returned r ∧ NatP w' r 10) ∧ Gr w25 w' from c_of 10 (by decide) w25))
    go_wp2_with (go_at_call 36; (with_reducible refine HC28.out.mono ?_); rintro ev w26 ⟨⟨r28, rfl, hr28⟩, hg26⟩; have HG26 := Lib.hid hg26; have HR28 := Lib.hid hr28; clear hg26 hr28)
    have HBD28 : Hid (10 < Dg.D ^ 3) := Lib.hid (b_u64 (by decide))
    have hpw := c_pow (w := w26) (HR28.out.at_) (K2 + M2) (m := 22) (b_up HBD28.out (by decide)) HPS.out (by decide) (by decide) (by omega)
    rw [Int.natCast_add] at hpw
    have HPW := Lib.hid hpw
    clear hpw
    have HC29 := Lib.hid (HPW.out)
    go_wp2_with (go_at_call 37; (with_reducible refine HC29.out.mono ?_); rintro ev w27 ⟨⟨r29, rfl, hr29⟩, hg27⟩; have HG27 := Lib.hid hg27; have HR29 := Lib.hid hr29; clear hg27 hr29)
    have HC30 := Lib.hid (c_cmp ((HR27.out.gr (HG26.out.tr HG27.out)).at_) HR29.out (k := 22) HBD27.out HPS.out (by decide) (z := 0) (cmp_same (Nat.pow_add 10 K2 M2).symm))
    go_wp2_with (go_at_call 47; (with_reducible refine HC30.out.mono ?_); rintro ev w28 ⟨rfl, hg28⟩; have HG28 := Lib.hid hg28; clear hg28 )
    go_ret
    exact ⟨by first | rfl | exact ret_bool (by simp), (((((((((((((((((((((((((((HG1.out.tr HG2.out).tr HG3.out).tr HG4.out).tr HG5.out).tr HG6.out).tr HG7.out).tr HG8.out).tr HG9.out).tr HG10.out).tr HG11.out).tr HG12.out).tr HG13.out).tr HG14.out).tr HG15.out).tr HG16.out).tr HG17.out).tr HG18.out).tr HG19.out).tr HG20.out).tr HG21.out).tr HG22.out).tr HG23.out).tr HG24.out).tr HG25.out).tr HG26.out).tr HG27.out).tr HG28.out)⟩
end Go.Proofs.YtglbdafcfcmffaaGreatDoor
