/- Layer 2: 'naturals: sums, differences, products, quotients, which is greater', walked. -/
import Derived.Test.YtglbdafcfcmffaaGreatDoorQk
import Derived.Test.YtglbdafcfcmffaaGreatDoorUb
import Derived.Test.YtglbdafcfcmffaaGreatDoorUc
namespace Go.Proofs.YtglbdafcfcmffaaGreatDoor
open Go.RowKit Go.Extern.Stop Go.Stop Go.Extern Go.Sort
set_option linter.unusedVariables false
set_option linter.unusedSimpArgs false

set_option maxRecDepth 100000 in
set_option maxHeartbeats 16000000 in
theorem natAll_calls (s : ByteArray) (t : ByteArray) (hs : s.size ≤ 9223372036854775807) (ht : t.size ≤ 9223372036854775807) (w : World) (hM : Met2 w) :
    Calls Tryz.prog 10 #[.string s, .string t] w fun e w' => e = .returned (.bool true) ∧ Gr w w' := by
  have HM := Lib.hid hM
  clear hM
  go_enter Tryz.func10, Tryz.ntmps10
  have HBG := Lib.hid (begun_met w HM.out)
  go_wp2_with (go_at_call 35; (with_reducible refine HBG.out.mono ?_); rintro ev w1 ⟨rfl, hg1⟩; have HG1 := Lib.hid hg1; clear hg1)
  have HC1 := Lib.hid (n_sl s hs w1)
  go_wp2_with (go_at_call 64; (with_reducible refine HC1.out.mono ?_); rintro ev w2 ⟨⟨ba, ava, lxa, cva, a, rfl, hpa, hxa, hba, hla⟩, hg2⟩; have HG2 := Lib.hid hg2; have HPA := Lib.hid hpa; have HXA := Lib.hid hxa; have HBA := Lib.hid hba; have HLA := Lib.hid hla; clear hg2 hpa hxa hba hla)
  have HC2 := Lib.hid (n_sl t ht w2)
  go_wp2_with (go_at_call 64; (with_reducible refine HC2.out.mono ?_); rintro ev w3 ⟨⟨bb, avb, lxb, cvb, b, rfl, hpb, hxb, hbb, hlb⟩, hg3⟩; have HG3 := Lib.hid hg3; have HPB := Lib.hid hpb; have HXB := Lib.hid hxb; have HBB := Lib.hid hbb; have HLB := Lib.hid hlb; clear hg3 hpb hxb hbb hlb)
  by_cases hlt : a < b
  · have HLT := Lib.hid hlt
    have HB0 : Hid (0 < b) := Lib.hid (by omega)
    have HBN : Hid (b ≠ 0) := Lib.hid (by omega)
    clear hlt
    have HC3 := Lib.hid (c_sub_no ((HPA.out.gr HG3.out).at_) (HPB.out.at_) (k := 14) HBA.out HBB.out (by decide) HLT.out)
    go_wp2_with (go_at_call 40; (with_reducible refine HC3.out.mono ?_); rintro ev w4 ⟨rfl, hg4⟩; have HG4 := Lib.hid hg4; clear hg4 )
    have HC4 := Lib.hid (r_cmp (HXA.out.gr (HG3.out.tr HG4.out)) (HXB.out.gr HG4.out) (k := 14) HBA.out HBB.out (by decide) (z := -1) (cmpN_lt HLT.out))
    go_wp2_with (go_at_call 65; (with_reducible refine HC4.out.mono ?_); rintro ev w5 ⟨rfl, hg5⟩; have HG5 := Lib.hid hg5; clear hg5 )
    have HC5 := Lib.hid ((show Calls Tryz.prog 59 #[.iface 187 (.int .i64 2), .int .i64 2] w5 fun e w' => e = .returned (.bool true) ∧ Gr w5 w' from same_own 2 w5 (HM.out.gr ((((HG1.out.tr HG2.out).tr HG3.out).tr HG4.out).tr HG5.out)).1))
    go_wp2_with (go_at_call 59; (with_reducible refine HC5.out.mono ?_); rintro ev w6 ⟨rfl, hg6⟩; have HG6 := Lib.hid hg6; clear hg6 )
    have hlb := len_eq_zero HLB.out (beq_eq_false_iff_ne.2 HBN.out)
    have HC6 := Lib.hid (c_div ((HPA.out.gr (((HG3.out.tr HG4.out).tr HG5.out).tr HG6.out)).at_) ((HPB.out.gr ((HG4.out.tr HG5.out).tr HG6.out)).at_) (k := 14) HBA.out HBB.out (by decide) HB0.out)
    go_wp2_with (go_at_call 66; (with_reducible refine HC6.out.mono ?_); rintro ev w7 ⟨⟨q6, r6, rfl, hq6, hr6⟩, hg7⟩; have HG7 := Lib.hid hg7; have HQ6 := Lib.hid hq6; have HR6 := Lib.hid hr6; clear hg7 hq6 hr6)
    have HBQ6 : Hid ((a / b) < Dg.D ^ 14) := Lib.hid (b_div HBA.out)
    have HBD6 : Hid ((a % b) < Dg.D ^ 14) := Lib.hid (b_mod HBA.out)
    have HC7 := Lib.hid (r_div (HXA.out.gr ((((HG3.out.tr HG4.out).tr HG5.out).tr HG6.out).tr HG7.out)) (HXB.out.gr (((HG4.out.tr HG5.out).tr HG6.out).tr HG7.out)) (k := 14) HBA.out HBB.out (by decide) HB0.out)
    go_wp2_with (go_at_call 67; (with_reducible refine HC7.out.mono ?_); rintro ev w8 ⟨⟨q7, r7, rfl, hq7, hr7⟩, hg8⟩; have HG8 := Lib.hid hg8; have HQ7 := Lib.hid hq7; have HR7 := Lib.hid hr7; clear hg8 hq7 hr7)
    have HBQ7 : Hid ((a / b) < Dg.D ^ 14) := Lib.hid (b_div HBA.out)
    have HBD7 : Hid ((a % b) < Dg.D ^ 14) := Lib.hid (b_mod HBA.out)
    obtain ⟨X8, hX8⟩ : ∃ X8 : ByteArray, X8 = ⟨(Lib.decDigits (a / b)).toArray⟩ := ⟨_, rfl⟩
    have HX8 := Lib.hid hX8
    clear hX8
    have HC9 := Lib.hid (c_text (HM.out.gr (((((((HG1.out.tr HG2.out).tr HG3.out).tr HG4.out).tr HG5.out).tr HG6.out).tr HG7.out).tr HG8.out)).2.2 ((HQ6.out.gr HG8.out).at_) (k := 14) HBQ6.out (by decide) (by decide) (X := X8) HX8.out)
    go_wp2_with (go_at_call 41; (with_reducible refine HC9.out.mono ?_); rintro ev w9 ⟨rfl, hg9⟩; have HG9 := Lib.hid hg9; clear hg9 )
    have HC10 := Lib.hid (r_text (HQ7.out.gr HG9.out) (k := 14) HBQ7.out (by decide) (X := X8) HX8.out)
    go_wp2_with (go_at_call 42; (with_reducible refine HC10.out.mono ?_); rintro ev w10 ⟨rfl, hg10⟩; have HG10 := Lib.hid hg10; clear hg10 )
    obtain ⟨X11, hX11⟩ : ∃ X11 : ByteArray, X11 = ⟨(Lib.decDigits (a % b)).toArray⟩ := ⟨_, rfl⟩
    have HX11 := Lib.hid hX11
    clear hX11
    have HC12 := Lib.hid (c_text (HM.out.gr (((((((((HG1.out.tr HG2.out).tr HG3.out).tr HG4.out).tr HG5.out).tr HG6.out).tr HG7.out).tr HG8.out).tr HG9.out).tr HG10.out)).2.2 ((HR6.out.gr ((HG8.out.tr HG9.out).tr HG10.out)).at_) (k := 14) HBD6.out (by decide) (by decide) (X := X11) HX11.out)
    go_wp2_with (go_at_call 41; (with_reducible refine HC12.out.mono ?_); rintro ev w11 ⟨rfl, hg11⟩; have HG11 := Lib.hid hg11; clear hg11 )
    have HC13 := Lib.hid (r_text (HR7.out.gr ((HG9.out.tr HG10.out).tr HG11.out)) (k := 14) HBD7.out (by decide) (X := X11) HX11.out)
    go_wp2_with (go_at_call 42; (with_reducible refine HC13.out.mono ?_); rintro ev w12 ⟨rfl, hg12⟩; have HG12 := Lib.hid hg12; clear hg12 )
    obtain ⟨X14, hX14⟩ : ∃ X14 : ByteArray, X14 = ⟨(Lib.decDigits a).toArray⟩ := ⟨_, rfl⟩
    have HX14 := Lib.hid hX14
    clear hX14
    have HC15 := Lib.hid (c_text (HM.out.gr (((((((((((HG1.out.tr HG2.out).tr HG3.out).tr HG4.out).tr HG5.out).tr HG6.out).tr HG7.out).tr HG8.out).tr HG9.out).tr HG10.out).tr HG11.out).tr HG12.out)).2.2 ((HPA.out.gr (((((((((HG3.out.tr HG4.out).tr HG5.out).tr HG6.out).tr HG7.out).tr HG8.out).tr HG9.out).tr HG10.out).tr HG11.out).tr HG12.out)).at_) (k := 14) HBA.out (by decide) (by decide) (X := X14) HX14.out)
    go_wp2_with (go_at_call 41; (with_reducible refine HC15.out.mono ?_); rintro ev w13 ⟨rfl, hg13⟩; have HG13 := Lib.hid hg13; clear hg13 )
    have HC16 := Lib.hid (r_text (HXA.out.gr ((((((((((HG3.out.tr HG4.out).tr HG5.out).tr HG6.out).tr HG7.out).tr HG8.out).tr HG9.out).tr HG10.out).tr HG11.out).tr HG12.out).tr HG13.out)) (k := 14) HBA.out (by decide) (X := X14) HX14.out)
    go_wp2_with (go_at_call 42; (with_reducible refine HC16.out.mono ?_); rintro ev w14 ⟨rfl, hg14⟩; have HG14 := Lib.hid hg14; clear hg14 )
    have HC17 := Lib.hid (c_add ((HPA.out.gr (((((((((((HG3.out.tr HG4.out).tr HG5.out).tr HG6.out).tr HG7.out).tr HG8.out).tr HG9.out).tr HG10.out).tr HG11.out).tr HG12.out).tr HG13.out).tr HG14.out)).at_) ((HPB.out.gr ((((((((((HG4.out.tr HG5.out).tr HG6.out).tr HG7.out).tr HG8.out).tr HG9.out).tr HG10.out).tr HG11.out).tr HG12.out).tr HG13.out).tr HG14.out)).at_) (k := 14) HBA.out HBB.out (by decide))
    go_wp2_with (go_at_call 46; (with_reducible refine HC17.out.mono ?_); rintro ev w15 ⟨⟨r17, rfl, hr17⟩, hg15⟩; have HG15 := Lib.hid hg15; have HR17 := Lib.hid hr17; clear hg15 hr17)
    have HBD17 : Hid ((a + b) < Dg.D ^ 15) := Lib.hid (b_add HBA.out HBB.out rfl)
    obtain ⟨X18, hX18⟩ : ∃ X18 : ByteArray, X18 = ⟨(Lib.decDigits (a + b)).toArray⟩ := ⟨_, rfl⟩
    have HX18 := Lib.hid hX18
    clear hX18
    have HC19 := Lib.hid (c_text (HM.out.gr ((((((((((((((HG1.out.tr HG2.out).tr HG3.out).tr HG4.out).tr HG5.out).tr HG6.out).tr HG7.out).tr HG8.out).tr HG9.out).tr HG10.out).tr HG11.out).tr HG12.out).tr HG13.out).tr HG14.out).tr HG15.out)).2.2 (HR17.out.at_) (k := 15) HBD17.out (by decide) (by decide) (X := X18) HX18.out)
    go_wp2_with (go_at_call 41; (with_reducible refine HC19.out.mono ?_); rintro ev w16 ⟨rfl, hg16⟩; have HG16 := Lib.hid hg16; clear hg16 )
    have HC20 := Lib.hid (r_add (HXA.out.gr (((((((((((((HG3.out.tr HG4.out).tr HG5.out).tr HG6.out).tr HG7.out).tr HG8.out).tr HG9.out).tr HG10.out).tr HG11.out).tr HG12.out).tr HG13.out).tr HG14.out).tr HG15.out).tr HG16.out)) (HXB.out.gr ((((((((((((HG4.out.tr HG5.out).tr HG6.out).tr HG7.out).tr HG8.out).tr HG9.out).tr HG10.out).tr HG11.out).tr HG12.out).tr HG13.out).tr HG14.out).tr HG15.out).tr HG16.out)) (k := 14) HBA.out HBB.out (by decide))
    go_wp2_with (go_at_call 68; (with_reducible refine HC20.out.mono ?_); rintro ev w17 ⟨⟨r20, rfl, hr20⟩, hg17⟩; have HG17 := Lib.hid hg17; have HR20 := Lib.hid hr20; clear hg17 hr20)
    have HBD20 : Hid ((a + b) < Dg.D ^ 15) := Lib.hid (b_add HBA.out HBB.out rfl)
    have HC21 := Lib.hid (r_text HR20.out (k := 15) HBD20.out (by decide) (X := X18) HX18.out)
    go_wp2_with (go_at_call 42; (with_reducible refine HC21.out.mono ?_); rintro ev w18 ⟨rfl, hg18⟩; have HG18 := Lib.hid hg18; clear hg18 )
    have HC22 := Lib.hid (c_mul ((HPA.out.gr (((((((((((((((HG3.out.tr HG4.out).tr HG5.out).tr HG6.out).tr HG7.out).tr HG8.out).tr HG9.out).tr HG10.out).tr HG11.out).tr HG12.out).tr HG13.out).tr HG14.out).tr HG15.out).tr HG16.out).tr HG17.out).tr HG18.out)).at_) ((HPB.out.gr ((((((((((((((HG4.out.tr HG5.out).tr HG6.out).tr HG7.out).tr HG8.out).tr HG9.out).tr HG10.out).tr HG11.out).tr HG12.out).tr HG13.out).tr HG14.out).tr HG15.out).tr HG16.out).tr HG17.out).tr HG18.out)).at_) (k := 14) HBA.out HBB.out (by decide))
    go_wp2_with (go_at_call 43; (with_reducible refine HC22.out.mono ?_); rintro ev w19 ⟨⟨r22, rfl, hr22⟩, hg19⟩; have HG19 := Lib.hid hg19; have HR22 := Lib.hid hr22; clear hg19 hr22)
    have HBD22 : Hid ((a * b) < Dg.D ^ 28) := Lib.hid (b_mul HBA.out HBB.out rfl)
    obtain ⟨X23, hX23⟩ : ∃ X23 : ByteArray, X23 = ⟨(Lib.decDigits (a * b)).toArray⟩ := ⟨_, rfl⟩
    have HX23 := Lib.hid hX23
    clear hX23
    have HC24 := Lib.hid (c_text (HM.out.gr ((((((((((((((((((HG1.out.tr HG2.out).tr HG3.out).tr HG4.out).tr HG5.out).tr HG6.out).tr HG7.out).tr HG8.out).tr HG9.out).tr HG10.out).tr HG11.out).tr HG12.out).tr HG13.out).tr HG14.out).tr HG15.out).tr HG16.out).tr HG17.out).tr HG18.out).tr HG19.out)).2.2 (HR22.out.at_) (k := 28) HBD22.out (by decide) (by decide) (X := X23) HX23.out)
    go_wp2_with (go_at_call 41; (with_reducible refine HC24.out.mono ?_); rintro ev w20 ⟨rfl, hg20⟩; have HG20 := Lib.hid hg20; clear hg20 )
    have HC25 := Lib.hid (r_mul (HXA.out.gr (((((((((((((((((HG3.out.tr HG4.out).tr HG5.out).tr HG6.out).tr HG7.out).tr HG8.out).tr HG9.out).tr HG10.out).tr HG11.out).tr HG12.out).tr HG13.out).tr HG14.out).tr HG15.out).tr HG16.out).tr HG17.out).tr HG18.out).tr HG19.out).tr HG20.out)) (HXB.out.gr ((((((((((((((((HG4.out.tr HG5.out).tr HG6.out).tr HG7.out).tr HG8.out).tr HG9.out).tr HG10.out).tr HG11.out).tr HG12.out).tr HG13.out).tr HG14.out).tr HG15.out).tr HG16.out).tr HG17.out).tr HG18.out).tr HG19.out).tr HG20.out)) (k := 14) HBA.out HBB.out (by decide))
    go_wp2_with (go_at_call 44; (with_reducible refine HC25.out.mono ?_); rintro ev w21 ⟨⟨r25, rfl, hr25⟩, hg21⟩; have HG21 := Lib.hid hg21; have HR25 := Lib.hid hr25; clear hg21 hr25)
    have HBD25 : Hid ((a * b) < Dg.D ^ 28) := Lib.hid (b_mul HBA.out HBB.out rfl)
    have HC26 := Lib.hid (r_text HR25.out (k := 28) HBD25.out (by decide) (X := X23) HX23.out)
    go_wp2_with (go_at_call 42; (with_reducible refine HC26.out.mono ?_); rintro ev w22 ⟨rfl, hg22⟩; have HG22 := Lib.hid hg22; clear hg22 )
    obtain ⟨zc, hzc⟩ : ∃ zc, cmpN a b = zc := ⟨_, rfl⟩
    have HZC := Lib.hid hzc
    clear hzc
    have HC27 := Lib.hid (c_cmp ((HPA.out.gr (((((((((((((((((((HG3.out.tr HG4.out).tr HG5.out).tr HG6.out).tr HG7.out).tr HG8.out).tr HG9.out).tr HG10.out).tr HG11.out).tr HG12.out).tr HG13.out).tr HG14.out).tr HG15.out).tr HG16.out).tr HG17.out).tr HG18.out).tr HG19.out).tr HG20.out).tr HG21.out).tr HG22.out)).at_) ((HPB.out.gr ((((((((((((((((((HG4.out.tr HG5.out).tr HG6.out).tr HG7.out).tr HG8.out).tr HG9.out).tr HG10.out).tr HG11.out).tr HG12.out).tr HG13.out).tr HG14.out).tr HG15.out).tr HG16.out).tr HG17.out).tr HG18.out).tr HG19.out).tr HG20.out).tr HG21.out).tr HG22.out)).at_) (k := 14) HBA.out HBB.out (by decide) (z := zc) HZC.out)
    go_wp2_with (go_at_call 47; (with_reducible refine HC27.out.mono ?_); rintro ev w23 ⟨rfl, hg23⟩; have HG23 := Lib.hid hg23; clear hg23 )
    have HC28 := Lib.hid (r_cmp (HXA.out.gr ((((((((((((((((((((HG3.out.tr HG4.out).tr HG5.out).tr HG6.out).tr HG7.out).tr HG8.out).tr HG9.out).tr HG10.out).tr HG11.out).tr HG12.out).tr HG13.out).tr HG14.out).tr HG15.out).tr HG16.out).tr HG17.out).tr HG18.out).tr HG19.out).tr HG20.out).tr HG21.out).tr HG22.out).tr HG23.out)) (HXB.out.gr (((((((((((((((((((HG4.out.tr HG5.out).tr HG6.out).tr HG7.out).tr HG8.out).tr HG9.out).tr HG10.out).tr HG11.out).tr HG12.out).tr HG13.out).tr HG14.out).tr HG15.out).tr HG16.out).tr HG17.out).tr HG18.out).tr HG19.out).tr HG20.out).tr HG21.out).tr HG22.out).tr HG23.out)) (k := 14) HBA.out HBB.out (by decide) (z := zc) HZC.out)
    go_wp2_with (go_at_call 65; (with_reducible refine HC28.out.mono ?_); rintro ev w24 ⟨rfl, hg24⟩; have HG24 := Lib.hid hg24; clear hg24 )
    have HC29 := Lib.hid (c_gcd (HM.out.gr (((((((((((((((((((((((HG1.out.tr HG2.out).tr HG3.out).tr HG4.out).tr HG5.out).tr HG6.out).tr HG7.out).tr HG8.out).tr HG9.out).tr HG10.out).tr HG11.out).tr HG12.out).tr HG13.out).tr HG14.out).tr HG15.out).tr HG16.out).tr HG17.out).tr HG18.out).tr HG19.out).tr HG20.out).tr HG21.out).tr HG22.out).tr HG23.out).tr HG24.out)).2.1 ((HPA.out.gr (((((((((((((((((((((HG3.out.tr HG4.out).tr HG5.out).tr HG6.out).tr HG7.out).tr HG8.out).tr HG9.out).tr HG10.out).tr HG11.out).tr HG12.out).tr HG13.out).tr HG14.out).tr HG15.out).tr HG16.out).tr HG17.out).tr HG18.out).tr HG19.out).tr HG20.out).tr HG21.out).tr HG22.out).tr HG23.out).tr HG24.out)).at_) ((HPB.out.gr ((((((((((((((((((((HG4.out.tr HG5.out).tr HG6.out).tr HG7.out).tr HG8.out).tr HG9.out).tr HG10.out).tr HG11.out).tr HG12.out).tr HG13.out).tr HG14.out).tr HG15.out).tr HG16.out).tr HG17.out).tr HG18.out).tr HG19.out).tr HG20.out).tr HG21.out).tr HG22.out).tr HG23.out).tr HG24.out)).at_) (k := 14) HBA.out HBB.out (by decide))
    go_wp2_with (go_at_call 69; (with_reducible refine HC29.out.mono ?_); rintro ev w25 ⟨⟨r29, rfl, hr29⟩, hg25⟩; have HG25 := Lib.hid hg25; have HR29 := Lib.hid hr29; clear hg25 hr29)
    have HBD29 : Hid ((Nat.gcd a b) < Dg.D ^ 14) := Lib.hid (b_gcd HBA.out HBB.out)
    obtain ⟨X30, hX30⟩ : ∃ X30 : ByteArray, X30 = ⟨(Lib.decDigits (Nat.gcd a b)).toArray⟩ := ⟨_, rfl⟩
    have HX30 := Lib.hid hX30
    clear hX30
    have HC31 := Lib.hid (c_text (HM.out.gr ((((((((((((((((((((((((HG1.out.tr HG2.out).tr HG3.out).tr HG4.out).tr HG5.out).tr HG6.out).tr HG7.out).tr HG8.out).tr HG9.out).tr HG10.out).tr HG11.out).tr HG12.out).tr HG13.out).tr HG14.out).tr HG15.out).tr HG16.out).tr HG17.out).tr HG18.out).tr HG19.out).tr HG20.out).tr HG21.out).tr HG22.out).tr HG23.out).tr HG24.out).tr HG25.out)).2.2 HR29.out (k := 14) HBD29.out (by decide) (by decide) (X := X30) HX30.out)
    go_wp2_with (go_at_call 41; (with_reducible refine HC31.out.mono ?_); rintro ev w26 ⟨rfl, hg26⟩; have HG26 := Lib.hid hg26; clear hg26 )
    have HC32 := Lib.hid (r_gcd (HXA.out.gr (((((((((((((((((((((((HG3.out.tr HG4.out).tr HG5.out).tr HG6.out).tr HG7.out).tr HG8.out).tr HG9.out).tr HG10.out).tr HG11.out).tr HG12.out).tr HG13.out).tr HG14.out).tr HG15.out).tr HG16.out).tr HG17.out).tr HG18.out).tr HG19.out).tr HG20.out).tr HG21.out).tr HG22.out).tr HG23.out).tr HG24.out).tr HG25.out).tr HG26.out)) (HXB.out.gr ((((((((((((((((((((((HG4.out.tr HG5.out).tr HG6.out).tr HG7.out).tr HG8.out).tr HG9.out).tr HG10.out).tr HG11.out).tr HG12.out).tr HG13.out).tr HG14.out).tr HG15.out).tr HG16.out).tr HG17.out).tr HG18.out).tr HG19.out).tr HG20.out).tr HG21.out).tr HG22.out).tr HG23.out).tr HG24.out).tr HG25.out).tr HG26.out)) (k := 14) HBA.out HBB.out (by decide))
    go_wp2_with (go_at_call 70; (with_reducible refine HC32.out.mono ?_); rintro ev w27 ⟨⟨r32, rfl, hr32⟩, hg27⟩; have HG27 := Lib.hid hg27; have HR32 := Lib.hid hr32; clear hg27 hr32)
    have HBD32 : Hid ((Nat.gcd a b) < Dg.D ^ 14) := Lib.hid (b_gcd HBA.out HBB.out)
    have HC33 := Lib.hid (r_text HR32.out (k := 14) HBD32.out (by decide) (X := X30) HX30.out)
    go_wp2_with (go_at_call 42; (with_reducible refine HC33.out.mono ?_); rintro ev w28 ⟨rfl, hg28⟩; have HG28 := Lib.hid hg28; clear hg28 )
    obtain ⟨za, hza⟩ : ∃ za, (a == 0) = za := ⟨_, rfl⟩
    have hla := len_eq_zero HLA.out hza
    have HZA := Lib.hid hza
    clear hza
    have HC34 := Lib.hid (c_zero ((HPA.out.gr (((((((((((((((((((((((((HG3.out.tr HG4.out).tr HG5.out).tr HG6.out).tr HG7.out).tr HG8.out).tr HG9.out).tr HG10.out).tr HG11.out).tr HG12.out).tr HG13.out).tr HG14.out).tr HG15.out).tr HG16.out).tr HG17.out).tr HG18.out).tr HG19.out).tr HG20.out).tr HG21.out).tr HG22.out).tr HG23.out).tr HG24.out).tr HG25.out).tr HG26.out).tr HG27.out).tr HG28.out)).at_) (z := za) HZA.out)
    go_wp2_with (go_at_call 71; (with_reducible refine HC34.out.mono ?_); rintro ev w29 ⟨rfl, hg29⟩; have HG29 := Lib.hid hg29; clear hg29 )
    go_ret
    exact ⟨by first | rfl | exact ret_bool (by simp), ((((((((((((((((((((((((((((HG1.out.tr HG2.out).tr HG3.out).tr HG4.out).tr HG5.out).tr HG6.out).tr HG7.out).tr HG8.out).tr HG9.out).tr HG10.out).tr HG11.out).tr HG12.out).tr HG13.out).tr HG14.out).tr HG15.out).tr HG16.out).tr HG17.out).tr HG18.out).tr HG19.out).tr HG20.out).tr HG21.out).tr HG22.out).tr HG23.out).tr HG24.out).tr HG25.out).tr HG26.out).tr HG27.out).tr HG28.out).tr HG29.out)⟩
  · have HLE : Hid (b ≤ a) := Lib.hid (by omega)
    have hcn : decide (cmpN a b < 0) = false := decide_eq_false (fun h => hlt (cmpN_neg.1 h))
    obtain ⟨zs, hzs⟩ : ∃ zs, cmpN a b = zs := ⟨_, rfl⟩
    rw [hzs] at hcn
    have HZS := Lib.hid hzs
    clear hlt hzs
    have HC3 := Lib.hid (c_sub ((HPA.out.gr HG3.out).at_) (HPB.out.at_) (k := 14) HBA.out HBB.out (by decide) HLE.out)
    go_wp2_with (go_at_call 40; (with_reducible refine HC3.out.mono ?_); rintro ev w4 ⟨⟨r3, rfl, hr3⟩, hg4⟩; have HG4 := Lib.hid hg4; have HR3 := Lib.hid hr3; clear hg4 hr3)
    have HBD3 : Hid ((a - b) < Dg.D ^ 14) := Lib.hid (b_sub HBA.out)
    have HC4 := Lib.hid (r_cmp (HXA.out.gr (HG3.out.tr HG4.out)) (HXB.out.gr HG4.out) (k := 14) HBA.out HBB.out (by decide) (z := zs) HZS.out)
    go_wp2_with (go_at_call 65; (with_reducible refine HC4.out.mono ?_); rintro ev w5 ⟨rfl, hg5⟩; have HG5 := Lib.hid hg5; clear hg5 )
    obtain ⟨X5, hX5⟩ : ∃ X5 : ByteArray, X5 = ⟨(Lib.decDigits (a - b)).toArray⟩ := ⟨_, rfl⟩
    have HX5 := Lib.hid hX5
    clear hX5
    have HC6 := Lib.hid (c_text (HM.out.gr ((((HG1.out.tr HG2.out).tr HG3.out).tr HG4.out).tr HG5.out)).2.2 ((HR3.out.gr HG5.out).at_) (k := 14) HBD3.out (by decide) (by decide) (X := X5) HX5.out)
    go_wp2_with (go_at_call 41; (with_reducible refine HC6.out.mono ?_); rintro ev w6 ⟨rfl, hg6⟩; have HG6 := Lib.hid hg6; clear hg6 )
    have HC7 := Lib.hid (r_sub (HXA.out.gr (((HG3.out.tr HG4.out).tr HG5.out).tr HG6.out)) (HXB.out.gr ((HG4.out.tr HG5.out).tr HG6.out)) (k := 14) HBA.out HBB.out (by decide) HLE.out)
    go_wp2_with (go_at_call 45; (with_reducible refine HC7.out.mono ?_); rintro ev w7 ⟨⟨r7, rfl, hr7⟩, hg7⟩; have HG7 := Lib.hid hg7; have HR7 := Lib.hid hr7; clear hg7 hr7)
    have HBD7 : Hid ((a - b) < Dg.D ^ 14) := Lib.hid (b_sub HBA.out)
    have HC8 := Lib.hid (r_text HR7.out (k := 14) HBD7.out (by decide) (X := X5) HX5.out)
    go_wp2_with (go_at_call 42; (with_reducible refine HC8.out.mono ?_); rintro ev w8 ⟨rfl, hg8⟩; have HG8 := Lib.hid hg8; clear hg8 )
    by_cases hb0 : b = 0
    · have HB0 := Lib.hid hb0
      clear hb0
      have hlb := len_eq_zero HLB.out (beq_iff_eq.2 HB0.out)
      have HC9 := Lib.hid (c_div_no ((HPA.out.gr (((((HG3.out.tr HG4.out).tr HG5.out).tr HG6.out).tr HG7.out).tr HG8.out)).at_) ((HPB.out.gr ((((HG4.out.tr HG5.out).tr HG6.out).tr HG7.out).tr HG8.out)).at_) (k := 14) HBA.out HBB.out (by decide) HB0.out)
      go_wp2_with (go_at_call 66; (with_reducible refine HC9.out.mono ?_); rintro ev w9 ⟨rfl, hg9⟩; have HG9 := Lib.hid hg9; clear hg9 )
      have HC10 := Lib.hid ((show Calls Tryz.prog 59 #[.iface 187 (.int .i64 3), .int .i64 3] w9 fun e w' => e = .returned (.bool true) ∧ Gr w9 w' from same_own 3 w9 (HM.out.gr ((((((((HG1.out.tr HG2.out).tr HG3.out).tr HG4.out).tr HG5.out).tr HG6.out).tr HG7.out).tr HG8.out).tr HG9.out)).1))
      go_wp2_with (go_at_call 59; (with_reducible refine HC10.out.mono ?_); rintro ev w10 ⟨rfl, hg10⟩; have HG10 := Lib.hid hg10; clear hg10 )
      obtain ⟨X11, hX11⟩ : ∃ X11 : ByteArray, X11 = ⟨(Lib.decDigits a).toArray⟩ := ⟨_, rfl⟩
      have HX11 := Lib.hid hX11
      clear hX11
      have HC12 := Lib.hid (c_text (HM.out.gr (((((((((HG1.out.tr HG2.out).tr HG3.out).tr HG4.out).tr HG5.out).tr HG6.out).tr HG7.out).tr HG8.out).tr HG9.out).tr HG10.out)).2.2 ((HPA.out.gr (((((((HG3.out.tr HG4.out).tr HG5.out).tr HG6.out).tr HG7.out).tr HG8.out).tr HG9.out).tr HG10.out)).at_) (k := 14) HBA.out (by decide) (by decide) (X := X11) HX11.out)
      go_wp2_with (go_at_call 41; (with_reducible refine HC12.out.mono ?_); rintro ev w11 ⟨rfl, hg11⟩; have HG11 := Lib.hid hg11; clear hg11 )
      have HC13 := Lib.hid (r_text (HXA.out.gr ((((((((HG3.out.tr HG4.out).tr HG5.out).tr HG6.out).tr HG7.out).tr HG8.out).tr HG9.out).tr HG10.out).tr HG11.out)) (k := 14) HBA.out (by decide) (X := X11) HX11.out)
      go_wp2_with (go_at_call 42; (with_reducible refine HC13.out.mono ?_); rintro ev w12 ⟨rfl, hg12⟩; have HG12 := Lib.hid hg12; clear hg12 )
      have HC14 := Lib.hid (c_add ((HPA.out.gr (((((((((HG3.out.tr HG4.out).tr HG5.out).tr HG6.out).tr HG7.out).tr HG8.out).tr HG9.out).tr HG10.out).tr HG11.out).tr HG12.out)).at_) ((HPB.out.gr ((((((((HG4.out.tr HG5.out).tr HG6.out).tr HG7.out).tr HG8.out).tr HG9.out).tr HG10.out).tr HG11.out).tr HG12.out)).at_) (k := 14) HBA.out HBB.out (by decide))
      go_wp2_with (go_at_call 46; (with_reducible refine HC14.out.mono ?_); rintro ev w13 ⟨⟨r14, rfl, hr14⟩, hg13⟩; have HG13 := Lib.hid hg13; have HR14 := Lib.hid hr14; clear hg13 hr14)
      have HBD14 : Hid ((a + b) < Dg.D ^ 15) := Lib.hid (b_add HBA.out HBB.out rfl)
      obtain ⟨X15, hX15⟩ : ∃ X15 : ByteArray, X15 = ⟨(Lib.decDigits (a + b)).toArray⟩ := ⟨_, rfl⟩
      have HX15 := Lib.hid hX15
      clear hX15
      have HC16 := Lib.hid (c_text (HM.out.gr ((((((((((((HG1.out.tr HG2.out).tr HG3.out).tr HG4.out).tr HG5.out).tr HG6.out).tr HG7.out).tr HG8.out).tr HG9.out).tr HG10.out).tr HG11.out).tr HG12.out).tr HG13.out)).2.2 (HR14.out.at_) (k := 15) HBD14.out (by decide) (by decide) (X := X15) HX15.out)
      go_wp2_with (go_at_call 41; (with_reducible refine HC16.out.mono ?_); rintro ev w14 ⟨rfl, hg14⟩; have HG14 := Lib.hid hg14; clear hg14 )
      have HC17 := Lib.hid (r_add (HXA.out.gr (((((((((((HG3.out.tr HG4.out).tr HG5.out).tr HG6.out).tr HG7.out).tr HG8.out).tr HG9.out).tr HG10.out).tr HG11.out).tr HG12.out).tr HG13.out).tr HG14.out)) (HXB.out.gr ((((((((((HG4.out.tr HG5.out).tr HG6.out).tr HG7.out).tr HG8.out).tr HG9.out).tr HG10.out).tr HG11.out).tr HG12.out).tr HG13.out).tr HG14.out)) (k := 14) HBA.out HBB.out (by decide))
      go_wp2_with (go_at_call 68; (with_reducible refine HC17.out.mono ?_); rintro ev w15 ⟨⟨r17, rfl, hr17⟩, hg15⟩; have HG15 := Lib.hid hg15; have HR17 := Lib.hid hr17; clear hg15 hr17)
      have HBD17 : Hid ((a + b) < Dg.D ^ 15) := Lib.hid (b_add HBA.out HBB.out rfl)
      have HC18 := Lib.hid (r_text HR17.out (k := 15) HBD17.out (by decide) (X := X15) HX15.out)
      go_wp2_with (go_at_call 42; (with_reducible refine HC18.out.mono ?_); rintro ev w16 ⟨rfl, hg16⟩; have HG16 := Lib.hid hg16; clear hg16 )
      have HC19 := Lib.hid (c_mul ((HPA.out.gr (((((((((((((HG3.out.tr HG4.out).tr HG5.out).tr HG6.out).tr HG7.out).tr HG8.out).tr HG9.out).tr HG10.out).tr HG11.out).tr HG12.out).tr HG13.out).tr HG14.out).tr HG15.out).tr HG16.out)).at_) ((HPB.out.gr ((((((((((((HG4.out.tr HG5.out).tr HG6.out).tr HG7.out).tr HG8.out).tr HG9.out).tr HG10.out).tr HG11.out).tr HG12.out).tr HG13.out).tr HG14.out).tr HG15.out).tr HG16.out)).at_) (k := 14) HBA.out HBB.out (by decide))
      go_wp2_with (go_at_call 43; (with_reducible refine HC19.out.mono ?_); rintro ev w17 ⟨⟨r19, rfl, hr19⟩, hg17⟩; have HG17 := Lib.hid hg17; have HR19 := Lib.hid hr19; clear hg17 hr19)
      have HBD19 : Hid ((a * b) < Dg.D ^ 28) := Lib.hid (b_mul HBA.out HBB.out rfl)
      obtain ⟨X20, hX20⟩ : ∃ X20 : ByteArray, X20 = ⟨(Lib.decDigits (a * b)).toArray⟩ := ⟨_, rfl⟩
      have HX20 := Lib.hid hX20
      clear hX20
      have HC21 := Lib.hid (c_text (HM.out.gr ((((((((((((((((HG1.out.tr HG2.out).tr HG3.out).tr HG4.out).tr HG5.out).tr HG6.out).tr HG7.out).tr HG8.out).tr HG9.out).tr HG10.out).tr HG11.out).tr HG12.out).tr HG13.out).tr HG14.out).tr HG15.out).tr HG16.out).tr HG17.out)).2.2 (HR19.out.at_) (k := 28) HBD19.out (by decide) (by decide) (X := X20) HX20.out)
      go_wp2_with (go_at_call 41; (with_reducible refine HC21.out.mono ?_); rintro ev w18 ⟨rfl, hg18⟩; have HG18 := Lib.hid hg18; clear hg18 )
      have HC22 := Lib.hid (r_mul (HXA.out.gr (((((((((((((((HG3.out.tr HG4.out).tr HG5.out).tr HG6.out).tr HG7.out).tr HG8.out).tr HG9.out).tr HG10.out).tr HG11.out).tr HG12.out).tr HG13.out).tr HG14.out).tr HG15.out).tr HG16.out).tr HG17.out).tr HG18.out)) (HXB.out.gr ((((((((((((((HG4.out.tr HG5.out).tr HG6.out).tr HG7.out).tr HG8.out).tr HG9.out).tr HG10.out).tr HG11.out).tr HG12.out).tr HG13.out).tr HG14.out).tr HG15.out).tr HG16.out).tr HG17.out).tr HG18.out)) (k := 14) HBA.out HBB.out (by decide))
      go_wp2_with (go_at_call 44; (with_reducible refine HC22.out.mono ?_); rintro ev w19 ⟨⟨r22, rfl, hr22⟩, hg19⟩; have HG19 := Lib.hid hg19; have HR22 := Lib.hid hr22; clear hg19 hr22)
      have HBD22 : Hid ((a * b) < Dg.D ^ 28) := Lib.hid (b_mul HBA.out HBB.out rfl)
      have HC23 := Lib.hid (r_text HR22.out (k := 28) HBD22.out (by decide) (X := X20) HX20.out)
      go_wp2_with (go_at_call 42; (with_reducible refine HC23.out.mono ?_); rintro ev w20 ⟨rfl, hg20⟩; have HG20 := Lib.hid hg20; clear hg20 )
      obtain ⟨zc, hzc⟩ : ∃ zc, cmpN a b = zc := ⟨_, rfl⟩
      have HZC := Lib.hid hzc
      clear hzc
      have HC24 := Lib.hid (c_cmp ((HPA.out.gr (((((((((((((((((HG3.out.tr HG4.out).tr HG5.out).tr HG6.out).tr HG7.out).tr HG8.out).tr HG9.out).tr HG10.out).tr HG11.out).tr HG12.out).tr HG13.out).tr HG14.out).tr HG15.out).tr HG16.out).tr HG17.out).tr HG18.out).tr HG19.out).tr HG20.out)).at_) ((HPB.out.gr ((((((((((((((((HG4.out.tr HG5.out).tr HG6.out).tr HG7.out).tr HG8.out).tr HG9.out).tr HG10.out).tr HG11.out).tr HG12.out).tr HG13.out).tr HG14.out).tr HG15.out).tr HG16.out).tr HG17.out).tr HG18.out).tr HG19.out).tr HG20.out)).at_) (k := 14) HBA.out HBB.out (by decide) (z := zc) HZC.out)
      go_wp2_with (go_at_call 47; (with_reducible refine HC24.out.mono ?_); rintro ev w21 ⟨rfl, hg21⟩; have HG21 := Lib.hid hg21; clear hg21 )
      have HC25 := Lib.hid (r_cmp (HXA.out.gr ((((((((((((((((((HG3.out.tr HG4.out).tr HG5.out).tr HG6.out).tr HG7.out).tr HG8.out).tr HG9.out).tr HG10.out).tr HG11.out).tr HG12.out).tr HG13.out).tr HG14.out).tr HG15.out).tr HG16.out).tr HG17.out).tr HG18.out).tr HG19.out).tr HG20.out).tr HG21.out)) (HXB.out.gr (((((((((((((((((HG4.out.tr HG5.out).tr HG6.out).tr HG7.out).tr HG8.out).tr HG9.out).tr HG10.out).tr HG11.out).tr HG12.out).tr HG13.out).tr HG14.out).tr HG15.out).tr HG16.out).tr HG17.out).tr HG18.out).tr HG19.out).tr HG20.out).tr HG21.out)) (k := 14) HBA.out HBB.out (by decide) (z := zc) HZC.out)
      go_wp2_with (go_at_call 65; (with_reducible refine HC25.out.mono ?_); rintro ev w22 ⟨rfl, hg22⟩; have HG22 := Lib.hid hg22; clear hg22 )
      have HC26 := Lib.hid (c_gcd (HM.out.gr (((((((((((((((((((((HG1.out.tr HG2.out).tr HG3.out).tr HG4.out).tr HG5.out).tr HG6.out).tr HG7.out).tr HG8.out).tr HG9.out).tr HG10.out).tr HG11.out).tr HG12.out).tr HG13.out).tr HG14.out).tr HG15.out).tr HG16.out).tr HG17.out).tr HG18.out).tr HG19.out).tr HG20.out).tr HG21.out).tr HG22.out)).2.1 ((HPA.out.gr (((((((((((((((((((HG3.out.tr HG4.out).tr HG5.out).tr HG6.out).tr HG7.out).tr HG8.out).tr HG9.out).tr HG10.out).tr HG11.out).tr HG12.out).tr HG13.out).tr HG14.out).tr HG15.out).tr HG16.out).tr HG17.out).tr HG18.out).tr HG19.out).tr HG20.out).tr HG21.out).tr HG22.out)).at_) ((HPB.out.gr ((((((((((((((((((HG4.out.tr HG5.out).tr HG6.out).tr HG7.out).tr HG8.out).tr HG9.out).tr HG10.out).tr HG11.out).tr HG12.out).tr HG13.out).tr HG14.out).tr HG15.out).tr HG16.out).tr HG17.out).tr HG18.out).tr HG19.out).tr HG20.out).tr HG21.out).tr HG22.out)).at_) (k := 14) HBA.out HBB.out (by decide))
      go_wp2_with (go_at_call 69; (with_reducible refine HC26.out.mono ?_); rintro ev w23 ⟨⟨r26, rfl, hr26⟩, hg23⟩; have HG23 := Lib.hid hg23; have HR26 := Lib.hid hr26; clear hg23 hr26)
      have HBD26 : Hid ((Nat.gcd a b) < Dg.D ^ 14) := Lib.hid (b_gcd HBA.out HBB.out)
      obtain ⟨X27, hX27⟩ : ∃ X27 : ByteArray, X27 = ⟨(Lib.decDigits (Nat.gcd a b)).toArray⟩ := ⟨_, rfl⟩
      have HX27 := Lib.hid hX27
      clear hX27
      have HC28 := Lib.hid (c_text (HM.out.gr ((((((((((((((((((((((HG1.out.tr HG2.out).tr HG3.out).tr HG4.out).tr HG5.out).tr HG6.out).tr HG7.out).tr HG8.out).tr HG9.out).tr HG10.out).tr HG11.out).tr HG12.out).tr HG13.out).tr HG14.out).tr HG15.out).tr HG16.out).tr HG17.out).tr HG18.out).tr HG19.out).tr HG20.out).tr HG21.out).tr HG22.out).tr HG23.out)).2.2 HR26.out (k := 14) HBD26.out (by decide) (by decide) (X := X27) HX27.out)
      go_wp2_with (go_at_call 41; (with_reducible refine HC28.out.mono ?_); rintro ev w24 ⟨rfl, hg24⟩; have HG24 := Lib.hid hg24; clear hg24 )
      have HC29 := Lib.hid (r_gcd (HXA.out.gr (((((((((((((((((((((HG3.out.tr HG4.out).tr HG5.out).tr HG6.out).tr HG7.out).tr HG8.out).tr HG9.out).tr HG10.out).tr HG11.out).tr HG12.out).tr HG13.out).tr HG14.out).tr HG15.out).tr HG16.out).tr HG17.out).tr HG18.out).tr HG19.out).tr HG20.out).tr HG21.out).tr HG22.out).tr HG23.out).tr HG24.out)) (HXB.out.gr ((((((((((((((((((((HG4.out.tr HG5.out).tr HG6.out).tr HG7.out).tr HG8.out).tr HG9.out).tr HG10.out).tr HG11.out).tr HG12.out).tr HG13.out).tr HG14.out).tr HG15.out).tr HG16.out).tr HG17.out).tr HG18.out).tr HG19.out).tr HG20.out).tr HG21.out).tr HG22.out).tr HG23.out).tr HG24.out)) (k := 14) HBA.out HBB.out (by decide))
      go_wp2_with (go_at_call 70; (with_reducible refine HC29.out.mono ?_); rintro ev w25 ⟨⟨r29, rfl, hr29⟩, hg25⟩; have HG25 := Lib.hid hg25; have HR29 := Lib.hid hr29; clear hg25 hr29)
      have HBD29 : Hid ((Nat.gcd a b) < Dg.D ^ 14) := Lib.hid (b_gcd HBA.out HBB.out)
      have HC30 := Lib.hid (r_text HR29.out (k := 14) HBD29.out (by decide) (X := X27) HX27.out)
      go_wp2_with (go_at_call 42; (with_reducible refine HC30.out.mono ?_); rintro ev w26 ⟨rfl, hg26⟩; have HG26 := Lib.hid hg26; clear hg26 )
      obtain ⟨za, hza⟩ : ∃ za, (a == 0) = za := ⟨_, rfl⟩
      have hla := len_eq_zero HLA.out hza
      have HZA := Lib.hid hza
      clear hza
      have HC31 := Lib.hid (c_zero ((HPA.out.gr (((((((((((((((((((((((HG3.out.tr HG4.out).tr HG5.out).tr HG6.out).tr HG7.out).tr HG8.out).tr HG9.out).tr HG10.out).tr HG11.out).tr HG12.out).tr HG13.out).tr HG14.out).tr HG15.out).tr HG16.out).tr HG17.out).tr HG18.out).tr HG19.out).tr HG20.out).tr HG21.out).tr HG22.out).tr HG23.out).tr HG24.out).tr HG25.out).tr HG26.out)).at_) (z := za) HZA.out)
      go_wp2_with (go_at_call 71; (with_reducible refine HC31.out.mono ?_); rintro ev w27 ⟨rfl, hg27⟩; have HG27 := Lib.hid hg27; clear hg27 )
      go_ret
      exact ⟨by first | rfl | exact ret_bool (by simp), ((((((((((((((((((((((((((HG1.out.tr HG2.out).tr HG3.out).tr HG4.out).tr HG5.out).tr HG6.out).tr HG7.out).tr HG8.out).tr HG9.out).tr HG10.out).tr HG11.out).tr HG12.out).tr HG13.out).tr HG14.out).tr HG15.out).tr HG16.out).tr HG17.out).tr HG18.out).tr HG19.out).tr HG20.out).tr HG21.out).tr HG22.out).tr HG23.out).tr HG24.out).tr HG25.out).tr HG26.out).tr HG27.out)⟩
    · have HB0 : Hid (0 < b) := Lib.hid (Nat.pos_of_ne_zero hb0)
      have HBN := Lib.hid hb0
      clear hb0
      have hlb := len_eq_zero HLB.out (beq_eq_false_iff_ne.2 HBN.out)
      have HC9 := Lib.hid (c_div ((HPA.out.gr (((((HG3.out.tr HG4.out).tr HG5.out).tr HG6.out).tr HG7.out).tr HG8.out)).at_) ((HPB.out.gr ((((HG4.out.tr HG5.out).tr HG6.out).tr HG7.out).tr HG8.out)).at_) (k := 14) HBA.out HBB.out (by decide) HB0.out)
      go_wp2_with (go_at_call 66; (with_reducible refine HC9.out.mono ?_); rintro ev w9 ⟨⟨q9, r9, rfl, hq9, hr9⟩, hg9⟩; have HG9 := Lib.hid hg9; have HQ9 := Lib.hid hq9; have HR9 := Lib.hid hr9; clear hg9 hq9 hr9)
      have HBQ9 : Hid ((a / b) < Dg.D ^ 14) := Lib.hid (b_div HBA.out)
      have HBD9 : Hid ((a % b) < Dg.D ^ 14) := Lib.hid (b_mod HBA.out)
      have HC10 := Lib.hid (r_div (HXA.out.gr ((((((HG3.out.tr HG4.out).tr HG5.out).tr HG6.out).tr HG7.out).tr HG8.out).tr HG9.out)) (HXB.out.gr (((((HG4.out.tr HG5.out).tr HG6.out).tr HG7.out).tr HG8.out).tr HG9.out)) (k := 14) HBA.out HBB.out (by decide) HB0.out)
      go_wp2_with (go_at_call 67; (with_reducible refine HC10.out.mono ?_); rintro ev w10 ⟨⟨q10, r10, rfl, hq10, hr10⟩, hg10⟩; have HG10 := Lib.hid hg10; have HQ10 := Lib.hid hq10; have HR10 := Lib.hid hr10; clear hg10 hq10 hr10)
      have HBQ10 : Hid ((a / b) < Dg.D ^ 14) := Lib.hid (b_div HBA.out)
      have HBD10 : Hid ((a % b) < Dg.D ^ 14) := Lib.hid (b_mod HBA.out)
      obtain ⟨X11, hX11⟩ : ∃ X11 : ByteArray, X11 = ⟨(Lib.decDigits (a / b)).toArray⟩ := ⟨_, rfl⟩
      have HX11 := Lib.hid hX11
      clear hX11
      have HC12 := Lib.hid (c_text (HM.out.gr (((((((((HG1.out.tr HG2.out).tr HG3.out).tr HG4.out).tr HG5.out).tr HG6.out).tr HG7.out).tr HG8.out).tr HG9.out).tr HG10.out)).2.2 ((HQ9.out.gr HG10.out).at_) (k := 14) HBQ9.out (by decide) (by decide) (X := X11) HX11.out)
      go_wp2_with (go_at_call 41; (with_reducible refine HC12.out.mono ?_); rintro ev w11 ⟨rfl, hg11⟩; have HG11 := Lib.hid hg11; clear hg11 )
      have HC13 := Lib.hid (r_text (HQ10.out.gr HG11.out) (k := 14) HBQ10.out (by decide) (X := X11) HX11.out)
      go_wp2_with (go_at_call 42; (with_reducible refine HC13.out.mono ?_); rintro ev w12 ⟨rfl, hg12⟩; have HG12 := Lib.hid hg12; clear hg12 )
      obtain ⟨X14, hX14⟩ : ∃ X14 : ByteArray, X14 = ⟨(Lib.decDigits (a % b)).toArray⟩ := ⟨_, rfl⟩
      have HX14 := Lib.hid hX14
      clear hX14
      have HC15 := Lib.hid (c_text (HM.out.gr (((((((((((HG1.out.tr HG2.out).tr HG3.out).tr HG4.out).tr HG5.out).tr HG6.out).tr HG7.out).tr HG8.out).tr HG9.out).tr HG10.out).tr HG11.out).tr HG12.out)).2.2 ((HR9.out.gr ((HG10.out.tr HG11.out).tr HG12.out)).at_) (k := 14) HBD9.out (by decide) (by decide) (X := X14) HX14.out)
      go_wp2_with (go_at_call 41; (with_reducible refine HC15.out.mono ?_); rintro ev w13 ⟨rfl, hg13⟩; have HG13 := Lib.hid hg13; clear hg13 )
      have HC16 := Lib.hid (r_text (HR10.out.gr ((HG11.out.tr HG12.out).tr HG13.out)) (k := 14) HBD10.out (by decide) (X := X14) HX14.out)
      go_wp2_with (go_at_call 42; (with_reducible refine HC16.out.mono ?_); rintro ev w14 ⟨rfl, hg14⟩; have HG14 := Lib.hid hg14; clear hg14 )
      obtain ⟨X17, hX17⟩ : ∃ X17 : ByteArray, X17 = ⟨(Lib.decDigits a).toArray⟩ := ⟨_, rfl⟩
      have HX17 := Lib.hid hX17
      clear hX17
      have HC18 := Lib.hid (c_text (HM.out.gr (((((((((((((HG1.out.tr HG2.out).tr HG3.out).tr HG4.out).tr HG5.out).tr HG6.out).tr HG7.out).tr HG8.out).tr HG9.out).tr HG10.out).tr HG11.out).tr HG12.out).tr HG13.out).tr HG14.out)).2.2 ((HPA.out.gr (((((((((((HG3.out.tr HG4.out).tr HG5.out).tr HG6.out).tr HG7.out).tr HG8.out).tr HG9.out).tr HG10.out).tr HG11.out).tr HG12.out).tr HG13.out).tr HG14.out)).at_) (k := 14) HBA.out (by decide) (by decide) (X := X17) HX17.out)
      go_wp2_with (go_at_call 41; (with_reducible refine HC18.out.mono ?_); rintro ev w15 ⟨rfl, hg15⟩; have HG15 := Lib.hid hg15; clear hg15 )
      have HC19 := Lib.hid (r_text (HXA.out.gr ((((((((((((HG3.out.tr HG4.out).tr HG5.out).tr HG6.out).tr HG7.out).tr HG8.out).tr HG9.out).tr HG10.out).tr HG11.out).tr HG12.out).tr HG13.out).tr HG14.out).tr HG15.out)) (k := 14) HBA.out (by decide) (X := X17) HX17.out)
      go_wp2_with (go_at_call 42; (with_reducible refine HC19.out.mono ?_); rintro ev w16 ⟨rfl, hg16⟩; have HG16 := Lib.hid hg16; clear hg16 )
      have HC20 := Lib.hid (c_add ((HPA.out.gr (((((((((((((HG3.out.tr HG4.out).tr HG5.out).tr HG6.out).tr HG7.out).tr HG8.out).tr HG9.out).tr HG10.out).tr HG11.out).tr HG12.out).tr HG13.out).tr HG14.out).tr HG15.out).tr HG16.out)).at_) ((HPB.out.gr ((((((((((((HG4.out.tr HG5.out).tr HG6.out).tr HG7.out).tr HG8.out).tr HG9.out).tr HG10.out).tr HG11.out).tr HG12.out).tr HG13.out).tr HG14.out).tr HG15.out).tr HG16.out)).at_) (k := 14) HBA.out HBB.out (by decide))
      go_wp2_with (go_at_call 46; (with_reducible refine HC20.out.mono ?_); rintro ev w17 ⟨⟨r20, rfl, hr20⟩, hg17⟩; have HG17 := Lib.hid hg17; have HR20 := Lib.hid hr20; clear hg17 hr20)
      have HBD20 : Hid ((a + b) < Dg.D ^ 15) := Lib.hid (b_add HBA.out HBB.out rfl)
      obtain ⟨X21, hX21⟩ : ∃ X21 : ByteArray, X21 = ⟨(Lib.decDigits (a + b)).toArray⟩ := ⟨_, rfl⟩
      have HX21 := Lib.hid hX21
      clear hX21
      have HC22 := Lib.hid (c_text (HM.out.gr ((((((((((((((((HG1.out.tr HG2.out).tr HG3.out).tr HG4.out).tr HG5.out).tr HG6.out).tr HG7.out).tr HG8.out).tr HG9.out).tr HG10.out).tr HG11.out).tr HG12.out).tr HG13.out).tr HG14.out).tr HG15.out).tr HG16.out).tr HG17.out)).2.2 (HR20.out.at_) (k := 15) HBD20.out (by decide) (by decide) (X := X21) HX21.out)
      go_wp2_with (go_at_call 41; (with_reducible refine HC22.out.mono ?_); rintro ev w18 ⟨rfl, hg18⟩; have HG18 := Lib.hid hg18; clear hg18 )
      have HC23 := Lib.hid (r_add (HXA.out.gr (((((((((((((((HG3.out.tr HG4.out).tr HG5.out).tr HG6.out).tr HG7.out).tr HG8.out).tr HG9.out).tr HG10.out).tr HG11.out).tr HG12.out).tr HG13.out).tr HG14.out).tr HG15.out).tr HG16.out).tr HG17.out).tr HG18.out)) (HXB.out.gr ((((((((((((((HG4.out.tr HG5.out).tr HG6.out).tr HG7.out).tr HG8.out).tr HG9.out).tr HG10.out).tr HG11.out).tr HG12.out).tr HG13.out).tr HG14.out).tr HG15.out).tr HG16.out).tr HG17.out).tr HG18.out)) (k := 14) HBA.out HBB.out (by decide))
      go_wp2_with (go_at_call 68; (with_reducible refine HC23.out.mono ?_); rintro ev w19 ⟨⟨r23, rfl, hr23⟩, hg19⟩; have HG19 := Lib.hid hg19; have HR23 := Lib.hid hr23; clear hg19 hr23)
      have HBD23 : Hid ((a + b) < Dg.D ^ 15) := Lib.hid (b_add HBA.out HBB.out rfl)
      have HC24 := Lib.hid (r_text HR23.out (k := 15) HBD23.out (by decide) (X := X21) HX21.out)
      go_wp2_with (go_at_call 42; (with_reducible refine HC24.out.mono ?_); rintro ev w20 ⟨rfl, hg20⟩; have HG20 := Lib.hid hg20; clear hg20 )
      have HC25 := Lib.hid (c_mul ((HPA.out.gr (((((((((((((((((HG3.out.tr HG4.out).tr HG5.out).tr HG6.out).tr HG7.out).tr HG8.out).tr HG9.out).tr HG10.out).tr HG11.out).tr HG12.out).tr HG13.out).tr HG14.out).tr HG15.out).tr HG16.out).tr HG17.out).tr HG18.out).tr HG19.out).tr HG20.out)).at_) ((HPB.out.gr ((((((((((((((((HG4.out.tr HG5.out).tr HG6.out).tr HG7.out).tr HG8.out).tr HG9.out).tr HG10.out).tr HG11.out).tr HG12.out).tr HG13.out).tr HG14.out).tr HG15.out).tr HG16.out).tr HG17.out).tr HG18.out).tr HG19.out).tr HG20.out)).at_) (k := 14) HBA.out HBB.out (by decide))
      go_wp2_with (go_at_call 43; (with_reducible refine HC25.out.mono ?_); rintro ev w21 ⟨⟨r25, rfl, hr25⟩, hg21⟩; have HG21 := Lib.hid hg21; have HR25 := Lib.hid hr25; clear hg21 hr25)
      have HBD25 : Hid ((a * b) < Dg.D ^ 28) := Lib.hid (b_mul HBA.out HBB.out rfl)
      obtain ⟨X26, hX26⟩ : ∃ X26 : ByteArray, X26 = ⟨(Lib.decDigits (a * b)).toArray⟩ := ⟨_, rfl⟩
      have HX26 := Lib.hid hX26
      clear hX26
      have HC27 := Lib.hid (c_text (HM.out.gr ((((((((((((((((((((HG1.out.tr HG2.out).tr HG3.out).tr HG4.out).tr HG5.out).tr HG6.out).tr HG7.out).tr HG8.out).tr HG9.out).tr HG10.out).tr HG11.out).tr HG12.out).tr HG13.out).tr HG14.out).tr HG15.out).tr HG16.out).tr HG17.out).tr HG18.out).tr HG19.out).tr HG20.out).tr HG21.out)).2.2 (HR25.out.at_) (k := 28) HBD25.out (by decide) (by decide) (X := X26) HX26.out)
      go_wp2_with (go_at_call 41; (with_reducible refine HC27.out.mono ?_); rintro ev w22 ⟨rfl, hg22⟩; have HG22 := Lib.hid hg22; clear hg22 )
      have HC28 := Lib.hid (r_mul (HXA.out.gr (((((((((((((((((((HG3.out.tr HG4.out).tr HG5.out).tr HG6.out).tr HG7.out).tr HG8.out).tr HG9.out).tr HG10.out).tr HG11.out).tr HG12.out).tr HG13.out).tr HG14.out).tr HG15.out).tr HG16.out).tr HG17.out).tr HG18.out).tr HG19.out).tr HG20.out).tr HG21.out).tr HG22.out)) (HXB.out.gr ((((((((((((((((((HG4.out.tr HG5.out).tr HG6.out).tr HG7.out).tr HG8.out).tr HG9.out).tr HG10.out).tr HG11.out).tr HG12.out).tr HG13.out).tr HG14.out).tr HG15.out).tr HG16.out).tr HG17.out).tr HG18.out).tr HG19.out).tr HG20.out).tr HG21.out).tr HG22.out)) (k := 14) HBA.out HBB.out (by decide))
      go_wp2_with (go_at_call 44; (with_reducible refine HC28.out.mono ?_); rintro ev w23 ⟨⟨r28, rfl, hr28⟩, hg23⟩; have HG23 := Lib.hid hg23; have HR28 := Lib.hid hr28; clear hg23 hr28)
      have HBD28 : Hid ((a * b) < Dg.D ^ 28) := Lib.hid (b_mul HBA.out HBB.out rfl)
      have HC29 := Lib.hid (r_text HR28.out (k := 28) HBD28.out (by decide) (X := X26) HX26.out)
      go_wp2_with (go_at_call 42; (with_reducible refine HC29.out.mono ?_); rintro ev w24 ⟨rfl, hg24⟩; have HG24 := Lib.hid hg24; clear hg24 )
      obtain ⟨zc, hzc⟩ : ∃ zc, cmpN a b = zc := ⟨_, rfl⟩
      have HZC := Lib.hid hzc
      clear hzc
      have HC30 := Lib.hid (c_cmp ((HPA.out.gr (((((((((((((((((((((HG3.out.tr HG4.out).tr HG5.out).tr HG6.out).tr HG7.out).tr HG8.out).tr HG9.out).tr HG10.out).tr HG11.out).tr HG12.out).tr HG13.out).tr HG14.out).tr HG15.out).tr HG16.out).tr HG17.out).tr HG18.out).tr HG19.out).tr HG20.out).tr HG21.out).tr HG22.out).tr HG23.out).tr HG24.out)).at_) ((HPB.out.gr ((((((((((((((((((((HG4.out.tr HG5.out).tr HG6.out).tr HG7.out).tr HG8.out).tr HG9.out).tr HG10.out).tr HG11.out).tr HG12.out).tr HG13.out).tr HG14.out).tr HG15.out).tr HG16.out).tr HG17.out).tr HG18.out).tr HG19.out).tr HG20.out).tr HG21.out).tr HG22.out).tr HG23.out).tr HG24.out)).at_) (k := 14) HBA.out HBB.out (by decide) (z := zc) HZC.out)
      go_wp2_with (go_at_call 47; (with_reducible refine HC30.out.mono ?_); rintro ev w25 ⟨rfl, hg25⟩; have HG25 := Lib.hid hg25; clear hg25 )
      have HC31 := Lib.hid (r_cmp (HXA.out.gr ((((((((((((((((((((((HG3.out.tr HG4.out).tr HG5.out).tr HG6.out).tr HG7.out).tr HG8.out).tr HG9.out).tr HG10.out).tr HG11.out).tr HG12.out).tr HG13.out).tr HG14.out).tr HG15.out).tr HG16.out).tr HG17.out).tr HG18.out).tr HG19.out).tr HG20.out).tr HG21.out).tr HG22.out).tr HG23.out).tr HG24.out).tr HG25.out)) (HXB.out.gr (((((((((((((((((((((HG4.out.tr HG5.out).tr HG6.out).tr HG7.out).tr HG8.out).tr HG9.out).tr HG10.out).tr HG11.out).tr HG12.out).tr HG13.out).tr HG14.out).tr HG15.out).tr HG16.out).tr HG17.out).tr HG18.out).tr HG19.out).tr HG20.out).tr HG21.out).tr HG22.out).tr HG23.out).tr HG24.out).tr HG25.out)) (k := 14) HBA.out HBB.out (by decide) (z := zc) HZC.out)
      go_wp2_with (go_at_call 65; (with_reducible refine HC31.out.mono ?_); rintro ev w26 ⟨rfl, hg26⟩; have HG26 := Lib.hid hg26; clear hg26 )
      have HC32 := Lib.hid (c_gcd (HM.out.gr (((((((((((((((((((((((((HG1.out.tr HG2.out).tr HG3.out).tr HG4.out).tr HG5.out).tr HG6.out).tr HG7.out).tr HG8.out).tr HG9.out).tr HG10.out).tr HG11.out).tr HG12.out).tr HG13.out).tr HG14.out).tr HG15.out).tr HG16.out).tr HG17.out).tr HG18.out).tr HG19.out).tr HG20.out).tr HG21.out).tr HG22.out).tr HG23.out).tr HG24.out).tr HG25.out).tr HG26.out)).2.1 ((HPA.out.gr (((((((((((((((((((((((HG3.out.tr HG4.out).tr HG5.out).tr HG6.out).tr HG7.out).tr HG8.out).tr HG9.out).tr HG10.out).tr HG11.out).tr HG12.out).tr HG13.out).tr HG14.out).tr HG15.out).tr HG16.out).tr HG17.out).tr HG18.out).tr HG19.out).tr HG20.out).tr HG21.out).tr HG22.out).tr HG23.out).tr HG24.out).tr HG25.out).tr HG26.out)).at_) ((HPB.out.gr ((((((((((((((((((((((HG4.out.tr HG5.out).tr HG6.out).tr HG7.out).tr HG8.out).tr HG9.out).tr HG10.out).tr HG11.out).tr HG12.out).tr HG13.out).tr HG14.out).tr HG15.out).tr HG16.out).tr HG17.out).tr HG18.out).tr HG19.out).tr HG20.out).tr HG21.out).tr HG22.out).tr HG23.out).tr HG24.out).tr HG25.out).tr HG26.out)).at_) (k := 14) HBA.out HBB.out (by decide))
      go_wp2_with (go_at_call 69; (with_reducible refine HC32.out.mono ?_); rintro ev w27 ⟨⟨r32, rfl, hr32⟩, hg27⟩; have HG27 := Lib.hid hg27; have HR32 := Lib.hid hr32; clear hg27 hr32)
      have HBD32 : Hid ((Nat.gcd a b) < Dg.D ^ 14) := Lib.hid (b_gcd HBA.out HBB.out)
      obtain ⟨X33, hX33⟩ : ∃ X33 : ByteArray, X33 = ⟨(Lib.decDigits (Nat.gcd a b)).toArray⟩ := ⟨_, rfl⟩
      have HX33 := Lib.hid hX33
      clear hX33
      have HC34 := Lib.hid (c_text (HM.out.gr ((((((((((((((((((((((((((HG1.out.tr HG2.out).tr HG3.out).tr HG4.out).tr HG5.out).tr HG6.out).tr HG7.out).tr HG8.out).tr HG9.out).tr HG10.out).tr HG11.out).tr HG12.out).tr HG13.out).tr HG14.out).tr HG15.out).tr HG16.out).tr HG17.out).tr HG18.out).tr HG19.out).tr HG20.out).tr HG21.out).tr HG22.out).tr HG23.out).tr HG24.out).tr HG25.out).tr HG26.out).tr HG27.out)).2.2 HR32.out (k := 14) HBD32.out (by decide) (by decide) (X := X33) HX33.out)
      go_wp2_with (go_at_call 41; (with_reducible refine HC34.out.mono ?_); rintro ev w28 ⟨rfl, hg28⟩; have HG28 := Lib.hid hg28; clear hg28 )
      have HC35 := Lib.hid (r_gcd (HXA.out.gr (((((((((((((((((((((((((HG3.out.tr HG4.out).tr HG5.out).tr HG6.out).tr HG7.out).tr HG8.out).tr HG9.out).tr HG10.out).tr HG11.out).tr HG12.out).tr HG13.out).tr HG14.out).tr HG15.out).tr HG16.out).tr HG17.out).tr HG18.out).tr HG19.out).tr HG20.out).tr HG21.out).tr HG22.out).tr HG23.out).tr HG24.out).tr HG25.out).tr HG26.out).tr HG27.out).tr HG28.out)) (HXB.out.gr ((((((((((((((((((((((((HG4.out.tr HG5.out).tr HG6.out).tr HG7.out).tr HG8.out).tr HG9.out).tr HG10.out).tr HG11.out).tr HG12.out).tr HG13.out).tr HG14.out).tr HG15.out).tr HG16.out).tr HG17.out).tr HG18.out).tr HG19.out).tr HG20.out).tr HG21.out).tr HG22.out).tr HG23.out).tr HG24.out).tr HG25.out).tr HG26.out).tr HG27.out).tr HG28.out)) (k := 14) HBA.out HBB.out (by decide))
      go_wp2_with (go_at_call 70; (with_reducible refine HC35.out.mono ?_); rintro ev w29 ⟨⟨r35, rfl, hr35⟩, hg29⟩; have HG29 := Lib.hid hg29; have HR35 := Lib.hid hr35; clear hg29 hr35)
      have HBD35 : Hid ((Nat.gcd a b) < Dg.D ^ 14) := Lib.hid (b_gcd HBA.out HBB.out)
      have HC36 := Lib.hid (r_text HR35.out (k := 14) HBD35.out (by decide) (X := X33) HX33.out)
      go_wp2_with (go_at_call 42; (with_reducible refine HC36.out.mono ?_); rintro ev w30 ⟨rfl, hg30⟩; have HG30 := Lib.hid hg30; clear hg30 )
      obtain ⟨za, hza⟩ : ∃ za, (a == 0) = za := ⟨_, rfl⟩
      have hla := len_eq_zero HLA.out hza
      have HZA := Lib.hid hza
      clear hza
      have HC37 := Lib.hid (c_zero ((HPA.out.gr (((((((((((((((((((((((((((HG3.out.tr HG4.out).tr HG5.out).tr HG6.out).tr HG7.out).tr HG8.out).tr HG9.out).tr HG10.out).tr HG11.out).tr HG12.out).tr HG13.out).tr HG14.out).tr HG15.out).tr HG16.out).tr HG17.out).tr HG18.out).tr HG19.out).tr HG20.out).tr HG21.out).tr HG22.out).tr HG23.out).tr HG24.out).tr HG25.out).tr HG26.out).tr HG27.out).tr HG28.out).tr HG29.out).tr HG30.out)).at_) (z := za) HZA.out)
      go_wp2_with (go_at_call 71; (with_reducible refine HC37.out.mono ?_); rintro ev w31 ⟨rfl, hg31⟩; have HG31 := Lib.hid hg31; clear hg31 )
      go_ret
      exact ⟨by first | rfl | exact ret_bool (by simp), ((((((((((((((((((((((((((((((HG1.out.tr HG2.out).tr HG3.out).tr HG4.out).tr HG5.out).tr HG6.out).tr HG7.out).tr HG8.out).tr HG9.out).tr HG10.out).tr HG11.out).tr HG12.out).tr HG13.out).tr HG14.out).tr HG15.out).tr HG16.out).tr HG17.out).tr HG18.out).tr HG19.out).tr HG20.out).tr HG21.out).tr HG22.out).tr HG23.out).tr HG24.out).tr HG25.out).tr HG26.out).tr HG27.out).tr HG28.out).tr HG29.out).tr HG30.out).tr HG31.out)⟩
end Go.Proofs.YtglbdafcfcmffaaGreatDoor
