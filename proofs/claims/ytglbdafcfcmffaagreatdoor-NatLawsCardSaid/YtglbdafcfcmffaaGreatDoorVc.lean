/- Layer 2: 'sums and products in any order; a product by one of both is the other one; the greatest that measures both does', walked. -/
import Derived.Test.YtglbdafcfcmffaaGreatDoorQk
import Derived.Test.YtglbdafcfcmffaaGreatDoorUb
namespace Go.Proofs.YtglbdafcfcmffaaGreatDoor
open Go.RowKit Go.Extern.Stop Go.Stop Go.Extern Go.Sort
set_option linter.unusedVariables false
set_option linter.unusedSimpArgs false

set_option maxRecDepth 100000 in
set_option maxHeartbeats 16000000 in
theorem natLaws_calls (s : ByteArray) (t : ByteArray) (u : ByteArray) (hs : s.size ≤ 9223372036854775807) (ht : t.size ≤ 9223372036854775807) (hu : u.size ≤ 9223372036854775807) (w : World) (hM : Met2 w) :
    Calls Tryz.prog 11 #[.string s, .string t, .string u] w fun e w' => e = .returned (.bool true) ∧ Gr w w' := by
  have HM := Lib.hid hM
  clear hM
  go_enter Tryz.func11, Tryz.ntmps11
  have HBG := Lib.hid (begun_met w HM.out)
  go_wp2_with (go_at_call 35; (with_reducible refine HBG.out.mono ?_); rintro ev w1 ⟨rfl, hg1⟩; have HG1 := Lib.hid hg1; clear hg1)
  have HC1 := Lib.hid (n_ptr s hs w1)
  go_wp2_with (go_at_call 64; (with_reducible refine HC1.out.mono ?_); rintro ev w2 ⟨⟨ba, xa, a, rfl, hpa, hxa, hba⟩, hg2⟩; have HG2 := Lib.hid hg2; have HPA := Lib.hid hpa; have HXA := Lib.hid hxa; have HBA := Lib.hid hba; clear hg2 hpa hxa hba)
  have HC2 := Lib.hid (n_ptr t ht w2)
  go_wp2_with (go_at_call 64; (with_reducible refine HC2.out.mono ?_); rintro ev w3 ⟨⟨bb, xb, b, rfl, hpb, hxb, hbb⟩, hg3⟩; have HG3 := Lib.hid hg3; have HPB := Lib.hid hpb; have HXB := Lib.hid hxb; have HBB := Lib.hid hbb; clear hg3 hpb hxb hbb)
  have HC3 := Lib.hid (n_ptr u hu w3)
  go_wp2_with (go_at_call 64; (with_reducible refine HC3.out.mono ?_); rintro ev w4 ⟨⟨bc, xc, c, rfl, hpc, hxc, hbc⟩, hg4⟩; have HG4 := Lib.hid hg4; have HPC := Lib.hid hpc; have HXC := Lib.hid hxc; have HBC := Lib.hid hbc; clear hg4 hpc hxc hbc)
  have HC4 := Lib.hid (c_add ((HPA.out.gr (HG3.out.tr HG4.out)).at_) ((HPB.out.gr HG4.out).at_) (k := 14) HBA.out HBB.out (by decide))
  go_wp2_with (go_at_call 46; (with_reducible refine HC4.out.mono ?_); rintro ev w5 ⟨⟨r4, rfl, hr4⟩, hg5⟩; have HG5 := Lib.hid hg5; have HR4 := Lib.hid hr4; clear hg5 hr4)
  have HBD4 : Hid ((a + b) < Dg.D ^ 15) := Lib.hid (b_add HBA.out HBB.out rfl)
  have HC5 := Lib.hid (c_add ((HPB.out.gr (HG4.out.tr HG5.out)).at_) ((HPA.out.gr ((HG3.out.tr HG4.out).tr HG5.out)).at_) (k := 14) HBB.out HBA.out (by decide))
  go_wp2_with (go_at_call 46; (with_reducible refine HC5.out.mono ?_); rintro ev w6 ⟨⟨r5, rfl, hr5⟩, hg6⟩; have HG6 := Lib.hid hg6; have HR5 := Lib.hid hr5; clear hg6 hr5)
  have HBD5 : Hid ((b + a) < Dg.D ^ 15) := Lib.hid (b_add HBB.out HBA.out rfl)
  have HC6 := Lib.hid (c_cmp ((HR4.out.gr HG6.out).at_) (HR5.out.at_) (k := 15) HBD4.out HBD5.out (by decide) (z := 0) (cmp_same (Nat.add_comm a b)))
  go_wp2_with (go_at_call 47; (with_reducible refine HC6.out.mono ?_); rintro ev w7 ⟨rfl, hg7⟩; have HG7 := Lib.hid hg7; clear hg7 )
  have HC7 := Lib.hid (c_mul ((HPA.out.gr ((((HG3.out.tr HG4.out).tr HG5.out).tr HG6.out).tr HG7.out)).at_) ((HPB.out.gr (((HG4.out.tr HG5.out).tr HG6.out).tr HG7.out)).at_) (k := 14) HBA.out HBB.out (by decide))
  go_wp2_with (go_at_call 43; (with_reducible refine HC7.out.mono ?_); rintro ev w8 ⟨⟨r7, rfl, hr7⟩, hg8⟩; have HG8 := Lib.hid hg8; have HR7 := Lib.hid hr7; clear hg8 hr7)
  have HBD7 : Hid ((a * b) < Dg.D ^ 28) := Lib.hid (b_mul HBA.out HBB.out rfl)
  have HC8 := Lib.hid (c_mul ((HPB.out.gr ((((HG4.out.tr HG5.out).tr HG6.out).tr HG7.out).tr HG8.out)).at_) ((HPA.out.gr (((((HG3.out.tr HG4.out).tr HG5.out).tr HG6.out).tr HG7.out).tr HG8.out)).at_) (k := 14) HBB.out HBA.out (by decide))
  go_wp2_with (go_at_call 43; (with_reducible refine HC8.out.mono ?_); rintro ev w9 ⟨⟨r8, rfl, hr8⟩, hg9⟩; have HG9 := Lib.hid hg9; have HR8 := Lib.hid hr8; clear hg9 hr8)
  have HBD8 : Hid ((b * a) < Dg.D ^ 28) := Lib.hid (b_mul HBB.out HBA.out rfl)
  have HC9 := Lib.hid (c_cmp ((HR7.out.gr HG9.out).at_) (HR8.out.at_) (k := 28) HBD7.out HBD8.out (by decide) (z := 0) (cmp_same (Nat.mul_comm a b)))
  go_wp2_with (go_at_call 47; (with_reducible refine HC9.out.mono ?_); rintro ev w10 ⟨rfl, hg10⟩; have HG10 := Lib.hid hg10; clear hg10 )
  have HC10 := Lib.hid (c_add ((HPB.out.gr ((((((HG4.out.tr HG5.out).tr HG6.out).tr HG7.out).tr HG8.out).tr HG9.out).tr HG10.out)).at_) ((HPC.out.gr (((((HG5.out.tr HG6.out).tr HG7.out).tr HG8.out).tr HG9.out).tr HG10.out)).at_) (k := 14) HBB.out HBC.out (by decide))
  go_wp2_with (go_at_call 46; (with_reducible refine HC10.out.mono ?_); rintro ev w11 ⟨⟨r10, rfl, hr10⟩, hg11⟩; have HG11 := Lib.hid hg11; have HR10 := Lib.hid hr10; clear hg11 hr10)
  have HBD10 : Hid ((b + c) < Dg.D ^ 15) := Lib.hid (b_add HBB.out HBC.out rfl)
  have HC11 := Lib.hid (c_mul ((HPA.out.gr ((((((((HG3.out.tr HG4.out).tr HG5.out).tr HG6.out).tr HG7.out).tr HG8.out).tr HG9.out).tr HG10.out).tr HG11.out)).at_) (HR10.out.at_) (k := 15) (b_up HBA.out (by decide)) HBD10.out (by decide))
  go_wp2_with (go_at_call 43; (with_reducible refine HC11.out.mono ?_); rintro ev w12 ⟨⟨r11, rfl, hr11⟩, hg12⟩; have HG12 := Lib.hid hg12; have HR11 := Lib.hid hr11; clear hg12 hr11)
  have HBD11 : Hid ((a * (b + c)) < Dg.D ^ 29) := Lib.hid (b_mul HBA.out HBD10.out rfl)
  have HC12 := Lib.hid (c_mul ((HPA.out.gr (((((((((HG3.out.tr HG4.out).tr HG5.out).tr HG6.out).tr HG7.out).tr HG8.out).tr HG9.out).tr HG10.out).tr HG11.out).tr HG12.out)).at_) ((HPB.out.gr ((((((((HG4.out.tr HG5.out).tr HG6.out).tr HG7.out).tr HG8.out).tr HG9.out).tr HG10.out).tr HG11.out).tr HG12.out)).at_) (k := 14) HBA.out HBB.out (by decide))
  go_wp2_with (go_at_call 43; (with_reducible refine HC12.out.mono ?_); rintro ev w13 ⟨⟨r12, rfl, hr12⟩, hg13⟩; have HG13 := Lib.hid hg13; have HR12 := Lib.hid hr12; clear hg13 hr12)
  have HBD12 : Hid ((a * b) < Dg.D ^ 28) := Lib.hid (b_mul HBA.out HBB.out rfl)
  have HC13 := Lib.hid (c_mul ((HPA.out.gr ((((((((((HG3.out.tr HG4.out).tr HG5.out).tr HG6.out).tr HG7.out).tr HG8.out).tr HG9.out).tr HG10.out).tr HG11.out).tr HG12.out).tr HG13.out)).at_) ((HPC.out.gr ((((((((HG5.out.tr HG6.out).tr HG7.out).tr HG8.out).tr HG9.out).tr HG10.out).tr HG11.out).tr HG12.out).tr HG13.out)).at_) (k := 14) HBA.out HBC.out (by decide))
  go_wp2_with (go_at_call 43; (with_reducible refine HC13.out.mono ?_); rintro ev w14 ⟨⟨r13, rfl, hr13⟩, hg14⟩; have HG14 := Lib.hid hg14; have HR13 := Lib.hid hr13; clear hg14 hr13)
  have HBD13 : Hid ((a * c) < Dg.D ^ 28) := Lib.hid (b_mul HBA.out HBC.out rfl)
  have HC14 := Lib.hid (c_add ((HR12.out.gr HG14.out).at_) (HR13.out.at_) (k := 28) HBD12.out HBD13.out (by decide))
  go_wp2_with (go_at_call 46; (with_reducible refine HC14.out.mono ?_); rintro ev w15 ⟨⟨r14, rfl, hr14⟩, hg15⟩; have HG15 := Lib.hid hg15; have HR14 := Lib.hid hr14; clear hg15 hr14)
  have HBD14 : Hid (((a * b) + (a * c)) < Dg.D ^ 29) := Lib.hid (b_add HBD12.out HBD13.out rfl)
  have HC15 := Lib.hid (c_cmp ((HR11.out.gr ((HG13.out.tr HG14.out).tr HG15.out)).at_) (HR14.out.at_) (k := 29) HBD11.out HBD14.out (by decide) (z := 0) (cmp_same (Nat.mul_add a b c)))
  go_wp2_with (go_at_call 47; (with_reducible refine HC15.out.mono ?_); rintro ev w16 ⟨rfl, hg16⟩; have HG16 := Lib.hid hg16; clear hg16 )
  have HC16 := Lib.hid (c_mul ((HPA.out.gr (((((((((((((HG3.out.tr HG4.out).tr HG5.out).tr HG6.out).tr HG7.out).tr HG8.out).tr HG9.out).tr HG10.out).tr HG11.out).tr HG12.out).tr HG13.out).tr HG14.out).tr HG15.out).tr HG16.out)).at_) ((HPB.out.gr ((((((((((((HG4.out.tr HG5.out).tr HG6.out).tr HG7.out).tr HG8.out).tr HG9.out).tr HG10.out).tr HG11.out).tr HG12.out).tr HG13.out).tr HG14.out).tr HG15.out).tr HG16.out)).at_) (k := 14) HBA.out HBB.out (by decide))
  go_wp2_with (go_at_call 43; (with_reducible refine HC16.out.mono ?_); rintro ev w17 ⟨⟨r16, rfl, hr16⟩, hg17⟩; have HG17 := Lib.hid hg17; have HR16 := Lib.hid hr16; clear hg17 hr16)
  have HBD16 : Hid ((a * b) < Dg.D ^ 28) := Lib.hid (b_mul HBA.out HBB.out rfl)
  have HC17 := Lib.hid (c_mul (HR16.out.at_) ((HPC.out.gr ((((((((((((HG5.out.tr HG6.out).tr HG7.out).tr HG8.out).tr HG9.out).tr HG10.out).tr HG11.out).tr HG12.out).tr HG13.out).tr HG14.out).tr HG15.out).tr HG16.out).tr HG17.out)).at_) (k := 28) HBD16.out (b_up HBC.out (by decide)) (by decide))
  go_wp2_with (go_at_call 43; (with_reducible refine HC17.out.mono ?_); rintro ev w18 ⟨⟨r17, rfl, hr17⟩, hg18⟩; have HG18 := Lib.hid hg18; have HR17 := Lib.hid hr17; clear hg18 hr17)
  have HBD17 : Hid (((a * b) * c) < Dg.D ^ 42) := Lib.hid (b_mul HBD16.out HBC.out rfl)
  have HC18 := Lib.hid (c_mul ((HPB.out.gr ((((((((((((((HG4.out.tr HG5.out).tr HG6.out).tr HG7.out).tr HG8.out).tr HG9.out).tr HG10.out).tr HG11.out).tr HG12.out).tr HG13.out).tr HG14.out).tr HG15.out).tr HG16.out).tr HG17.out).tr HG18.out)).at_) ((HPC.out.gr (((((((((((((HG5.out.tr HG6.out).tr HG7.out).tr HG8.out).tr HG9.out).tr HG10.out).tr HG11.out).tr HG12.out).tr HG13.out).tr HG14.out).tr HG15.out).tr HG16.out).tr HG17.out).tr HG18.out)).at_) (k := 14) HBB.out HBC.out (by decide))
  go_wp2_with (go_at_call 43; (with_reducible refine HC18.out.mono ?_); rintro ev w19 ⟨⟨r18, rfl, hr18⟩, hg19⟩; have HG19 := Lib.hid hg19; have HR18 := Lib.hid hr18; clear hg19 hr18)
  have HBD18 : Hid ((b * c) < Dg.D ^ 28) := Lib.hid (b_mul HBB.out HBC.out rfl)
  have HC19 := Lib.hid (c_mul ((HPA.out.gr ((((((((((((((((HG3.out.tr HG4.out).tr HG5.out).tr HG6.out).tr HG7.out).tr HG8.out).tr HG9.out).tr HG10.out).tr HG11.out).tr HG12.out).tr HG13.out).tr HG14.out).tr HG15.out).tr HG16.out).tr HG17.out).tr HG18.out).tr HG19.out)).at_) (HR18.out.at_) (k := 28) (b_up HBA.out (by decide)) HBD18.out (by decide))
  go_wp2_with (go_at_call 43; (with_reducible refine HC19.out.mono ?_); rintro ev w20 ⟨⟨r19, rfl, hr19⟩, hg20⟩; have HG20 := Lib.hid hg20; have HR19 := Lib.hid hr19; clear hg20 hr19)
  have HBD19 : Hid ((a * (b * c)) < Dg.D ^ 42) := Lib.hid (b_mul HBA.out HBD18.out rfl)
  have HC20 := Lib.hid (c_cmp ((HR17.out.gr (HG19.out.tr HG20.out)).at_) (HR19.out.at_) (k := 42) HBD17.out HBD19.out (by decide) (z := 0) (cmp_same (Nat.mul_assoc a b c)))
  go_wp2_with (go_at_call 47; (with_reducible refine HC20.out.mono ?_); rintro ev w21 ⟨rfl, hg21⟩; have HG21 := Lib.hid hg21; clear hg21 )
  by_cases hb0 : b = 0
  · have HB0 := Lib.hid hb0
    clear hb0
    have HC21 := Lib.hid (c_zero ((HPB.out.gr (((((((((((((((((HG4.out.tr HG5.out).tr HG6.out).tr HG7.out).tr HG8.out).tr HG9.out).tr HG10.out).tr HG11.out).tr HG12.out).tr HG13.out).tr HG14.out).tr HG15.out).tr HG16.out).tr HG17.out).tr HG18.out).tr HG19.out).tr HG20.out).tr HG21.out)).at_) (z := true) (beq_iff_eq.2 HB0.out))
    go_wp2_with (go_at_call 71; (with_reducible refine HC21.out.mono ?_); rintro ev w22 ⟨rfl, hg22⟩; have HG22 := Lib.hid hg22; clear hg22 )
    go_ret
    exact ⟨by first | rfl | exact ret_bool (by simp), (((((((((((((((((((((HG1.out.tr HG2.out).tr HG3.out).tr HG4.out).tr HG5.out).tr HG6.out).tr HG7.out).tr HG8.out).tr HG9.out).tr HG10.out).tr HG11.out).tr HG12.out).tr HG13.out).tr HG14.out).tr HG15.out).tr HG16.out).tr HG17.out).tr HG18.out).tr HG19.out).tr HG20.out).tr HG21.out).tr HG22.out)⟩
  · have HB0 : Hid (0 < b) := Lib.hid (Nat.pos_of_ne_zero hb0)
    have HBN := Lib.hid hb0
    clear hb0
    have HC21 := Lib.hid (c_zero ((HPB.out.gr (((((((((((((((((HG4.out.tr HG5.out).tr HG6.out).tr HG7.out).tr HG8.out).tr HG9.out).tr HG10.out).tr HG11.out).tr HG12.out).tr HG13.out).tr HG14.out).tr HG15.out).tr HG16.out).tr HG17.out).tr HG18.out).tr HG19.out).tr HG20.out).tr HG21.out)).at_) (z := false) (beq_eq_false_iff_ne.2 HBN.out))
    go_wp2_with (go_at_call 71; (with_reducible refine HC21.out.mono ?_); rintro ev w22 ⟨rfl, hg22⟩; have HG22 := Lib.hid hg22; clear hg22 )
    have HC22 := Lib.hid (c_mul ((HPA.out.gr (((((((((((((((((((HG3.out.tr HG4.out).tr HG5.out).tr HG6.out).tr HG7.out).tr HG8.out).tr HG9.out).tr HG10.out).tr HG11.out).tr HG12.out).tr HG13.out).tr HG14.out).tr HG15.out).tr HG16.out).tr HG17.out).tr HG18.out).tr HG19.out).tr HG20.out).tr HG21.out).tr HG22.out)).at_) ((HPB.out.gr ((((((((((((((((((HG4.out.tr HG5.out).tr HG6.out).tr HG7.out).tr HG8.out).tr HG9.out).tr HG10.out).tr HG11.out).tr HG12.out).tr HG13.out).tr HG14.out).tr HG15.out).tr HG16.out).tr HG17.out).tr HG18.out).tr HG19.out).tr HG20.out).tr HG21.out).tr HG22.out)).at_) (k := 14) HBA.out HBB.out (by decide))
    go_wp2_with (go_at_call 43; (with_reducible refine HC22.out.mono ?_); rintro ev w23 ⟨⟨r22, rfl, hr22⟩, hg23⟩; have HG23 := Lib.hid hg23; have HR22 := Lib.hid hr22; clear hg23 hr22)
    have HBD22 : Hid ((a * b) < Dg.D ^ 28) := Lib.hid (b_mul HBA.out HBB.out rfl)
    have HC23 := Lib.hid (c_add (HR22.out.at_) ((HPC.out.gr ((((((((((((((((((HG5.out.tr HG6.out).tr HG7.out).tr HG8.out).tr HG9.out).tr HG10.out).tr HG11.out).tr HG12.out).tr HG13.out).tr HG14.out).tr HG15.out).tr HG16.out).tr HG17.out).tr HG18.out).tr HG19.out).tr HG20.out).tr HG21.out).tr HG22.out).tr HG23.out)).at_) (k := 28) HBD22.out (b_up HBC.out (by decide)) (by decide))
    go_wp2_with (go_at_call 46; (with_reducible refine HC23.out.mono ?_); rintro ev w24 ⟨⟨r23, rfl, hr23⟩, hg24⟩; have HG24 := Lib.hid hg24; have HR23 := Lib.hid hr23; clear hg24 hr23)
    have HBD23 : Hid (((a * b) + c) < Dg.D ^ 29) := Lib.hid (b_add HBD22.out (b_up HBC.out (by decide)) rfl)
    have HC24 := Lib.hid (c_div (HR23.out.at_) ((HPB.out.gr ((((((((((((((((((((HG4.out.tr HG5.out).tr HG6.out).tr HG7.out).tr HG8.out).tr HG9.out).tr HG10.out).tr HG11.out).tr HG12.out).tr HG13.out).tr HG14.out).tr HG15.out).tr HG16.out).tr HG17.out).tr HG18.out).tr HG19.out).tr HG20.out).tr HG21.out).tr HG22.out).tr HG23.out).tr HG24.out)).at_) (k := 29) HBD23.out (b_up HBB.out (by decide)) (by decide) HB0.out)
    go_wp2_with (go_at_call 66; (with_reducible refine HC24.out.mono ?_); rintro ev w25 ⟨⟨q24, r24, rfl, hq24, hr24⟩, hg25⟩; have HG25 := Lib.hid hg25; have HQ24 := Lib.hid hq24; have HR24 := Lib.hid hr24; clear hg25 hq24 hr24)
    have HBQ24 : Hid ((((a * b) + c) / b) < Dg.D ^ 29) := Lib.hid (b_div HBD23.out)
    have HBD24 : Hid ((((a * b) + c) % b) < Dg.D ^ 29) := Lib.hid (b_mod HBD23.out)
    have HC25 := Lib.hid (c_mul (HQ24.out.at_) ((HPB.out.gr (((((((((((((((((((((HG4.out.tr HG5.out).tr HG6.out).tr HG7.out).tr HG8.out).tr HG9.out).tr HG10.out).tr HG11.out).tr HG12.out).tr HG13.out).tr HG14.out).tr HG15.out).tr HG16.out).tr HG17.out).tr HG18.out).tr HG19.out).tr HG20.out).tr HG21.out).tr HG22.out).tr HG23.out).tr HG24.out).tr HG25.out)).at_) (k := 29) HBQ24.out (b_up HBB.out (by decide)) (by decide))
    go_wp2_with (go_at_call 43; (with_reducible refine HC25.out.mono ?_); rintro ev w26 ⟨⟨r25, rfl, hr25⟩, hg26⟩; have HG26 := Lib.hid hg26; have HR25 := Lib.hid hr25; clear hg26 hr25)
    have HBD25 : Hid (((((a * b) + c) / b) * b) < Dg.D ^ 43) := Lib.hid (b_mul HBQ24.out HBB.out rfl)
    have HC26 := Lib.hid (c_add (HR25.out.at_) ((HR24.out.gr HG26.out).at_) (k := 43) HBD25.out (b_up HBD24.out (by decide)) (by decide))
    go_wp2_with (go_at_call 46; (with_reducible refine HC26.out.mono ?_); rintro ev w27 ⟨⟨r26, rfl, hr26⟩, hg27⟩; have HG27 := Lib.hid hg27; have HR26 := Lib.hid hr26; clear hg27 hr26)
    have HBD26 : Hid ((((((a * b) + c) / b) * b) + (((a * b) + c) % b)) < Dg.D ^ 44) := Lib.hid (b_add HBD25.out (b_up HBD24.out (by decide)) rfl)
    have HC27 := Lib.hid (c_mul ((HPA.out.gr ((((((((((((((((((((((((HG3.out.tr HG4.out).tr HG5.out).tr HG6.out).tr HG7.out).tr HG8.out).tr HG9.out).tr HG10.out).tr HG11.out).tr HG12.out).tr HG13.out).tr HG14.out).tr HG15.out).tr HG16.out).tr HG17.out).tr HG18.out).tr HG19.out).tr HG20.out).tr HG21.out).tr HG22.out).tr HG23.out).tr HG24.out).tr HG25.out).tr HG26.out).tr HG27.out)).at_) ((HPB.out.gr (((((((((((((((((((((((HG4.out.tr HG5.out).tr HG6.out).tr HG7.out).tr HG8.out).tr HG9.out).tr HG10.out).tr HG11.out).tr HG12.out).tr HG13.out).tr HG14.out).tr HG15.out).tr HG16.out).tr HG17.out).tr HG18.out).tr HG19.out).tr HG20.out).tr HG21.out).tr HG22.out).tr HG23.out).tr HG24.out).tr HG25.out).tr HG26.out).tr HG27.out)).at_) (k := 14) HBA.out HBB.out (by decide))
    go_wp2_with (go_at_call 43; (with_reducible refine HC27.out.mono ?_); rintro ev w28 ⟨⟨r27, rfl, hr27⟩, hg28⟩; have HG28 := Lib.hid hg28; have HR27 := Lib.hid hr27; clear hg28 hr27)
    have HBD27 : Hid ((a * b) < Dg.D ^ 28) := Lib.hid (b_mul HBA.out HBB.out rfl)
    have HC28 := Lib.hid (c_add (HR27.out.at_) ((HPC.out.gr (((((((((((((((((((((((HG5.out.tr HG6.out).tr HG7.out).tr HG8.out).tr HG9.out).tr HG10.out).tr HG11.out).tr HG12.out).tr HG13.out).tr HG14.out).tr HG15.out).tr HG16.out).tr HG17.out).tr HG18.out).tr HG19.out).tr HG20.out).tr HG21.out).tr HG22.out).tr HG23.out).tr HG24.out).tr HG25.out).tr HG26.out).tr HG27.out).tr HG28.out)).at_) (k := 28) HBD27.out (b_up HBC.out (by decide)) (by decide))
    go_wp2_with (go_at_call 46; (with_reducible refine HC28.out.mono ?_); rintro ev w29 ⟨⟨r28, rfl, hr28⟩, hg29⟩; have HG29 := Lib.hid hg29; have HR28 := Lib.hid hr28; clear hg29 hr28)
    have HBD28 : Hid (((a * b) + c) < Dg.D ^ 29) := Lib.hid (b_add HBD27.out (b_up HBC.out (by decide)) rfl)
    have HC29 := Lib.hid (c_cmp ((HR26.out.gr (HG28.out.tr HG29.out)).at_) (HR28.out.at_) (k := 44) HBD26.out (b_up HBD28.out (by decide)) (by decide) (z := 0) (cmp_same (by rw [Nat.mul_comm]; exact Nat.div_add_mod (a * b + c) b)))
    go_wp2_with (go_at_call 47; (with_reducible refine HC29.out.mono ?_); rintro ev w30 ⟨rfl, hg30⟩; have HG30 := Lib.hid hg30; clear hg30 )
    have HC30 := Lib.hid (c_cmp ((HR24.out.gr ((((HG26.out.tr HG27.out).tr HG28.out).tr HG29.out).tr HG30.out)).at_) ((HPB.out.gr ((((((((((((((((((((((((((HG4.out.tr HG5.out).tr HG6.out).tr HG7.out).tr HG8.out).tr HG9.out).tr HG10.out).tr HG11.out).tr HG12.out).tr HG13.out).tr HG14.out).tr HG15.out).tr HG16.out).tr HG17.out).tr HG18.out).tr HG19.out).tr HG20.out).tr HG21.out).tr HG22.out).tr HG23.out).tr HG24.out).tr HG25.out).tr HG26.out).tr HG27.out).tr HG28.out).tr HG29.out).tr HG30.out)).at_) (k := 29) HBD24.out (b_up HBB.out (by decide)) (by decide) (z := -1) (cmpN_lt (Nat.mod_lt _ HB0.out)))
    go_wp2_with (go_at_call 47; (with_reducible refine HC30.out.mono ?_); rintro ev w31 ⟨rfl, hg31⟩; have HG31 := Lib.hid hg31; clear hg31 )
    have HC31 := Lib.hid (c_gcd (HM.out.gr ((((((((((((((((((((((((((((((HG1.out.tr HG2.out).tr HG3.out).tr HG4.out).tr HG5.out).tr HG6.out).tr HG7.out).tr HG8.out).tr HG9.out).tr HG10.out).tr HG11.out).tr HG12.out).tr HG13.out).tr HG14.out).tr HG15.out).tr HG16.out).tr HG17.out).tr HG18.out).tr HG19.out).tr HG20.out).tr HG21.out).tr HG22.out).tr HG23.out).tr HG24.out).tr HG25.out).tr HG26.out).tr HG27.out).tr HG28.out).tr HG29.out).tr HG30.out).tr HG31.out)).2.1 ((HPA.out.gr ((((((((((((((((((((((((((((HG3.out.tr HG4.out).tr HG5.out).tr HG6.out).tr HG7.out).tr HG8.out).tr HG9.out).tr HG10.out).tr HG11.out).tr HG12.out).tr HG13.out).tr HG14.out).tr HG15.out).tr HG16.out).tr HG17.out).tr HG18.out).tr HG19.out).tr HG20.out).tr HG21.out).tr HG22.out).tr HG23.out).tr HG24.out).tr HG25.out).tr HG26.out).tr HG27.out).tr HG28.out).tr HG29.out).tr HG30.out).tr HG31.out)).at_) ((HPB.out.gr (((((((((((((((((((((((((((HG4.out.tr HG5.out).tr HG6.out).tr HG7.out).tr HG8.out).tr HG9.out).tr HG10.out).tr HG11.out).tr HG12.out).tr HG13.out).tr HG14.out).tr HG15.out).tr HG16.out).tr HG17.out).tr HG18.out).tr HG19.out).tr HG20.out).tr HG21.out).tr HG22.out).tr HG23.out).tr HG24.out).tr HG25.out).tr HG26.out).tr HG27.out).tr HG28.out).tr HG29.out).tr HG30.out).tr HG31.out)).at_) (k := 14) HBA.out HBB.out (by decide))
    go_wp2_with (go_at_call 69; (with_reducible refine HC31.out.mono ?_); rintro ev w32 ⟨⟨r31, rfl, hr31⟩, hg32⟩; have HG32 := Lib.hid hg32; have HR31 := Lib.hid hr31; clear hg32 hr31)
    have HBD31 : Hid ((Nat.gcd a b) < Dg.D ^ 14) := Lib.hid (b_gcd HBA.out HBB.out)
    have HC32 := Lib.hid (c_div ((HPA.out.gr (((((((((((((((((((((((((((((HG3.out.tr HG4.out).tr HG5.out).tr HG6.out).tr HG7.out).tr HG8.out).tr HG9.out).tr HG10.out).tr HG11.out).tr HG12.out).tr HG13.out).tr HG14.out).tr HG15.out).tr HG16.out).tr HG17.out).tr HG18.out).tr HG19.out).tr HG20.out).tr HG21.out).tr HG22.out).tr HG23.out).tr HG24.out).tr HG25.out).tr HG26.out).tr HG27.out).tr HG28.out).tr HG29.out).tr HG30.out).tr HG31.out).tr HG32.out)).at_) HR31.out (k := 14) HBA.out HBD31.out (by decide) (Nat.gcd_pos_of_pos_right a HB0.out))
    go_wp2_with (go_at_call 66; (with_reducible refine HC32.out.mono ?_); rintro ev w33 ⟨⟨q32, r32, rfl, hq32, hr32⟩, hg33⟩; have HG33 := Lib.hid hg33; have HQ32 := Lib.hid hq32; have HR32 := Lib.hid hr32; clear hg33 hq32 hr32)
    have HBQ32 : Hid ((a / (Nat.gcd a b)) < Dg.D ^ 14) := Lib.hid (b_div HBA.out)
    have HBD32 : Hid ((a % (Nat.gcd a b)) < Dg.D ^ 14) := Lib.hid (b_mod HBA.out)
    have HC33 := Lib.hid (c_div ((HPB.out.gr (((((((((((((((((((((((((((((HG4.out.tr HG5.out).tr HG6.out).tr HG7.out).tr HG8.out).tr HG9.out).tr HG10.out).tr HG11.out).tr HG12.out).tr HG13.out).tr HG14.out).tr HG15.out).tr HG16.out).tr HG17.out).tr HG18.out).tr HG19.out).tr HG20.out).tr HG21.out).tr HG22.out).tr HG23.out).tr HG24.out).tr HG25.out).tr HG26.out).tr HG27.out).tr HG28.out).tr HG29.out).tr HG30.out).tr HG31.out).tr HG32.out).tr HG33.out)).at_) (HR31.out.gr HG33.out) (k := 14) HBB.out HBD31.out (by decide) (Nat.gcd_pos_of_pos_right a HB0.out))
    go_wp2_with (go_at_call 66; (with_reducible refine HC33.out.mono ?_); rintro ev w34 ⟨⟨q33, r33, rfl, hq33, hr33⟩, hg34⟩; have HG34 := Lib.hid hg34; have HQ33 := Lib.hid hq33; have HR33 := Lib.hid hr33; clear hg34 hq33 hr33)
    have HBQ33 : Hid ((b / (Nat.gcd a b)) < Dg.D ^ 14) := Lib.hid (b_div HBB.out)
    have HBD33 : Hid ((b % (Nat.gcd a b)) < Dg.D ^ 14) := Lib.hid (b_mod HBB.out)
    have HC34 := Lib.hid (c_zero ((HR32.out.gr HG34.out).at_) (z := true) (beq_iff_eq.2 (Nat.mod_eq_zero_of_dvd (Nat.gcd_dvd_left a b))))
    go_wp2_with (go_at_call 71; (with_reducible refine HC34.out.mono ?_); rintro ev w35 ⟨rfl, hg35⟩; have HG35 := Lib.hid hg35; clear hg35 )
    have HC35 := Lib.hid (c_zero ((HR33.out.gr HG35.out).at_) (z := true) (beq_iff_eq.2 (Nat.mod_eq_zero_of_dvd (Nat.gcd_dvd_right a b))))
    go_wp2_with (go_at_call 71; (with_reducible refine HC35.out.mono ?_); rintro ev w36 ⟨rfl, hg36⟩; have HG36 := Lib.hid hg36; clear hg36 )
    go_ret
    exact ⟨by first | rfl | exact ret_bool (by simp), (((((((((((((((((((((((((((((((((((HG1.out.tr HG2.out).tr HG3.out).tr HG4.out).tr HG5.out).tr HG6.out).tr HG7.out).tr HG8.out).tr HG9.out).tr HG10.out).tr HG11.out).tr HG12.out).tr HG13.out).tr HG14.out).tr HG15.out).tr HG16.out).tr HG17.out).tr HG18.out).tr HG19.out).tr HG20.out).tr HG21.out).tr HG22.out).tr HG23.out).tr HG24.out).tr HG25.out).tr HG26.out).tr HG27.out).tr HG28.out).tr HG29.out).tr HG30.out).tr HG31.out).tr HG32.out).tr HG33.out).tr HG34.out).tr HG35.out).tr HG36.out)⟩
end Go.Proofs.YtglbdafcfcmffaaGreatDoor
