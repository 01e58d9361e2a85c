/- Layer 2: 'of products of one number the greatest measure is that number by that of the others', walked. -/
import Derived.Test.YtglbdafcfcmffaaGreatDoorQk
import Derived.Test.YtglbdafcfcmffaaGreatDoorUb
namespace Go.Proofs.YtglbdafcfcmffaaGreatDoor
open Go.RowKit Go.Extern.Stop Go.Stop Go.Extern Go.Sort
set_option linter.unusedVariables false
set_option linter.unusedSimpArgs false

set_option maxRecDepth 100000 in
set_option maxHeartbeats 16000000 in
theorem natGcd_calls (s : ByteArray) (t : ByteArray) (u : ByteArray) (hs : s.size ≤ 9223372036854775807) (ht : t.size ≤ 9223372036854775807) (hu : u.size ≤ 9223372036854775807) (w : World) (hM : Met2 w) :
    Calls Tryz.prog 13 #[.string s, .string t, .string u] w fun e w' => e = .returned (.bool true) ∧ Gr w w' := by
  have HM := Lib.hid hM
  clear hM
  go_enter Tryz.func13, Tryz.ntmps13
  have HBG := Lib.hid (begun_met w HM.out)
  go_wp2_with (go_at_call 35; (with_reducible refine HBG.out.mono ?_); rintro ev w1 ⟨rfl, hg1⟩; have HG1 := Lib.hid hg1; clear hg1)
  have HC1 := Lib.hid (n_ptr s hs w1)
  go_wp2_with (go_at_call 64; (with_reducible refine HC1.out.mono ?_); rintro ev w2 ⟨⟨ba, xa, a, rfl, hpa, hxa, hba⟩, hg2⟩; have HG2 := Lib.hid hg2; have HPA := Lib.hid hpa; have HXA := Lib.hid hxa; have HBA := Lib.hid hba; clear hg2 hpa hxa hba)
  have HC2 := Lib.hid (n_ptr t ht w2)
  go_wp2_with (go_at_call 64; (with_reducible refine HC2.out.mono ?_); rintro ev w3 ⟨⟨bb, xb, b, rfl, hpb, hxb, hbb⟩, hg3⟩; have HG3 := Lib.hid hg3; have HPB := Lib.hid hpb; have HXB := Lib.hid hxb; have HBB := Lib.hid hbb; clear hg3 hpb hxb hbb)
  have HC3 := Lib.hid (n_ptr u hu w3)
  go_wp2_with (go_at_call 64; (with_reducible refine HC3.out.mono ?_); rintro ev w4 ⟨⟨bc, xc, c, rfl, hpc, hxc, hbc⟩, hg4⟩; have HG4 := Lib.hid hg4; have HPC := Lib.hid hpc; have HXC := Lib.hid hxc; have HBC := Lib.hid hbc; clear hg4 hpc hxc hbc)
  have HC4 := Lib.hid (c_gcd (HM.out.gr (((HG1.out.tr HG2.out).tr HG3.out).tr HG4.out)).2.1 ((HPA.out.gr (HG3.out.tr HG4.out)).at_) ((HPB.out.gr HG4.out).at_) (k := 14) HBA.out HBB.out (by decide))
  go_wp2_with (go_at_call 69; (with_reducible refine HC4.out.mono ?_); rintro ev w5 ⟨⟨r4, rfl, hr4⟩, hg5⟩; have HG5 := Lib.hid hg5; have HR4 := Lib.hid hr4; clear hg5 hr4)
  have HBD4 : Hid ((Nat.gcd a b) < Dg.D ^ 14) := Lib.hid (b_gcd HBA.out HBB.out)
  have HC5 := Lib.hid (c_mul ((HPA.out.gr ((HG3.out.tr HG4.out).tr HG5.out)).at_) ((HPC.out.gr HG5.out).at_) (k := 14) HBA.out HBC.out (by decide))
  go_wp2_with (go_at_call 43; (with_reducible refine HC5.out.mono ?_); rintro ev w6 ⟨⟨r5, rfl, hr5⟩, hg6⟩; have HG6 := Lib.hid hg6; have HR5 := Lib.hid hr5; clear hg6 hr5)
  have HBD5 : Hid ((a * c) < Dg.D ^ 28) := Lib.hid (b_mul HBA.out HBC.out rfl)
  have HC6 := Lib.hid (c_mul ((HPB.out.gr ((HG4.out.tr HG5.out).tr HG6.out)).at_) ((HPC.out.gr (HG5.out.tr HG6.out)).at_) (k := 14) HBB.out HBC.out (by decide))
  go_wp2_with (go_at_call 43; (with_reducible refine HC6.out.mono ?_); rintro ev w7 ⟨⟨r6, rfl, hr6⟩, hg7⟩; have HG7 := Lib.hid hg7; have HR6 := Lib.hid hr6; clear hg7 hr6)
  have HBD6 : Hid ((b * c) < Dg.D ^ 28) := Lib.hid (b_mul HBB.out HBC.out rfl)
  have HC7 := Lib.hid (c_gcd (HM.out.gr ((((((HG1.out.tr HG2.out).tr HG3.out).tr HG4.out).tr HG5.out).tr HG6.out).tr HG7.out)).2.1 ((HR5.out.gr HG7.out).at_) (HR6.out.at_) (k := 28) HBD5.out HBD6.out (by decide))
  go_wp2_with (go_at_call 69; (with_reducible refine HC7.out.mono ?_); rintro ev w8 ⟨⟨r7, rfl, hr7⟩, hg8⟩; have HG8 := Lib.hid hg8; have HR7 := Lib.hid hr7; clear hg8 hr7)
  have HBD7 : Hid ((Nat.gcd (a * c) (b * c)) < Dg.D ^ 28) := Lib.hid (b_gcd HBD5.out HBD6.out)
  have HC8 := Lib.hid (c_mul (HR4.out.gr ((HG6.out.tr HG7.out).tr HG8.out)) ((HPC.out.gr (((HG5.out.tr HG6.out).tr HG7.out).tr HG8.out)).at_) (k := 14) HBD4.out HBC.out (by decide))
  go_wp2_with (go_at_call 43; (with_reducible refine HC8.out.mono ?_); rintro ev w9 ⟨⟨r8, rfl, hr8⟩, hg9⟩; have HG9 := Lib.hid hg9; have HR8 := Lib.hid hr8; clear hg9 hr8)
  have HBD8 : Hid (((Nat.gcd a b) * c) < Dg.D ^ 28) := Lib.hid (b_mul HBD4.out HBC.out rfl)
  have HC9 := Lib.hid (c_cmp (HR7.out.gr HG9.out) (HR8.out.at_) (k := 28) HBD7.out HBD8.out (by decide) (z := 0) (cmp_same (Nat.gcd_mul_right a c b)))
  go_wp2_with (go_at_call 47; (with_reducible refine HC9.out.mono ?_); rintro ev w10 ⟨rfl, hg10⟩; have HG10 := Lib.hid hg10; clear hg10 )
  have HC10 := Lib.hid (c_gcd (HM.out.gr (((((((((HG1.out.tr HG2.out).tr HG3.out).tr HG4.out).tr HG5.out).tr HG6.out).tr HG7.out).tr HG8.out).tr HG9.out).tr HG10.out)).2.1 ((HPB.out.gr ((((((HG4.out.tr HG5.out).tr HG6.out).tr HG7.out).tr HG8.out).tr HG9.out).tr HG10.out)).at_) ((HPA.out.gr (((((((HG3.out.tr HG4.out).tr HG5.out).tr HG6.out).tr HG7.out).tr HG8.out).tr HG9.out).tr HG10.out)).at_) (k := 14) HBB.out HBA.out (by decide))
  go_wp2_with (go_at_call 69; (with_reducible refine HC10.out.mono ?_); rintro ev w11 ⟨⟨r10, rfl, hr10⟩, hg11⟩; have HG11 := Lib.hid hg11; have HR10 := Lib.hid hr10; clear hg11 hr10)
  have HBD10 : Hid ((Nat.gcd b a) < Dg.D ^ 14) := Lib.hid (b_gcd HBB.out HBA.out)
  have HC11 := Lib.hid (c_cmp (HR4.out.gr (((((HG6.out.tr HG7.out).tr HG8.out).tr HG9.out).tr HG10.out).tr HG11.out)) HR10.out (k := 14) HBD4.out HBD10.out (by decide) (z := 0) (cmp_same (Nat.gcd_comm a b)))
  go_wp2_with (go_at_call 47; (with_reducible refine HC11.out.mono ?_); rintro ev w12 ⟨rfl, hg12⟩; have HG12 := Lib.hid hg12; clear hg12 )
  have HC12 := Lib.hid ((show Calls Tryz.prog 36 #[.int .u64 0] w12 fun e w' => (∃ r, e = .returned r ∧ NatP w' r 0) ∧ Gr w12 w' from c_of 0 (by decide) w12))
  go_wp2_with (go_at_call 36; (with_reducible refine HC12.out.mono ?_); rintro ev w13 ⟨⟨r12, rfl, hr12⟩, hg13⟩; have HG13 := Lib.hid hg13; have HR12 := Lib.hid hr12; clear hg13 hr12)
  have HBD12 : Hid (0 < Dg.D ^ 3) := Lib.hid (b_u64 (by decide))
  have HC13 := Lib.hid (c_gcd (HM.out.gr ((((((((((((HG1.out.tr HG2.out).tr HG3.out).tr HG4.out).tr HG5.out).tr HG6.out).tr HG7.out).tr HG8.out).tr HG9.out).tr HG10.out).tr HG11.out).tr HG12.out).tr HG13.out)).2.1 ((HPA.out.gr ((((((((((HG3.out.tr HG4.out).tr HG5.out).tr HG6.out).tr HG7.out).tr HG8.out).tr HG9.out).tr HG10.out).tr HG11.out).tr HG12.out).tr HG13.out)).at_) (HR12.out.at_) (k := 14) HBA.out (b_up HBD12.out (by decide)) (by decide))
  go_wp2_with (go_at_call 69; (with_reducible refine HC13.out.mono ?_); rintro ev w14 ⟨⟨r13, rfl, hr13⟩, hg14⟩; have HG14 := Lib.hid hg14; have HR13 := Lib.hid hr13; clear hg14 hr13)
  have HBD13 : Hid ((Nat.gcd a 0) < Dg.D ^ 14) := Lib.hid (b_gcd HBA.out (b_up HBD12.out (by decide)))
  have HC14 := Lib.hid (c_cmp HR13.out ((HPA.out.gr (((((((((((HG3.out.tr HG4.out).tr HG5.out).tr HG6.out).tr HG7.out).tr HG8.out).tr HG9.out).tr HG10.out).tr HG11.out).tr HG12.out).tr HG13.out).tr HG14.out)).at_) (k := 14) HBD13.out HBA.out (by decide) (z := 0) (cmp_same (Nat.gcd_zero_right a)))
  go_wp2_with (go_at_call 47; (with_reducible refine HC14.out.mono ?_); rintro ev w15 ⟨rfl, hg15⟩; have HG15 := Lib.hid hg15; clear hg15 )
  have HC15 := Lib.hid (c_gcd (HM.out.gr ((((((((((((((HG1.out.tr HG2.out).tr HG3.out).tr HG4.out).tr HG5.out).tr HG6.out).tr HG7.out).tr HG8.out).tr HG9.out).tr HG10.out).tr HG11.out).tr HG12.out).tr HG13.out).tr HG14.out).tr HG15.out)).2.1 ((HPA.out.gr ((((((((((((HG3.out.tr HG4.out).tr HG5.out).tr HG6.out).tr HG7.out).tr HG8.out).tr HG9.out).tr HG10.out).tr HG11.out).tr HG12.out).tr HG13.out).tr HG14.out).tr HG15.out)).at_) ((HPA.out.gr ((((((((((((HG3.out.tr HG4.out).tr HG5.out).tr HG6.out).tr HG7.out).tr HG8.out).tr HG9.out).tr HG10.out).tr HG11.out).tr HG12.out).tr HG13.out).tr HG14.out).tr HG15.out)).at_) (k := 14) HBA.out HBA.out (by decide))
  go_wp2_with (go_at_call 69; (with_reducible refine HC15.out.mono ?_); rintro ev w16 ⟨⟨r15, rfl, hr15⟩, hg16⟩; have HG16 := Lib.hid hg16; have HR15 := Lib.hid hr15; clear hg16 hr15)
  have HBD15 : Hid ((Nat.gcd a a) < Dg.D ^ 14) := Lib.hid (b_gcd HBA.out HBA.out)
  have HC16 := Lib.hid (c_cmp HR15.out ((HPA.out.gr (((((((((((((HG3.out.tr HG4.out).tr HG5.out).tr HG6.out).tr HG7.out).tr HG8.out).tr HG9.out).tr HG10.out).tr HG11.out).tr HG12.out).tr HG13.out).tr HG14.out).tr HG15.out).tr HG16.out)).at_) (k := 14) HBD15.out HBA.out (by decide) (z := 0) (cmp_same (Nat.gcd_self a)))
  go_wp2_with (go_at_call 47; (with_reducible refine HC16.out.mono ?_); rintro ev w17 ⟨rfl, hg17⟩; have HG17 := Lib.hid hg17; clear hg17 )
  have HC17 := Lib.hid ((show Calls Tryz.prog 36 #[.int .u64 1] w17 fun e w' => (∃ r, e = .returned r ∧ NatP w' r 1) ∧ Gr w17 w' from c_of 1 (by decide) w17))
  go_wp2_with (go_at_call 36; (with_reducible refine HC17.out.mono ?_); rintro ev w18 ⟨⟨r17, rfl, hr17⟩, hg18⟩; have HG18 := Lib.hid hg18; have HR17 := Lib.hid hr17; clear hg18 hr17)
  have HBD17 : Hid (1 < Dg.D ^ 3) := Lib.hid (b_u64 (by decide))
  have HC18 := Lib.hid (c_gcd (HM.out.gr (((((((((((((((((HG1.out.tr HG2.out).tr HG3.out).tr HG4.out).tr HG5.out).tr HG6.out).tr HG7.out).tr HG8.out).tr HG9.out).tr HG10.out).tr HG11.out).tr HG12.out).tr HG13.out).tr HG14.out).tr HG15.out).tr HG16.out).tr HG17.out).tr HG18.out)).2.1 (HR17.out.at_) ((HPA.out.gr (((((((((((((((HG3.out.tr HG4.out).tr HG5.out).tr HG6.out).tr HG7.out).tr HG8.out).tr HG9.out).tr HG10.out).tr HG11.out).tr HG12.out).tr HG13.out).tr HG14.out).tr HG15.out).tr HG16.out).tr HG17.out).tr HG18.out)).at_) (k := 14) (b_up HBD17.out (by decide)) HBA.out (by decide))
  go_wp2_with (go_at_call 69; (with_reducible refine HC18.out.mono ?_); rintro ev w19 ⟨⟨r18, rfl, hr18⟩, hg19⟩; have HG19 := Lib.hid hg19; have HR18 := Lib.hid hr18; clear hg19 hr18)
  have HBD18 : Hid ((Nat.gcd 1 a) < Dg.D ^ 14) := Lib.hid (b_gcd (b_up HBD17.out (by decide)) HBA.out)
  have HC19 := Lib.hid (c_text (HM.out.gr ((((((((((((((((((HG1.out.tr HG2.out).tr HG3.out).tr HG4.out).tr HG5.out).tr HG6.out).tr HG7.out).tr HG8.out).tr HG9.out).tr HG10.out).tr HG11.out).tr HG12.out).tr HG13.out).tr HG14.out).tr HG15.out).tr HG16.out).tr HG17.out).tr HG18.out).tr HG19.out)).2.2 HR18.out (k := 14) HBD18.out (by decide) (by decide) (X := ⟨#[49]⟩) (by rw [Nat.gcd_one_left, Lib.decDigits_one (by decide)]; rfl))
  go_wp2_with (go_at_call 41; (with_reducible refine HC19.out.mono ?_); rintro ev w20 ⟨rfl, hg20⟩; have HG20 := Lib.hid hg20; clear hg20 )
  go_ret
  exact ⟨by first | rfl | exact ret_bool (by simp), (((((((((((((((((((HG1.out.tr HG2.out).tr HG3.out).tr HG4.out).tr HG5.out).tr HG6.out).tr HG7.out).tr HG8.out).tr HG9.out).tr HG10.out).tr HG11.out).tr HG12.out).tr HG13.out).tr HG14.out).tr HG15.out).tr HG16.out).tr HG17.out).tr HG18.out).tr HG19.out).tr HG20.out)⟩
end Go.Proofs.YtglbdafcfcmffaaGreatDoor
