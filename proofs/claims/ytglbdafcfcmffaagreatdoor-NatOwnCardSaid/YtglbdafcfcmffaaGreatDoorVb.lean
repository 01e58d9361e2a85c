/- Layer 2: 'numbers that were reckoned with are as they were', walked. -/
import Derived.Test.YtglbdafcfcmffaaGreatDoorQk
import Derived.Test.YtglbdafcfcmffaaGreatDoorUb
namespace Go.Proofs.YtglbdafcfcmffaaGreatDoor
open Go.RowKit Go.Extern.Stop Go.Stop Go.Extern Go.Sort
set_option linter.unusedVariables false
set_option linter.unusedSimpArgs false

set_option maxRecDepth 100000 in
set_option maxHeartbeats 16000000 in
theorem natOwn_calls (s : ByteArray) (t : ByteArray) (hs : s.size ≤ 9223372036854775807) (ht : t.size ≤ 9223372036854775807) (w : World) (hM : Met2 w) :
    Calls Tryz.prog 14 #[.string s, .string t] w fun e w' => e = .returned (.bool true) ∧ Gr w w' := by
  have HM := Lib.hid hM
  clear hM
  go_enter Tryz.func14, Tryz.ntmps14
  have HBG := Lib.hid (begun_met w HM.out)
  go_wp2_with (go_at_call 35; (with_reducible refine HBG.out.mono ?_); rintro ev w1 ⟨rfl, hg1⟩; have HG1 := Lib.hid hg1; clear hg1)
  have HC1 := Lib.hid (n_ptr s hs w1)
  go_wp2_with (go_at_call 64; (with_reducible refine HC1.out.mono ?_); rintro ev w2 ⟨⟨ba, xa, a, rfl, hpa, hxa, hba⟩, hg2⟩; have HG2 := Lib.hid hg2; have HPA := Lib.hid hpa; have HXA := Lib.hid hxa; have HBA := Lib.hid hba; clear hg2 hpa hxa hba)
  have HC2 := Lib.hid (n_ptr t ht w2)
  go_wp2_with (go_at_call 64; (with_reducible refine HC2.out.mono ?_); rintro ev w3 ⟨⟨bb, xb, b, rfl, hpb, hxb, hbb⟩, hg3⟩; have HG3 := Lib.hid hg3; have HPB := Lib.hid hpb; have HXB := Lib.hid hxb; have HBB := Lib.hid hbb; clear hg3 hpb hxb hbb)
  obtain ⟨X, hX⟩ : ∃ X : ByteArray, X = ⟨(Lib.decDigits a).toArray⟩ := ⟨_, rfl⟩
  obtain ⟨Y, hY⟩ : ∃ Y : ByteArray, Y = ⟨(Lib.decDigits b).toArray⟩ := ⟨_, rfl⟩
  have HXX := Lib.hid hX
  have HYY := Lib.hid hY
  clear hX hY
  have HC3 := Lib.hid (c_text (HM.out.gr ((HG1.out.tr HG2.out).tr HG3.out)).2.2 ((HPA.out.gr HG3.out).at_) (k := 14) HBA.out (by decide) (by decide) (X := X) HXX.out)
  go_wp2_with (go_at_call 41; (with_reducible refine HC3.out.mono ?_); rintro ev w4 ⟨rfl, hg4⟩; have HG4 := Lib.hid hg4; clear hg4 )
  have HC4 := Lib.hid (c_text (HM.out.gr (((HG1.out.tr HG2.out).tr HG3.out).tr HG4.out)).2.2 ((HPB.out.gr HG4.out).at_) (k := 14) HBB.out (by decide) (by decide) (X := Y) HYY.out)
  go_wp2_with (go_at_call 41; (with_reducible refine HC4.out.mono ?_); rintro ev w5 ⟨rfl, hg5⟩; have HG5 := Lib.hid hg5; clear hg5 )
  have HC5 := Lib.hid (c_add ((HPA.out.gr ((HG3.out.tr HG4.out).tr HG5.out)).at_) ((HPB.out.gr (HG4.out.tr HG5.out)).at_) (k := 14) HBA.out HBB.out (by decide))
  go_wp2_with (go_at_call 46; (with_reducible refine HC5.out.mono ?_); rintro ev w6 ⟨⟨r5, rfl, hr5⟩, hg6⟩; have HG6 := Lib.hid hg6; have HR5 := Lib.hid hr5; clear hg6 hr5)
  have HBD5 : Hid ((a + b) < Dg.D ^ 15) := Lib.hid (b_add HBA.out HBB.out rfl)
  have HC6 := Lib.hid (c_mul ((HPA.out.gr (((HG3.out.tr HG4.out).tr HG5.out).tr HG6.out)).at_) ((HPB.out.gr ((HG4.out.tr HG5.out).tr HG6.out)).at_) (k := 14) HBA.out HBB.out (by decide))
  go_wp2_with (go_at_call 43; (with_reducible refine HC6.out.mono ?_); rintro ev w7 ⟨⟨r6, rfl, hr6⟩, hg7⟩; have HG7 := Lib.hid hg7; have HR6 := Lib.hid hr6; clear hg7 hr6)
  have HBD6 : Hid ((a * b) < Dg.D ^ 28) := Lib.hid (b_mul HBA.out HBB.out rfl)
  have HC7 := Lib.hid (c_sub_any ((HPA.out.gr ((((HG3.out.tr HG4.out).tr HG5.out).tr HG6.out).tr HG7.out)).at_) ((HPB.out.gr (((HG4.out.tr HG5.out).tr HG6.out).tr HG7.out)).at_) (k := 14) HBA.out HBB.out (by decide))
  go_wp2_with (go_at_call 40; (with_reducible refine HC7.out.mono ?_); rintro ev w8 ⟨⟨v7, rfl⟩, hg8⟩; have HG8 := Lib.hid hg8; clear hg8 )
  have HC8 := Lib.hid (c_sub_any ((HPB.out.gr ((((HG4.out.tr HG5.out).tr HG6.out).tr HG7.out).tr HG8.out)).at_) ((HPA.out.gr (((((HG3.out.tr HG4.out).tr HG5.out).tr HG6.out).tr HG7.out).tr HG8.out)).at_) (k := 14) HBB.out HBA.out (by decide))
  go_wp2_with (go_at_call 40; (with_reducible refine HC8.out.mono ?_); rintro ev w9 ⟨⟨v8, rfl⟩, hg9⟩; have HG9 := Lib.hid hg9; clear hg9 )
  have HC9 := Lib.hid (c_div_any ((HPA.out.gr ((((((HG3.out.tr HG4.out).tr HG5.out).tr HG6.out).tr HG7.out).tr HG8.out).tr HG9.out)).at_) ((HPB.out.gr (((((HG4.out.tr HG5.out).tr HG6.out).tr HG7.out).tr HG8.out).tr HG9.out)).at_) (k := 14) HBA.out HBB.out (by decide))
  go_wp2_with (go_at_call 66; (with_reducible refine HC9.out.mono ?_); rintro ev w10 ⟨⟨v9, rfl⟩, hg10⟩; have HG10 := Lib.hid hg10; clear hg10 )
  have HC10 := Lib.hid (c_gcd (HM.out.gr (((((((((HG1.out.tr HG2.out).tr HG3.out).tr HG4.out).tr HG5.out).tr HG6.out).tr HG7.out).tr HG8.out).tr HG9.out).tr HG10.out)).2.1 ((HPA.out.gr (((((((HG3.out.tr HG4.out).tr HG5.out).tr HG6.out).tr HG7.out).tr HG8.out).tr HG9.out).tr HG10.out)).at_) ((HPB.out.gr ((((((HG4.out.tr HG5.out).tr HG6.out).tr HG7.out).tr HG8.out).tr HG9.out).tr HG10.out)).at_) (k := 14) HBA.out HBB.out (by decide))
  go_wp2_with (go_at_call 69; (with_reducible refine HC10.out.mono ?_); rintro ev w11 ⟨⟨r10, rfl, hr10⟩, hg11⟩; have HG11 := Lib.hid hg11; have HR10 := Lib.hid hr10; clear hg11 hr10)
  have HBD10 : Hid ((Nat.gcd a b) < Dg.D ^ 14) := Lib.hid (b_gcd HBA.out HBB.out)
  have HC11 := Lib.hid (c_pow3 ((HPA.out.gr ((((((((HG3.out.tr HG4.out).tr HG5.out).tr HG6.out).tr HG7.out).tr HG8.out).tr HG9.out).tr HG10.out).tr HG11.out)).at_) (k := 14) HBA.out (by decide) (by decide))
  go_wp2_with (go_at_call 37; (with_reducible refine HC11.out.mono ?_); rintro ev w12 ⟨⟨v11, rfl⟩, hg12⟩; have HG12 := Lib.hid hg12; clear hg12 )
  have HC12 := Lib.hid (c_root ((HPA.out.gr (((((((((HG3.out.tr HG4.out).tr HG5.out).tr HG6.out).tr HG7.out).tr HG8.out).tr HG9.out).tr HG10.out).tr HG11.out).tr HG12.out)).at_) (k := 14) HBA.out (by decide) (by decide))
  go_wp2_with (go_at_call 73; (with_reducible refine HC12.out.mono ?_); rintro ev w13 ⟨⟨v12, rfl⟩, hg13⟩; have HG13 := Lib.hid hg13; clear hg13 )
  have HC13 := Lib.hid (c_text (HM.out.gr ((((((((((((HG1.out.tr HG2.out).tr HG3.out).tr HG4.out).tr HG5.out).tr HG6.out).tr HG7.out).tr HG8.out).tr HG9.out).tr HG10.out).tr HG11.out).tr HG12.out).tr HG13.out)).2.2 ((HPA.out.gr ((((((((((HG3.out.tr HG4.out).tr HG5.out).tr HG6.out).tr HG7.out).tr HG8.out).tr HG9.out).tr HG10.out).tr HG11.out).tr HG12.out).tr HG13.out)).at_) (k := 14) HBA.out (by decide) (by decide) (X := X) HXX.out)
  go_wp2_with (go_at_call 41; (with_reducible refine HC13.out.mono ?_); rintro ev w14 ⟨rfl, hg14⟩; have HG14 := Lib.hid hg14; clear hg14 )
  have HC14 := Lib.hid (c_text (HM.out.gr (((((((((((((HG1.out.tr HG2.out).tr HG3.out).tr HG4.out).tr HG5.out).tr HG6.out).tr HG7.out).tr HG8.out).tr HG9.out).tr HG10.out).tr HG11.out).tr HG12.out).tr HG13.out).tr HG14.out)).2.2 ((HPB.out.gr ((((((((((HG4.out.tr HG5.out).tr HG6.out).tr HG7.out).tr HG8.out).tr HG9.out).tr HG10.out).tr HG11.out).tr HG12.out).tr HG13.out).tr HG14.out)).at_) (k := 14) HBB.out (by decide) (by decide) (X := Y) HYY.out)
  go_wp2_with (go_at_call 41; (with_reducible refine HC14.out.mono ?_); rintro ev w15 ⟨rfl, hg15⟩; have HG15 := Lib.hid hg15; clear hg15 )
  go_ret
  exact ⟨by first | rfl | exact ret_bool (by simp), ((((((((((((((HG1.out.tr HG2.out).tr HG3.out).tr HG4.out).tr HG5.out).tr HG6.out).tr HG7.out).tr HG8.out).tr HG9.out).tr HG10.out).tr HG11.out).tr HG12.out).tr HG13.out).tr HG14.out).tr HG15.out)⟩
end Go.Proofs.YtglbdafcfcmffaaGreatDoor
