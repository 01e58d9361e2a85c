/- Layer 5: decimals: whole, Round, Units, Put of fractions of any length; (*Int).Div by contract. -/
import Derived.Test.YtcjjgdoafkdeaaaGreatDoorWa
namespace Go.Proofs.YtcjjgdoafkdeaaaGreatDoor
open Go.RowKit Go.Extern.Stop Go.Stop Go.Extern Go.Sort
set_option linter.unusedVariables false
set_option linter.unusedSimpArgs false

set_option maxRecDepth 100000 in
set_option maxHeartbeats 8000000 in
/-- dec.whole. -/
theorem wholeG_calls (x y : Value) (n d m : Int) (w : World) (hx : IntAt w x n) (hy : IntAt w y d) (k : Nat) (hn : n.natAbs + 1 < B ^ k) (hd : d.natAbs * 2 < B ^ k) (hd0 : d ≠ 0) (hk1 : 2 ≤ k) (hk : k ≤ 1000) (hm : m = 1 ∨ m = 2 ∨ m = 3) :
    Calls Tryz.prog 71 #[x, y, .int .i64 m] w fun e w' => (∃ r, e = .returned r ∧ IntP w' r (sgn (decide (n < 0)) (roundN n.natAbs d.natAbs m))) ∧ Gr w w' := by
  have HX := Lib.hid (fun w' (hg : Gr w w') => abs_calls x n w' (hx.gr hg))
  have HY := Lib.hid (fun w' (hg : Gr w w') => abs_calls y d w' (hy.gr hg))
  have HSX := Lib.hid (fun w' (hg : Gr w w') => sign_calls x n w' (hx.gr hg))
  have hbs : decide (n.sign < 0) = decide (n < 0) := decide_eq_decide.2 (sign_neg_iff n)
  have hdp : 0 < d.natAbs := by omega
  have hBk : B * 2 ≤ B ^ k := by
    calc B * 2 ≤ B * B := Nat.mul_le_mul_left _ (by decide)
      _ = B ^ 2 := (Nat.pow_two B).symm
      _ ≤ B ^ k := Nat.pow_le_pow_right B_pos hk1
  generalize n.natAbs = a at *
  generalize d.natAbs = b at *
  have hq : a / b ≤ a := Nat.div_le_self _ _
  have hr : a % b < b := Nat.mod_lt _ hdp
  have HDV := Lib.hid (fun (r3 r4 : Value) (w4 : World) h3 h4 => div_calls r3 r4 a b w4 h3 h4 k (by omega) (by omega) (by omega))
  have hrn := roundN_up a b m
  have hro := roundN_no a b m
  generalize roundN a b m = RN at *
  generalize hqq : a / b = q at *
  generalize hrr : a % b = r at *
  obtain ⟨bb, hbb⟩ : ∃ bb : Bool, decide (n < 0) = bb := ⟨_, rfl⟩
  rw [hbb] at hbs ⊢
  generalize n.sign = sn at HSX hbs
  have HD2 := Lib.hid (fun (r3 r4 : Value) (w4 : World) h3 h4 => div1_calls r3 r4 q 2 w4 h3 h4 k (by omega) (by decide) (by omega))
  have hod : q % 2 = 0 ∨ q % 2 = 1 := Nat.mod_two_eq_zero_or_one q
  have HCM := Lib.hid (fun (r3 r4 : Value) (w4 : World) h3 h4 => cmp_calls r3 r4 (r + r) b w4 h3 h4 k (by omega) (by omega) (by omega))
  have HRR := Lib.hid (fun (r3 : Value) (w4 : World) h3 => add_calls r3 r3 r r w4 h3 h3 k (by omega) (by omega) (by omega))
  have HQ1 := Lib.hid (fun (r3 r4 : Value) (w4 : World) h3 h4 => add_calls r3 r4 q 1 w4 h3 h4 k (by omega) (by omega) (by omega))
  have HP := Lib.hid hdp
  have HU := Lib.hid hrn
  have HO := Lib.hid hro
  have HH := Lib.hid (And.intro hd0 (And.intro hn hqq))
  clear hx hy hn hd hd0 hrn hro hBk hq hr hdp hqq hrr hbb hk1 hk
  generalize q % 2 = o at *
  have HOD0 := Lib.hid hod
  clear hod
  rcases hm with rfl | rfl | rfl
  · rcases Nat.lt_trichotomy (r + r) b with hc | hc | hc
    · have HOD := HOD0
      have HC := Lib.hid hc
      have HA1 := Lib.hid (HX.out w (Gr.rf w))
      go_enter Tryz.func71, Tryz.ntmps71
      go_wp2_with (go_at_call 97; (with_reducible refine HA1.out.mono ?_); rintro ev w1 ⟨⟨r1, rfl, hr1⟩, hg1⟩; have HR1 := Lib.hid hr1; clear hr1)
      have HA2 := Lib.hid (HY.out w1 hg1)
      go_wp2_with (go_at_call 97; (with_reducible refine HA2.out.mono ?_); rintro ev w2 ⟨⟨r2, rfl, hr2⟩, hg2⟩; have HR2 := Lib.hid hr2; clear hr2)
      have g2 := hg1.tr hg2
      have HA3 := Lib.hid (HDV.out r1 r2 w2 (HR1.out.gr hg2) HR2.out)
      go_wp2_with (go_at_call 55; (with_reducible refine HA3.out.mono ?_); rintro ev w3 ⟨⟨_, hdv⟩, hg3⟩; obtain ⟨q3, r3, rfl, hq3, hr3⟩ := hdv HP.out; have HQ3 := Lib.hid hq3; have HR3 := Lib.hid hr3; clear hq3 hr3 hdv)
      have g3 := g2.tr hg3
      go_wp2_with (go_at_call 54; (with_reducible refine (of2_calls _).mono ?_); rintro ev w4 ⟨⟨r4, rfl, hr4⟩, hg4⟩; have HR4 := Lib.hid hr4; clear hr4)
      have g4 := g3.tr hg4
      have HA5 := Lib.hid (HD2.out q3 r4 w4 (HQ3.out.gr hg4) HR4.out)
      go_wp2_with (go_at_call 55; (with_reducible refine HA5.out.mono ?_); rintro ev w5 ⟨⟨_, hdv⟩, hg5⟩; obtain ⟨q5, r5, rfl, hq5, hr5⟩ := hdv (by decide); have HR5 := Lib.hid hr5; clear hq5 hr5 hdv)
      have g5 := g4.tr hg5
      have HA6 := Lib.hid (HRR.out r3 w5 (HR3.out.gr (hg4.tr hg5)))
      go_wp2_with (go_at_call 59; (with_reducible refine HA6.out.mono ?_); rintro ev w6 ⟨⟨r6, rfl, hr6⟩, hg6⟩; have HR6 := Lib.hid hr6; clear hr6)
      have g6 := g5.tr hg6
      have HA7 := Lib.hid (HY.out w6 g6)
      go_wp2_with (go_at_call 97; (with_reducible refine HA7.out.mono ?_); rintro ev w7 ⟨⟨r7, rfl, hr7⟩, hg7⟩; have HR7 := Lib.hid hr7; clear hr7)
      have g7 := g6.tr hg7
      have ha8 := HCM.out r6 r7 w7 (HR6.out.gr hg7) HR7.out
      rw [cmpN_lt hc] at ha8
      have HA8 := Lib.hid ha8
      clear ha8 hc
      go_wp2_with (go_at_call 60; (with_reducible refine HA8.out.mono ?_); rintro ev w8 ⟨rfl, hg8⟩)
      have g8 := g7.tr hg8
      have HQ8 := Lib.hid (HQ3.out.gr ((hg4.tr hg5).tr ((hg6.tr hg7).tr hg8)))
      have g11 := g8
      have HR11 := HQ8
      have HA12 := Lib.hid (HSX.out _ g11)
      go_wp2_with (go_at_call 89; (with_reducible refine HA12.out.mono ?_); rintro ev w12 ⟨rfl, hg12⟩)
      have HA13 := Lib.hid (newP_calls bb _ _ w12 (HR11.out.gr hg12).at_)
      go_wp2_with (go_at_call 66; (with_reducible refine HA13.out.mono ?_); rintro ev w13 ⟨⟨r13, rfl, hr13⟩, hg13⟩; have HR13 := Lib.hid hr13; clear hr13)
      go_ret
      exact ⟨⟨_, rfl, by rw [HO.out (by have := HC.out; have := HOD.out; omega)]; exact HR13.out⟩, (g11.tr hg12).tr hg13⟩
    · have HOD := HOD0
      have HC := Lib.hid hc
      have HA1 := Lib.hid (HX.out w (Gr.rf w))
      go_enter Tryz.func71, Tryz.ntmps71
      go_wp2_with (go_at_call 97; (with_reducible refine HA1.out.mono ?_); rintro ev w1 ⟨⟨r1, rfl, hr1⟩, hg1⟩; have HR1 := Lib.hid hr1; clear hr1)
      have HA2 := Lib.hid (HY.out w1 hg1)
      go_wp2_with (go_at_call 97; (with_reducible refine HA2.out.mono ?_); rintro ev w2 ⟨⟨r2, rfl, hr2⟩, hg2⟩; have HR2 := Lib.hid hr2; clear hr2)
      have g2 := hg1.tr hg2
      have HA3 := Lib.hid (HDV.out r1 r2 w2 (HR1.out.gr hg2) HR2.out)
      go_wp2_with (go_at_call 55; (with_reducible refine HA3.out.mono ?_); rintro ev w3 ⟨⟨_, hdv⟩, hg3⟩; obtain ⟨q3, r3, rfl, hq3, hr3⟩ := hdv HP.out; have HQ3 := Lib.hid hq3; have HR3 := Lib.hid hr3; clear hq3 hr3 hdv)
      have g3 := g2.tr hg3
      go_wp2_with (go_at_call 54; (with_reducible refine (of2_calls _).mono ?_); rintro ev w4 ⟨⟨r4, rfl, hr4⟩, hg4⟩; have HR4 := Lib.hid hr4; clear hr4)
      have g4 := g3.tr hg4
      have HA5 := Lib.hid (HD2.out q3 r4 w4 (HQ3.out.gr hg4) HR4.out)
      go_wp2_with (go_at_call 55; (with_reducible refine HA5.out.mono ?_); rintro ev w5 ⟨⟨_, hdv⟩, hg5⟩; obtain ⟨q5, r5, rfl, hq5, hr5⟩ := hdv (by decide); have HR5 := Lib.hid hr5; clear hq5 hr5 hdv)
      have g5 := g4.tr hg5
      have HA6 := Lib.hid (HRR.out r3 w5 (HR3.out.gr (hg4.tr hg5)))
      go_wp2_with (go_at_call 59; (with_reducible refine HA6.out.mono ?_); rintro ev w6 ⟨⟨r6, rfl, hr6⟩, hg6⟩; have HR6 := Lib.hid hr6; clear hr6)
      have g6 := g5.tr hg6
      have HA7 := Lib.hid (HY.out w6 g6)
      go_wp2_with (go_at_call 97; (with_reducible refine HA7.out.mono ?_); rintro ev w7 ⟨⟨r7, rfl, hr7⟩, hg7⟩; have HR7 := Lib.hid hr7; clear hr7)
      have g7 := g6.tr hg7
      have ha8 := HCM.out r6 r7 w7 (HR6.out.gr hg7) HR7.out
      rw [hc, cmpN_eq] at ha8
      have HA8 := Lib.hid ha8
      clear ha8 hc
      go_wp2_with (go_at_call 60; (with_reducible refine HA8.out.mono ?_); rintro ev w8 ⟨rfl, hg8⟩)
      have g8 := g7.tr hg8
      have HQ8 := Lib.hid (HQ3.out.gr ((hg4.tr hg5).tr ((hg6.tr hg7).tr hg8)))
      go_wp2_with (go_at_call 54; (with_reducible refine (of1_calls _).mono ?_); rintro ev w10 ⟨⟨r10, rfl, hr10⟩, hg10⟩; have HR10 := Lib.hid hr10; clear hr10)
      have HA11 := Lib.hid (HQ1.out q3 r10 w10 (HQ8.out.gr hg10) HR10.out)
      go_wp2_with (go_at_call 59; (with_reducible refine HA11.out.mono ?_); rintro ev w11 ⟨⟨r11, rfl, hr11⟩, hg11⟩; have HR11 := Lib.hid hr11; clear hr11)
      have g11 := g8.tr (hg10.tr hg11)
      have HA12 := Lib.hid (HSX.out _ g11)
      go_wp2_with (go_at_call 89; (with_reducible refine HA12.out.mono ?_); rintro ev w12 ⟨rfl, hg12⟩)
      have HA13 := Lib.hid (newP_calls bb _ _ w12 (HR11.out.gr hg12).at_)
      go_wp2_with (go_at_call 66; (with_reducible refine HA13.out.mono ?_); rintro ev w13 ⟨⟨r13, rfl, hr13⟩, hg13⟩; have HR13 := Lib.hid hr13; clear hr13)
      go_ret
      exact ⟨⟨_, rfl, by rw [HU.out (by refine ⟨.inr ⟨HC.out, ?_⟩, by decide⟩; simp)]; exact HR13.out⟩, (g11.tr hg12).tr hg13⟩
    · have HOD := HOD0
      have HC := Lib.hid hc
      have HA1 := Lib.hid (HX.out w (Gr.rf w))
      go_enter Tryz.func71, Tryz.ntmps71
      go_wp2_with (go_at_call 97; (with_reducible refine HA1.out.mono ?_); rintro ev w1 ⟨⟨r1, rfl, hr1⟩, hg1⟩; have HR1 := Lib.hid hr1; clear hr1)
      have HA2 := Lib.hid (HY.out w1 hg1)
      go_wp2_with (go_at_call 97; (with_reducible refine HA2.out.mono ?_); rintro ev w2 ⟨⟨r2, rfl, hr2⟩, hg2⟩; have HR2 := Lib.hid hr2; clear hr2)
      have g2 := hg1.tr hg2
      have HA3 := Lib.hid (HDV.out r1 r2 w2 (HR1.out.gr hg2) HR2.out)
      go_wp2_with (go_at_call 55; (with_reducible refine HA3.out.mono ?_); rintro ev w3 ⟨⟨_, hdv⟩, hg3⟩; obtain ⟨q3, r3, rfl, hq3, hr3⟩ := hdv HP.out; have HQ3 := Lib.hid hq3; have HR3 := Lib.hid hr3; clear hq3 hr3 hdv)
      have g3 := g2.tr hg3
      go_wp2_with (go_at_call 54; (with_reducible refine (of2_calls _).mono ?_); rintro ev w4 ⟨⟨r4, rfl, hr4⟩, hg4⟩; have HR4 := Lib.hid hr4; clear hr4)
      have g4 := g3.tr hg4
      have HA5 := Lib.hid (HD2.out q3 r4 w4 (HQ3.out.gr hg4) HR4.out)
      go_wp2_with (go_at_call 55; (with_reducible refine HA5.out.mono ?_); rintro ev w5 ⟨⟨_, hdv⟩, hg5⟩; obtain ⟨q5, r5, rfl, hq5, hr5⟩ := hdv (by decide); have HR5 := Lib.hid hr5; clear hq5 hr5 hdv)
      have g5 := g4.tr hg5
      have HA6 := Lib.hid (HRR.out r3 w5 (HR3.out.gr (hg4.tr hg5)))
      go_wp2_with (go_at_call 59; (with_reducible refine HA6.out.mono ?_); rintro ev w6 ⟨⟨r6, rfl, hr6⟩, hg6⟩; have HR6 := Lib.hid hr6; clear hr6)
      have g6 := g5.tr hg6
      have HA7 := Lib.hid (HY.out w6 g6)
      go_wp2_with (go_at_call 97; (with_reducible refine HA7.out.mono ?_); rintro ev w7 ⟨⟨r7, rfl, hr7⟩, hg7⟩; have HR7 := Lib.hid hr7; clear hr7)
      have g7 := g6.tr hg7
      have ha8 := HCM.out r6 r7 w7 (HR6.out.gr hg7) HR7.out
      rw [cmpN_gt hc] at ha8
      have HA8 := Lib.hid ha8
      clear ha8 hc
      go_wp2_with (go_at_call 60; (with_reducible refine HA8.out.mono ?_); rintro ev w8 ⟨rfl, hg8⟩)
      have g8 := g7.tr hg8
      have HQ8 := Lib.hid (HQ3.out.gr ((hg4.tr hg5).tr ((hg6.tr hg7).tr hg8)))
      go_wp2_with (go_at_call 54; (with_reducible refine (of1_calls _).mono ?_); rintro ev w10 ⟨⟨r10, rfl, hr10⟩, hg10⟩; have HR10 := Lib.hid hr10; clear hr10)
      have HA11 := Lib.hid (HQ1.out q3 r10 w10 (HQ8.out.gr hg10) HR10.out)
      go_wp2_with (go_at_call 59; (with_reducible refine HA11.out.mono ?_); rintro ev w11 ⟨⟨r11, rfl, hr11⟩, hg11⟩; have HR11 := Lib.hid hr11; clear hr11)
      have g11 := g8.tr (hg10.tr hg11)
      have HA12 := Lib.hid (HSX.out _ g11)
      go_wp2_with (go_at_call 89; (with_reducible refine HA12.out.mono ?_); rintro ev w12 ⟨rfl, hg12⟩)
      have HA13 := Lib.hid (newP_calls bb _ _ w12 (HR11.out.gr hg12).at_)
      go_wp2_with (go_at_call 66; (with_reducible refine HA13.out.mono ?_); rintro ev w13 ⟨⟨r13, rfl, hr13⟩, hg13⟩; have HR13 := Lib.hid hr13; clear hr13)
      go_ret
      exact ⟨⟨_, rfl, by rw [HU.out (by have := HC.out; have := HOD.out; omega)]; exact HR13.out⟩, (g11.tr hg12).tr hg13⟩
  · rcases Nat.lt_trichotomy (r + r) b with hc | hc | hc
    · have HOD := HOD0
      have HC := Lib.hid hc
      have HA1 := Lib.hid (HX.out w (Gr.rf w))
      go_enter Tryz.func71, Tryz.ntmps71
      go_wp2_with (go_at_call 97; (with_reducible refine HA1.out.mono ?_); rintro ev w1 ⟨⟨r1, rfl, hr1⟩, hg1⟩; have HR1 := Lib.hid hr1; clear hr1)
      have HA2 := Lib.hid (HY.out w1 hg1)
      go_wp2_with (go_at_call 97; (with_reducible refine HA2.out.mono ?_); rintro ev w2 ⟨⟨r2, rfl, hr2⟩, hg2⟩; have HR2 := Lib.hid hr2; clear hr2)
      have g2 := hg1.tr hg2
      have HA3 := Lib.hid (HDV.out r1 r2 w2 (HR1.out.gr hg2) HR2.out)
      go_wp2_with (go_at_call 55; (with_reducible refine HA3.out.mono ?_); rintro ev w3 ⟨⟨_, hdv⟩, hg3⟩; obtain ⟨q3, r3, rfl, hq3, hr3⟩ := hdv HP.out; have HQ3 := Lib.hid hq3; have HR3 := Lib.hid hr3; clear hq3 hr3 hdv)
      have g3 := g2.tr hg3
      go_wp2_with (go_at_call 54; (with_reducible refine (of2_calls _).mono ?_); rintro ev w4 ⟨⟨r4, rfl, hr4⟩, hg4⟩; have HR4 := Lib.hid hr4; clear hr4)
      have g4 := g3.tr hg4
      have HA5 := Lib.hid (HD2.out q3 r4 w4 (HQ3.out.gr hg4) HR4.out)
      go_wp2_with (go_at_call 55; (with_reducible refine HA5.out.mono ?_); rintro ev w5 ⟨⟨_, hdv⟩, hg5⟩; obtain ⟨q5, r5, rfl, hq5, hr5⟩ := hdv (by decide); have HR5 := Lib.hid hr5; clear hq5 hr5 hdv)
      have g5 := g4.tr hg5
      have HA6 := Lib.hid (HRR.out r3 w5 (HR3.out.gr (hg4.tr hg5)))
      go_wp2_with (go_at_call 59; (with_reducible refine HA6.out.mono ?_); rintro ev w6 ⟨⟨r6, rfl, hr6⟩, hg6⟩; have HR6 := Lib.hid hr6; clear hr6)
      have g6 := g5.tr hg6
      have HA7 := Lib.hid (HY.out w6 g6)
      go_wp2_with (go_at_call 97; (with_reducible refine HA7.out.mono ?_); rintro ev w7 ⟨⟨r7, rfl, hr7⟩, hg7⟩; have HR7 := Lib.hid hr7; clear hr7)
      have g7 := g6.tr hg7
      have ha8 := HCM.out r6 r7 w7 (HR6.out.gr hg7) HR7.out
      rw [cmpN_lt hc] at ha8
      have HA8 := Lib.hid ha8
      clear ha8 hc
      go_wp2_with (go_at_call 60; (with_reducible refine HA8.out.mono ?_); rintro ev w8 ⟨rfl, hg8⟩)
      have g8 := g7.tr hg8
      have HQ8 := Lib.hid (HQ3.out.gr ((hg4.tr hg5).tr ((hg6.tr hg7).tr hg8)))
      have g11 := g8
      have HR11 := HQ8
      have HA12 := Lib.hid (HSX.out _ g11)
      go_wp2_with (go_at_call 89; (with_reducible refine HA12.out.mono ?_); rintro ev w12 ⟨rfl, hg12⟩)
      have HA13 := Lib.hid (newP_calls bb _ _ w12 (HR11.out.gr hg12).at_)
      go_wp2_with (go_at_call 66; (with_reducible refine HA13.out.mono ?_); rintro ev w13 ⟨⟨r13, rfl, hr13⟩, hg13⟩; have HR13 := Lib.hid hr13; clear hr13)
      go_ret
      exact ⟨⟨_, rfl, by rw [HO.out (by have := HC.out; have := HOD.out; omega)]; exact HR13.out⟩, (g11.tr hg12).tr hg13⟩
    · rcases HOD0.out with hod | hod
      · have HOD := Lib.hid hod
        clear hod
        have HC := Lib.hid hc
        have HA1 := Lib.hid (HX.out w (Gr.rf w))
        go_enter Tryz.func71, Tryz.ntmps71
        go_wp2_with (go_at_call 97; (with_reducible refine HA1.out.mono ?_); rintro ev w1 ⟨⟨r1, rfl, hr1⟩, hg1⟩; have HR1 := Lib.hid hr1; clear hr1)
        have HA2 := Lib.hid (HY.out w1 hg1)
        go_wp2_with (go_at_call 97; (with_reducible refine HA2.out.mono ?_); rintro ev w2 ⟨⟨r2, rfl, hr2⟩, hg2⟩; have HR2 := Lib.hid hr2; clear hr2)
        have g2 := hg1.tr hg2
        have HA3 := Lib.hid (HDV.out r1 r2 w2 (HR1.out.gr hg2) HR2.out)
        go_wp2_with (go_at_call 55; (with_reducible refine HA3.out.mono ?_); rintro ev w3 ⟨⟨_, hdv⟩, hg3⟩; obtain ⟨q3, r3, rfl, hq3, hr3⟩ := hdv HP.out; have HQ3 := Lib.hid hq3; have HR3 := Lib.hid hr3; clear hq3 hr3 hdv)
        have g3 := g2.tr hg3
        go_wp2_with (go_at_call 54; (with_reducible refine (of2_calls _).mono ?_); rintro ev w4 ⟨⟨r4, rfl, hr4⟩, hg4⟩; have HR4 := Lib.hid hr4; clear hr4)
        have g4 := g3.tr hg4
        have HA5 := Lib.hid (HD2.out q3 r4 w4 (HQ3.out.gr hg4) HR4.out)
        go_wp2_with (go_at_call 55; (with_reducible refine HA5.out.mono ?_); rintro ev w5 ⟨⟨_, hdv⟩, hg5⟩; obtain ⟨q5, r5, rfl, hq5, hr5⟩ := hdv (by decide); have HR5 := Lib.hid hr5; clear hq5 hr5 hdv)
        have g5 := g4.tr hg5
        have HA6 := Lib.hid (HRR.out r3 w5 (HR3.out.gr (hg4.tr hg5)))
        go_wp2_with (go_at_call 59; (with_reducible refine HA6.out.mono ?_); rintro ev w6 ⟨⟨r6, rfl, hr6⟩, hg6⟩; have HR6 := Lib.hid hr6; clear hr6)
        have g6 := g5.tr hg6
        have HA7 := Lib.hid (HY.out w6 g6)
        go_wp2_with (go_at_call 97; (with_reducible refine HA7.out.mono ?_); rintro ev w7 ⟨⟨r7, rfl, hr7⟩, hg7⟩; have HR7 := Lib.hid hr7; clear hr7)
        have g7 := g6.tr hg7
        have ha8 := HCM.out r6 r7 w7 (HR6.out.gr hg7) HR7.out
        rw [hc, cmpN_eq] at ha8
        have HA8 := Lib.hid ha8
        clear ha8 hc
        go_wp2_with (go_at_call 60; (with_reducible refine HA8.out.mono ?_); rintro ev w8 ⟨rfl, hg8⟩)
        have g8 := g7.tr hg8
        have HQ8 := Lib.hid (HQ3.out.gr ((hg4.tr hg5).tr ((hg6.tr hg7).tr hg8)))
        have ha9 := zero_calls r5 o w8 (HR5.out.gr ((hg6.tr hg7).tr hg8))
        rw [show (o == 0) = true from by rw [HOD.out]; rfl] at ha9
        have HA9 := Lib.hid ha9
        clear ha9
        go_wp2_with (go_at_call 78; (with_reducible refine HA9.out.mono ?_); rintro ev w9 ⟨rfl, rfl⟩)
        have g11 := g8
        have HR11 := HQ8
        have HA12 := Lib.hid (HSX.out _ g11)
        go_wp2_with (go_at_call 89; (with_reducible refine HA12.out.mono ?_); rintro ev w12 ⟨rfl, hg12⟩)
        have HA13 := Lib.hid (newP_calls bb _ _ w12 (HR11.out.gr hg12).at_)
        go_wp2_with (go_at_call 66; (with_reducible refine HA13.out.mono ?_); rintro ev w13 ⟨⟨r13, rfl, hr13⟩, hg13⟩; have HR13 := Lib.hid hr13; clear hr13)
        go_ret
        exact ⟨⟨_, rfl, by rw [HO.out (by have := HC.out; have := HOD.out; omega)]; exact HR13.out⟩, (g11.tr hg12).tr hg13⟩
      · have HOD := Lib.hid hod
        clear hod
        have HC := Lib.hid hc
        have HA1 := Lib.hid (HX.out w (Gr.rf w))
        go_enter Tryz.func71, Tryz.ntmps71
        go_wp2_with (go_at_call 97; (with_reducible refine HA1.out.mono ?_); rintro ev w1 ⟨⟨r1, rfl, hr1⟩, hg1⟩; have HR1 := Lib.hid hr1; clear hr1)
        have HA2 := Lib.hid (HY.out w1 hg1)
        go_wp2_with (go_at_call 97; (with_reducible refine HA2.out.mono ?_); rintro ev w2 ⟨⟨r2, rfl, hr2⟩, hg2⟩; have HR2 := Lib.hid hr2; clear hr2)
        have g2 := hg1.tr hg2
        have HA3 := Lib.hid (HDV.out r1 r2 w2 (HR1.out.gr hg2) HR2.out)
        go_wp2_with (go_at_call 55; (with_reducible refine HA3.out.mono ?_); rintro ev w3 ⟨⟨_, hdv⟩, hg3⟩; obtain ⟨q3, r3, rfl, hq3, hr3⟩ := hdv HP.out; have HQ3 := Lib.hid hq3; have HR3 := Lib.hid hr3; clear hq3 hr3 hdv)
        have g3 := g2.tr hg3
        go_wp2_with (go_at_call 54; (with_reducible refine (of2_calls _).mono ?_); rintro ev w4 ⟨⟨r4, rfl, hr4⟩, hg4⟩; have HR4 := Lib.hid hr4; clear hr4)
        have g4 := g3.tr hg4
        have HA5 := Lib.hid (HD2.out q3 r4 w4 (HQ3.out.gr hg4) HR4.out)
        go_wp2_with (go_at_call 55; (with_reducible refine HA5.out.mono ?_); rintro ev w5 ⟨⟨_, hdv⟩, hg5⟩; obtain ⟨q5, r5, rfl, hq5, hr5⟩ := hdv (by decide); have HR5 := Lib.hid hr5; clear hq5 hr5 hdv)
        have g5 := g4.tr hg5
        have HA6 := Lib.hid (HRR.out r3 w5 (HR3.out.gr (hg4.tr hg5)))
        go_wp2_with (go_at_call 59; (with_reducible refine HA6.out.mono ?_); rintro ev w6 ⟨⟨r6, rfl, hr6⟩, hg6⟩; have HR6 := Lib.hid hr6; clear hr6)
        have g6 := g5.tr hg6
        have HA7 := Lib.hid (HY.out w6 g6)
        go_wp2_with (go_at_call 97; (with_reducible refine HA7.out.mono ?_); rintro ev w7 ⟨⟨r7, rfl, hr7⟩, hg7⟩; have HR7 := Lib.hid hr7; clear hr7)
        have g7 := g6.tr hg7
        have ha8 := HCM.out r6 r7 w7 (HR6.out.gr hg7) HR7.out
        rw [hc, cmpN_eq] at ha8
        have HA8 := Lib.hid ha8
        clear ha8 hc
        go_wp2_with (go_at_call 60; (with_reducible refine HA8.out.mono ?_); rintro ev w8 ⟨rfl, hg8⟩)
        have g8 := g7.tr hg8
        have HQ8 := Lib.hid (HQ3.out.gr ((hg4.tr hg5).tr ((hg6.tr hg7).tr hg8)))
        have ha9 := zero_calls r5 o w8 (HR5.out.gr ((hg6.tr hg7).tr hg8))
        rw [show (o == 0) = false from by rw [HOD.out]; rfl] at ha9
        have HA9 := Lib.hid ha9
        clear ha9
        go_wp2_with (go_at_call 78; (with_reducible refine HA9.out.mono ?_); rintro ev w9 ⟨rfl, rfl⟩)
        go_wp2_with (go_at_call 54; (with_reducible refine (of1_calls _).mono ?_); rintro ev w10 ⟨⟨r10, rfl, hr10⟩, hg10⟩; have HR10 := Lib.hid hr10; clear hr10)
        have HA11 := Lib.hid (HQ1.out q3 r10 w10 (HQ8.out.gr hg10) HR10.out)
        go_wp2_with (go_at_call 59; (with_reducible refine HA11.out.mono ?_); rintro ev w11 ⟨⟨r11, rfl, hr11⟩, hg11⟩; have HR11 := Lib.hid hr11; clear hr11)
        have g11 := g8.tr (hg10.tr hg11)
        have HA12 := Lib.hid (HSX.out _ g11)
        go_wp2_with (go_at_call 89; (with_reducible refine HA12.out.mono ?_); rintro ev w12 ⟨rfl, hg12⟩)
        have HA13 := Lib.hid (newP_calls bb _ _ w12 (HR11.out.gr hg12).at_)
        go_wp2_with (go_at_call 66; (with_reducible refine HA13.out.mono ?_); rintro ev w13 ⟨⟨r13, rfl, hr13⟩, hg13⟩; have HR13 := Lib.hid hr13; clear hr13)
        go_ret
        exact ⟨⟨_, rfl, by rw [HU.out (by have := HC.out; have := HOD.out; omega)]; exact HR13.out⟩, (g11.tr hg12).tr hg13⟩
    · have HOD := HOD0
      have HC := Lib.hid hc
      have HA1 := Lib.hid (HX.out w (Gr.rf w))
      go_enter Tryz.func71, Tryz.ntmps71
      go_wp2_with (go_at_call 97; (with_reducible refine HA1.out.mono ?_); rintro ev w1 ⟨⟨r1, rfl, hr1⟩, hg1⟩; have HR1 := Lib.hid hr1; clear hr1)
      have HA2 := Lib.hid (HY.out w1 hg1)
      go_wp2_with (go_at_call 97; (with_reducible refine HA2.out.mono ?_); rintro ev w2 ⟨⟨r2, rfl, hr2⟩, hg2⟩; have HR2 := Lib.hid hr2; clear hr2)
      have g2 := hg1.tr hg2
      have HA3 := Lib.hid (HDV.out r1 r2 w2 (HR1.out.gr hg2) HR2.out)
      go_wp2_with (go_at_call 55; (with_reducible refine HA3.out.mono ?_); rintro ev w3 ⟨⟨_, hdv⟩, hg3⟩; obtain ⟨q3, r3, rfl, hq3, hr3⟩ := hdv HP.out; have HQ3 := Lib.hid hq3; have HR3 := Lib.hid hr3; clear hq3 hr3 hdv)
      have g3 := g2.tr hg3
      go_wp2_with (go_at_call 54; (with_reducible refine (of2_calls _).mono ?_); rintro ev w4 ⟨⟨r4, rfl, hr4⟩, hg4⟩; have HR4 := Lib.hid hr4; clear hr4)
      have g4 := g3.tr hg4
      have HA5 := Lib.hid (HD2.out q3 r4 w4 (HQ3.out.gr hg4) HR4.out)
      go_wp2_with (go_at_call 55; (with_reducible refine HA5.out.mono ?_); rintro ev w5 ⟨⟨_, hdv⟩, hg5⟩; obtain ⟨q5, r5, rfl, hq5, hr5⟩ := hdv (by decide); have HR5 := Lib.hid hr5; clear hq5 hr5 hdv)
      have g5 := g4.tr hg5
      have HA6 := Lib.hid (HRR.out r3 w5 (HR3.out.gr (hg4.tr hg5)))
      go_wp2_with (go_at_call 59; (with_reducible refine HA6.out.mono ?_); rintro ev w6 ⟨⟨r6, rfl, hr6⟩, hg6⟩; have HR6 := Lib.hid hr6; clear hr6)
      have g6 := g5.tr hg6
      have HA7 := Lib.hid (HY.out w6 g6)
      go_wp2_with (go_at_call 97; (with_reducible refine HA7.out.mono ?_); rintro ev w7 ⟨⟨r7, rfl, hr7⟩, hg7⟩; have HR7 := Lib.hid hr7; clear hr7)
      have g7 := g6.tr hg7
      have ha8 := HCM.out r6 r7 w7 (HR6.out.gr hg7) HR7.out
      rw [cmpN_gt hc] at ha8
      have HA8 := Lib.hid ha8
      clear ha8 hc
      go_wp2_with (go_at_call 60; (with_reducible refine HA8.out.mono ?_); rintro ev w8 ⟨rfl, hg8⟩)
      have g8 := g7.tr hg8
      have HQ8 := Lib.hid (HQ3.out.gr ((hg4.tr hg5).tr ((hg6.tr hg7).tr hg8)))
      go_wp2_with (go_at_call 54; (with_reducible refine (of1_calls _).mono ?_); rintro ev w10 ⟨⟨r10, rfl, hr10⟩, hg10⟩; have HR10 := Lib.hid hr10; clear hr10)
      have HA11 := Lib.hid (HQ1.out q3 r10 w10 (HQ8.out.gr hg10) HR10.out)
      go_wp2_with (go_at_call 59; (with_reducible refine HA11.out.mono ?_); rintro ev w11 ⟨⟨r11, rfl, hr11⟩, hg11⟩; have HR11 := Lib.hid hr11; clear hr11)
      have g11 := g8.tr (hg10.tr hg11)
      have HA12 := Lib.hid (HSX.out _ g11)
      go_wp2_with (go_at_call 89; (with_reducible refine HA12.out.mono ?_); rintro ev w12 ⟨rfl, hg12⟩)
      have HA13 := Lib.hid (newP_calls bb _ _ w12 (HR11.out.gr hg12).at_)
      go_wp2_with (go_at_call 66; (with_reducible refine HA13.out.mono ?_); rintro ev w13 ⟨⟨r13, rfl, hr13⟩, hg13⟩; have HR13 := Lib.hid hr13; clear hr13)
      go_ret
      exact ⟨⟨_, rfl, by rw [HU.out (by have := HC.out; have := HOD.out; omega)]; exact HR13.out⟩, (g11.tr hg12).tr hg13⟩
  · rcases Nat.lt_trichotomy (r + r) b with hc | hc | hc
    · have HOD := HOD0
      have HC := Lib.hid hc
      have HA1 := Lib.hid (HX.out w (Gr.rf w))
      go_enter Tryz.func71, Tryz.ntmps71
      go_wp2_with (go_at_call 97; (with_reducible refine HA1.out.mono ?_); rintro ev w1 ⟨⟨r1, rfl, hr1⟩, hg1⟩; have HR1 := Lib.hid hr1; clear hr1)
      have HA2 := Lib.hid (HY.out w1 hg1)
      go_wp2_with (go_at_call 97; (with_reducible refine HA2.out.mono ?_); rintro ev w2 ⟨⟨r2, rfl, hr2⟩, hg2⟩; have HR2 := Lib.hid hr2; clear hr2)
      have g2 := hg1.tr hg2
      have HA3 := Lib.hid (HDV.out r1 r2 w2 (HR1.out.gr hg2) HR2.out)
      go_wp2_with (go_at_call 55; (with_reducible refine HA3.out.mono ?_); rintro ev w3 ⟨⟨_, hdv⟩, hg3⟩; obtain ⟨q3, r3, rfl, hq3, hr3⟩ := hdv HP.out; have HQ3 := Lib.hid hq3; have HR3 := Lib.hid hr3; clear hq3 hr3 hdv)
      have g3 := g2.tr hg3
      go_wp2_with (go_at_call 54; (with_reducible refine (of2_calls _).mono ?_); rintro ev w4 ⟨⟨r4, rfl, hr4⟩, hg4⟩; have HR4 := Lib.hid hr4; clear hr4)
      have g4 := g3.tr hg4
      have HA5 := Lib.hid (HD2.out q3 r4 w4 (HQ3.out.gr hg4) HR4.out)
      go_wp2_with (go_at_call 55; (with_reducible refine HA5.out.mono ?_); rintro ev w5 ⟨⟨_, hdv⟩, hg5⟩; obtain ⟨q5, r5, rfl, hq5, hr5⟩ := hdv (by decide); have HR5 := Lib.hid hr5; clear hq5 hr5 hdv)
      have g5 := g4.tr hg5
      have HA6 := Lib.hid (HRR.out r3 w5 (HR3.out.gr (hg4.tr hg5)))
      go_wp2_with (go_at_call 59; (with_reducible refine HA6.out.mono ?_); rintro ev w6 ⟨⟨r6, rfl, hr6⟩, hg6⟩; have HR6 := Lib.hid hr6; clear hr6)
      have g6 := g5.tr hg6
      have HA7 := Lib.hid (HY.out w6 g6)
      go_wp2_with (go_at_call 97; (with_reducible refine HA7.out.mono ?_); rintro ev w7 ⟨⟨r7, rfl, hr7⟩, hg7⟩; have HR7 := Lib.hid hr7; clear hr7)
      have g7 := g6.tr hg7
      have ha8 := HCM.out r6 r7 w7 (HR6.out.gr hg7) HR7.out
      rw [cmpN_lt hc] at ha8
      have HA8 := Lib.hid ha8
      clear ha8 hc
      go_wp2_with (go_at_call 60; (with_reducible refine HA8.out.mono ?_); rintro ev w8 ⟨rfl, hg8⟩)
      have g8 := g7.tr hg8
      have HQ8 := Lib.hid (HQ3.out.gr ((hg4.tr hg5).tr ((hg6.tr hg7).tr hg8)))
      have g11 := g8
      have HR11 := HQ8
      have HA12 := Lib.hid (HSX.out _ g11)
      go_wp2_with (go_at_call 89; (with_reducible refine HA12.out.mono ?_); rintro ev w12 ⟨rfl, hg12⟩)
      have HA13 := Lib.hid (newP_calls bb _ _ w12 (HR11.out.gr hg12).at_)
      go_wp2_with (go_at_call 66; (with_reducible refine HA13.out.mono ?_); rintro ev w13 ⟨⟨r13, rfl, hr13⟩, hg13⟩; have HR13 := Lib.hid hr13; clear hr13)
      go_ret
      exact ⟨⟨_, rfl, by rw [HO.out (by have := HC.out; have := HOD.out; omega)]; exact HR13.out⟩, (g11.tr hg12).tr hg13⟩
    · rcases HOD0.out with hod | hod
      · have HOD := Lib.hid hod
        clear hod
        have HC := Lib.hid hc
        have HA1 := Lib.hid (HX.out w (Gr.rf w))
        go_enter Tryz.func71, Tryz.ntmps71
        go_wp2_with (go_at_call 97; (with_reducible refine HA1.out.mono ?_); rintro ev w1 ⟨⟨r1, rfl, hr1⟩, hg1⟩; have HR1 := Lib.hid hr1; clear hr1)
        have HA2 := Lib.hid (HY.out w1 hg1)
        go_wp2_with (go_at_call 97; (with_reducible refine HA2.out.mono ?_); rintro ev w2 ⟨⟨r2, rfl, hr2⟩, hg2⟩; have HR2 := Lib.hid hr2; clear hr2)
        have g2 := hg1.tr hg2
        have HA3 := Lib.hid (HDV.out r1 r2 w2 (HR1.out.gr hg2) HR2.out)
        go_wp2_with (go_at_call 55; (with_reducible refine HA3.out.mono ?_); rintro ev w3 ⟨⟨_, hdv⟩, hg3⟩; obtain ⟨q3, r3, rfl, hq3, hr3⟩ := hdv HP.out; have HQ3 := Lib.hid hq3; have HR3 := Lib.hid hr3; clear hq3 hr3 hdv)
        have g3 := g2.tr hg3
        go_wp2_with (go_at_call 54; (with_reducible refine (of2_calls _).mono ?_); rintro ev w4 ⟨⟨r4, rfl, hr4⟩, hg4⟩; have HR4 := Lib.hid hr4; clear hr4)
        have g4 := g3.tr hg4
        have HA5 := Lib.hid (HD2.out q3 r4 w4 (HQ3.out.gr hg4) HR4.out)
        go_wp2_with (go_at_call 55; (with_reducible refine HA5.out.mono ?_); rintro ev w5 ⟨⟨_, hdv⟩, hg5⟩; obtain ⟨q5, r5, rfl, hq5, hr5⟩ := hdv (by decide); have HR5 := Lib.hid hr5; clear hq5 hr5 hdv)
        have g5 := g4.tr hg5
        have HA6 := Lib.hid (HRR.out r3 w5 (HR3.out.gr (hg4.tr hg5)))
        go_wp2_with (go_at_call 59; (with_reducible refine HA6.out.mono ?_); rintro ev w6 ⟨⟨r6, rfl, hr6⟩, hg6⟩; have HR6 := Lib.hid hr6; clear hr6)
        have g6 := g5.tr hg6
        have HA7 := Lib.hid (HY.out w6 g6)
        go_wp2_with (go_at_call 97; (with_reducible refine HA7.out.mono ?_); rintro ev w7 ⟨⟨r7, rfl, hr7⟩, hg7⟩; have HR7 := Lib.hid hr7; clear hr7)
        have g7 := g6.tr hg7
        have ha8 := HCM.out r6 r7 w7 (HR6.out.gr hg7) HR7.out
        rw [hc, cmpN_eq] at ha8
        have HA8 := Lib.hid ha8
        clear ha8 hc
        go_wp2_with (go_at_call 60; (with_reducible refine HA8.out.mono ?_); rintro ev w8 ⟨rfl, hg8⟩)
        have g8 := g7.tr hg8
        have HQ8 := Lib.hid (HQ3.out.gr ((hg4.tr hg5).tr ((hg6.tr hg7).tr hg8)))
        have ha9 := zero_calls r5 o w8 (HR5.out.gr ((hg6.tr hg7).tr hg8))
        rw [show (o == 0) = true from by rw [HOD.out]; rfl] at ha9
        have HA9 := Lib.hid ha9
        clear ha9
        go_wp2_with (go_at_call 78; (with_reducible refine HA9.out.mono ?_); rintro ev w9 ⟨rfl, rfl⟩)
        have g11 := g8
        have HR11 := HQ8
        have HA12 := Lib.hid (HSX.out _ g11)
        go_wp2_with (go_at_call 89; (with_reducible refine HA12.out.mono ?_); rintro ev w12 ⟨rfl, hg12⟩)
        have HA13 := Lib.hid (newP_calls bb _ _ w12 (HR11.out.gr hg12).at_)
        go_wp2_with (go_at_call 66; (with_reducible refine HA13.out.mono ?_); rintro ev w13 ⟨⟨r13, rfl, hr13⟩, hg13⟩; have HR13 := Lib.hid hr13; clear hr13)
        go_ret
        exact ⟨⟨_, rfl, by rw [HO.out (by have := HC.out; have := HOD.out; omega)]; exact HR13.out⟩, (g11.tr hg12).tr hg13⟩
      · have HOD := Lib.hid hod
        clear hod
        have HC := Lib.hid hc
        have HA1 := Lib.hid (HX.out w (Gr.rf w))
        go_enter Tryz.func71, Tryz.ntmps71
        go_wp2_with (go_at_call 97; (with_reducible refine HA1.out.mono ?_); rintro ev w1 ⟨⟨r1, rfl, hr1⟩, hg1⟩; have HR1 := Lib.hid hr1; clear hr1)
        have HA2 := Lib.hid (HY.out w1 hg1)
        go_wp2_with (go_at_call 97; (with_reducible refine HA2.out.mono ?_); rintro ev w2 ⟨⟨r2, rfl, hr2⟩, hg2⟩; have HR2 := Lib.hid hr2; clear hr2)
        have g2 := hg1.tr hg2
        have HA3 := Lib.hid (HDV.out r1 r2 w2 (HR1.out.gr hg2) HR2.out)
        go_wp2_with (go_at_call 55; (with_reducible refine HA3.out.mono ?_); rintro ev w3 ⟨⟨_, hdv⟩, hg3⟩; obtain ⟨q3, r3, rfl, hq3, hr3⟩ := hdv HP.out; have HQ3 := Lib.hid hq3; have HR3 := Lib.hid hr3; clear hq3 hr3 hdv)
        have g3 := g2.tr hg3
        go_wp2_with (go_at_call 54; (with_reducible refine (of2_calls _).mono ?_); rintro ev w4 ⟨⟨r4, rfl, hr4⟩, hg4⟩; have HR4 := Lib.hid hr4; clear hr4)
        have g4 := g3.tr hg4
        have HA5 := Lib.hid (HD2.out q3 r4 w4 (HQ3.out.gr hg4) HR4.out)
        go_wp2_with (go_at_call 55; (with_reducible refine HA5.out.mono ?_); rintro ev w5 ⟨⟨_, hdv⟩, hg5⟩; obtain ⟨q5, r5, rfl, hq5, hr5⟩ := hdv (by decide); have HR5 := Lib.hid hr5; clear hq5 hr5 hdv)
        have g5 := g4.tr hg5
        have HA6 := Lib.hid (HRR.out r3 w5 (HR3.out.gr (hg4.tr hg5)))
        go_wp2_with (go_at_call 59; (with_reducible refine HA6.out.mono ?_); rintro ev w6 ⟨⟨r6, rfl, hr6⟩, hg6⟩; have HR6 := Lib.hid hr6; clear hr6)
        have g6 := g5.tr hg6
        have HA7 := Lib.hid (HY.out w6 g6)
        go_wp2_with (go_at_call 97; (with_reducible refine HA7.out.mono ?_); rintro ev w7 ⟨⟨r7, rfl, hr7⟩, hg7⟩; have HR7 := Lib.hid hr7; clear hr7)
        have g7 := g6.tr hg7
        have ha8 := HCM.out r6 r7 w7 (HR6.out.gr hg7) HR7.out
        rw [hc, cmpN_eq] at ha8
        have HA8 := Lib.hid ha8
        clear ha8 hc
        go_wp2_with (go_at_call 60; (with_reducible refine HA8.out.mono ?_); rintro ev w8 ⟨rfl, hg8⟩)
        have g8 := g7.tr hg8
        have HQ8 := Lib.hid (HQ3.out.gr ((hg4.tr hg5).tr ((hg6.tr hg7).tr hg8)))
        have ha9 := zero_calls r5 o w8 (HR5.out.gr ((hg6.tr hg7).tr hg8))
        rw [show (o == 0) = false from by rw [HOD.out]; rfl] at ha9
        have HA9 := Lib.hid ha9
        clear ha9
        go_wp2_with (go_at_call 78; (with_reducible refine HA9.out.mono ?_); rintro ev w9 ⟨rfl, rfl⟩)
        have g11 := g8
        have HR11 := HQ8
        have HA12 := Lib.hid (HSX.out _ g11)
        go_wp2_with (go_at_call 89; (with_reducible refine HA12.out.mono ?_); rintro ev w12 ⟨rfl, hg12⟩)
        have HA13 := Lib.hid (newP_calls bb _ _ w12 (HR11.out.gr hg12).at_)
        go_wp2_with (go_at_call 66; (with_reducible refine HA13.out.mono ?_); rintro ev w13 ⟨⟨r13, rfl, hr13⟩, hg13⟩; have HR13 := Lib.hid hr13; clear hr13)
        go_ret
        exact ⟨⟨_, rfl, by rw [HO.out (by have := HC.out; have := HOD.out; omega)]; exact HR13.out⟩, (g11.tr hg12).tr hg13⟩
    · have HOD := HOD0
      have HC := Lib.hid hc
      have HA1 := Lib.hid (HX.out w (Gr.rf w))
      go_enter Tryz.func71, Tryz.ntmps71
      go_wp2_with (go_at_call 97; (with_reducible refine HA1.out.mono ?_); rintro ev w1 ⟨⟨r1, rfl, hr1⟩, hg1⟩; have HR1 := Lib.hid hr1; clear hr1)
      have HA2 := Lib.hid (HY.out w1 hg1)
      go_wp2_with (go_at_call 97; (with_reducible refine HA2.out.mono ?_); rintro ev w2 ⟨⟨r2, rfl, hr2⟩, hg2⟩; have HR2 := Lib.hid hr2; clear hr2)
      have g2 := hg1.tr hg2
      have HA3 := Lib.hid (HDV.out r1 r2 w2 (HR1.out.gr hg2) HR2.out)
      go_wp2_with (go_at_call 55; (with_reducible refine HA3.out.mono ?_); rintro ev w3 ⟨⟨_, hdv⟩, hg3⟩; obtain ⟨q3, r3, rfl, hq3, hr3⟩ := hdv HP.out; have HQ3 := Lib.hid hq3; have HR3 := Lib.hid hr3; clear hq3 hr3 hdv)
      have g3 := g2.tr hg3
      go_wp2_with (go_at_call 54; (with_reducible refine (of2_calls _).mono ?_); rintro ev w4 ⟨⟨r4, rfl, hr4⟩, hg4⟩; have HR4 := Lib.hid hr4; clear hr4)
      have g4 := g3.tr hg4
      have HA5 := Lib.hid (HD2.out q3 r4 w4 (HQ3.out.gr hg4) HR4.out)
      go_wp2_with (go_at_call 55; (with_reducible refine HA5.out.mono ?_); rintro ev w5 ⟨⟨_, hdv⟩, hg5⟩; obtain ⟨q5, r5, rfl, hq5, hr5⟩ := hdv (by decide); have HR5 := Lib.hid hr5; clear hq5 hr5 hdv)
      have g5 := g4.tr hg5
      have HA6 := Lib.hid (HRR.out r3 w5 (HR3.out.gr (hg4.tr hg5)))
      go_wp2_with (go_at_call 59; (with_reducible refine HA6.out.mono ?_); rintro ev w6 ⟨⟨r6, rfl, hr6⟩, hg6⟩; have HR6 := Lib.hid hr6; clear hr6)
      have g6 := g5.tr hg6
      have HA7 := Lib.hid (HY.out w6 g6)
      go_wp2_with (go_at_call 97; (with_reducible refine HA7.out.mono ?_); rintro ev w7 ⟨⟨r7, rfl, hr7⟩, hg7⟩; have HR7 := Lib.hid hr7; clear hr7)
      have g7 := g6.tr hg7
      have ha8 := HCM.out r6 r7 w7 (HR6.out.gr hg7) HR7.out
      rw [cmpN_gt hc] at ha8
      have HA8 := Lib.hid ha8
      clear ha8 hc
      go_wp2_with (go_at_call 60; (with_reducible refine HA8.out.mono ?_); rintro ev w8 ⟨rfl, hg8⟩)
      have g8 := g7.tr hg8
      have HQ8 := Lib.hid (HQ3.out.gr ((hg4.tr hg5).tr ((hg6.tr hg7).tr hg8)))
      have g11 := g8
      have HR11 := HQ8
      have HA12 := Lib.hid (HSX.out _ g11)
      go_wp2_with (go_at_call 89; (with_reducible refine HA12.out.mono ?_); rintro ev w12 ⟨rfl, hg12⟩)
      have HA13 := Lib.hid (newP_calls bb _ _ w12 (HR11.out.gr hg12).at_)
      go_wp2_with (go_at_call 66; (with_reducible refine HA13.out.mono ?_); rintro ev w13 ⟨⟨r13, rfl, hr13⟩, hg13⟩; have HR13 := Lib.hid hr13; clear hr13)
      go_ret
      exact ⟨⟨_, rfl, by rw [HO.out (by have := HC.out; have := HOD.out; omega)]; exact HR13.out⟩, (g11.tr hg12).tr hg13⟩
theorem two_B2 {d k : Nat} (h : d < B ^ k) : d * 2 < B ^ (k + 2) := by
  rw [Nat.pow_add]
  have h1 : B ^ k * 2 ≤ B ^ k * B ^ 2 := Nat.mul_le_mul_left _ (by decide)
  omega
set_option maxRecDepth 100000 in
set_option maxHeartbeats 8000000 in
/-- dec.Round. -/
theorem roundG_calls (v : Value) (n : Int) (d p : Nat) (m : Int) (w : World) (h : RatAt w v n d) (k : Nat) (hn : n.natAbs < B ^ k) (hd : d < B ^ k) (hk : k ≤ 400) (hp : p ≤ 20) (hm : m = 1 ∨ m = 2 ∨ m = 3) (hT : PowTab w) :
    Calls Tryz.prog 13 #[v, .int .i64 (p : Int), .int .i64 m] w fun e w' =>
      e = .returned (.tuple #[.string ⟨(placedL (sgn (decide (n * ((10 ^ p : Nat) : Int) < 0)) (roundN (n * ((10 ^ p : Nat) : Int)).natAbs d m)) p).toArray⟩, .nilIface]) ∧ Gr w w' := by
  have HM := Lib.hid (mode_calls m w)
  rw [show decide (1 ≤ m ∧ m ≤ 3) = true from decide_eq_true (by omega)] at HM
  have HN := Lib.hid (num_calls v n d w h)
  have HD := Lib.hid (fun w' (hg : Gr w w') => den_calls v n d w' (h.gr hg))
  have HTE := Lib.hid (fun w => ten_calls p hp w)
  obtain ⟨q1, q2, q3, q4⟩ := round_bd n p k d m hn hp
  have HMU := Lib.hid (fun (x y : Value) (w' : World) hx hy => mul_int x y n ((10 ^ p : Nat) : Int) w' hx hy (k + 2) q4 q3 (by omega))
  have HWH := Lib.hid (fun (x y : Value) (w' : World) hx hy => wholeG_calls x y (n * ((10 ^ p : Nat) : Int)) (d : Int) m w' hx hy (k + 2) q1 (by rw [Int.natAbs_natCast]; exact two_B2 hd) (by have := h.pos; omega) (by omega) (by omega) hm)
  rw [Int.natAbs_natCast] at HWH
  have HPL := Lib.hid (fun (x : Value) (w' : World) hx ht => placed_calls x (sgn (decide (n * ((10 ^ p : Nat) : Int) < 0)) (roundN (n * ((10 ^ p : Nat) : Int)).natAbs d m)) p w' hx (k + 2) (by rw [sgn_abs]; exact q2) (by omega) (by omega) hp ht)
  have HTT := Lib.hid hT
  generalize sgn (decide (n * ((10 ^ p : Nat) : Int) < 0)) (roundN (n * ((10 ^ p : Nat) : Int)).natAbs d m) = R at *
  generalize n * ((10 ^ p : Nat) : Int) = N at *
  generalize ((10 ^ p : Nat) : Int) = T at *
  have b1 : decide ((20 : Int) < (p : Int)) = false := decide_eq_false (by omega)
  clear h hn hd hm hT q1 q2 q3 q4
  go_enter Tryz.func13, Tryz.ntmps13
  go_wp2_with (go_at_call 69; (with_reducible refine HM.out.mono ?_); rintro ev w1 ⟨rfl, rfl⟩)
  go_wp2_with (go_at_call 42; (with_reducible refine HN.out.mono ?_); rintro ev w1 ⟨⟨r1, rfl, hr1⟩, hg1⟩; have HR1 := Lib.hid hr1; clear hr1)
  go_wp2_with (go_at_call 73; (with_reducible refine (HTE.out _).mono ?_); rintro ev w2 ⟨⟨r2, rfl, hr2⟩, hg2⟩; have HR2 := Lib.hid hr2; clear hr2)
  have H3 := Lib.hid (HMU.out r1 r2 w2 (HR1.out.gr hg2) HR2.out.at_)
  go_wp2_with (go_at_call 72; (with_reducible refine H3.out.mono ?_); rintro ev w3 ⟨⟨r3, rfl, hr3⟩, hg3⟩; have HR3 := Lib.hid hr3; clear hr3)
  have g3 := (hg1.tr hg2).tr hg3
  have H4 := Lib.hid (HD.out w3 g3)
  go_wp2_with (go_at_call 44; (with_reducible refine H4.out.mono ?_); rintro ev w4 ⟨⟨r4, rfl, hr4⟩, hg4⟩; have HR4 := Lib.hid hr4; clear hr4)
  have g4 := g3.tr hg4
  have H5 := Lib.hid (HWH.out r3 r4 w4 (HR3.out.gr hg4).at_ HR4.out)
  go_wp2_with (go_at_call 71; (with_reducible refine H5.out.mono ?_); rintro ev w5 ⟨⟨r5, rfl, hr5⟩, hg5⟩; have HR5 := Lib.hid hr5; clear hr5)
  have g5 := g4.tr hg5
  have H6 := Lib.hid (HPL.out r5 w5 HR5.out.at_ (HTT.out.gr g5))
  go_wp2_with (go_at_call 70; (with_reducible refine H6.out.mono ?_); rintro ev w6 ⟨rfl, hg6⟩)
  go_ret2
  exact ⟨rfl, g5.tr hg6⟩

set_option maxRecDepth 100000 in
set_option maxHeartbeats 8000000 in
/-- dec.Units. -/
theorem unitsG_calls (v : Value) (n : Int) (d : Nat) (m : Int) (w : World) (h : RatAt w v n d) (k : Nat) (hn : n.natAbs + 1 < B ^ k) (hd : d * 2 < B ^ k) (hk1 : 2 ≤ k) (hk : k ≤ 400) (hm : m = 1 ∨ m = 2 ∨ m = 3) :
    Calls Tryz.prog 22 #[v, .int .i64 m] w fun e w' => ((-9223372036854775808 ≤ sgn (decide (n < 0)) (roundN n.natAbs d m) ∧ sgn (decide (n < 0)) (roundN n.natAbs d m) ≤ 9223372036854775807 → e = .returned (.tuple #[.int .i64 (sgn (decide (n < 0)) (roundN n.natAbs d m)), .nilIface])) ∧ (¬ (-9223372036854775808 ≤ sgn (decide (n < 0)) (roundN n.natAbs d m) ∧ sgn (decide (n < 0)) (roundN n.natAbs d m) ≤ 9223372036854775807) → e = .returned (.tuple #[.int .i64 0, .iface 169 (.int .i64 11)]))) ∧ Gr w w' := by
  have HO := Lib.hid (of_calls 11 rfl)
  have hRB : (sgn (decide (n < 0)) (roundN n.natAbs d m)).natAbs < B ^ k := by
    rw [sgn_abs]
    have := Nat.div_le_self n.natAbs d
    unfold roundN; split <;> omega
  have HM := Lib.hid (mode_calls m w)
  rw [show decide (1 ≤ m ∧ m ≤ 3) = true from decide_eq_true (by omega)] at HM
  have HN := Lib.hid (num_calls v n d w h)
  have HD := Lib.hid (fun w' (hg : Gr w w') => den_calls v n d w' (h.gr hg))
  have HWH := Lib.hid (fun (x y : Value) (w' : World) hx hy => wholeG_calls x y n (d : Int) m w' hx hy k hn (by rw [Int.natAbs_natCast]; exact hd) (by have := h.pos; omega) hk1 (by omega) hm)
  rw [Int.natAbs_natCast] at HWH
  have HSM := Lib.hid (fun (x : Value) (w' : World) hx => small_int x (sgn (decide (n < 0)) (roundN n.natAbs d m)) w' hx k hRB (by omega))
  generalize sgn (decide (n < 0)) (roundN n.natAbs d m) = R at *
  clear h hn hd hm hRB
  go_enter Tryz.func22, Tryz.ntmps22
  go_wp2_with (go_at_call 69; (with_reducible refine HM.out.mono ?_); rintro ev w1 ⟨rfl, rfl⟩)
  go_wp2_with (go_at_call 42; (with_reducible refine HN.out.mono ?_); rintro ev w1 ⟨⟨r1, rfl, hr1⟩, hg1⟩; have HR1 := Lib.hid hr1; clear hr1)
  have H4 := Lib.hid (HD.out w1 hg1)
  go_wp2_with (go_at_call 44; (with_reducible refine H4.out.mono ?_); rintro ev w4 ⟨⟨r4, rfl, hr4⟩, hg4⟩; have HR4 := Lib.hid hr4; clear hr4)
  have g4 := hg1.tr hg4
  have H5 := Lib.hid (HWH.out r1 r4 w4 (HR1.out.gr hg4) HR4.out)
  go_wp2_with (go_at_call 71; (with_reducible refine H5.out.mono ?_); rintro ev w5 ⟨⟨r5, rfl, hr5⟩, hg5⟩; have HR5 := Lib.hid hr5; clear hr5)
  have g5 := g4.tr hg5
  have H6 := Lib.hid (HSM.out r5 w5 HR5.out.at_)
  by_cases hf : -9223372036854775808 ≤ R ∧ R ≤ 9223372036854775807
  · have HF := Lib.hid hf
    clear hf
    go_wp2_with (go_at_call 83; (with_reducible refine H6.out.mono ?_); rintro ev w6 ⟨⟨hs1, _⟩, hg6⟩; obtain rfl := hs1 HF.out; clear hs1)
    go_ret2
    exact ⟨⟨fun _ => rfl, fun hn => absurd HF.out hn⟩, g5.tr hg6⟩
  · have HF := Lib.hid hf
    clear hf
    go_wp2_with (first | (go_at_call 83; (with_reducible refine H6.out.mono ?_); rintro ev w6 ⟨⟨_, hs1⟩, hg6⟩; obtain rfl := hs1 (by have := HF.out; omega); clear hs1) | (go_at_call 68; (with_reducible refine (HO.out _).mono ?_); rintro ev w7 ⟨rfl, rfl⟩))
    go_ret2
    exact ⟨⟨fun hy => absurd hy HF.out, fun _ => rfl⟩, g5.tr hg6⟩
set_option maxRecDepth 100000 in
set_option maxHeartbeats 8000000 in
/-- dec.Round of places that are none. -/
theorem round_noplace (v : Value) (p m : Int) (w : World) (hp : p < 0 ∨ 20 < p) :
    Calls Tryz.prog 13 #[v, .int .i64 p, .int .i64 m] w fun e w' => e = .returned (.tuple #[.string ⟨#[]⟩, .iface 169 (.int .i64 2)]) ∧ Gr w w' := by
  have HO := Lib.hid (of_calls 2 rfl)
  by_cases h1 : p < 0
  · have b1 : decide (p < 0) = true := decide_eq_true h1
    clear hp h1
    go_enter Tryz.func13, Tryz.ntmps13
    go_wp2_with (go_at_call 68; (with_reducible refine (HO.out _).mono ?_); rintro ev w7 ⟨rfl, rfl⟩)
    go_ret2
    exact ⟨rfl, Gr.rf _⟩
  · have b1 : decide (p < 0) = false := decide_eq_false h1
    have b2 : decide (20 < p) = true := decide_eq_true (by omega)
    clear hp h1
    go_enter Tryz.func13, Tryz.ntmps13
    go_wp2_with (go_at_call 68; (with_reducible refine (HO.out _).mono ?_); rintro ev w7 ⟨rfl, rfl⟩)
    go_ret2
    exact ⟨rfl, Gr.rf _⟩
set_option maxRecDepth 100000 in
set_option maxHeartbeats 8000000 in
/-- dec.Round by no mode. -/
theorem round_nomode (v : Value) (p m : Int) (w : World) (h0 : 0 ≤ p) (h20 : p ≤ 20) (hm : m < 1 ∨ 3 < m) :
    Calls Tryz.prog 13 #[v, .int .i64 p, .int .i64 m] w fun e w' => e = .returned (.tuple #[.string ⟨#[]⟩, .iface 169 (.int .i64 1)]) ∧ Gr w w' := by
  have HO := Lib.hid (of_calls 1 rfl)
  have HM := Lib.hid (mode_calls m w)
  rw [show decide (1 ≤ m ∧ m ≤ 3) = false from decide_eq_false (by omega)] at HM
  have b1 : decide (p < 0) = false := decide_eq_false (by omega)
  have b2 : decide (20 < p) = false := decide_eq_false (by omega)
  clear hm h0 h20
  go_enter Tryz.func13, Tryz.ntmps13
  go_wp2_with (first | (go_at_call 69; (with_reducible refine HM.out.mono ?_); rintro ev w1 ⟨rfl, rfl⟩) | (go_at_call 68; (with_reducible refine (HO.out _).mono ?_); rintro ev w7 ⟨rfl, rfl⟩))
  go_ret2
  exact ⟨rfl, Gr.rf _⟩
theorem int_parts (z : Int) (d : Nat) (hd : 0 < d) (b : Bool) (hb : decide (z < 0) = b) : (z.natAbs % d = 0 → sgn b (z.natAbs / d) * (d : Int) = z) := by
  subst hb
  intro h
  have h1 := Nat.div_add_mod z.natAbs d
  rw [h, Nat.add_zero] at h1
  by_cases hz : z < 0
  · rw [decide_eq_true hz]
    show -((z.natAbs / d : Nat) : Int) * (d : Int) = z
    have : ((d * (z.natAbs / d) : Nat) : Int) = (z.natAbs : Int) := congrArg _ h1
    rw [Int.natCast_mul, Int.mul_comm] at this
    rw [Int.neg_mul]; omega
  · rw [decide_eq_false hz]
    show ((z.natAbs / d : Nat) : Int) * (d : Int) = z
    have : ((d * (z.natAbs / d) : Nat) : Int) = (z.natAbs : Int) := congrArg _ h1
    rw [Int.natCast_mul, Int.mul_comm] at this
    omega
set_option maxRecDepth 100000 in
set_option maxHeartbeats 8000000 in
theorem idiv_zt (x y : Value) (z : Int) (d : Nat) (w : World) (hx : IntAt w x z) (hy : IntAt w y (d : Int)) (k : Nat) (hz : z.natAbs + 1 < B ^ k) (hd : d < B ^ k) (hk : k ≤ 1000) (hd0 : 0 < d) (hneg : z < 0) (hr0 : z.natAbs % d = 0) :
    Calls Tryz.prog 92 #[x, y] w fun ev w' => (∃ q r, ev = .returned (.tuple #[q, r, .nilIface]) ∧ IntAt w' q (sgn true (z.natAbs / d)) ∧ IntAt w' r 0) ∧ Gr w w' := by
  have HX := Lib.hid (fun w' (hg : Gr w w') => abs_calls x z w' (hx.gr hg))
  have HY := Lib.hid (fun w' (hg : Gr w w') => abs_calls y (d : Int) w' (hy.gr hg))
  rw [Int.natAbs_natCast] at HY
  have HSX := Lib.hid (fun w' (hg : Gr w w') => sign_calls x z w' (hx.gr hg))
  have HSY := Lib.hid (fun w' (hg : Gr w w') => sign_calls y (d : Int) w' (hy.gr hg))
  rw [show (d : Int).sign = 1 from Int.sign_eq_one_of_pos (by omega)] at HSY
  rw [show z.sign = -1 from Int.sign_eq_neg_one_of_neg hneg] at HSX
  generalize z.natAbs = a at *
  have hq : a / d ≤ a := Nat.div_le_self _ _
  have hr : a % d < d := Nat.mod_lt _ hd0
  have HDV := Lib.hid (fun (r3 r4 : Value) (w4 : World) h3 h4 => div_calls r3 r4 a d w4 h3 h4 k (by omega) (by omega) (by omega))
  have HQ1 := Lib.hid (fun (r3 r4 : Value) (w4 : World) h3 h4 => add_calls r3 r4 (a / d) 1 w4 h3 h4 k (by omega) (by omega) (by omega))
  have HSB := Lib.hid (fun (r3 r4 : Value) (w4 : World) h3 h4 => sub_calls r3 r4 d (a % d) w4 h3 h4 k (by omega) (by omega) (by omega))
  have hzb : (a % d == 0) = true := beq_iff_eq.2 hr0
  have HP := Lib.hid (And.intro hd0 (And.intro hr hr0))
  have HZB := Lib.hid hzb
  generalize a / d = Q at *
  generalize a % d = R at *
  clear hx hy hz hd hk hd0 hneg hr0 hq hr hzb
  have HA1 := Lib.hid (HX.out w (Gr.rf w))
  go_enter Tryz.func92, Tryz.ntmps92
  go_wp2_with (go_at_call 97; (with_reducible refine HA1.out.mono ?_); rintro ev w1 ⟨⟨r1, rfl, hr1⟩, hg1⟩; have HR1 := Lib.hid hr1; clear hr1)
  have HA2 := Lib.hid (HY.out w1 hg1)
  go_wp2_with (go_at_call 97; (with_reducible refine HA2.out.mono ?_); rintro ev w2 ⟨⟨r2, rfl, hr2⟩, hg2⟩; have HR2 := Lib.hid hr2; clear hr2)
  have g2 := hg1.tr hg2
  have HA3 := Lib.hid (HDV.out r1 r2 w2 (HR1.out.gr hg2) HR2.out)
  go_wp2_with (go_at_call 55; (with_reducible refine HA3.out.mono ?_); rintro ev w3 ⟨⟨_, hdv⟩, hg3⟩; obtain ⟨q3, r3, rfl, hq3, hr3⟩ := hdv HP.out.1; have HQ3 := Lib.hid hq3; have HR3 := Lib.hid hr3; clear hq3 hr3 hdv)
  have g3 := g2.tr hg3
  have HA4 := Lib.hid (HSX.out w3 g3)
  go_wp2_with (go_at_call 89; (with_reducible refine HA4.out.mono ?_); rintro ev w4 ⟨rfl, hg4⟩)
  have g4 := g3.tr hg4
  have HA5 := Lib.hid (HSY.out w4 g4)
  go_wp2_with (go_at_call 89; (with_reducible refine HA5.out.mono ?_); rintro ev w5 ⟨rfl, hg5⟩)
  have g5 := g4.tr hg5
  have HQ5 := Lib.hid (HQ3.out.gr (hg4.tr hg5))
  have HR5 := Lib.hid (HR3.out.gr (hg4.tr hg5))
  have hzc := zero_calls r3 R w5 HR5.out.at_
  rw [HZB.out] at hzc
  have HZC := Lib.hid hzc
  clear hzc
  go_wp2_with (go_at_call 78; (with_reducible refine HZC.out.mono ?_); rintro ev w6 ⟨rfl, rfl⟩)
  have g11 := g5
  have HQ11 := HQ5
  have HRA := HR5
  have HN1 := Lib.hid (newP_calls true q3 _ w5 HQ11.out.at_)
  go_wp2_with (go_at_call 66; (with_reducible refine HN1.out.mono ?_); rintro ev wb ⟨⟨rb, rfl, hrb⟩, hgb⟩; have HRB := Lib.hid hrb; clear hrb)
  have HAC := Lib.hid (HSY.out wb (g11.tr hgb))
  go_wp2_with (go_at_call 89; (with_reducible refine HAC.out.mono ?_); rintro ev wc ⟨rfl, hgc⟩)
  have HN2 := Lib.hid (newP_calls false r3 R wc (HRA.out.gr (hgb.tr hgc)).at_)
  go_wp2_with (go_at_call 66; (with_reducible refine HN2.out.mono ?_); rintro ev wd ⟨⟨rd, rfl, hrd⟩, hgd⟩; have HRD := Lib.hid hrd; clear hrd)
  go_ret3
  exact ⟨⟨_, _, rfl, (HRB.out.gr (hgc.tr hgd)).at_, by have h := HRD.out.at_; rw [HP.out.2.2] at h; exact h⟩, ((g11.tr hgb).tr hgc).tr hgd⟩
set_option maxRecDepth 100000 in
set_option maxHeartbeats 8000000 in
theorem idiv_zf (x y : Value) (z : Int) (d : Nat) (w : World) (hx : IntAt w x z) (hy : IntAt w y (d : Int)) (k : Nat) (hz : z.natAbs + 1 < B ^ k) (hd : d < B ^ k) (hk : k ≤ 1000) (hd0 : 0 < d) (hneg : 0 ≤ z) (hr0 : z.natAbs % d = 0) :
    Calls Tryz.prog 92 #[x, y] w fun ev w' => (∃ q r, ev = .returned (.tuple #[q, r, .nilIface]) ∧ IntAt w' q (sgn false (z.natAbs / d)) ∧ IntAt w' r 0) ∧ Gr w w' := by
  have HX := Lib.hid (fun w' (hg : Gr w w') => abs_calls x z w' (hx.gr hg))
  have HY := Lib.hid (fun w' (hg : Gr w w') => abs_calls y (d : Int) w' (hy.gr hg))
  rw [Int.natAbs_natCast] at HY
  have HSX := Lib.hid (fun w' (hg : Gr w w') => sign_calls x z w' (hx.gr hg))
  have HSY := Lib.hid (fun w' (hg : Gr w w') => sign_calls y (d : Int) w' (hy.gr hg))
  rw [show (d : Int).sign = 1 from Int.sign_eq_one_of_pos (by omega)] at HSY
  obtain ⟨sz, hsz, hs0, hs1⟩ : ∃ s : Int, z.sign = s ∧ 0 ≤ s ∧ s ≤ 1 := ⟨_, rfl, by
    rcases Int.lt_or_eq_of_le hneg with h | h
    · rw [Int.sign_eq_one_of_pos h]; decide
    · rw [← h]; decide, (sign_bd z).2⟩
  rw [hsz] at HSX
  have hsb : decide (sz * 1 < 0) = false := decide_eq_false (by omega)
  have hsb2 : decide (sz < 0) = false := decide_eq_false (by omega)
  have hm1 : sz * 1 = sz := Int.mul_one sz
  have hsw : IntKind.i64.wrap sz = sz := by rw [IntKind.wrap_i64]; omega
  generalize z.natAbs = a at *
  have hq : a / d ≤ a := Nat.div_le_self _ _
  have hr : a % d < d := Nat.mod_lt _ hd0
  have HDV := Lib.hid (fun (r3 r4 : Value) (w4 : World) h3 h4 => div_calls r3 r4 a d w4 h3 h4 k (by omega) (by omega) (by omega))
  have HQ1 := Lib.hid (fun (r3 r4 : Value) (w4 : World) h3 h4 => add_calls r3 r4 (a / d) 1 w4 h3 h4 k (by omega) (by omega) (by omega))
  have HSB := Lib.hid (fun (r3 r4 : Value) (w4 : World) h3 h4 => sub_calls r3 r4 d (a % d) w4 h3 h4 k (by omega) (by omega) (by omega))
  have hzb : (a % d == 0) = true := beq_iff_eq.2 hr0
  have HP := Lib.hid (And.intro hd0 (And.intro hr hr0))
  have HZB := Lib.hid hzb
  generalize a / d = Q at *
  generalize a % d = R at *
  clear hx hy hz hd hk hd0 hneg hr0 hq hr hzb hsz
  have HA1 := Lib.hid (HX.out w (Gr.rf w))
  go_enter Tryz.func92, Tryz.ntmps92
  go_wp2_with (go_at_call 97; (with_reducible refine HA1.out.mono ?_); rintro ev w1 ⟨⟨r1, rfl, hr1⟩, hg1⟩; have HR1 := Lib.hid hr1; clear hr1)
  have HA2 := Lib.hid (HY.out w1 hg1)
  go_wp2_with (go_at_call 97; (with_reducible refine HA2.out.mono ?_); rintro ev w2 ⟨⟨r2, rfl, hr2⟩, hg2⟩; have HR2 := Lib.hid hr2; clear hr2)
  have g2 := hg1.tr hg2
  have HA3 := Lib.hid (HDV.out r1 r2 w2 (HR1.out.gr hg2) HR2.out)
  go_wp2_with (go_at_call 55; (with_reducible refine HA3.out.mono ?_); rintro ev w3 ⟨⟨_, hdv⟩, hg3⟩; obtain ⟨q3, r3, rfl, hq3, hr3⟩ := hdv HP.out.1; have HQ3 := Lib.hid hq3; have HR3 := Lib.hid hr3; clear hq3 hr3 hdv)
  have g3 := g2.tr hg3
  have HA4 := Lib.hid (HSX.out w3 g3)
  go_wp2_with (go_at_call 89; (with_reducible refine HA4.out.mono ?_); rintro ev w4 ⟨rfl, hg4⟩)
  have g4 := g3.tr hg4
  have HA5 := Lib.hid (HSY.out w4 g4)
  go_wp2_with (go_at_call 89; (with_reducible refine HA5.out.mono ?_); rintro ev w5 ⟨rfl, hg5⟩)
  have g5 := g4.tr hg5
  have HQ5 := Lib.hid (HQ3.out.gr (hg4.tr hg5))
  have HR5 := Lib.hid (HR3.out.gr (hg4.tr hg5))
  have g11 := g5
  have HQ11 := HQ5
  have HRA := HR5
  have HN1 := Lib.hid (newP_calls false q3 _ w5 HQ11.out.at_)
  go_wp2_with (go_at_call 66; (with_reducible refine HN1.out.mono ?_); rintro ev wb ⟨⟨rb, rfl, hrb⟩, hgb⟩; have HRB := Lib.hid hrb; clear hrb)
  have HAC := Lib.hid (HSY.out wb (g11.tr hgb))
  go_wp2_with (go_at_call 89; (with_reducible refine HAC.out.mono ?_); rintro ev wc ⟨rfl, hgc⟩)
  have HN2 := Lib.hid (newP_calls false r3 R wc (HRA.out.gr (hgb.tr hgc)).at_)
  go_wp2_with (go_at_call 66; (with_reducible refine HN2.out.mono ?_); rintro ev wd ⟨⟨rd, rfl, hrd⟩, hgd⟩; have HRD := Lib.hid hrd; clear hrd)
  go_ret3
  exact ⟨⟨_, _, rfl, (HRB.out.gr (hgc.tr hgd)).at_, by have h := HRD.out.at_; rw [HP.out.2.2] at h; exact h⟩, ((g11.tr hgb).tr hgc).tr hgd⟩
set_option maxRecDepth 100000 in
set_option maxHeartbeats 8000000 in
theorem idiv_rt (x y : Value) (z : Int) (d : Nat) (w : World) (hx : IntAt w x z) (hy : IntAt w y (d : Int)) (k : Nat) (hz : z.natAbs + 1 < B ^ k) (hd : d < B ^ k) (hk : k ≤ 1000) (hd0 : 0 < d) (hneg : z < 0) (hr0 : z.natAbs % d ≠ 0) :
    Calls Tryz.prog 92 #[x, y] w fun ev w' => (∃ q r, ev = .returned (.tuple #[q, r, .nilIface]) ∧ (∃ e : Int, e ≠ 0 ∧ IntAt w' r e)) ∧ Gr w w' := by
  have HX := Lib.hid (fun w' (hg : Gr w w') => abs_calls x z w' (hx.gr hg))
  have HY := Lib.hid (fun w' (hg : Gr w w') => abs_calls y (d : Int) w' (hy.gr hg))
  rw [Int.natAbs_natCast] at HY
  have HSX := Lib.hid (fun w' (hg : Gr w w') => sign_calls x z w' (hx.gr hg))
  have HSY := Lib.hid (fun w' (hg : Gr w w') => sign_calls y (d : Int) w' (hy.gr hg))
  rw [show (d : Int).sign = 1 from Int.sign_eq_one_of_pos (by omega)] at HSY
  rw [show z.sign = -1 from Int.sign_eq_neg_one_of_neg hneg] at HSX
  generalize z.natAbs = a at *
  have hq : a / d ≤ a := Nat.div_le_self _ _
  have hr : a % d < d := Nat.mod_lt _ hd0
  have HDV := Lib.hid (fun (r3 r4 : Value) (w4 : World) h3 h4 => div_calls r3 r4 a d w4 h3 h4 k (by omega) (by omega) (by omega))
  have HQ1 := Lib.hid (fun (r3 r4 : Value) (w4 : World) h3 h4 => add_calls r3 r4 (a / d) 1 w4 h3 h4 k (by omega) (by omega) (by omega))
  have HSB := Lib.hid (fun (r3 r4 : Value) (w4 : World) h3 h4 => sub_calls r3 r4 d (a % d) w4 h3 h4 k (by omega) (by omega) (by omega))
  have hzb : (a % d == 0) = false := beq_eq_false_iff_ne.2 hr0
  have HP := Lib.hid (And.intro hd0 (And.intro hr hr0))
  have HZB := Lib.hid hzb
  generalize a / d = Q at *
  generalize a % d = R at *
  clear hx hy hz hd hk hd0 hneg hr0 hq hr hzb
  have HA1 := Lib.hid (HX.out w (Gr.rf w))
  go_enter Tryz.func92, Tryz.ntmps92
  go_wp2_with (go_at_call 97; (with_reducible refine HA1.out.mono ?_); rintro ev w1 ⟨⟨r1, rfl, hr1⟩, hg1⟩; have HR1 := Lib.hid hr1; clear hr1)
  have HA2 := Lib.hid (HY.out w1 hg1)
  go_wp2_with (go_at_call 97; (with_reducible refine HA2.out.mono ?_); rintro ev w2 ⟨⟨r2, rfl, hr2⟩, hg2⟩; have HR2 := Lib.hid hr2; clear hr2)
  have g2 := hg1.tr hg2
  have HA3 := Lib.hid (HDV.out r1 r2 w2 (HR1.out.gr hg2) HR2.out)
  go_wp2_with (go_at_call 55; (with_reducible refine HA3.out.mono ?_); rintro ev w3 ⟨⟨_, hdv⟩, hg3⟩; obtain ⟨q3, r3, rfl, hq3, hr3⟩ := hdv HP.out.1; have HQ3 := Lib.hid hq3; have HR3 := Lib.hid hr3; clear hq3 hr3 hdv)
  have g3 := g2.tr hg3
  have HA4 := Lib.hid (HSX.out w3 g3)
  go_wp2_with (go_at_call 89; (with_reducible refine HA4.out.mono ?_); rintro ev w4 ⟨rfl, hg4⟩)
  have g4 := g3.tr hg4
  have HA5 := Lib.hid (HSY.out w4 g4)
  go_wp2_with (go_at_call 89; (with_reducible refine HA5.out.mono ?_); rintro ev w5 ⟨rfl, hg5⟩)
  have g5 := g4.tr hg5
  have HQ5 := Lib.hid (HQ3.out.gr (hg4.tr hg5))
  have HR5 := Lib.hid (HR3.out.gr (hg4.tr hg5))
  have hzc := zero_calls r3 R w5 HR5.out.at_
  rw [HZB.out] at hzc
  have HZC := Lib.hid hzc
  clear hzc
  go_wp2_with (go_at_call 78; (with_reducible refine HZC.out.mono ?_); rintro ev w6 ⟨rfl, rfl⟩)
  go_wp2_with (go_at_call 54; (with_reducible refine (of1_calls _).mono ?_); rintro ev w7 ⟨⟨r7, rfl, hr7⟩, hg7⟩; have HR7 := Lib.hid hr7; clear hr7)
  have HA8 := Lib.hid (HQ1.out q3 r7 w7 (HQ5.out.gr hg7) HR7.out)
  go_wp2_with (go_at_call 59; (with_reducible refine HA8.out.mono ?_); rintro ev w8 ⟨⟨r8, rfl, hr8⟩, hg8⟩; have HR8 := Lib.hid hr8; clear hr8)
  have g8 := g5.tr (hg7.tr hg8)
  have HA9 := Lib.hid (HY.out w8 g8)
  go_wp2_with (go_at_call 97; (with_reducible refine HA9.out.mono ?_); rintro ev w9 ⟨⟨r9, rfl, hr9⟩, hg9⟩; have HR9 := Lib.hid hr9; clear hr9)
  have HAA := Lib.hid (HSB.out r9 r3 w9 HR9.out (HR5.out.gr ((hg7.tr hg8).tr hg9)))
  go_wp2_with (go_at_call 148; (with_reducible refine HAA.out.mono ?_); rintro ev wa ⟨⟨_, hsb⟩, hga⟩; obtain ⟨ra, rfl, hra⟩ := hsb (Nat.le_of_lt HP.out.2.1); have HRA := Lib.hid hra; clear hra hsb)
  have g11 := (g8.tr hg9).tr hga
  have HQ11 := Lib.hid (HR8.out.gr (hg9.tr hga))
  have HN1 := Lib.hid (newP_calls true r8 _ wa HQ11.out.at_)
  go_wp2_with (go_at_call 66; (with_reducible refine HN1.out.mono ?_); rintro ev wb ⟨⟨rb, rfl, hrb⟩, hgb⟩; have HRB := Lib.hid hrb; clear hrb)
  have HAC := Lib.hid (HSY.out wb (g11.tr hgb))
  go_wp2_with (go_at_call 89; (with_reducible refine HAC.out.mono ?_); rintro ev wc ⟨rfl, hgc⟩)
  have HN2 := Lib.hid (newP_calls false ra (d - R) wc (HRA.out.gr (hgb.tr hgc)).at_)
  go_wp2_with (go_at_call 66; (with_reducible refine HN2.out.mono ?_); rintro ev wd ⟨⟨rd, rfl, hrd⟩, hgd⟩; have HRD := Lib.hid hrd; clear hrd)
  go_ret3
  exact ⟨⟨_, _, rfl, _, by have := HP.out; show (((d - R) : Nat) : Int) ≠ 0; omega, HRD.out.at_⟩, ((g11.tr hgb).tr hgc).tr hgd⟩
set_option maxRecDepth 100000 in
set_option maxHeartbeats 8000000 in
theorem idiv_rf (x y : Value) (z : Int) (d : Nat) (w : World) (hx : IntAt w x z) (hy : IntAt w y (d : Int)) (k : Nat) (hz : z.natAbs + 1 < B ^ k) (hd : d < B ^ k) (hk : k ≤ 1000) (hd0 : 0 < d) (hneg : 0 ≤ z) (hr0 : z.natAbs % d ≠ 0) :
    Calls Tryz.prog 92 #[x, y] w fun ev w' => (∃ q r, ev = .returned (.tuple #[q, r, .nilIface]) ∧ (∃ e : Int, e ≠ 0 ∧ IntAt w' r e)) ∧ Gr w w' := by
  have HX := Lib.hid (fun w' (hg : Gr w w') => abs_calls x z w' (hx.gr hg))
  have HY := Lib.hid (fun w' (hg : Gr w w') => abs_calls y (d : Int) w' (hy.gr hg))
  rw [Int.natAbs_natCast] at HY
  have HSX := Lib.hid (fun w' (hg : Gr w w') => sign_calls x z w' (hx.gr hg))
  have HSY := Lib.hid (fun w' (hg : Gr w w') => sign_calls y (d : Int) w' (hy.gr hg))
  rw [show (d : Int).sign = 1 from Int.sign_eq_one_of_pos (by omega)] at HSY
  obtain ⟨sz, hsz, hs0, hs1⟩ : ∃ s : Int, z.sign = s ∧ 0 ≤ s ∧ s ≤ 1 := ⟨_, rfl, by
    rcases Int.lt_or_eq_of_le hneg with h | h
    · rw [Int.sign_eq_one_of_pos h]; decide
    · rw [← h]; decide, (sign_bd z).2⟩
  rw [hsz] at HSX
  have hsb : decide (sz * 1 < 0) = false := decide_eq_false (by omega)
  have hsb2 : decide (sz < 0) = false := decide_eq_false (by omega)
  have hm1 : sz * 1 = sz := Int.mul_one sz
  have hsw : IntKind.i64.wrap sz = sz := by rw [IntKind.wrap_i64]; omega
  generalize z.natAbs = a at *
  have hq : a / d ≤ a := Nat.div_le_self _ _
  have hr : a % d < d := Nat.mod_lt _ hd0
  have HDV := Lib.hid (fun (r3 r4 : Value) (w4 : World) h3 h4 => div_calls r3 r4 a d w4 h3 h4 k (by omega) (by omega) (by omega))
  have HQ1 := Lib.hid (fun (r3 r4 : Value) (w4 : World) h3 h4 => add_calls r3 r4 (a / d) 1 w4 h3 h4 k (by omega) (by omega) (by omega))
  have HSB := Lib.hid (fun (r3 r4 : Value) (w4 : World) h3 h4 => sub_calls r3 r4 d (a % d) w4 h3 h4 k (by omega) (by omega) (by omega))
  have hzb : (a % d == 0) = false := beq_eq_false_iff_ne.2 hr0
  have HP := Lib.hid (And.intro hd0 (And.intro hr hr0))
  have HZB := Lib.hid hzb
  generalize a / d = Q at *
  generalize a % d = R at *
  clear hx hy hz hd hk hd0 hneg hr0 hq hr hzb hsz
  have HA1 := Lib.hid (HX.out w (Gr.rf w))
  go_enter Tryz.func92, Tryz.ntmps92
  go_wp2_with (go_at_call 97; (with_reducible refine HA1.out.mono ?_); rintro ev w1 ⟨⟨r1, rfl, hr1⟩, hg1⟩; have HR1 := Lib.hid hr1; clear hr1)
  have HA2 := Lib.hid (HY.out w1 hg1)
  go_wp2_with (go_at_call 97; (with_reducible refine HA2.out.mono ?_); rintro ev w2 ⟨⟨r2, rfl, hr2⟩, hg2⟩; have HR2 := Lib.hid hr2; clear hr2)
  have g2 := hg1.tr hg2
  have HA3 := Lib.hid (HDV.out r1 r2 w2 (HR1.out.gr hg2) HR2.out)
  go_wp2_with (go_at_call 55; (with_reducible refine HA3.out.mono ?_); rintro ev w3 ⟨⟨_, hdv⟩, hg3⟩; obtain ⟨q3, r3, rfl, hq3, hr3⟩ := hdv HP.out.1; have HQ3 := Lib.hid hq3; have HR3 := Lib.hid hr3; clear hq3 hr3 hdv)
  have g3 := g2.tr hg3
  have HA4 := Lib.hid (HSX.out w3 g3)
  go_wp2_with (go_at_call 89; (with_reducible refine HA4.out.mono ?_); rintro ev w4 ⟨rfl, hg4⟩)
  have g4 := g3.tr hg4
  have HA5 := Lib.hid (HSY.out w4 g4)
  go_wp2_with (go_at_call 89; (with_reducible refine HA5.out.mono ?_); rintro ev w5 ⟨rfl, hg5⟩)
  have g5 := g4.tr hg5
  have HQ5 := Lib.hid (HQ3.out.gr (hg4.tr hg5))
  have HR5 := Lib.hid (HR3.out.gr (hg4.tr hg5))
  have g11 := g5
  have HQ11 := HQ5
  have HRA := HR5
  have HN1 := Lib.hid (newP_calls false q3 _ w5 HQ11.out.at_)
  go_wp2_with (go_at_call 66; (with_reducible refine HN1.out.mono ?_); rintro ev wb ⟨⟨rb, rfl, hrb⟩, hgb⟩; have HRB := Lib.hid hrb; clear hrb)
  have HAC := Lib.hid (HSY.out wb (g11.tr hgb))
  go_wp2_with (go_at_call 89; (with_reducible refine HAC.out.mono ?_); rintro ev wc ⟨rfl, hgc⟩)
  have HN2 := Lib.hid (newP_calls false r3 R wc (HRA.out.gr (hgb.tr hgc)).at_)
  go_wp2_with (go_at_call 66; (with_reducible refine HN2.out.mono ?_); rintro ev wd ⟨⟨rd, rfl, hrd⟩, hgd⟩; have HRD := Lib.hid hrd; clear hrd)
  go_ret3
  exact ⟨⟨_, _, rfl, _, by have := HP.out; show ((R : Nat) : Int) ≠ 0; omega, HRD.out.at_⟩, ((g11.tr hgb).tr hgc).tr hgd⟩
/-- (*Int).Div by a number above nought. -/
theorem idiv_calls (x y : Value) (z : Int) (d : Nat) (w : World) (hx : IntAt w x z) (hy : IntAt w y (d : Int)) (k : Nat) (hz : z.natAbs + 1 < B ^ k) (hd : d < B ^ k) (hk : k ≤ 1000) (hd0 : 0 < d) :
    Calls Tryz.prog 92 #[x, y] w fun ev w' => (∃ q r, ev = .returned (.tuple #[q, r, .nilIface]) ∧ ((z.natAbs % d = 0 ∧ IntAt w' q (sgn (decide (z < 0)) (z.natAbs / d)) ∧ IntAt w' r 0) ∨ (z.natAbs % d ≠ 0 ∧ ∃ e : Int, e ≠ 0 ∧ IntAt w' r e))) ∧ Gr w w' := by
  by_cases h0 : z.natAbs % d = 0 <;> by_cases hn : z < 0
  · refine (idiv_zt x y z d w hx hy k hz hd hk hd0 hn h0).mono ?_
    rintro ev w' ⟨⟨q, r, rfl, h1, h2⟩, hg⟩
    exact ⟨⟨q, r, rfl, .inl ⟨h0, by rw [decide_eq_true hn]; exact h1, h2⟩⟩, hg⟩
  · refine (idiv_zf x y z d w hx hy k hz hd hk hd0 (by omega) h0).mono ?_
    rintro ev w' ⟨⟨q, r, rfl, h1, h2⟩, hg⟩
    exact ⟨⟨q, r, rfl, .inl ⟨h0, by rw [decide_eq_false hn]; exact h1, h2⟩⟩, hg⟩
  · refine (idiv_rt x y z d w hx hy k hz hd hk hd0 hn h0).mono ?_
    rintro ev w' ⟨⟨q, r, rfl, h1⟩, hg⟩
    exact ⟨⟨q, r, rfl, .inr ⟨h0, h1⟩⟩, hg⟩
  · refine (idiv_rf x y z d w hx hy k hz hd hk hd0 (by omega) h0).mono ?_
    rintro ev w' ⟨⟨q, r, rfl, h1⟩, hg⟩
    exact ⟨⟨q, r, rfl, .inr ⟨h0, h1⟩⟩, hg⟩
set_option maxRecDepth 100000 in
set_option maxHeartbeats 8000000 in
/-- dec.Put of places that are none. -/
theorem put_noplace (v : Value) (p : Int) (w : World) (hp : p < 0 ∨ 20 < p) :
    Calls Tryz.prog 35 #[v, .int .i64 p] w fun e w' => e = .returned (.tuple #[.string ⟨#[]⟩, .bool false]) ∧ Gr w w' := by
  by_cases h1 : p < 0
  · have b1 : decide (p < 0) = true := decide_eq_true h1
    clear hp h1
    go_enter Tryz.func35, Tryz.ntmps35
    go_wp2
    go_ret2
    exact ⟨rfl, Gr.rf _⟩
  · have b1 : decide (p < 0) = false := decide_eq_false h1
    have b2 : decide (20 < p) = true := decide_eq_true (by omega)
    clear hp h1
    go_enter Tryz.func35, Tryz.ntmps35
    go_wp2
    go_ret2
    exact ⟨rfl, Gr.rf _⟩
set_option maxRecDepth 100000 in
set_option maxHeartbeats 8000000 in
/-- dec.Put. -/
theorem put_calls (v : Value) (n : Int) (d p : Nat) (w : World) (h : RatAt w v n d) (k : Nat) (hn : n.natAbs < B ^ k) (hd : d < B ^ k) (hk : k ≤ 400) (hp : p ≤ 20) (hT : PowTab w) :
    Calls Tryz.prog 35 #[v, .int .i64 (p : Int)] w fun e w' => (((n * ((10 ^ p : Nat) : Int)).natAbs % d = 0 → e = .returned (.tuple #[.string ⟨(placedL (sgn (decide (n * ((10 ^ p : Nat) : Int) < 0)) ((n * ((10 ^ p : Nat) : Int)).natAbs / d)) p).toArray⟩, .bool true])) ∧ ((n * ((10 ^ p : Nat) : Int)).natAbs % d ≠ 0 → e = .returned (.tuple #[.string ⟨#[]⟩, .bool false]))) ∧ Gr w w' := by
  have HN := Lib.hid (num_calls v n d w h)
  have HD := Lib.hid (fun w' (hg : Gr w w') => den_calls v n d w' (h.gr hg))
  have HTE := Lib.hid (fun w => ten_calls p hp w)
  obtain ⟨q1, q2, q3, q4⟩ := round_bd n p k d 3 hn hp
  have HMU := Lib.hid (fun (x y : Value) (w' : World) hx hy => mul_int x y n ((10 ^ p : Nat) : Int) w' hx hy (k + 2) q4 q3 (by omega))
  have HDV := Lib.hid (fun (x y : Value) (w' : World) hx hy => idiv_calls x y (n * ((10 ^ p : Nat) : Int)) d w' hx hy (k + 2) q1 (b_upB hd (by omega)) (by omega) h.pos)
  have hqb : (n * ((10 ^ p : Nat) : Int)).natAbs / d < B ^ (k + 2) := Nat.lt_of_le_of_lt (Nat.div_le_self _ _) (by omega)
  have HPL := Lib.hid (fun (x : Value) (w' : World) hx ht => placed_calls x (sgn (decide (n * ((10 ^ p : Nat) : Int) < 0)) ((n * ((10 ^ p : Nat) : Int)).natAbs / d)) p w' hx (k + 2) (by rw [sgn_abs]; exact hqb) (by omega) (by omega) hp ht)
  have HTT := Lib.hid hT
  generalize sgn (decide (n * ((10 ^ p : Nat) : Int) < 0)) ((n * ((10 ^ p : Nat) : Int)).natAbs / d) = R at *
  generalize (n * ((10 ^ p : Nat) : Int)).natAbs % d = M at *
  generalize n * ((10 ^ p : Nat) : Int) = N at *
  generalize ((10 ^ p : Nat) : Int) = T at *
  have b1 : decide ((20 : Int) < (p : Int)) = false := decide_eq_false (by omega)
  clear h hn hd hT q1 q2 q3 q4 hqb
  go_enter Tryz.func35, Tryz.ntmps35
  go_wp2_with (go_at_call 42; (with_reducible refine HN.out.mono ?_); rintro ev w1 ⟨⟨r1, rfl, hr1⟩, hg1⟩; have HR1 := Lib.hid hr1; clear hr1)
  go_wp2_with (go_at_call 73; (with_reducible refine (HTE.out _).mono ?_); rintro ev w2 ⟨⟨r2, rfl, hr2⟩, hg2⟩; have HR2 := Lib.hid hr2; clear hr2)
  have H3 := Lib.hid (HMU.out r1 r2 w2 (HR1.out.gr hg2) HR2.out.at_)
  go_wp2_with (go_at_call 72; (with_reducible refine H3.out.mono ?_); rintro ev w3 ⟨⟨r3, rfl, hr3⟩, hg3⟩; have HR3 := Lib.hid hr3; clear hr3)
  have g3 := (hg1.tr hg2).tr hg3
  have H4 := Lib.hid (HD.out w3 g3)
  go_wp2_with (go_at_call 44; (with_reducible refine H4.out.mono ?_); rintro ev w4 ⟨⟨r4, rfl, hr4⟩, hg4⟩; have HR4 := Lib.hid hr4; clear hr4)
  have g4 := g3.tr hg4
  have H5 := Lib.hid (HDV.out r3 r4 w4 (HR3.out.gr hg4).at_ HR4.out)
  go_wp2_with fail
  refine H5.out.mono ?_
  rintro ev w5 ⟨⟨q5, r5, rfl, hqr⟩, hg5⟩
  have g5 := g4.tr hg5
  rcases hqr with ⟨hM, hq5, hr5⟩ | ⟨hM, e5, he5, hr5⟩
  · have HQ5 := Lib.hid hq5
    have hs5 := sign_calls r5 0 w5 hr5
    rw [show (0 : Int).sign = 0 from rfl] at hs5
    have HS5 := Lib.hid hs5
    have HMM := Lib.hid hM
    clear hM hq5 hr5 hs5
    go_wp2_with (go_at_call 89; (with_reducible refine HS5.out.mono ?_); rintro ev w6 ⟨rfl, hg6⟩)
    have H6 := Lib.hid (HPL.out q5 w6 (HQ5.out.gr hg6) (HTT.out.gr (g5.tr hg6)))
    go_wp2_with (go_at_call 70; (with_reducible refine H6.out.mono ?_); rintro ev w7 ⟨rfl, hg7⟩)
    go_ret2
    exact ⟨⟨fun _ => rfl, fun h => absurd HMM.out h⟩, (g5.tr hg6).tr hg7⟩
  · have hs5 := sign_calls r5 e5 w5 hr5
    have hsb : (e5.sign == 0) = false := beq_eq_false_iff_ne.2 (fun h => he5 (Int.sign_eq_zero_iff_zero.1 h))
    have hsn : (e5.sign != 0) = true := by rw [bne, hsb]; rfl
    generalize e5.sign = s5 at *
    have HS5 := Lib.hid hs5
    have HMM := Lib.hid hM
    clear hM hr5 hs5 he5
    go_wp2_with (go_at_call 89; (with_reducible refine HS5.out.mono ?_); rintro ev w6 ⟨rfl, hg6⟩)
    go_ret2
    exact ⟨⟨fun h => absurd h HMM.out, fun _ => rfl⟩, g5.tr hg6⟩
end Go.Proofs.YtcjjgdoafkdeaaaGreatDoor
