/- Layer 5: decimals: ten, mode, whole by contract. -/
import Derived.Test.YtcjjgdoafkdeaaaGreatDoorGl
import Derived.Test.YtcjjgdoafkdeaaaGreatDoorGh
namespace Go.Proofs.YtcjjgdoafkdeaaaGreatDoor
open Go.RowKit Go.Extern.Stop Go.Stop Go.Extern Go.Sort
set_option linter.unusedVariables false
set_option linter.unusedSimpArgs false

theorem of10_calls (w : World) : Calls Tryz.prog 54 #[.int .u64 10] w fun e w' => (∃ r, e = .returned r ∧ NatAt w' r 10) ∧ Gr w w' := by
  refine (of_nat_calls 10 (by decide) w).mono ?_
  rintro e w' ⟨⟨r, rfl, h⟩, hg⟩
  exact ⟨⟨r, rfl, h.at_⟩, hg⟩
theorem of2_calls (w : World) : Calls Tryz.prog 54 #[.int .u64 2] w fun e w' => (∃ r, e = .returned r ∧ NatAt w' r 2) ∧ Gr w w' := by
  refine (of_nat_calls 2 (by decide) w).mono ?_
  rintro e w' ⟨⟨r, rfl, h⟩, hg⟩
  exact ⟨⟨r, rfl, h.at_⟩, hg⟩
set_option maxRecDepth 100000 in
/-- dec.ten. -/
theorem ten_calls (p : Nat) (hp : p ≤ 20) (w : World) :
    Calls Tryz.prog 73 #[.int .i64 (p : Int)] w fun e w' => (∃ r, e = .returned r ∧ IntP w' r ((10 ^ p : Nat) : Int)) ∧ Gr w w' := by
  have hb : (10 : Nat) ^ p < B ^ 2 := Nat.lt_of_le_of_lt (Nat.pow_le_pow_right (by decide) hp) (by decide)
  have HB := Lib.hid hb
  clear hb
  go_enter Tryz.func73, Tryz.ntmps73
  go_wp2_with (go_at_call 54; (with_reducible refine (of10_calls _).mono ?_); rintro ev w1 ⟨⟨r1, rfl, hr1⟩, hg1⟩; have HR1 := Lib.hid hr1; clear hr1)
  have HP := Lib.hid (pow_calls r1 10 p w1 HR1.out 2 (by decide) HB.out (by decide) (by decide) (by omega))
  go_wp2_with (go_at_call 62; (with_reducible refine HP.out.mono ?_); rintro ev w2 ⟨⟨r2, rfl, hr2⟩, hg2⟩; have HR2 := Lib.hid hr2; clear hr2)
  have HN := Lib.hid (newP_calls false r2 _ w2 HR2.out)
  go_wp2_with (go_at_call 66; (with_reducible refine HN.out.mono ?_); rintro ev w3 ⟨⟨r3, rfl, hr3⟩, hg3⟩; have HR3 := Lib.hid hr3; clear hr3)
  go_ret
  exact ⟨⟨_, rfl, HR3.out⟩, (hg1.tr hg2).tr hg3⟩
set_option maxRecDepth 100000 in
/-- dec.mode. -/
theorem mode_calls (m : Int) (w : World) :
    Calls Tryz.prog 69 #[.int .i64 m] w fun e w' => e = .returned (.bool (decide (1 ≤ m ∧ m ≤ 3))) ∧ w = w' := by
  by_cases h1 : m = 1
  · subst h1
    go_enter Tryz.func69, Tryz.ntmps69
    go_wp2
    go_ret
    exact ⟨rfl, rfl⟩
  · by_cases h2 : m = 2
    · subst h2
      go_enter Tryz.func69, Tryz.ntmps69
      go_wp2
      go_ret
      exact ⟨rfl, rfl⟩
    · by_cases h3 : m = 3
      · subst h3
        go_enter Tryz.func69, Tryz.ntmps69
        go_wp2
        go_ret
        exact ⟨rfl, rfl⟩
      · rw [show decide (1 ≤ m ∧ m ≤ 3) = false from decide_eq_false (by omega)]
        have e1 : (m == 1) = false := beq_eq_false_iff_ne.2 h1
        have e2 : (m == 2) = false := beq_eq_false_iff_ne.2 h2
        have e3 : (m == 3) = false := beq_eq_false_iff_ne.2 h3
        go_enter Tryz.func69, Tryz.ntmps69
        go_wp2
        go_ret
        exact ⟨rfl, rfl⟩
/-- A quotient rounded by a mode. -/
def roundN (a d : Nat) (m : Int) : Nat := if (d < a % d + a % d ∨ (a % d + a % d = d ∧ (m = 1 ∨ a / d % 2 = 1))) ∧ m ≠ 3 then a / d + 1 else a / d
theorem roundN_up (a d : Nat) (m : Int) (h : (d < a % d + a % d ∨ (a % d + a % d = d ∧ (m = 1 ∨ a / d % 2 = 1))) ∧ m ≠ 3) : roundN a d m = a / d + 1 := if_pos h
theorem roundN_no (a d : Nat) (m : Int) (h : ¬ ((d < a % d + a % d ∨ (a % d + a % d = d ∧ (m = 1 ∨ a / d % 2 = 1))) ∧ m ≠ 3)) : roundN a d m = a / d := if_neg h

set_option maxRecDepth 100000 in
set_option maxHeartbeats 8000000 in
/-- dec.whole. -/
theorem whole_calls (x y : Value) (n d m : Int) (w : World) (hx : IntAt w x n) (hy : IntAt w y d) (k : Nat) (hn : n.natAbs + 1 < B ^ k) (hd : d.natAbs < B) (hd0 : d ≠ 0) (hk1 : 2 ≤ k) (hk : k ≤ 1000000) (hm : m = 1 ∨ m = 2 ∨ m = 3) :
    Calls Tryz.prog 71 #[x, y, .int .i64 m] w fun e w' => (∃ r, e = .returned r ∧ IntP w' r (sgn (decide (n < 0)) (roundN n.natAbs d.natAbs m))) ∧ Gr w w' := by
  have HX := Lib.hid (fun w' (hg : Gr w w') => abs_calls x n w' (hx.gr hg))
  have HY := Lib.hid (fun w' (hg : Gr w w') => abs_calls y d w' (hy.gr hg))
  have HSX := Lib.hid (fun w' (hg : Gr w w') => sign_calls x n w' (hx.gr hg))
  have hbs : decide (n.sign < 0) = decide (n < 0) := decide_eq_decide.2 (sign_neg_iff n)
  have hdp : 0 < d.natAbs := by omega
  have hBk : B * 2 ≤ B ^ k := by
    calc B * 2 ≤ B * B := Nat.mul_le_mul_left _ (by decide)
      _ = B ^ 2 := (Nat.pow_two B).symm
      _ ≤ B ^ k := Nat.pow_le_pow_right B_pos hk1
  generalize n.natAbs = a at *
  generalize d.natAbs = b at *
  have hq : a / b ≤ a := Nat.div_le_self _ _
  have hr : a % b < b := Nat.mod_lt _ hdp
  have HDV := Lib.hid (fun (r3 r4 : Value) (w4 : World) h3 h4 => div1_calls r3 r4 a b w4 h3 h4 k (by omega) hd hk)
  have hrn := roundN_up a b m
  have hro := roundN_no a b m
  generalize roundN a b m = RN at *
  generalize hqq : a / b = q at *
  generalize hrr : a % b = r at *
  obtain ⟨bb, hbb⟩ : ∃ bb : Bool, decide (n < 0) = bb := ⟨_, rfl⟩
  rw [hbb] at hbs ⊢
  generalize n.sign = sn at HSX hbs
  have HD2 := Lib.hid (fun (r3 r4 : Value) (w4 : World) h3 h4 => div1_calls r3 r4 q 2 w4 h3 h4 k (by omega) (by decide) hk)
  have hod : q % 2 = 0 ∨ q % 2 = 1 := Nat.mod_two_eq_zero_or_one q
  have HCM := Lib.hid (fun (r3 r4 : Value) (w4 : World) h3 h4 => cmp_calls r3 r4 (r + r) b w4 h3 h4 k (by omega) (by omega) hk)
  have HRR := Lib.hid (fun (r3 : Value) (w4 : World) h3 => add_calls r3 r3 r r w4 h3 h3 k (by omega) (by omega) hk)
  have HQ1 := Lib.hid (fun (r3 r4 : Value) (w4 : World) h3 h4 => add_calls r3 r4 q 1 w4 h3 h4 k (by omega) (by omega) hk)
  have HP := Lib.hid hdp
  have HU := Lib.hid hrn
  have HO := Lib.hid hro
  have HH := Lib.hid (And.intro hd0 (And.intro hn hqq))
  clear hx hy hn hd hd0 hrn hro hBk hq hr hdp hqq hrr hbb hk1 hk
  generalize q % 2 = o at *
  have HOD0 := Lib.hid hod
  clear hod
  rcases hm with rfl | rfl | rfl
  · rcases Nat.lt_trichotomy (r + r) b with hc | hc | hc
    · have HOD := HOD0
      have HC := Lib.hid hc
      have HA1 := Lib.hid (HX.out w (Gr.rf w))
      go_enter Tryz.func71, Tryz.ntmps71
      go_wp2_with (go_at_call 97; (with_reducible refine HA1.out.mono ?_); rintro ev w1 ⟨⟨r1, rfl, hr1⟩, hg1⟩; have HR1 := Lib.hid hr1; clear hr1)
      have HA2 := Lib.hid (HY.out w1 hg1)
      go_wp2_with (go_at_call 97; (with_reducible refine HA2.out.mono ?_); rintro ev w2 ⟨⟨r2, rfl, hr2⟩, hg2⟩; have HR2 := Lib.hid hr2; clear hr2)
      have g2 := hg1.tr hg2
      have HA3 := Lib.hid (HDV.out r1 r2 w2 (HR1.out.gr hg2) HR2.out)
      go_wp2_with (go_at_call 55; (with_reducible refine HA3.out.mono ?_); rintro ev w3 ⟨⟨_, hdv⟩, hg3⟩; obtain ⟨q3, r3, rfl, hq3, hr3⟩ := hdv HP.out; have HQ3 := Lib.hid hq3; have HR3 := Lib.hid hr3; clear hq3 hr3 hdv)
      have g3 := g2.tr hg3
      go_wp2_with (go_at_call 54; (with_reducible refine (of2_calls _).mono ?_); rintro ev w4 ⟨⟨r4, rfl, hr4⟩, hg4⟩; have HR4 := Lib.hid hr4; clear hr4)
      have g4 := g3.tr hg4
      have HA5 := Lib.hid (HD2.out q3 r4 w4 (HQ3.out.gr hg4) HR4.out)
      go_wp2_with (go_at_call 55; (with_reducible refine HA5.out.mono ?_); rintro ev w5 ⟨⟨_, hdv⟩, hg5⟩; obtain ⟨q5, r5, rfl, hq5, hr5⟩ := hdv (by decide); have HR5 := Lib.hid hr5; clear hq5 hr5 hdv)
      have g5 := g4.tr hg5
      have HA6 := Lib.hid (HRR.out r3 w5 (HR3.out.gr (hg4.tr hg5)))
      go_wp2_with (go_at_call 59; (with_reducible refine HA6.out.mono ?_); rintro ev w6 ⟨⟨r6, rfl, hr6⟩, hg6⟩; have HR6 := Lib.hid hr6; clear hr6)
      have g6 := g5.tr hg6
      have HA7 := Lib.hid (HY.out w6 g6)
      go_wp2_with (go_at_call 97; (with_reducible refine HA7.out.mono ?_); rintro ev w7 ⟨⟨r7, rfl, hr7⟩, hg7⟩; have HR7 := Lib.hid hr7; clear hr7)
      have g7 := g6.tr hg7
      have ha8 := HCM.out r6 r7 w7 (HR6.out.gr hg7) HR7.out
      rw [cmpN_lt hc] at ha8
      have HA8 := Lib.hid ha8
      clear ha8 hc
      go_wp2_with (go_at_call 60; (with_reducible refine HA8.out.mono ?_); rintro ev w8 ⟨rfl, hg8⟩)
      have g8 := g7.tr hg8
      have HQ8 := Lib.hid (HQ3.out.gr ((hg4.tr hg5).tr ((hg6.tr hg7).tr hg8)))
      have g11 := g8
      have HR11 := HQ8
      have HA12 := Lib.hid (HSX.out _ g11)
      go_wp2_with (go_at_call 89; (with_reducible refine HA12.out.mono ?_); rintro ev w12 ⟨rfl, hg12⟩)
      have HA13 := Lib.hid (newP_calls bb _ _ w12 (HR11.out.gr hg12).at_)
      go_wp2_with (go_at_call 66; (with_reducible refine HA13.out.mono ?_); rintro ev w13 ⟨⟨r13, rfl, hr13⟩, hg13⟩; have HR13 := Lib.hid hr13; clear hr13)
      go_ret
      exact ⟨⟨_, rfl, by rw [HO.out (by have := HC.out; have := HOD.out; omega)]; exact HR13.out⟩, (g11.tr hg12).tr hg13⟩
    · have HOD := HOD0
      have HC := Lib.hid hc
      have HA1 := Lib.hid (HX.out w (Gr.rf w))
      go_enter Tryz.func71, Tryz.ntmps71
      go_wp2_with (go_at_call 97; (with_reducible refine HA1.out.mono ?_); rintro ev w1 ⟨⟨r1, rfl, hr1⟩, hg1⟩; have HR1 := Lib.hid hr1; clear hr1)
      have HA2 := Lib.hid (HY.out w1 hg1)
      go_wp2_with (go_at_call 97; (with_reducible refine HA2.out.mono ?_); rintro ev w2 ⟨⟨r2, rfl, hr2⟩, hg2⟩; have HR2 := Lib.hid hr2; clear hr2)
      have g2 := hg1.tr hg2
      have HA3 := Lib.hid (HDV.out r1 r2 w2 (HR1.out.gr hg2) HR2.out)
      go_wp2_with (go_at_call 55; (with_reducible refine HA3.out.mono ?_); rintro ev w3 ⟨⟨_, hdv⟩, hg3⟩; obtain ⟨q3, r3, rfl, hq3, hr3⟩ := hdv HP.out; have HQ3 := Lib.hid hq3; have HR3 := Lib.hid hr3; clear hq3 hr3 hdv)
      have g3 := g2.tr hg3
      go_wp2_with (go_at_call 54; (with_reducible refine (of2_calls _).mono ?_); rintro ev w4 ⟨⟨r4, rfl, hr4⟩, hg4⟩; have HR4 := Lib.hid hr4; clear hr4)
      have g4 := g3.tr hg4
      have HA5 := Lib.hid (HD2.out q3 r4 w4 (HQ3.out.gr hg4) HR4.out)
      go_wp2_with (go_at_call 55; (with_reducible refine HA5.out.mono ?_); rintro ev w5 ⟨⟨_, hdv⟩, hg5⟩; obtain ⟨q5, r5, rfl, hq5, hr5⟩ := hdv (by decide); have HR5 := Lib.hid hr5; clear hq5 hr5 hdv)
      have g5 := g4.tr hg5
      have HA6 := Lib.hid (HRR.out r3 w5 (HR3.out.gr (hg4.tr hg5)))
      go_wp2_with (go_at_call 59; (with_reducible refine HA6.out.mono ?_); rintro ev w6 ⟨⟨r6, rfl, hr6⟩, hg6⟩; have HR6 := Lib.hid hr6; clear hr6)
      have g6 := g5.tr hg6
      have HA7 := Lib.hid (HY.out w6 g6)
      go_wp2_with (go_at_call 97; (with_reducible refine HA7.out.mono ?_); rintro ev w7 ⟨⟨r7, rfl, hr7⟩, hg7⟩; have HR7 := Lib.hid hr7; clear hr7)
      have g7 := g6.tr hg7
      have ha8 := HCM.out r6 r7 w7 (HR6.out.gr hg7) HR7.out
      rw [hc, cmpN_eq] at ha8
      have HA8 := Lib.hid ha8
      clear ha8 hc
      go_wp2_with (go_at_call 60; (with_reducible refine HA8.out.mono ?_); rintro ev w8 ⟨rfl, hg8⟩)
      have g8 := g7.tr hg8
      have HQ8 := Lib.hid (HQ3.out.gr ((hg4.tr hg5).tr ((hg6.tr hg7).tr hg8)))
      go_wp2_with (go_at_call 54; (with_reducible refine (of1_calls _).mono ?_); rintro ev w10 ⟨⟨r10, rfl, hr10⟩, hg10⟩; have HR10 := Lib.hid hr10; clear hr10)
      have HA11 := Lib.hid (HQ1.out q3 r10 w10 (HQ8.out.gr hg10) HR10.out)
      go_wp2_with (go_at_call 59; (with_reducible refine HA11.out.mono ?_); rintro ev w11 ⟨⟨r11, rfl, hr11⟩, hg11⟩; have HR11 := Lib.hid hr11; clear hr11)
      have g11 := g8.tr (hg10.tr hg11)
      have HA12 := Lib.hid (HSX.out _ g11)
      go_wp2_with (go_at_call 89; (with_reducible refine HA12.out.mono ?_); rintro ev w12 ⟨rfl, hg12⟩)
      have HA13 := Lib.hid (newP_calls bb _ _ w12 (HR11.out.gr hg12).at_)
      go_wp2_with (go_at_call 66; (with_reducible refine HA13.out.mono ?_); rintro ev w13 ⟨⟨r13, rfl, hr13⟩, hg13⟩; have HR13 := Lib.hid hr13; clear hr13)
      go_ret
      exact ⟨⟨_, rfl, by rw [HU.out (by refine ⟨.inr ⟨HC.out, ?_⟩, by decide⟩; simp)]; exact HR13.out⟩, (g11.tr hg12).tr hg13⟩
    · have HOD := HOD0
      have HC := Lib.hid hc
      have HA1 := Lib.hid (HX.out w (Gr.rf w))
      go_enter Tryz.func71, Tryz.ntmps71
      go_wp2_with (go_at_call 97; (with_reducible refine HA1.out.mono ?_); rintro ev w1 ⟨⟨r1, rfl, hr1⟩, hg1⟩; have HR1 := Lib.hid hr1; clear hr1)
      have HA2 := Lib.hid (HY.out w1 hg1)
      go_wp2_with (go_at_call 97; (with_reducible refine HA2.out.mono ?_); rintro ev w2 ⟨⟨r2, rfl, hr2⟩, hg2⟩; have HR2 := Lib.hid hr2; clear hr2)
      have g2 := hg1.tr hg2
      have HA3 := Lib.hid (HDV.out r1 r2 w2 (HR1.out.gr hg2) HR2.out)
      go_wp2_with (go_at_call 55; (with_reducible refine HA3.out.mono ?_); rintro ev w3 ⟨⟨_, hdv⟩, hg3⟩; obtain ⟨q3, r3, rfl, hq3, hr3⟩ := hdv HP.out; have HQ3 := Lib.hid hq3; have HR3 := Lib.hid hr3; clear hq3 hr3 hdv)
      have g3 := g2.tr hg3
      go_wp2_with (go_at_call 54; (with_reducible refine (of2_calls _).mono ?_); rintro ev w4 ⟨⟨r4, rfl, hr4⟩, hg4⟩; have HR4 := Lib.hid hr4; clear hr4)
      have g4 := g3.tr hg4
      have HA5 := Lib.hid (HD2.out q3 r4 w4 (HQ3.out.gr hg4) HR4.out)
      go_wp2_with (go_at_call 55; (with_reducible refine HA5.out.mono ?_); rintro ev w5 ⟨⟨_, hdv⟩, hg5⟩; obtain ⟨q5, r5, rfl, hq5, hr5⟩ := hdv (by decide); have HR5 := Lib.hid hr5; clear hq5 hr5 hdv)
      have g5 := g4.tr hg5
      have HA6 := Lib.hid (HRR.out r3 w5 (HR3.out.gr (hg4.tr hg5)))
      go_wp2_with (go_at_call 59; (with_reducible refine HA6.out.mono ?_); rintro ev w6 ⟨⟨r6, rfl, hr6⟩, hg6⟩; have HR6 := Lib.hid hr6; clear hr6)
      have g6 := g5.tr hg6
      have HA7 := Lib.hid (HY.out w6 g6)
      go_wp2_with (go_at_call 97; (with_reducible refine HA7.out.mono ?_); rintro ev w7 ⟨⟨r7, rfl, hr7⟩, hg7⟩; have HR7 := Lib.hid hr7; clear hr7)
      have g7 := g6.tr hg7
      have ha8 := HCM.out r6 r7 w7 (HR6.out.gr hg7) HR7.out
      rw [cmpN_gt hc] at ha8
      have HA8 := Lib.hid ha8
      clear ha8 hc
      go_wp2_with (go_at_call 60; (with_reducible refine HA8.out.mono ?_); rintro ev w8 ⟨rfl, hg8⟩)
      have g8 := g7.tr hg8
      have HQ8 := Lib.hid (HQ3.out.gr ((hg4.tr hg5).tr ((hg6.tr hg7).tr hg8)))
      go_wp2_with (go_at_call 54; (with_reducible refine (of1_calls _).mono ?_); rintro ev w10 ⟨⟨r10, rfl, hr10⟩, hg10⟩; have HR10 := Lib.hid hr10; clear hr10)
      have HA11 := Lib.hid (HQ1.out q3 r10 w10 (HQ8.out.gr hg10) HR10.out)
      go_wp2_with (go_at_call 59; (with_reducible refine HA11.out.mono ?_); rintro ev w11 ⟨⟨r11, rfl, hr11⟩, hg11⟩; have HR11 := Lib.hid hr11; clear hr11)
      have g11 := g8.tr (hg10.tr hg11)
      have HA12 := Lib.hid (HSX.out _ g11)
      go_wp2_with (go_at_call 89; (with_reducible refine HA12.out.mono ?_); rintro ev w12 ⟨rfl, hg12⟩)
      have HA13 := Lib.hid (newP_calls bb _ _ w12 (HR11.out.gr hg12).at_)
      go_wp2_with (go_at_call 66; (with_reducible refine HA13.out.mono ?_); rintro ev w13 ⟨⟨r13, rfl, hr13⟩, hg13⟩; have HR13 := Lib.hid hr13; clear hr13)
      go_ret
      exact ⟨⟨_, rfl, by rw [HU.out (by have := HC.out; have := HOD.out; omega)]; exact HR13.out⟩, (g11.tr hg12).tr hg13⟩
  · rcases Nat.lt_trichotomy (r + r) b with hc | hc | hc
    · have HOD := HOD0
      have HC := Lib.hid hc
      have HA1 := Lib.hid (HX.out w (Gr.rf w))
      go_enter Tryz.func71, Tryz.ntmps71
      go_wp2_with (go_at_call 97; (with_reducible refine HA1.out.mono ?_); rintro ev w1 ⟨⟨r1, rfl, hr1⟩, hg1⟩; have HR1 := Lib.hid hr1; clear hr1)
      have HA2 := Lib.hid (HY.out w1 hg1)
      go_wp2_with (go_at_call 97; (with_reducible refine HA2.out.mono ?_); rintro ev w2 ⟨⟨r2, rfl, hr2⟩, hg2⟩; have HR2 := Lib.hid hr2; clear hr2)
      have g2 := hg1.tr hg2
      have HA3 := Lib.hid (HDV.out r1 r2 w2 (HR1.out.gr hg2) HR2.out)
      go_wp2_with (go_at_call 55; (with_reducible refine HA3.out.mono ?_); rintro ev w3 ⟨⟨_, hdv⟩, hg3⟩; obtain ⟨q3, r3, rfl, hq3, hr3⟩ := hdv HP.out; have HQ3 := Lib.hid hq3; have HR3 := Lib.hid hr3; clear hq3 hr3 hdv)
      have g3 := g2.tr hg3
      go_wp2_with (go_at_call 54; (with_reducible refine (of2_calls _).mono ?_); rintro ev w4 ⟨⟨r4, rfl, hr4⟩, hg4⟩; have HR4 := Lib.hid hr4; clear hr4)
      have g4 := g3.tr hg4
      have HA5 := Lib.hid (HD2.out q3 r4 w4 (HQ3.out.gr hg4) HR4.out)
      go_wp2_with (go_at_call 55; (with_reducible refine HA5.out.mono ?_); rintro ev w5 ⟨⟨_, hdv⟩, hg5⟩; obtain ⟨q5, r5, rfl, hq5, hr5⟩ := hdv (by decide); have HR5 := Lib.hid hr5; clear hq5 hr5 hdv)
      have g5 := g4.tr hg5
      have HA6 := Lib.hid (HRR.out r3 w5 (HR3.out.gr (hg4.tr hg5)))
      go_wp2_with (go_at_call 59; (with_reducible refine HA6.out.mono ?_); rintro ev w6 ⟨⟨r6, rfl, hr6⟩, hg6⟩; have HR6 := Lib.hid hr6; clear hr6)
      have g6 := g5.tr hg6
      have HA7 := Lib.hid (HY.out w6 g6)
      go_wp2_with (go_at_call 97; (with_reducible refine HA7.out.mono ?_); rintro ev w7 ⟨⟨r7, rfl, hr7⟩, hg7⟩; have HR7 := Lib.hid hr7; clear hr7)
      have g7 := g6.tr hg7
      have ha8 := HCM.out r6 r7 w7 (HR6.out.gr hg7) HR7.out
      rw [cmpN_lt hc] at ha8
      have HA8 := Lib.hid ha8
      clear ha8 hc
      go_wp2_with (go_at_call 60; (with_reducible refine HA8.out.mono ?_); rintro ev w8 ⟨rfl, hg8⟩)
      have g8 := g7.tr hg8
      have HQ8 := Lib.hid (HQ3.out.gr ((hg4.tr hg5).tr ((hg6.tr hg7).tr hg8)))
      have g11 := g8
      have HR11 := HQ8
      have HA12 := Lib.hid (HSX.out _ g11)
      go_wp2_with (go_at_call 89; (with_reducible refine HA12.out.mono ?_); rintro ev w12 ⟨rfl, hg12⟩)
      have HA13 := Lib.hid (newP_calls bb _ _ w12 (HR11.out.gr hg12).at_)
      go_wp2_with (go_at_call 66; (with_reducible refine HA13.out.mono ?_); rintro ev w13 ⟨⟨r13, rfl, hr13⟩, hg13⟩; have HR13 := Lib.hid hr13; clear hr13)
      go_ret
      exact ⟨⟨_, rfl, by rw [HO.out (by have := HC.out; have := HOD.out; omega)]; exact HR13.out⟩, (g11.tr hg12).tr hg13⟩
    · rcases HOD0.out with hod | hod
      · have HOD := Lib.hid hod
        clear hod
        have HC := Lib.hid hc
        have HA1 := Lib.hid (HX.out w (Gr.rf w))
        go_enter Tryz.func71, Tryz.ntmps71
        go_wp2_with (go_at_call 97; (with_reducible refine HA1.out.mono ?_); rintro ev w1 ⟨⟨r1, rfl, hr1⟩, hg1⟩; have HR1 := Lib.hid hr1; clear hr1)
        have HA2 := Lib.hid (HY.out w1 hg1)
        go_wp2_with (go_at_call 97; (with_reducible refine HA2.out.mono ?_); rintro ev w2 ⟨⟨r2, rfl, hr2⟩, hg2⟩; have HR2 := Lib.hid hr2; clear hr2)
        have g2 := hg1.tr hg2
        have HA3 := Lib.hid (HDV.out r1 r2 w2 (HR1.out.gr hg2) HR2.out)
        go_wp2_with (go_at_call 55; (with_reducible refine HA3.out.mono ?_); rintro ev w3 ⟨⟨_, hdv⟩, hg3⟩; obtain ⟨q3, r3, rfl, hq3, hr3⟩ := hdv HP.out; have HQ3 := Lib.hid hq3; have HR3 := Lib.hid hr3; clear hq3 hr3 hdv)
        have g3 := g2.tr hg3
        go_wp2_with (go_at_call 54; (with_reducible refine (of2_calls _).mono ?_); rintro ev w4 ⟨⟨r4, rfl, hr4⟩, hg4⟩; have HR4 := Lib.hid hr4; clear hr4)
        have g4 := g3.tr hg4
        have HA5 := Lib.hid (HD2.out q3 r4 w4 (HQ3.out.gr hg4) HR4.out)
        go_wp2_with (go_at_call 55; (with_reducible refine HA5.out.mono ?_); rintro ev w5 ⟨⟨_, hdv⟩, hg5⟩; obtain ⟨q5, r5, rfl, hq5, hr5⟩ := hdv (by decide); have HR5 := Lib.hid hr5; clear hq5 hr5 hdv)
        have g5 := g4.tr hg5
        have HA6 := Lib.hid (HRR.out r3 w5 (HR3.out.gr (hg4.tr hg5)))
        go_wp2_with (go_at_call 59; (with_reducible refine HA6.out.mono ?_); rintro ev w6 ⟨⟨r6, rfl, hr6⟩, hg6⟩; have HR6 := Lib.hid hr6; clear hr6)
        have g6 := g5.tr hg6
        have HA7 := Lib.hid (HY.out w6 g6)
        go_wp2_with (go_at_call 97; (with_reducible refine HA7.out.mono ?_); rintro ev w7 ⟨⟨r7, rfl, hr7⟩, hg7⟩; have HR7 := Lib.hid hr7; clear hr7)
        have g7 := g6.tr hg7
        have ha8 := HCM.out r6 r7 w7 (HR6.out.gr hg7) HR7.out
        rw [hc, cmpN_eq] at ha8
        have HA8 := Lib.hid ha8
        clear ha8 hc
        go_wp2_with (go_at_call 60; (with_reducible refine HA8.out.mono ?_); rintro ev w8 ⟨rfl, hg8⟩)
        have g8 := g7.tr hg8
        have HQ8 := Lib.hid (HQ3.out.gr ((hg4.tr hg5).tr ((hg6.tr hg7).tr hg8)))
        have ha9 := zero_calls r5 o w8 (HR5.out.gr ((hg6.tr hg7).tr hg8))
        rw [show (o == 0) = true from by rw [HOD.out]; rfl] at ha9
        have HA9 := Lib.hid ha9
        clear ha9
        go_wp2_with (go_at_call 78; (with_reducible refine HA9.out.mono ?_); rintro ev w9 ⟨rfl, rfl⟩)
        have g11 := g8
        have HR11 := HQ8
        have HA12 := Lib.hid (HSX.out _ g11)
        go_wp2_with (go_at_call 89; (with_reducible refine HA12.out.mono ?_); rintro ev w12 ⟨rfl, hg12⟩)
        have HA13 := Lib.hid (newP_calls bb _ _ w12 (HR11.out.gr hg12).at_)
        go_wp2_with (go_at_call 66; (with_reducible refine HA13.out.mono ?_); rintro ev w13 ⟨⟨r13, rfl, hr13⟩, hg13⟩; have HR13 := Lib.hid hr13; clear hr13)
        go_ret
        exact ⟨⟨_, rfl, by rw [HO.out (by have := HC.out; have := HOD.out; omega)]; exact HR13.out⟩, (g11.tr hg12).tr hg13⟩
      · have HOD := Lib.hid hod
        clear hod
        have HC := Lib.hid hc
        have HA1 := Lib.hid (HX.out w (Gr.rf w))
        go_enter Tryz.func71, Tryz.ntmps71
        go_wp2_with (go_at_call 97; (with_reducible refine HA1.out.mono ?_); rintro ev w1 ⟨⟨r1, rfl, hr1⟩, hg1⟩; have HR1 := Lib.hid hr1; clear hr1)
        have HA2 := Lib.hid (HY.out w1 hg1)
        go_wp2_with (go_at_call 97; (with_reducible refine HA2.out.mono ?_); rintro ev w2 ⟨⟨r2, rfl, hr2⟩, hg2⟩; have HR2 := Lib.hid hr2; clear hr2)
        have g2 := hg1.tr hg2
        have HA3 := Lib.hid (HDV.out r1 r2 w2 (HR1.out.gr hg2) HR2.out)
        go_wp2_with (go_at_call 55; (with_reducible refine HA3.out.mono ?_); rintro ev w3 ⟨⟨_, hdv⟩, hg3⟩; obtain ⟨q3, r3, rfl, hq3, hr3⟩ := hdv HP.out; have HQ3 := Lib.hid hq3; have HR3 := Lib.hid hr3; clear hq3 hr3 hdv)
        have g3 := g2.tr hg3
        go_wp2_with (go_at_call 54; (with_reducible refine (of2_calls _).mono ?_); rintro ev w4 ⟨⟨r4, rfl, hr4⟩, hg4⟩; have HR4 := Lib.hid hr4; clear hr4)
        have g4 := g3.tr hg4
        have HA5 := Lib.hid (HD2.out q3 r4 w4 (HQ3.out.gr hg4) HR4.out)
        go_wp2_with (go_at_call 55; (with_reducible refine HA5.out.mono ?_); rintro ev w5 ⟨⟨_, hdv⟩, hg5⟩; obtain ⟨q5, r5, rfl, hq5, hr5⟩ := hdv (by decide); have HR5 := Lib.hid hr5; clear hq5 hr5 hdv)
        have g5 := g4.tr hg5
        have HA6 := Lib.hid (HRR.out r3 w5 (HR3.out.gr (hg4.tr hg5)))
        go_wp2_with (go_at_call 59; (with_reducible refine HA6.out.mono ?_); rintro ev w6 ⟨⟨r6, rfl, hr6⟩, hg6⟩; have HR6 := Lib.hid hr6; clear hr6)
        have g6 := g5.tr hg6
        have HA7 := Lib.hid (HY.out w6 g6)
        go_wp2_with (go_at_call 97; (with_reducible refine HA7.out.mono ?_); rintro ev w7 ⟨⟨r7, rfl, hr7⟩, hg7⟩; have HR7 := Lib.hid hr7; clear hr7)
        have g7 := g6.tr hg7
        have ha8 := HCM.out r6 r7 w7 (HR6.out.gr hg7) HR7.out
        rw [hc, cmpN_eq] at ha8
        have HA8 := Lib.hid ha8
        clear ha8 hc
        go_wp2_with (go_at_call 60; (with_reducible refine HA8.out.mono ?_); rintro ev w8 ⟨rfl, hg8⟩)
        have g8 := g7.tr hg8
        have HQ8 := Lib.hid (HQ3.out.gr ((hg4.tr hg5).tr ((hg6.tr hg7).tr hg8)))
        have ha9 := zero_calls r5 o w8 (HR5.out.gr ((hg6.tr hg7).tr hg8))
        rw [show (o == 0) = false from by rw [HOD.out]; rfl] at ha9
        have HA9 := Lib.hid ha9
        clear ha9
        go_wp2_with (go_at_call 78; (with_reducible refine HA9.out.mono ?_); rintro ev w9 ⟨rfl, rfl⟩)
        go_wp2_with (go_at_call 54; (with_reducible refine (of1_calls _).mono ?_); rintro ev w10 ⟨⟨r10, rfl, hr10⟩, hg10⟩; have HR10 := Lib.hid hr10; clear hr10)
        have HA11 := Lib.hid (HQ1.out q3 r10 w10 (HQ8.out.gr hg10) HR10.out)
        go_wp2_with (go_at_call 59; (with_reducible refine HA11.out.mono ?_); rintro ev w11 ⟨⟨r11, rfl, hr11⟩, hg11⟩; have HR11 := Lib.hid hr11; clear hr11)
        have g11 := g8.tr (hg10.tr hg11)
        have HA12 := Lib.hid (HSX.out _ g11)
        go_wp2_with (go_at_call 89; (with_reducible refine HA12.out.mono ?_); rintro ev w12 ⟨rfl, hg12⟩)
        have HA13 := Lib.hid (newP_calls bb _ _ w12 (HR11.out.gr hg12).at_)
        go_wp2_with (go_at_call 66; (with_reducible refine HA13.out.mono ?_); rintro ev w13 ⟨⟨r13, rfl, hr13⟩, hg13⟩; have HR13 := Lib.hid hr13; clear hr13)
        go_ret
        exact ⟨⟨_, rfl, by rw [HU.out (by have := HC.out; have := HOD.out; omega)]; exact HR13.out⟩, (g11.tr hg12).tr hg13⟩
    · have HOD := HOD0
      have HC := Lib.hid hc
      have HA1 := Lib.hid (HX.out w (Gr.rf w))
      go_enter Tryz.func71, Tryz.ntmps71
      go_wp2_with (go_at_call 97; (with_reducible refine HA1.out.mono ?_); rintro ev w1 ⟨⟨r1, rfl, hr1⟩, hg1⟩; have HR1 := Lib.hid hr1; clear hr1)
      have HA2 := Lib.hid (HY.out w1 hg1)
      go_wp2_with (go_at_call 97; (with_reducible refine HA2.out.mono ?_); rintro ev w2 ⟨⟨r2, rfl, hr2⟩, hg2⟩; have HR2 := Lib.hid hr2; clear hr2)
      have g2 := hg1.tr hg2
      have HA3 := Lib.hid (HDV.out r1 r2 w2 (HR1.out.gr hg2) HR2.out)
      go_wp2_with (go_at_call 55; (with_reducible refine HA3.out.mono ?_); rintro ev w3 ⟨⟨_, hdv⟩, hg3⟩; obtain ⟨q3, r3, rfl, hq3, hr3⟩ := hdv HP.out; have HQ3 := Lib.hid hq3; have HR3 := Lib.hid hr3; clear hq3 hr3 hdv)
      have g3 := g2.tr hg3
      go_wp2_with (go_at_call 54; (with_reducible refine (of2_calls _).mono ?_); rintro ev w4 ⟨⟨r4, rfl, hr4⟩, hg4⟩; have HR4 := Lib.hid hr4; clear hr4)
      have g4 := g3.tr hg4
      have HA5 := Lib.hid (HD2.out q3 r4 w4 (HQ3.out.gr hg4) HR4.out)
      go_wp2_with (go_at_call 55; (with_reducible refine HA5.out.mono ?_); rintro ev w5 ⟨⟨_, hdv⟩, hg5⟩; obtain ⟨q5, r5, rfl, hq5, hr5⟩ := hdv (by decide); have HR5 := Lib.hid hr5; clear hq5 hr5 hdv)
      have g5 := g4.tr hg5
      have HA6 := Lib.hid (HRR.out r3 w5 (HR3.out.gr (hg4.tr hg5)))
      go_wp2_with (go_at_call 59; (with_reducible refine HA6.out.mono ?_); rintro ev w6 ⟨⟨r6, rfl, hr6⟩, hg6⟩; have HR6 := Lib.hid hr6; clear hr6)
      have g6 := g5.tr hg6
      have HA7 := Lib.hid (HY.out w6 g6)
      go_wp2_with (go_at_call 97; (with_reducible refine HA7.out.mono ?_); rintro ev w7 ⟨⟨r7, rfl, hr7⟩, hg7⟩; have HR7 := Lib.hid hr7; clear hr7)
      have g7 := g6.tr hg7
      have ha8 := HCM.out r6 r7 w7 (HR6.out.gr hg7) HR7.out
      rw [cmpN_gt hc] at ha8
      have HA8 := Lib.hid ha8
      clear ha8 hc
      go_wp2_with (go_at_call 60; (with_reducible refine HA8.out.mono ?_); rintro ev w8 ⟨rfl, hg8⟩)
      have g8 := g7.tr hg8
      have HQ8 := Lib.hid (HQ3.out.gr ((hg4.tr hg5).tr ((hg6.tr hg7).tr hg8)))
      go_wp2_with (go_at_call 54; (with_reducible refine (of1_calls _).mono ?_); rintro ev w10 ⟨⟨r10, rfl, hr10⟩, hg10⟩; have HR10 := Lib.hid hr10; clear hr10)
      have HA11 := Lib.hid (HQ1.out q3 r10 w10 (HQ8.out.gr hg10) HR10.out)
      go_wp2_with (go_at_call 59; (with_reducible refine HA11.out.mono ?_); rintro ev w11 ⟨⟨r11, rfl, hr11⟩, hg11⟩; have HR11 := Lib.hid hr11; clear hr11)
      have g11 := g8.tr (hg10.tr hg11)
      have HA12 := Lib.hid (HSX.out _ g11)
      go_wp2_with (go_at_call 89; (with_reducible refine HA12.out.mono ?_); rintro ev w12 ⟨rfl, hg12⟩)
      have HA13 := Lib.hid (newP_calls bb _ _ w12 (HR11.out.gr hg12).at_)
      go_wp2_with (go_at_call 66; (with_reducible refine HA13.out.mono ?_); rintro ev w13 ⟨⟨r13, rfl, hr13⟩, hg13⟩; have HR13 := Lib.hid hr13; clear hr13)
      go_ret
      exact ⟨⟨_, rfl, by rw [HU.out (by have := HC.out; have := HOD.out; omega)]; exact HR13.out⟩, (g11.tr hg12).tr hg13⟩
  · rcases Nat.lt_trichotomy (r + r) b with hc | hc | hc
    · have HOD := HOD0
      have HC := Lib.hid hc
      have HA1 := Lib.hid (HX.out w (Gr.rf w))
      go_enter Tryz.func71, Tryz.ntmps71
      go_wp2_with (go_at_call 97; (with_reducible refine HA1.out.mono ?_); rintro ev w1 ⟨⟨r1, rfl, hr1⟩, hg1⟩; have HR1 := Lib.hid hr1; clear hr1)
      have HA2 := Lib.hid (HY.out w1 hg1)
      go_wp2_with (go_at_call 97; (with_reducible refine HA2.out.mono ?_); rintro ev w2 ⟨⟨r2, rfl, hr2⟩, hg2⟩; have HR2 := Lib.hid hr2; clear hr2)
      have g2 := hg1.tr hg2
      have HA3 := Lib.hid (HDV.out r1 r2 w2 (HR1.out.gr hg2) HR2.out)
      go_wp2_with (go_at_call 55; (with_reducible refine HA3.out.mono ?_); rintro ev w3 ⟨⟨_, hdv⟩, hg3⟩; obtain ⟨q3, r3, rfl, hq3, hr3⟩ := hdv HP.out; have HQ3 := Lib.hid hq3; have HR3 := Lib.hid hr3; clear hq3 hr3 hdv)
      have g3 := g2.tr hg3
      go_wp2_with (go_at_call 54; (with_reducible refine (of2_calls _).mono ?_); rintro ev w4 ⟨⟨r4, rfl, hr4⟩, hg4⟩; have HR4 := Lib.hid hr4; clear hr4)
      have g4 := g3.tr hg4
      have HA5 := Lib.hid (HD2.out q3 r4 w4 (HQ3.out.gr hg4) HR4.out)
      go_wp2_with (go_at_call 55; (with_reducible refine HA5.out.mono ?_); rintro ev w5 ⟨⟨_, hdv⟩, hg5⟩; obtain ⟨q5, r5, rfl, hq5, hr5⟩ := hdv (by decide); have HR5 := Lib.hid hr5; clear hq5 hr5 hdv)
      have g5 := g4.tr hg5
      have HA6 := Lib.hid (HRR.out r3 w5 (HR3.out.gr (hg4.tr hg5)))
      go_wp2_with (go_at_call 59; (with_reducible refine HA6.out.mono ?_); rintro ev w6 ⟨⟨r6, rfl, hr6⟩, hg6⟩; have HR6 := Lib.hid hr6; clear hr6)
      have g6 := g5.tr hg6
      have HA7 := Lib.hid (HY.out w6 g6)
      go_wp2_with (go_at_call 97; (with_reducible refine HA7.out.mono ?_); rintro ev w7 ⟨⟨r7, rfl, hr7⟩, hg7⟩; have HR7 := Lib.hid hr7; clear hr7)
      have g7 := g6.tr hg7
      have ha8 := HCM.out r6 r7 w7 (HR6.out.gr hg7) HR7.out
      rw [cmpN_lt hc] at ha8
      have HA8 := Lib.hid ha8
      clear ha8 hc
      go_wp2_with (go_at_call 60; (with_reducible refine HA8.out.mono ?_); rintro ev w8 ⟨rfl, hg8⟩)
      have g8 := g7.tr hg8
      have HQ8 := Lib.hid (HQ3.out.gr ((hg4.tr hg5).tr ((hg6.tr hg7).tr hg8)))
      have g11 := g8
      have HR11 := HQ8
      have HA12 := Lib.hid (HSX.out _ g11)
      go_wp2_with (go_at_call 89; (with_reducible refine HA12.out.mono ?_); rintro ev w12 ⟨rfl, hg12⟩)
      have HA13 := Lib.hid (newP_calls bb _ _ w12 (HR11.out.gr hg12).at_)
      go_wp2_with (go_at_call 66; (with_reducible refine HA13.out.mono ?_); rintro ev w13 ⟨⟨r13, rfl, hr13⟩, hg13⟩; have HR13 := Lib.hid hr13; clear hr13)
      go_ret
      exact ⟨⟨_, rfl, by rw [HO.out (by have := HC.out; have := HOD.out; omega)]; exact HR13.out⟩, (g11.tr hg12).tr hg13⟩
    · rcases HOD0.out with hod | hod
      · have HOD := Lib.hid hod
        clear hod
        have HC := Lib.hid hc
        have HA1 := Lib.hid (HX.out w (Gr.rf w))
        go_enter Tryz.func71, Tryz.ntmps71
        go_wp2_with (go_at_call 97; (with_reducible refine HA1.out.mono ?_); rintro ev w1 ⟨⟨r1, rfl, hr1⟩, hg1⟩; have HR1 := Lib.hid hr1; clear hr1)
        have HA2 := Lib.hid (HY.out w1 hg1)
        go_wp2_with (go_at_call 97; (with_reducible refine HA2.out.mono ?_); rintro ev w2 ⟨⟨r2, rfl, hr2⟩, hg2⟩; have HR2 := Lib.hid hr2; clear hr2)
        have g2 := hg1.tr hg2
        have HA3 := Lib.hid (HDV.out r1 r2 w2 (HR1.out.gr hg2) HR2.out)
        go_wp2_with (go_at_call 55; (with_reducible refine HA3.out.mono ?_); rintro ev w3 ⟨⟨_, hdv⟩, hg3⟩; obtain ⟨q3, r3, rfl, hq3, hr3⟩ := hdv HP.out; have HQ3 := Lib.hid hq3; have HR3 := Lib.hid hr3; clear hq3 hr3 hdv)
        have g3 := g2.tr hg3
        go_wp2_with (go_at_call 54; (with_reducible refine (of2_calls _).mono ?_); rintro ev w4 ⟨⟨r4, rfl, hr4⟩, hg4⟩; have HR4 := Lib.hid hr4; clear hr4)
        have g4 := g3.tr hg4
        have HA5 := Lib.hid (HD2.out q3 r4 w4 (HQ3.out.gr hg4) HR4.out)
        go_wp2_with (go_at_call 55; (with_reducible refine HA5.out.mono ?_); rintro ev w5 ⟨⟨_, hdv⟩, hg5⟩; obtain ⟨q5, r5, rfl, hq5, hr5⟩ := hdv (by decide); have HR5 := Lib.hid hr5; clear hq5 hr5 hdv)
        have g5 := g4.tr hg5
        have HA6 := Lib.hid (HRR.out r3 w5 (HR3.out.gr (hg4.tr hg5)))
        go_wp2_with (go_at_call 59; (with_reducible refine HA6.out.mono ?_); rintro ev w6 ⟨⟨r6, rfl, hr6⟩, hg6⟩; have HR6 := Lib.hid hr6; clear hr6)
        have g6 := g5.tr hg6
        have HA7 := Lib.hid (HY.out w6 g6)
        go_wp2_with (go_at_call 97; (with_reducible refine HA7.out.mono ?_); rintro ev w7 ⟨⟨r7, rfl, hr7⟩, hg7⟩; have HR7 := Lib.hid hr7; clear hr7)
        have g7 := g6.tr hg7
        have ha8 := HCM.out r6 r7 w7 (HR6.out.gr hg7) HR7.out
        rw [hc, cmpN_eq] at ha8
        have HA8 := Lib.hid ha8
        clear ha8 hc
        go_wp2_with (go_at_call 60; (with_reducible refine HA8.out.mono ?_); rintro ev w8 ⟨rfl, hg8⟩)
        have g8 := g7.tr hg8
        have HQ8 := Lib.hid (HQ3.out.gr ((hg4.tr hg5).tr ((hg6.tr hg7).tr hg8)))
        have ha9 := zero_calls r5 o w8 (HR5.out.gr ((hg6.tr hg7).tr hg8))
        rw [show (o == 0) = true from by rw [HOD.out]; rfl] at ha9
        have HA9 := Lib.hid ha9
        clear ha9
        go_wp2_with (go_at_call 78; (with_reducible refine HA9.out.mono ?_); rintro ev w9 ⟨rfl, rfl⟩)
        have g11 := g8
        have HR11 := HQ8
        have HA12 := Lib.hid (HSX.out _ g11)
        go_wp2_with (go_at_call 89; (with_reducible refine HA12.out.mono ?_); rintro ev w12 ⟨rfl, hg12⟩)
        have HA13 := Lib.hid (newP_calls bb _ _ w12 (HR11.out.gr hg12).at_)
        go_wp2_with (go_at_call 66; (with_reducible refine HA13.out.mono ?_); rintro ev w13 ⟨⟨r13, rfl, hr13⟩, hg13⟩; have HR13 := Lib.hid hr13; clear hr13)
        go_ret
        exact ⟨⟨_, rfl, by rw [HO.out (by have := HC.out; have := HOD.out; omega)]; exact HR13.out⟩, (g11.tr hg12).tr hg13⟩
      · have HOD := Lib.hid hod
        clear hod
        have HC := Lib.hid hc
        have HA1 := Lib.hid (HX.out w (Gr.rf w))
        go_enter Tryz.func71, Tryz.ntmps71
        go_wp2_with (go_at_call 97; (with_reducible refine HA1.out.mono ?_); rintro ev w1 ⟨⟨r1, rfl, hr1⟩, hg1⟩; have HR1 := Lib.hid hr1; clear hr1)
        have HA2 := Lib.hid (HY.out w1 hg1)
        go_wp2_with (go_at_call 97; (with_reducible refine HA2.out.mono ?_); rintro ev w2 ⟨⟨r2, rfl, hr2⟩, hg2⟩; have HR2 := Lib.hid hr2; clear hr2)
        have g2 := hg1.tr hg2
        have HA3 := Lib.hid (HDV.out r1 r2 w2 (HR1.out.gr hg2) HR2.out)
        go_wp2_with (go_at_call 55; (with_reducible refine HA3.out.mono ?_); rintro ev w3 ⟨⟨_, hdv⟩, hg3⟩; obtain ⟨q3, r3, rfl, hq3, hr3⟩ := hdv HP.out; have HQ3 := Lib.hid hq3; have HR3 := Lib.hid hr3; clear hq3 hr3 hdv)
        have g3 := g2.tr hg3
        go_wp2_with (go_at_call 54; (with_reducible refine (of2_calls _).mono ?_); rintro ev w4 ⟨⟨r4, rfl, hr4⟩, hg4⟩; have HR4 := Lib.hid hr4; clear hr4)
        have g4 := g3.tr hg4
        have HA5 := Lib.hid (HD2.out q3 r4 w4 (HQ3.out.gr hg4) HR4.out)
        go_wp2_with (go_at_call 55; (with_reducible refine HA5.out.mono ?_); rintro ev w5 ⟨⟨_, hdv⟩, hg5⟩; obtain ⟨q5, r5, rfl, hq5, hr5⟩ := hdv (by decide); have HR5 := Lib.hid hr5; clear hq5 hr5 hdv)
        have g5 := g4.tr hg5
        have HA6 := Lib.hid (HRR.out r3 w5 (HR3.out.gr (hg4.tr hg5)))
        go_wp2_with (go_at_call 59; (with_reducible refine HA6.out.mono ?_); rintro ev w6 ⟨⟨r6, rfl, hr6⟩, hg6⟩; have HR6 := Lib.hid hr6; clear hr6)
        have g6 := g5.tr hg6
        have HA7 := Lib.hid (HY.out w6 g6)
        go_wp2_with (go_at_call 97; (with_reducible refine HA7.out.mono ?_); rintro ev w7 ⟨⟨r7, rfl, hr7⟩, hg7⟩; have HR7 := Lib.hid hr7; clear hr7)
        have g7 := g6.tr hg7
        have ha8 := HCM.out r6 r7 w7 (HR6.out.gr hg7) HR7.out
        rw [hc, cmpN_eq] at ha8
        have HA8 := Lib.hid ha8
        clear ha8 hc
        go_wp2_with (go_at_call 60; (with_reducible refine HA8.out.mono ?_); rintro ev w8 ⟨rfl, hg8⟩)
        have g8 := g7.tr hg8
        have HQ8 := Lib.hid (HQ3.out.gr ((hg4.tr hg5).tr ((hg6.tr hg7).tr hg8)))
        have ha9 := zero_calls r5 o w8 (HR5.out.gr ((hg6.tr hg7).tr hg8))
        rw [show (o == 0) = false from by rw [HOD.out]; rfl] at ha9
        have HA9 := Lib.hid ha9
        clear ha9
        go_wp2_with (go_at_call 78; (with_reducible refine HA9.out.mono ?_); rintro ev w9 ⟨rfl, rfl⟩)
        have g11 := g8
        have HR11 := HQ8
        have HA12 := Lib.hid (HSX.out _ g11)
        go_wp2_with (go_at_call 89; (with_reducible refine HA12.out.mono ?_); rintro ev w12 ⟨rfl, hg12⟩)
        have HA13 := Lib.hid (newP_calls bb _ _ w12 (HR11.out.gr hg12).at_)
        go_wp2_with (go_at_call 66; (with_reducible refine HA13.out.mono ?_); rintro ev w13 ⟨⟨r13, rfl, hr13⟩, hg13⟩; have HR13 := Lib.hid hr13; clear hr13)
        go_ret
        exact ⟨⟨_, rfl, by rw [HO.out (by have := HC.out; have := HOD.out; omega)]; exact HR13.out⟩, (g11.tr hg12).tr hg13⟩
    · have HOD := HOD0
      have HC := Lib.hid hc
      have HA1 := Lib.hid (HX.out w (Gr.rf w))
      go_enter Tryz.func71, Tryz.ntmps71
      go_wp2_with (go_at_call 97; (with_reducible refine HA1.out.mono ?_); rintro ev w1 ⟨⟨r1, rfl, hr1⟩, hg1⟩; have HR1 := Lib.hid hr1; clear hr1)
      have HA2 := Lib.hid (HY.out w1 hg1)
      go_wp2_with (go_at_call 97; (with_reducible refine HA2.out.mono ?_); rintro ev w2 ⟨⟨r2, rfl, hr2⟩, hg2⟩; have HR2 := Lib.hid hr2; clear hr2)
      have g2 := hg1.tr hg2
      have HA3 := Lib.hid (HDV.out r1 r2 w2 (HR1.out.gr hg2) HR2.out)
      go_wp2_with (go_at_call 55; (with_reducible refine HA3.out.mono ?_); rintro ev w3 ⟨⟨_, hdv⟩, hg3⟩; obtain ⟨q3, r3, rfl, hq3, hr3⟩ := hdv HP.out; have HQ3 := Lib.hid hq3; have HR3 := Lib.hid hr3; clear hq3 hr3 hdv)
      have g3 := g2.tr hg3
      go_wp2_with (go_at_call 54; (with_reducible refine (of2_calls _).mono ?_); rintro ev w4 ⟨⟨r4, rfl, hr4⟩, hg4⟩; have HR4 := Lib.hid hr4; clear hr4)
      have g4 := g3.tr hg4
      have HA5 := Lib.hid (HD2.out q3 r4 w4 (HQ3.out.gr hg4) HR4.out)
      go_wp2_with (go_at_call 55; (with_reducible refine HA5.out.mono ?_); rintro ev w5 ⟨⟨_, hdv⟩, hg5⟩; obtain ⟨q5, r5, rfl, hq5, hr5⟩ := hdv (by decide); have HR5 := Lib.hid hr5; clear hq5 hr5 hdv)
      have g5 := g4.tr hg5
      have HA6 := Lib.hid (HRR.out r3 w5 (HR3.out.gr (hg4.tr hg5)))
      go_wp2_with (go_at_call 59; (with_reducible refine HA6.out.mono ?_); rintro ev w6 ⟨⟨r6, rfl, hr6⟩, hg6⟩; have HR6 := Lib.hid hr6; clear hr6)
      have g6 := g5.tr hg6
      have HA7 := Lib.hid (HY.out w6 g6)
      go_wp2_with (go_at_call 97; (with_reducible refine HA7.out.mono ?_); rintro ev w7 ⟨⟨r7, rfl, hr7⟩, hg7⟩; have HR7 := Lib.hid hr7; clear hr7)
      have g7 := g6.tr hg7
      have ha8 := HCM.out r6 r7 w7 (HR6.out.gr hg7) HR7.out
      rw [cmpN_gt hc] at ha8
      have HA8 := Lib.hid ha8
      clear ha8 hc
      go_wp2_with (go_at_call 60; (with_reducible refine HA8.out.mono ?_); rintro ev w8 ⟨rfl, hg8⟩)
      have g8 := g7.tr hg8
      have HQ8 := Lib.hid (HQ3.out.gr ((hg4.tr hg5).tr ((hg6.tr hg7).tr hg8)))
      have g11 := g8
      have HR11 := HQ8
      have HA12 := Lib.hid (HSX.out _ g11)
      go_wp2_with (go_at_call 89; (with_reducible refine HA12.out.mono ?_); rintro ev w12 ⟨rfl, hg12⟩)
      have HA13 := Lib.hid (newP_calls bb _ _ w12 (HR11.out.gr hg12).at_)
      go_wp2_with (go_at_call 66; (with_reducible refine HA13.out.mono ?_); rintro ev w13 ⟨⟨r13, rfl, hr13⟩, hg13⟩; have HR13 := Lib.hid hr13; clear hr13)
      go_ret
      exact ⟨⟨_, rfl, by rw [HO.out (by have := HC.out; have := HOD.out; omega)]; exact HR13.out⟩, (g11.tr hg12).tr hg13⟩
end Go.Proofs.YtcjjgdoafkdeaaaGreatDoor
