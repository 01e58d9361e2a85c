/- Layer 6: 'parts of years, and of days, in two pieces'. -/
import Derived.Test.YtglbdafcfcmffaaGreatDoorWf
import Derived.Test.YtglbdafcfcmffaaGreatDoorWh
import Derived.Test.YtglbdafcfcmffaaGreatDoorHi
namespace Go.Proofs.YtglbdafcfcmffaaGreatDoor
open Go.RowKit Go.Extern.Stop Go.Stop Go.Extern Go.Sort
set_option linter.unusedVariables false
set_option linter.unusedSimpArgs false

theorem and511' (y : Int) : ∃ Y, bits .and .i64 y 511 = Y ∧ 0 ≤ Y ∧ Y ≤ 511 := ⟨_, rfl, (and_bd y 511 (by decide)).1, (and_bd y 511 (by decide)).2⟩
theorem and7' (y : Int) : ∃ Y, bits .and .i64 y 7 = Y ∧ 0 ≤ Y ∧ Y ≤ 7 := ⟨_, rfl, (and_bd y 7 (by decide)).1, (and_bd y 7 (by decide)).2⟩
def DayIs (z : Int) (w : World) (ev : Ending) (w' : World) : Prop := ev = .returned (.int .i64 z) ∧ Gr w w'
theorem parts_of (kd a b c f : Int) (hk : kd = 1 ∨ kd = 2 ∨ kd = 3 ∨ kd = 4) (a0 : 0 ≤ a) (hab : a < b) (hbc : b < c) (c1 : c ≤ 109572) (f0 : 1 ≤ f) (f1 : f ≤ 8) :
    ∃ X Y Z E : Int, (X + Y = Z ∧ 0 < E ∧ E ≤ 1000000 ∧ -200000 ≤ X ∧ X ≤ 200000 ∧ -200000 ≤ Y ∧ Y ≤ 200000 ∧ -200000 ≤ Z ∧ Z ≤ 200000) ∧
      (∀ w, BitTab w → Calls Tryz.prog 24 #[.int .i64 kd, .int .i64 a, .int .i64 b, .int .i64 a, .int .i64 c, .int .i64 f] w (PartIs X E w)) ∧
      (∀ w, BitTab w → Calls Tryz.prog 24 #[.int .i64 kd, .int .i64 b, .int .i64 c, .int .i64 a, .int .i64 c, .int .i64 f] w (PartIs Y E w)) ∧
      (∀ w, BitTab w → Calls Tryz.prog 24 #[.int .i64 kd, .int .i64 a, .int .i64 c, .int .i64 a, .int .i64 c, .int .i64 f] w (PartIs Z E w)) ∧
      (∀ w, Calls Tryz.prog 27 #[.int .i64 kd, .int .i64 a, .int .i64 b] w (DayIs X w)) ∧
      (∀ w, Calls Tryz.prog 27 #[.int .i64 kd, .int .i64 b, .int .i64 c] w (DayIs Y w)) ∧
      (∀ w, Calls Tryz.prog 27 #[.int .i64 kd, .int .i64 a, .int .i64 c] w (DayIs Z w)) ∧
      (kd = 4 → E = (c - a) * f ∧ Z = c - a) := by
  obtain ⟨ya, ma, ka, ha⟩ := isDay_of a a0 (by omega)
  obtain ⟨yb, mb, kb, hb⟩ := isDay_of b (by omega) (by omega)
  obtain ⟨yc, mc, kc, hc⟩ := isDay_of c (by omega) c1
  have la := Int.le_of_lt hab
  have lb := Int.le_of_lt hbc
  have lc := Int.le_trans la lb
  have ba := days30_bd ya ma ka yb mb kb ⟨ha.1, ha.2.1, ha.2.2.1, ha.2.2.2.1, ha.2.2.2.2.1⟩ ⟨hb.1, hb.2.1, hb.2.2.1, hb.2.2.2.1, hb.2.2.2.2.1⟩
  have bb := days30_bd yb mb kb yc mc kc ⟨hb.1, hb.2.1, hb.2.2.1, hb.2.2.2.1, hb.2.2.2.2.1⟩ ⟨hc.1, hc.2.1, hc.2.2.1, hc.2.2.2.1, hc.2.2.2.2.1⟩
  have bc := days30_bd ya ma ka yc mc kc ⟨ha.1, ha.2.1, ha.2.2.1, ha.2.2.2.1, ha.2.2.2.2.1⟩ ⟨hc.1, hc.2.1, hc.2.2.1, hc.2.2.2.1, hc.2.2.2.2.1⟩
  have hs : days30 ya ma ka yb mb kb + days30 yb mb kb yc mc kc = days30 ya ma ka yc mc kc := by unfold days30; omega
  have hp : (c - a) * f ≤ 109572 * 8 := Int.mul_le_mul (by omega) (by omega) (by omega) (by omega)
  have hp0 : 0 < (c - a) * f := Int.mul_pos (by omega) (by omega)
  rcases hk with rfl | rfl | rfl | rfl
  · exact ⟨_, _, _, 360, ⟨hs, by decide, by decide, ba.1, ba.2, bb.1, bb.2, bc.1, bc.2⟩, fun w hT => part30_calls a b _ _ _ _ _ _ a c f ha hb la w hT, fun w hT => part30_calls b c _ _ _ _ _ _ a c f hb hc lb w hT, fun w hT => part30_calls a c _ _ _ _ _ _ a c f ha hc lc w hT, fun w => days30_calls a b _ _ _ _ _ _ ha hb w, fun w => days30_calls b c _ _ _ _ _ _ hb hc w, fun w => days30_calls a c _ _ _ _ _ _ ha hc w, fun h => absurd h (by decide)⟩
  · exact ⟨b - a, c - b, c - a, 360, by omega, fun w hT => partK_calls 2 360 a b _ _ _ _ _ _ a c f (.inl ⟨rfl, rfl⟩) ha hb la w hT, fun w hT => partK_calls 2 360 b c _ _ _ _ _ _ a c f (.inl ⟨rfl, rfl⟩) hb hc lb w hT, fun w hT => partK_calls 2 360 a c _ _ _ _ _ _ a c f (.inl ⟨rfl, rfl⟩) ha hc lc w hT, fun w => daysK_calls 2 a b _ _ _ _ _ _ (.inl rfl) ha hb w, fun w => daysK_calls 2 b c _ _ _ _ _ _ (.inl rfl) hb hc w, fun w => daysK_calls 2 a c _ _ _ _ _ _ (.inl rfl) ha hc w, fun h => absurd h (by decide)⟩
  · exact ⟨b - a, c - b, c - a, 365, by omega, fun w hT => partK_calls 3 365 a b _ _ _ _ _ _ a c f (.inr ⟨rfl, rfl⟩) ha hb la w hT, fun w hT => partK_calls 3 365 b c _ _ _ _ _ _ a c f (.inr ⟨rfl, rfl⟩) hb hc lb w hT, fun w hT => partK_calls 3 365 a c _ _ _ _ _ _ a c f (.inr ⟨rfl, rfl⟩) ha hc lc w hT, fun w => daysK_calls 3 a b _ _ _ _ _ _ (.inr (.inl rfl)) ha hb w, fun w => daysK_calls 3 b c _ _ _ _ _ _ (.inr (.inl rfl)) hb hc w, fun w => daysK_calls 3 a c _ _ _ _ _ _ (.inr (.inl rfl)) ha hc w, fun h => absurd h (by decide)⟩
  · exact ⟨b - a, c - b, c - a, (c - a) * f, by omega, fun w hT => part4_calls a b _ _ _ _ _ _ a c f ha hb la a0 (by omega) c1 f0 (by omega) w hT, fun w hT => part4_calls b c _ _ _ _ _ _ a c f hb hc lb a0 (by omega) c1 f0 (by omega) w hT, fun w hT => part4_calls a c _ _ _ _ _ _ a c f ha hc lc a0 (by omega) c1 f0 (by omega) w hT, fun w => daysK_calls 4 a b _ _ _ _ _ _ (.inr (.inr rfl)) ha hb w, fun w => daysK_calls 4 b c _ _ _ _ _ _ (.inr (.inr rfl)) hb hc w, fun w => daysK_calls 4 a c _ _ _ _ _ _ (.inr (.inr rfl)) ha hc w, fun _ => ⟨rfl, rfl⟩⟩
/-- The two pieces come to the whole. -/
theorem pieces (X Y Z E n1 n2 n3 n : Int) (d1 d2 d3 d : Nat) (hs : X + Y = Z) (hE : 0 < E) (p1 : 0 < d1) (p2 : 0 < d2) (h1 : n1 * E = X * (d1 : Int)) (h2 : n2 * E = Y * (d2 : Int)) (h3 : n3 * E = Z * (d3 : Int)) (h : n * ((d1 : Int) * (d2 : Int)) = (n1 * (d2 : Int) + n2 * (d1 : Int)) * (d : Int)) : (n * (d3 : Int) - n3 * (d : Int)).sign = 0 := by
  apply Int.sign_eq_zero_iff_zero.2
  have hne : (d1 : Int) * (d2 : Int) * E ≠ 0 := Int.mul_ne_zero (Int.mul_ne_zero (by omega) (by omega)) (by omega)
  have e : n * (d3 : Int) = n3 * (d : Int) := by
    apply Int.eq_of_mul_eq_mul_right hne
    calc n * (d3 : Int) * ((d1 : Int) * (d2 : Int) * E) = n * ((d1 : Int) * (d2 : Int)) * E * (d3 : Int) := by ac_rfl
      _ = (n1 * (d2 : Int) + n2 * (d1 : Int)) * (d : Int) * E * (d3 : Int) := by rw [h]
      _ = (n1 * E * (d2 : Int) + n2 * E * (d1 : Int)) * (d : Int) * (d3 : Int) := by
        simp only [Int.add_mul]
        congr 1 <;> ac_rfl
      _ = (X * (d1 : Int) * (d2 : Int) + Y * (d2 : Int) * (d1 : Int)) * (d : Int) * (d3 : Int) := by rw [h1, h2]
      _ = (X + Y) * (d3 : Int) * ((d1 : Int) * (d2 : Int)) * (d : Int) := by
        simp only [Int.add_mul]
        congr 1 <;> ac_rfl
      _ = n3 * E * ((d1 : Int) * (d2 : Int)) * (d : Int) := by rw [hs, h3]
      _ = n3 * (d : Int) * ((d1 : Int) * (d2 : Int) * E) := by ac_rfl
  omega
theorem one_of (n3 S f : Int) (d3 : Nat) (F : Nat) (hf : f = (F : Int)) (hF : 0 < F) (hS : 0 < S) (hd : 0 < d3) (hc : Nat.gcd n3.natAbs d3 = 1) (h : n3 * (S * f) = S * (d3 : Int)) : n3 = 1 ∧ d3 = F := by
  subst hf
  have h1 : n3 * (F : Int) = 1 * (d3 : Int) := by
    apply Int.eq_of_mul_eq_mul_right (a := S) (by omega)
    calc n3 * (F : Int) * S = n3 * (S * (F : Int)) := by ac_rfl
      _ = S * (d3 : Int) := h
      _ = 1 * (d3 : Int) * S := by rw [Int.one_mul, Int.mul_comm]
  exact rat_unique n3 1 1 (F : Int) d3 F (by omega) h1 rfl hd hF hc (Nat.gcd_one_left _)
/-- A whole period's text. -/
theorem frac_one (F : Nat) (f0 : 1 ≤ F) (f1 : F ≤ 8) (w : World) : Calls Tryz.prog 29 #[.int .i64 1, .int .i64 (F : Int)] w fun e w' => (∃ sb va vb, e = .returned (.agg #[.bool sb, va, vb]) ∧ (sb = false ∧ RN w' va 1 ∧ RN w' vb F)) ∧ Gr w w' := by
  refine (rFrac_calls 1 (F : Int) (by decide) (by decide) (by omega) (by omega) w).mono ?_
  rintro e w' ⟨⟨sb, va, vb, rfl, hs, h1, h2⟩, hg⟩
  refine ⟨⟨sb, va, vb, rfl, ?_, h1, by rw [Int.natAbs_natCast] at h2; exact h2⟩, hg⟩
  rw [hs, decide_eq_false (show ¬ ((F : Int) < 0) by omega)]; rfl
theorem text_one (sb : Bool) (va vb : Value) (F : Nat) (f0 : 1 ≤ F) (f1 : F ≤ 8) (w : World) (hs : sb = false) (h1 : RN w va 1) (h2 : RN w vb F) (X : ByteArray) (hX : X = ⟨(ratText 1 F).toArray⟩) : Calls Tryz.prog 30 #[.agg #[.bool sb, va, vb]] w fun e w' => e = .returned (.string X) ∧ Gr w w' := by
  subst hs
  refine rQText_calls false va vb 1 F w h1 h2 (by omega) 1 (by decide) (by show F < 1000000000 ^ 1; omega) (by decide) (by decide) X ?_
  rw [hX, Nat.gcd_one_left, Nat.div_one, Nat.div_one]
  rfl
set_option maxRecDepth 100000 in
set_option maxHeartbeats 16000000 in
theorem countParts_same (kind n y z q : Int) (w : World) (hM : Met2 w) (R F : Nat) (U V a b c : Int) (hk1 : (kind.tmod 4 + 4) % 4 = (R : Int)) (hk2 : kind.tmod 4 % 4 = (R : Int)) (hk3 : (R : Int) < 4) (hk4 : -4 < kind.tmod 4) (hk5 : kind.tmod 4 < 4) (hF : bits .and .i64 q 7 = (F : Int)) (hF7 : F ≤ 7) (ha : n % 109573 = a) (a0 : 0 ≤ a) (a1 : a ≤ 109572) (hU : bits .and .i64 y 511 = U) (U0 : 0 ≤ U) (U1 : U ≤ 511) (hV : bits .and .i64 z 511 = V) (V0 : 0 ≤ V) (V1 : V ≤ 511) (hb : min (a + 1 + U) 109572 = b) (hc : min (b + 1 + V) 109572 = c) (hab : b ≤ a ∨ (a < b ∧ c ≤ b)) :
    Calls Tryz.prog 4 #[.int .i64 kind, .int .i64 n, .int .i64 y, .int .i64 z, .int .i64 q] w fun e w' => e = .returned (.bool true) ∧ Gr w w' := by
  have HM := Lib.hid hM
  clear hM
  have hdy := fun w => day6_calls n w
  rw [ha] at hdy
  have HDY := Lib.hid hdy
  clear hdy ha
  have HBG := Lib.hid (begun6_calls w HM.out)
  have b0 : b ≤ 109572 ∧ 0 ≤ b := by omega
  have c0 : c ≤ 109572 ∧ 0 ≤ c := by omega
  obtain ⟨b0, b1⟩ := b0
  obtain ⟨c0, c1⟩ := c0
  rcases hab with hab | ⟨hab, hbc⟩
  · have d1 : decide (b ≤ a) = true := decide_eq_true hab
    go_enter Tryz.func4, Tryz.ntmps4
    go_wp2_with (first | (go_at_call 16; (with_reducible refine HBG.out.mono ?_); rintro ev w1 ⟨rfl, hg1⟩; have HG1 := Lib.hid hg1; clear hg1) | (go_at_call 21; (with_reducible refine (HDY.out _).mono ?_); rintro ev w2 ⟨rfl, rfl⟩))
    go_ret
    exact ⟨by first | rfl | exact ret_bool (by simp), HG1.out⟩
  · have d1 : decide (b ≤ a) = false := decide_eq_false (by omega)
    have d2 : decide (c ≤ b) = true := decide_eq_true hbc
    go_enter Tryz.func4, Tryz.ntmps4
    go_wp2_with (first | (go_at_call 16; (with_reducible refine HBG.out.mono ?_); rintro ev w1 ⟨rfl, hg1⟩; have HG1 := Lib.hid hg1; clear hg1) | (go_at_call 21; (with_reducible refine (HDY.out _).mono ?_); rintro ev w2 ⟨rfl, rfl⟩))
    go_ret
    exact ⟨by first | rfl | exact ret_bool (by simp), HG1.out⟩
set_option maxRecDepth 100000 in
set_option maxHeartbeats 16000000 in
theorem countParts_main (kind n y z q : Int) (w : World) (hM : Met2 w) (R F : Nat) (U V a b c : Int) (hk1 : (kind.tmod 4 + 4) % 4 = (R : Int)) (hk2 : kind.tmod 4 % 4 = (R : Int)) (hk3 : (R : Int) < 4) (hk4 : -4 < kind.tmod 4) (hk5 : kind.tmod 4 < 4) (hF : bits .and .i64 q 7 = (F : Int)) (hF7 : F ≤ 7) (ha : n % 109573 = a) (a0 : 0 ≤ a) (a1 : a ≤ 109572) (hU : bits .and .i64 y 511 = U) (U0 : 0 ≤ U) (U1 : U ≤ 511) (hV : bits .and .i64 z 511 = V) (V0 : 0 ≤ V) (V1 : V ≤ 511) (hb : min (a + 1 + U) 109572 = b) (hc : min (b + 1 + V) 109572 = c) (hab : a < b) (hbc : b < c) (h4 : R ≠ 3) :
    Calls Tryz.prog 4 #[.int .i64 kind, .int .i64 n, .int .i64 y, .int .i64 z, .int .i64 q] w fun e w' => e = .returned (.bool true) ∧ Gr w w' := by
  have HM := Lib.hid hM
  clear hM
  have hdy := fun w => day6_calls n w
  rw [ha] at hdy
  have HDY := Lib.hid hdy
  clear hdy ha
  have HBG := Lib.hid (begun6_calls w HM.out)
  have b0 : b ≤ 109572 ∧ 0 ≤ b := by omega
  have c0 : c ≤ 109572 ∧ 0 ≤ c := by omega
  obtain ⟨b0, b1⟩ := b0
  obtain ⟨c0, c1⟩ := c0
  obtain ⟨X, Y, Z, E, hxy, hp1, hp2, hp3, hq1, hq2, hq3, h4E⟩ := parts_of (1 + (R : Int)) a b c (1 + (F : Int)) (by omega) a0 hab hbc c0 (by omega) (by omega)
  have HP1 := Lib.hid hp1
  have HP2 := Lib.hid hp2
  have HP3 := Lib.hid hp3
  have HQ1 := Lib.hid hq1
  have HQ2 := Lib.hid hq2
  have HQ3 := Lib.hid hq3
  have HXY := Lib.hid hxy
  have HBX : Hid (X.natAbs < B ^ 1 ∧ Y.natAbs < B ^ 1 ∧ Z.natAbs < B ^ 1 ∧ E.natAbs < B ^ 1 ∧ 0 < E) := Lib.hid (by rw [Nat.pow_one, B_eq]; omega)
  have hxz := hxy.1
  have x0 := hxy.2.2.2.1
  have x1 := hxy.2.2.2.2.1
  have y0 := hxy.2.2.2.2.2.1
  have y1 := hxy.2.2.2.2.2.2.1
  have wxy : IntKind.i64.wrap (X + Y) = Z := by rw [IntKind.wrap_i64]; omega
  have k4 : ((R : Int) == 3) = false := beq_eq_false_iff_ne.2 (by omega)
  have k5 : (1 + (R : Int) == 4) = false := beq_eq_false_iff_ne.2 (by omega)
  have k6 : ¬ (1 + (R : Int) = 4) := by omega
  have k7 : ¬ ((R : Int) = 3) := by omega
  have k8 : ¬ (R = 3) := by omega
  have d1 : decide (b ≤ a) = false := decide_eq_false (by omega)
  have d2 : decide (c ≤ b) = false := decide_eq_false (by omega)
  have HF8 := Lib.hid hF7
  clear hp1 hp2 hp3 hq1 hq2 hq3 hxy h4E h4
  go_enter Tryz.func4, Tryz.ntmps4
  go_wp2_with (first | (go_at_call 16; (with_reducible refine HBG.out.mono ?_); rintro ev w1 ⟨rfl, hg1⟩; have HG1 := Lib.hid hg1; clear hg1) | (go_at_call 21; (with_reducible refine (HDY.out _).mono ?_); rintro ev w2 ⟨rfl, rfl⟩))
  have HC1 := Lib.hid (HP1.out _ (HM.out.gr HG1.out).2.1)
  go_wp2_with (go_at_call 24; (with_reducible refine HC1.out.mono ?_); rintro ev w2 ⟨⟨v2, n2, e2, rfl, hr2⟩, hg2⟩; have HR2 := Lib.hid hr2; have HG2 := Lib.hid hg2; clear hr2 hg2)
  have HC2 := Lib.hid (HP2.out _ (HM.out.gr (HG1.out.tr HG2.out)).2.1)
  go_wp2_with (go_at_call 24; (with_reducible refine HC2.out.mono ?_); rintro ev w3 ⟨⟨v3, n3, e3, rfl, hr3⟩, hg3⟩; have HR3 := Lib.hid hr3; have HG3 := Lib.hid hg3; clear hr3 hg3)
  have HC3 := Lib.hid (HP3.out _ (HM.out.gr (HG1.out.tr (HG2.out.tr HG3.out))).2.1)
  go_wp2_with (go_at_call 24; (with_reducible refine HC3.out.mono ?_); rintro ev w4 ⟨⟨v4, n4, e4, rfl, hr4⟩, hg4⟩; have HR4 := Lib.hid hr4; have HG4 := Lib.hid hg4; clear hr4 hg4)
  have HGA := Lib.hid (HG1.out.tr (HG2.out.tr (HG3.out.tr HG4.out)))
  have HC5 := Lib.hid (addRat_calls _ _ n2 n3 e2 e3 w4 (HM.out.gr HGA.out).2.1 (HR2.out.1.gr (HG3.out.tr HG4.out)) (HR3.out.1.gr HG4.out) 1 (Nat.lt_of_le_of_lt HR2.out.2.2.1 HBX.out.1) (Nat.lt_of_le_of_lt HR3.out.2.2.1 HBX.out.2.1) (Nat.lt_of_le_of_lt HR2.out.2.2.2 HBX.out.2.2.2.1) (Nat.lt_of_le_of_lt HR3.out.2.2.2 HBX.out.2.2.2.1) (by decide))
  go_wp2_with (go_at_call 25; (with_reducible refine HC5.out.mono ?_); rintro ev w5 ⟨⟨v5, n5, e5, rfl, hr5⟩, hg5⟩; have HR5 := Lib.hid hr5; have HG5 := Lib.hid hg5; clear hr5 hg5)
  have hc6 := cmpRat_calls _ _ n5 n4 e5 e4 w5 HR5.out.1 (HR4.out.1.gr HG5.out) 3 HR5.out.2.2.1 (Nat.lt_of_le_of_lt HR4.out.2.2.1 (b_upB HBX.out.2.2.1 (by decide))) (b_upB HR5.out.2.2.2 (by decide)) (Nat.lt_of_le_of_lt HR4.out.2.2.2 (b_upB HBX.out.2.2.2.1 (by decide))) (by decide)
  rw [pieces X Y Z E n2 n3 n4 n5 e2 e3 e4 e5 HXY.out.1 HBX.out.2.2.2.2 HR2.out.1.pos HR3.out.1.pos HR2.out.2.1 HR3.out.2.1 HR4.out.2.1 HR5.out.2.1] at hc6
  have HC6 := Lib.hid hc6
  clear hc6
  go_wp2_with (go_at_call 26; (with_reducible refine HC6.out.mono ?_); rintro ev w6 ⟨rfl, hg6⟩; have HG6 := Lib.hid hg6; clear hg6)
  go_wp2_with (go_at_call 27; (with_reducible refine (HQ1.out _).mono ?_); rintro ev w7 ⟨rfl, hg7⟩; have HG7 := Lib.hid hg7; clear hg7)
  go_wp2_with (go_at_call 27; (with_reducible refine (HQ2.out _).mono ?_); rintro ev w8 ⟨rfl, hg8⟩; have HG8 := Lib.hid hg8; clear hg8)
  go_wp2_with (go_at_call 27; (with_reducible refine (HQ3.out _).mono ?_); rintro ev w9 ⟨rfl, hg9⟩; have HG9 := Lib.hid hg9; clear hg9)
  go_ret
  exact ⟨by first | rfl | exact ret_bool (by simp), HGA.out.tr (HG5.out.tr (HG6.out.tr (HG7.out.tr (HG8.out.tr HG9.out))))⟩
set_option maxRecDepth 100000 in
set_option maxHeartbeats 16000000 in
theorem countParts_four (kind n y z q : Int) (w : World) (hM : Met2 w) (R F : Nat) (U V a b c : Int) (hk1 : (kind.tmod 4 + 4) % 4 = (R : Int)) (hk2 : kind.tmod 4 % 4 = (R : Int)) (hk3 : (R : Int) < 4) (hk4 : -4 < kind.tmod 4) (hk5 : kind.tmod 4 < 4) (hF : bits .and .i64 q 7 = (F : Int)) (hF7 : F ≤ 7) (ha : n % 109573 = a) (a0 : 0 ≤ a) (a1 : a ≤ 109572) (hU : bits .and .i64 y 511 = U) (U0 : 0 ≤ U) (U1 : U ≤ 511) (hV : bits .and .i64 z 511 = V) (V0 : 0 ≤ V) (V1 : V ≤ 511) (hb : min (a + 1 + U) 109572 = b) (hc : min (b + 1 + V) 109572 = c) (hab : a < b) (hbc : b < c) (h4 : R = 3) :
    Calls Tryz.prog 4 #[.int .i64 kind, .int .i64 n, .int .i64 y, .int .i64 z, .int .i64 q] w fun e w' => e = .returned (.bool true) ∧ Gr w w' := by
  have HM := Lib.hid hM
  clear hM
  have hdy := fun w => day6_calls n w
  rw [ha] at hdy
  have HDY := Lib.hid hdy
  clear hdy ha
  have HBG := Lib.hid (begun6_calls w HM.out)
  have b0 : b ≤ 109572 ∧ 0 ≤ b := by omega
  have c0 : c ≤ 109572 ∧ 0 ≤ c := by omega
  obtain ⟨b0, b1⟩ := b0
  obtain ⟨c0, c1⟩ := c0
  subst h4
  rw [show ((3 : Nat) : Int) = 3 from rfl] at hk1 hk2
  obtain ⟨X, Y, Z, E, hxy, hp1, hp2, hp3, hq1, hq2, hq3, h4E⟩ := parts_of 4 a b c (1 + (F : Int)) (by omega) a0 hab hbc c0 (by omega) (by omega)
  have HP1 := Lib.hid hp1
  have HP2 := Lib.hid hp2
  have HP3 := Lib.hid hp3
  have HQ1 := Lib.hid hq1
  have HQ2 := Lib.hid hq2
  have HQ3 := Lib.hid hq3
  have HXY := Lib.hid hxy
  have HBX : Hid (X.natAbs < B ^ 1 ∧ Y.natAbs < B ^ 1 ∧ Z.natAbs < B ^ 1 ∧ E.natAbs < B ^ 1 ∧ 0 < E) := Lib.hid (by rw [Nat.pow_one, B_eq]; omega)
  have hxz := hxy.1
  have x0 := hxy.2.2.2.1
  have x1 := hxy.2.2.2.2.1
  have y0 := hxy.2.2.2.2.2.1
  have y1 := hxy.2.2.2.2.2.2.1
  have wxy : IntKind.i64.wrap (X + Y) = Z := by rw [IntKind.wrap_i64]; omega
  have H4 := Lib.hid (h4E (by omega))
  have HAC : Hid (0 < c - a) := Lib.hid (by omega)
  have d1 : decide (b ≤ a) = false := decide_eq_false (by omega)
  have d2 : decide (c ≤ b) = false := decide_eq_false (by omega)
  have HF8 := Lib.hid hF7
  clear hp1 hp2 hp3 hq1 hq2 hq3 hxy h4E
  go_enter Tryz.func4, Tryz.ntmps4
  go_wp2_with (first | (go_at_call 16; (with_reducible refine HBG.out.mono ?_); rintro ev w1 ⟨rfl, hg1⟩; have HG1 := Lib.hid hg1; clear hg1) | (go_at_call 21; (with_reducible refine (HDY.out _).mono ?_); rintro ev w2 ⟨rfl, rfl⟩))
  have HC1 := Lib.hid (HP1.out _ (HM.out.gr HG1.out).2.1)
  go_wp2_with (go_at_call 24; (with_reducible refine HC1.out.mono ?_); rintro ev w2 ⟨⟨v2, n2, e2, rfl, hr2⟩, hg2⟩; have HR2 := Lib.hid hr2; have HG2 := Lib.hid hg2; clear hr2 hg2)
  have HC2 := Lib.hid (HP2.out _ (HM.out.gr (HG1.out.tr HG2.out)).2.1)
  go_wp2_with (go_at_call 24; (with_reducible refine HC2.out.mono ?_); rintro ev w3 ⟨⟨v3, n3, e3, rfl, hr3⟩, hg3⟩; have HR3 := Lib.hid hr3; have HG3 := Lib.hid hg3; clear hr3 hg3)
  have HC3 := Lib.hid (HP3.out _ (HM.out.gr (HG1.out.tr (HG2.out.tr HG3.out))).2.1)
  go_wp2_with (go_at_call 24; (with_reducible refine HC3.out.mono ?_); rintro ev w4 ⟨⟨v4, n4, e4, rfl, hr4⟩, hg4⟩; have HR4 := Lib.hid hr4; have HG4 := Lib.hid hg4; clear hr4 hg4)
  have HGA := Lib.hid (HG1.out.tr (HG2.out.tr (HG3.out.tr HG4.out)))
  have HC5 := Lib.hid (addRat_calls _ _ n2 n3 e2 e3 w4 (HM.out.gr HGA.out).2.1 (HR2.out.1.gr (HG3.out.tr HG4.out)) (HR3.out.1.gr HG4.out) 1 (Nat.lt_of_le_of_lt HR2.out.2.2.1 HBX.out.1) (Nat.lt_of_le_of_lt HR3.out.2.2.1 HBX.out.2.1) (Nat.lt_of_le_of_lt HR2.out.2.2.2 HBX.out.2.2.2.1) (Nat.lt_of_le_of_lt HR3.out.2.2.2 HBX.out.2.2.2.1) (by decide))
  go_wp2_with (go_at_call 25; (with_reducible refine HC5.out.mono ?_); rintro ev w5 ⟨⟨v5, n5, e5, rfl, hr5⟩, hg5⟩; have HR5 := Lib.hid hr5; have HG5 := Lib.hid hg5; clear hr5 hg5)
  have hc6 := cmpRat_calls _ _ n5 n4 e5 e4 w5 HR5.out.1 (HR4.out.1.gr HG5.out) 3 HR5.out.2.2.1 (Nat.lt_of_le_of_lt HR4.out.2.2.1 (b_upB HBX.out.2.2.1 (by decide))) (b_upB HR5.out.2.2.2 (by decide)) (Nat.lt_of_le_of_lt HR4.out.2.2.2 (b_upB HBX.out.2.2.2.1 (by decide))) (by decide)
  rw [pieces X Y Z E n2 n3 n4 n5 e2 e3 e4 e5 HXY.out.1 HBX.out.2.2.2.2 HR2.out.1.pos HR3.out.1.pos HR2.out.2.1 HR3.out.2.1 HR4.out.2.1 HR5.out.2.1] at hc6
  have HC6 := Lib.hid hc6
  clear hc6
  go_wp2_with (go_at_call 26; (with_reducible refine HC6.out.mono ?_); rintro ev w6 ⟨rfl, hg6⟩; have HG6 := Lib.hid hg6; clear hg6)
  go_wp2_with (go_at_call 27; (with_reducible refine (HQ1.out _).mono ?_); rintro ev w7 ⟨rfl, hg7⟩; have HG7 := Lib.hid hg7; clear hg7)
  go_wp2_with (go_at_call 27; (with_reducible refine (HQ2.out _).mono ?_); rintro ev w8 ⟨rfl, hg8⟩; have HG8 := Lib.hid hg8; clear hg8)
  go_wp2_with (go_at_call 27; (with_reducible refine (HQ3.out _).mono ?_); rintro ev w9 ⟨rfl, hg9⟩; have HG9 := Lib.hid hg9; clear hg9)
  have h14 := HR4.out.1
  have hone := one_of n4 (c - a) (1 + (F : Int)) e4 (1 + F) (by omega) (by omega) HAC.out h14.pos h14.cop (by have h9 := HR4.out.2.1; rw [H4.out.1, H4.out.2] at h9; exact h9)
  rw [hone.1, hone.2] at h14
  have HRO := Lib.hid (h14.gr (HG5.out.tr (HG6.out.tr (HG7.out.tr (HG8.out.tr HG9.out)))))
  clear h14 hone
  obtain ⟨T, hT⟩ : ∃ T : ByteArray, T = ⟨(ratText 1 (1 + F)).toArray⟩ := ⟨_, rfl⟩
  have HT := Lib.hid hT
  have hcx := textRat_calls _ 1 (1 + F) w9 HRO.out 1 (by decide) (by have := HF8.out; rw [Nat.pow_one, B_eq]; omega) (by decide) (by decide) (HM.out.gr (HGA.out.tr (HG5.out.tr (HG6.out.tr (HG7.out.tr (HG8.out.tr HG9.out)))))).2.2
  rw [← hT] at hcx
  have HCX := Lib.hid hcx
  clear hcx hT
  go_wp2_with (go_at_call 28; (with_reducible refine HCX.out.mono ?_); rintro ev w10 ⟨rfl, hg10⟩; have HG10 := Lib.hid hg10; clear hg10)
  have hcf := frac_one (1 + F) (by omega) (by have := HF8.out; omega) w10
  rw [show ((1 + F : Nat) : Int) = 1 + (F : Int) by omega] at hcf
  have HCF := Lib.hid hcf
  clear hcf
  go_wp2_with (go_at_call 29; (with_reducible refine HCF.out.mono ?_); rintro ev w11 ⟨⟨sb, va, vb, rfl, hf11⟩, hg11⟩; have HF11 := Lib.hid hf11; have HG11 := Lib.hid hg11; clear hf11 hg11)
  have HCT := Lib.hid (text_one sb va vb (1 + F) (by omega) (by have := HF8.out; omega) w11 HF11.out.1 HF11.out.2.1 HF11.out.2.2 T HT.out)
  go_wp2_with (go_at_call 30; (with_reducible refine HCT.out.mono ?_); rintro ev w12 ⟨rfl, hg12⟩; have HG12 := Lib.hid hg12; clear hg12)
  go_ret
  exact ⟨by first | rfl | exact ret_bool (by simp), (HGA.out.tr (HG5.out.tr (HG6.out.tr (HG7.out.tr (HG8.out.tr HG9.out))))).tr (HG10.out.tr (HG11.out.tr HG12.out))⟩
theorem countParts_calls (kind n y z q : Int) (k0 : -9223372036854775808 ≤ kind) (k1 : kind ≤ 9223372036854775807) (n0 : -9223372036854775808 ≤ n) (n1 : n ≤ 9223372036854775807) (y0 : -9223372036854775808 ≤ y) (y1 : y ≤ 9223372036854775807) (z0 : -9223372036854775808 ≤ z) (z1 : z ≤ 9223372036854775807) (q0 : -9223372036854775808 ≤ q) (q1 : q ≤ 9223372036854775807) (w : World) (hM : Met2 w) :
    Calls Tryz.prog 4 #[.int .i64 kind, .int .i64 n, .int .i64 y, .int .i64 z, .int .i64 q] w fun e w' => e = .returned (.bool true) ∧ Gr w w' := by
  obtain ⟨R, h1, h2, h3, h4, h5⟩ := rem_nat kind 4 (by decide)
  obtain ⟨Fi, hF, f0, f1⟩ := and7' q
  obtain ⟨F, rfl⟩ : ∃ F : Nat, Fi = (F : Int) := ⟨Fi.toNat, by omega⟩
  obtain ⟨U, hU, u0, u1⟩ := and511' y
  obtain ⟨V, hV, v0, v1⟩ := and511' z
  have a0 := Int.emod_nonneg n (show (109573 : Int) ≠ 0 by decide)
  have a1 := Int.emod_lt_of_pos n (show (0 : Int) < 109573 by decide)
  by_cases hab : n % 109573 < min (n % 109573 + 1 + U) 109572
  · by_cases hbc : min (n % 109573 + 1 + U) 109572 < min (min (n % 109573 + 1 + U) 109572 + 1 + V) 109572
    · by_cases hR : R = 3
      · exact countParts_four kind n y z q w hM R F U V _ _ _ h1 h2 h3 h4 h5 hF (by omega) rfl a0 (by omega) hU u0 u1 hV v0 v1 rfl rfl hab hbc hR
      · exact countParts_main kind n y z q w hM R F U V _ _ _ h1 h2 h3 h4 h5 hF (by omega) rfl a0 (by omega) hU u0 u1 hV v0 v1 rfl rfl hab hbc hR
    · exact countParts_same kind n y z q w hM R F U V _ _ _ h1 h2 h3 h4 h5 hF (by omega) rfl a0 (by omega) hU u0 u1 hV v0 v1 rfl rfl (.inr ⟨hab, by omega⟩)
  · exact countParts_same kind n y z q w hM R F U V _ _ _ h1 h2 h3 h4 h5 hF (by omega) rfl a0 (by omega) hU u0 u1 hV v0 v1 rfl rfl (.inl (by omega))
end Go.Proofs.YtglbdafcfcmffaaGreatDoor
