/- Layers 2 to 5: 'nothing', walked. -/
import Derived.Test.YtkmooclhebjlpaaGreatDoorOk
import Derived.Test.YtkmooclhebjlpaaGreatDoorOl
namespace Go.Proofs.YtkmooclhebjlpaaGreatDoor
open Go.RowKit Go.Extern.Stop Go.Stop Go.Extern Go.Sort
set_option linter.unusedVariables false
set_option linter.unusedSimpArgs false

theorem met2_gr {w w' : World} (h : Met2 w) (hg : Gr w w') : Met2 w' := ⟨h.1.gr hg, h.2.1.gr hg, h.2.2.gr hg⟩
theorem nilN (w : World) : NatAt w (.pointer none) 0 := .inl ⟨rfl, rfl⟩
theorem nilI (w : World) : IntAt w (.pointer none) 0 := .inl ⟨rfl, rfl⟩
theorem nilR (w : World) : RatAt w (.pointer none) 0 1 := .inl ⟨rfl, rfl, rfl⟩
theorem dig0 : Lib.decDigits 0 = [48] := by rw [Lib.decDigits_one (by decide)]; rfl
theorem dig1 : Lib.decDigits 1 = [49] := by rw [Lib.decDigits_one (by decide)]; rfl
theorem dig4 : Lib.decDigits 4 = [52] := by rw [Lib.decDigits_one (by decide)]; rfl
theorem roundNil (w : World) (hT : PowTab w) : Calls Tryz.prog 6 #[.pointer none, .int .i64 2, .int .i64 1] w fun e w' => e = .returned (.tuple #[.string ⟨#[48, 46, 48, 48]⟩, .nilIface]) ∧ Gr w w' := by
  have h1 := round_calls (.pointer none) 0 1 2 1 w (nilR w) 1 (by decide) (by decide) (by decide) (by decide) (.inl rfl) hT
  rw [show placedL (sgn (decide ((0 : Int) * ((10 ^ 2 : Nat) : Int) < 0)) (roundN ((0 : Int) * ((10 ^ 2 : Nat) : Int)).natAbs 1 1)) 2 = [48, 46, 48, 48] by
    rw [show sgn (decide ((0 : Int) * ((10 ^ 2 : Nat) : Int) < 0)) (roundN ((0 : Int) * ((10 ^ 2 : Nat) : Int)).natAbs 1 1) = 0 by decide]
    unfold placedL
    rw [if_neg (by decide), show (0 : Int).natAbs = 0 from rfl, dig0]
    rfl] at h1
  exact h1
theorem unitsNil (w : World) : Calls Tryz.prog 7 #[.pointer none, .int .i64 3] w fun e w' => e = .returned (.tuple #[.int .i64 0, .nilIface]) ∧ Gr w w' :=
  units_calls (.pointer none) 0 1 3 w (nilR w) 2 (by decide) (by decide) (by decide) (by decide) (.inr (.inr rfl)) (by decide)
theorem divNil (w : World) : Calls Tryz.prog 8 #[.pointer none, .pointer none] w fun e w' => e = .returned (.tuple #[.pointer none, .pointer none, .iface 107 (.int .i64 3)]) ∧ Gr w w' :=
  (div1_calls (.pointer none) (.pointer none) 0 0 w (nilN w) (nilN w) 1 (by decide) (by decide) (by decide)).mono fun e w' ⟨h1, hg⟩ => ⟨h1.1 rfl, hg⟩
theorem text0_nat (v : Value) (w : World) (h : NatAt w v 0) (hT : PowTab w) : Calls Tryz.prog 10 #[v] w fun e w' => e = .returned (.string ⟨#[48]⟩) ∧ Gr w w' := by
  have h1 := text_nat v 0 w h 1 (by decide) (by decide) (by decide) hT
  rw [dig0] at h1
  exact h1
theorem text1_nat (v : Value) (w : World) (h : NatAt w v 1) (hT : PowTab w) : Calls Tryz.prog 10 #[v] w fun e w' => e = .returned (.string ⟨#[49]⟩) ∧ Gr w w' := by
  have h1 := text_nat v 1 w h 1 (by decide) (by decide) (by decide) hT
  rw [dig1] at h1
  exact h1
theorem text4_nat (v : Value) (w : World) (h : NatAt w v 4) (hT : PowTab w) : Calls Tryz.prog 10 #[v] w fun e w' => e = .returned (.string ⟨#[52]⟩) ∧ Gr w w' := by
  have h1 := text_nat v 4 w h 1 (by decide) (by decide) (by decide) hT
  rw [dig4] at h1
  exact h1
theorem zero0 (v : Value) (w : World) (h : NatAt w v 0) : Calls Tryz.prog 11 #[v] w fun e w' => e = .returned (.bool true) ∧ w = w' := zero_calls v 0 w h
theorem addNil (w : World) : Calls Tryz.prog 12 #[.pointer none, .pointer none] w fun e w' => (∃ r, e = .returned r ∧ NatAt w' r 0) ∧ Gr w w' :=
  (add_calls (.pointer none) (.pointer none) 0 0 w (nilN w) (nilN w) 1 (by decide) (by decide) (by decide)).mono (by rintro e w' ⟨⟨r, rfl, hr⟩, hg⟩; exact ⟨⟨r, rfl, hr.at_⟩, hg⟩)
theorem of5_calls (w : World) : Calls Tryz.prog 14 #[.int .u64 5] w fun e w' => (∃ r, e = .returned r ∧ NatAt w' r 5) ∧ Gr w w' :=
  (of_nat_calls 5 (by decide) w).mono (by rintro e w' ⟨⟨r, rfl, hr⟩, hg⟩; exact ⟨⟨r, rfl, hr.at_⟩, hg⟩)
theorem of4_calls (w : World) : Calls Tryz.prog 14 #[.int .u64 4] w fun e w' => (∃ r, e = .returned r ∧ NatAt w' r 4) ∧ Gr w w' :=
  (of_nat_calls 4 (by decide) w).mono (by rintro e w' ⟨⟨r, rfl, hr⟩, hg⟩; exact ⟨⟨r, rfl, hr.at_⟩, hg⟩)
theorem mulNil (v : Value) (w : World) (h : NatAt w v 5) : Calls Tryz.prog 13 #[.pointer none, v] w fun e w' => (∃ r, e = .returned r ∧ NatAt w' r 0) ∧ Gr w w' :=
  (mul_calls (.pointer none) v 0 5 w (nilN w) h 1 (by decide) (by decide) (by decide)).mono (by rintro e w' ⟨⟨r, rfl, hr⟩, hg⟩; exact ⟨⟨r, rfl, hr.at_⟩, hg⟩)
theorem powNil (w : World) : Calls Tryz.prog 15 #[.pointer none, .int .i64 0] w fun e w' => (∃ r, e = .returned r ∧ NatAt w' r 1) ∧ Gr w w' :=
  pow_calls (.pointer none) 0 0 w (nilN w) 1 (by decide) (by decide) (by decide) (by decide) (by decide)
theorem gcdNil (v : Value) (w : World) (hB : BitTab w) (h : NatAt w v 4) : Calls Tryz.prog 16 #[.pointer none, v] w fun e w' => (∃ r, e = .returned r ∧ NatAt w' r 4) ∧ Gr w w' := by
  have h1 := gcd1_calls (.pointer none) v 0 4 w hB (nilN w) h (by decide) (by decide)
  rw [Nat.gcd_zero_left] at h1
  exact h1
theorem textI0 (v : Value) (w : World) (h : IntAt w v 0) (hT : PowTab w) : Calls Tryz.prog 17 #[v] w fun e w' => e = .returned (.string ⟨#[48]⟩) ∧ Gr w w' := by
  have h1 := text_int v 0 w h 1 (by decide) (by decide) (by decide) hT
  rw [show Lib.itoa 0 = [48] by unfold Lib.itoa; rw [if_neg (by decide), show (0 : Int).toNat = 0 from rfl, dig0]] at h1
  exact h1
theorem textI1 (v : Value) (w : World) (h : IntAt w v ((1 : Nat) : Int)) (hT : PowTab w) : Calls Tryz.prog 17 #[v] w fun e w' => e = .returned (.string ⟨#[49]⟩) ∧ Gr w w' := by
  have h1 := text_int v ((1 : Nat) : Int) w h 1 (by decide) (by decide) (by decide) hT
  rw [itoa_nat, dig1] at h1
  exact h1
theorem textIm2 (v : Value) (w : World) (h : IntAt w v (-2)) (hT : PowTab w) : Calls Tryz.prog 17 #[v] w fun e w' => e = .returned (.string ⟨#[45, 50]⟩) ∧ Gr w w' := by
  have h1 := text_int v (-2) w h 1 (by decide) (by decide) (by decide) hT
  rw [show Lib.itoa (-2) = [45, 50] by unfold Lib.itoa; rw [if_pos (by decide), show (-2 : Int).natAbs = 2 from rfl, Lib.decDigits_one (by decide)]; rfl] at h1
  exact h1
theorem signI0 (w : World) : Calls Tryz.prog 18 #[.pointer none] w fun e w' => e = .returned (.int .i64 0) ∧ Gr w w' := sign_calls (.pointer none) 0 w (nilI w)
theorem ofI2 (w : World) : Calls Tryz.prog 20 #[.int .i64 2] w fun e w' => (∃ r, e = .returned r ∧ IntP w' r 2) ∧ Gr w w' := ofP_calls 2 (by decide) (by decide) w
theorem subNil (v : Value) (w : World) (h : IntAt w v 2) : Calls Tryz.prog 19 #[.pointer none, v] w fun e w' => (∃ r, e = .returned r ∧ IntP w' r (-2)) ∧ Gr w w' := sub_int (.pointer none) v 0 2 w (nilI w) h 1 (by decide) (by decide) (by decide)
theorem textRNil (w : World) (hT : PowTab w) : Calls Tryz.prog 21 #[.pointer none] w fun e w' => e = .returned (.string ⟨#[48]⟩) ∧ Gr w w' := by
  have h1 := textRat_calls (.pointer none) 0 1 w (nilR w) 1 (by decide) (by decide) (by decide) (by decide) hT
  rw [show ratText 0 1 = [48] by unfold ratText; rw [if_pos rfl]; unfold Lib.itoa; rw [if_neg (by decide), show (0 : Int).toNat = 0 from rfl, dig0]] at h1
  exact h1
theorem signRNil (w : World) : Calls Tryz.prog 22 #[.pointer none] w fun e w' => e = .returned (.int .i64 0) ∧ Gr w w' := signRat_calls (.pointer none) 0 1 w (nilR w)
theorem denNil (w : World) : Calls Tryz.prog 23 #[.pointer none] w fun e w' => (∃ r, e = .returned r ∧ IntAt w' r ((1 : Nat) : Int)) ∧ Gr w w' := den_calls (.pointer none) 0 1 w (nilR w)

set_option maxRecDepth 100000 in
/-- same, of an error's own code. -/
theorem same_own (c : Int) (w : World) (hH : Has w) : Calls Tryz.prog 24 #[.iface 107 (.int .i64 c), .int .i64 c] w fun e w' => e = .returned (.bool true) ∧ Gr w w' := by
  have HC := Lib.hid (code_calls (.iface 107 (.int .i64 c)) (.plain c) w hH (.plain c))
  rw [show (Er.plain c).code = c from rfl] at HC
  clear hH
  go_enter Tryz.func24, Tryz.ntmps24
  go_wp2_with (go_at_call 61; (with_reducible refine HC.out.mono ?_); rintro ev w1 ⟨rfl, hg⟩)
  go_ret
  exact ⟨ret_bool (by simp), hg⟩

set_option maxRecDepth 100000 in
set_option maxHeartbeats 8000000 in
theorem decNone_calls (w : World) (hM : Met2 w) : Calls Tryz.prog 3 #[] w fun e w' => e = .returned (.bool true) ∧ Gr w w' := by
  have HM := Lib.hid hM
  clear hM
  go_enter Tryz.func3, Tryz.ntmps3
  go_wp2_with (go_at_call 5; (with_reducible refine (get_dec_nil _).mono ?_); rintro ev w1 ⟨rfl, hg1⟩)
  have H2 := Lib.hid (roundNil w1 (met2_gr HM.out hg1).2.2)
  go_wp2_with (go_at_call 6; (with_reducible refine H2.out.mono ?_); rintro ev w2 ⟨rfl, hg2⟩)
  go_wp2_with (go_at_call 7; (with_reducible refine (unitsNil _).mono ?_); rintro ev w3 ⟨rfl, hg3⟩)
  go_wp2_with (go_at_call 8; (with_reducible refine (divNil _).mono ?_); rintro ev w4 ⟨rfl, hg4⟩)
  have g4 := (hg1.tr hg2).tr (hg3.tr hg4)
  have H5 := Lib.hid (begun2_calls w4 (met2_gr HM.out g4).1 (met2_gr HM.out g4).2.1 (met2_gr HM.out g4).2.2)
  go_wp2_with (go_at_call 9; (with_reducible refine H5.out.mono ?_); rintro ev w5 ⟨rfl, hg5⟩)
  have g5 := g4.tr hg5
  have H6 := Lib.hid (text0_nat _ w5 (nilN w5) (met2_gr HM.out g5).2.2)
  go_wp2_with (go_at_call 10; (with_reducible refine H6.out.mono ?_); rintro ev w6 ⟨rfl, hg6⟩)
  have H7 := Lib.hid (zero0 _ w6 (nilN w6))
  go_wp2_with (go_at_call 11; (with_reducible refine H7.out.mono ?_); rintro ev w7 ⟨rfl, rfl⟩)
  go_wp2_with (go_at_call 12; (with_reducible refine (addNil _).mono ?_); rintro ev w8 ⟨⟨r8, rfl, hr8⟩, hg8⟩; have H8 := Lib.hid hr8; clear hr8)
  have H9 := Lib.hid (zero0 _ w8 H8.out)
  go_wp2_with (go_at_call 11; (with_reducible refine H9.out.mono ?_); rintro ev w9 ⟨rfl, rfl⟩)
  go_wp2_with (go_at_call 14; (with_reducible refine (of5_calls _).mono ?_); rintro ev w10 ⟨⟨r10, rfl, hr10⟩, hg10⟩; have H10 := Lib.hid hr10; clear hr10)
  have H11 := Lib.hid (mulNil _ w10 H10.out)
  go_wp2_with (go_at_call 13; (with_reducible refine H11.out.mono ?_); rintro ev w11 ⟨⟨r11, rfl, hr11⟩, hg11⟩; have H11' := Lib.hid hr11; clear hr11)
  have H12 := Lib.hid (zero0 _ w11 H11'.out)
  go_wp2_with (go_at_call 11; (with_reducible refine H12.out.mono ?_); rintro ev w12 ⟨rfl, rfl⟩)
  go_wp2_with (go_at_call 15; (with_reducible refine (powNil _).mono ?_); rintro ev w13 ⟨⟨r13, rfl, hr13⟩, hg13⟩; have H13 := Lib.hid hr13; clear hr13)
  have g13 := ((g5.tr hg6).tr hg8).tr ((hg10.tr hg11).tr hg13)
  have H14 := Lib.hid (text1_nat _ w13 H13.out (met2_gr HM.out g13).2.2)
  go_wp2_with (go_at_call 10; (with_reducible refine H14.out.mono ?_); rintro ev w14 ⟨rfl, hg14⟩)
  go_wp2_with (go_at_call 14; (with_reducible refine (of4_calls _).mono ?_); rintro ev w15 ⟨⟨r15, rfl, hr15⟩, hg15⟩; have H15 := Lib.hid hr15; clear hr15)
  have g15 := (g13.tr hg14).tr hg15
  have H16 := Lib.hid (gcdNil _ w15 (met2_gr HM.out g15).2.1 H15.out)
  go_wp2_with (go_at_call 16; (with_reducible refine H16.out.mono ?_); rintro ev w16 ⟨⟨r16, rfl, hr16⟩, hg16⟩; have H16' := Lib.hid hr16; clear hr16)
  have g16 := g15.tr hg16
  have H17 := Lib.hid (text4_nat _ w16 H16'.out (met2_gr HM.out g16).2.2)
  go_wp2_with (go_at_call 10; (with_reducible refine H17.out.mono ?_); rintro ev w17 ⟨rfl, hg17⟩)
  have g17 := g16.tr hg17
  have H18 := Lib.hid (textI0 _ w17 (nilI w17) (met2_gr HM.out g17).2.2)
  go_wp2_with (go_at_call 17; (with_reducible refine H18.out.mono ?_); rintro ev w18 ⟨rfl, hg18⟩)
  go_wp2_with (go_at_call 18; (with_reducible refine (signI0 _).mono ?_); rintro ev w19 ⟨rfl, hg19⟩)
  go_wp2_with (go_at_call 20; (with_reducible refine (ofI2 _).mono ?_); rintro ev w20 ⟨⟨r20, rfl, hr20⟩, hg20⟩; have H20 := Lib.hid hr20; clear hr20)
  have H21 := Lib.hid (subNil _ w20 H20.out.at_)
  go_wp2_with (go_at_call 19; (with_reducible refine H21.out.mono ?_); rintro ev w21 ⟨⟨r21, rfl, hr21⟩, hg21⟩; have H21' := Lib.hid hr21; clear hr21)
  have g21 := (g17.tr hg18).tr ((hg19.tr hg20).tr hg21)
  have H22 := Lib.hid (textIm2 _ w21 H21'.out.at_ (met2_gr HM.out g21).2.2)
  go_wp2_with (go_at_call 17; (with_reducible refine H22.out.mono ?_); rintro ev w22 ⟨rfl, hg22⟩)
  have g22 := g21.tr hg22
  have H23 := Lib.hid (textRNil w22 (met2_gr HM.out g22).2.2)
  go_wp2_with (go_at_call 21; (with_reducible refine H23.out.mono ?_); rintro ev w23 ⟨rfl, hg23⟩)
  go_wp2_with (go_at_call 22; (with_reducible refine (signRNil _).mono ?_); rintro ev w24 ⟨rfl, hg24⟩)
  go_wp2_with (go_at_call 23; (with_reducible refine (denNil _).mono ?_); rintro ev w25 ⟨⟨r25, rfl, hr25⟩, hg25⟩; have H25 := Lib.hid hr25; clear hr25)
  have g25 := (g22.tr hg23).tr (hg24.tr hg25)
  have H26 := Lib.hid (textI1 _ w25 H25.out (met2_gr HM.out g25).2.2)
  go_wp2_with (go_at_call 17; (with_reducible refine H26.out.mono ?_); rintro ev w26 ⟨rfl, hg26⟩)
  have g26 := g25.tr hg26
  have H27 := Lib.hid (same_own 1 w26 (met2_gr HM.out g26).1)
  go_wp2_with (go_at_call 24; (with_reducible refine H27.out.mono ?_); rintro ev w27 ⟨rfl, hg27⟩)
  have g27 := g26.tr hg27
  have H28 := Lib.hid (same_own 3 w27 (met2_gr HM.out g27).1)
  go_wp2_with (go_at_call 24; (with_reducible refine H28.out.mono ?_); rintro ev w28 ⟨rfl, hg28⟩)
  go_ret
  exact ⟨rfl, g27.tr hg28⟩
end Go.Proofs.YtkmooclhebjlpaaGreatDoor
