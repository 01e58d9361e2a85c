/- Layer 3: 'the least and the greatest number of 64 bits, and one beyond', walked. -/
import Derived.Test.YtkmooclhebjlpaaGreatDoorOk
import Derived.Test.YtkmooclhebjlpaaGreatDoorOl
namespace Go.Proofs.YtkmooclhebjlpaaGreatDoor
open Go.RowKit Go.Extern.Stop Go.Stop Go.Extern Go.Sort
set_option linter.unusedVariables false
set_option linter.unusedSimpArgs false

theorem Met2.gr {w w' : World} (h : Met2 w) (hg : Gr w w') : Met2 w' := ⟨h.1.gr hg, h.2.1.gr hg, h.2.2.gr hg⟩
theorem begun_met (w : World) (h : Met2 w) : Calls Tryz.prog 9 #[] w fun e w' => e = .returned (.bool true) ∧ Gr w w' := begun2_calls w h.1 h.2.1 h.2.2
def lowZ : Int := -9223372036854775808
def highZ : Int := 9223372036854775807
theorem ofLow (w : World) : Calls Tryz.prog 20 #[.int .i64 (-9223372036854775808)] w fun e w' => (∃ r, e = .returned r ∧ IntP w' r lowZ) ∧ Gr w w' := ofP_calls lowZ (by decide) (by decide) w
theorem ofHigh (w : World) : Calls Tryz.prog 20 #[.int .i64 9223372036854775807] w fun e w' => (∃ r, e = .returned r ∧ IntP w' r highZ) ∧ Gr w w' := ofP_calls highZ (by decide) (by decide) w
theorem of1i (w : World) : Calls Tryz.prog 20 #[.int .i64 1] w fun e w' => (∃ r, e = .returned r ∧ IntP w' r 1) ∧ Gr w w' := ofP_calls 1 (by decide) (by decide) w
theorem smallLow (v : Value) (w : World) (h : IntAt w v lowZ) : Calls Tryz.prog 25 #[v] w fun e w' => e = .returned (.tuple #[.int .i64 (-9223372036854775808), .bool true]) ∧ Gr w w' :=
  (small_int v lowZ w h 1 (by decide) (by decide)).mono fun e w' ⟨h1, hg⟩ => ⟨h1.1 (by decide), hg⟩
theorem smallHigh (v : Value) (w : World) (h : IntAt w v highZ) : Calls Tryz.prog 25 #[v] w fun e w' => e = .returned (.tuple #[.int .i64 9223372036854775807, .bool true]) ∧ Gr w w' :=
  (small_int v highZ w h 1 (by decide) (by decide)).mono fun e w' ⟨h1, hg⟩ => ⟨h1.1 (by decide), hg⟩
theorem smallNo (v : Value) (z : Int) (w : World) (h : IntAt w v z) (hb : z.natAbs < B ^ 2) (hz : z < -9223372036854775808 ∨ 9223372036854775807 < z) : Calls Tryz.prog 25 #[v] w fun e w' => e = .returned (.tuple #[.int .i64 0, .bool false]) ∧ Gr w w' :=
  (small_int v z w h 2 hb (by decide)).mono fun e w' ⟨h1, hg⟩ => ⟨h1.2 hz, hg⟩
theorem smallK (v : Value) (k : Int) (w : World) (h : IntAt w v k) (h0 : -9223372036854775808 ≤ k) (h1 : k ≤ 9223372036854775807) : Calls Tryz.prog 25 #[v] w fun e w' => e = .returned (.tuple #[.int .i64 k, .bool true]) ∧ Gr w w' :=
  (small_int v k w h 1 (by rw [Nat.pow_one, B_eq]; omega) (by decide)).mono fun e w' ⟨h2, hg⟩ => ⟨h2.1 ⟨h0, h1⟩, hg⟩
theorem textLow (v : Value) (w : World) (h : IntAt w v lowZ) (hT : PowTab w) : Calls Tryz.prog 17 #[v] w fun e w' => e = .returned (.string ⟨#[45, 57, 50, 50, 51, 51, 55, 50, 48, 51, 54, 56, 53, 52, 55, 55, 53, 56, 48, 56]⟩) ∧ Gr w w' := by
  have h1 := text_int v lowZ w h 1 (by decide) (by decide) (by decide) hT
  rw [show Lib.itoa lowZ = [45, 57, 50, 50, 51, 51, 55, 50, 48, 51, 54, 56, 53, 52, 55, 55, 53, 56, 48, 56] by
    unfold Lib.itoa
    rw [if_pos (by decide), show lowZ.natAbs = 9223372036854775808 from rfl, digits_of [57, 50, 50, 51, 51, 55, 50, 48, 51, 54, 56, 53, 52, 55, 55, 53, 56, 48, 56] 9223372036854775808 (by decide) (by unfold Dig; decide) (by decide) (.inr (by decide))]] at h1
  exact h1
theorem text0_int (v : Value) (w : World) (h : IntAt w v 0) (hT : PowTab w) : Calls Tryz.prog 17 #[v] w fun e w' => e = .returned (.string ⟨#[48]⟩) ∧ Gr w w' := by
  have h1 := text_int v 0 w h 1 (by decide) (by decide) (by decide) hT
  rw [show Lib.itoa 0 = [48] by unfold Lib.itoa; rw [if_neg (by decide), show (0 : Int).toNat = 0 from rfl, Lib.decDigits_one (by decide)]; rfl] at h1
  exact h1
theorem newNil (w : World) : Calls Tryz.prog 28 #[.bool true, .pointer none] w fun e w' => (∃ r, e = .returned r ∧ IntP w' r 0) ∧ Gr w w' := newP_calls true (.pointer none) 0 w (.inl ⟨rfl, rfl⟩)

set_option maxRecDepth 100000 in
set_option maxHeartbeats 8000000 in
theorem numEdge_calls (k : Int) (h0 : -9223372036854775808 ≤ k) (h1 : k ≤ 9223372036854775807) (w : World) (hM : Met2 w) :
    Calls Tryz.prog 4 #[.int .i64 k] w fun e w' => e = .returned (.bool true) ∧ Gr w w' := by
  have HM := Lib.hid hM
  have HBG := Lib.hid (begun_met w hM)
  have HK := Lib.hid (And.intro h0 h1)
  clear hM h0 h1
  go_enter Tryz.func4, Tryz.ntmps4
  go_wp2_with (go_at_call 9; (with_reducible refine HBG.out.mono ?_); rintro ev w1 ⟨rfl, hg1⟩)
  go_wp2_with (go_at_call 20; (with_reducible refine (ofLow _).mono ?_); rintro ev w2 ⟨⟨r2, rfl, hr2⟩, hg2⟩; have HL := Lib.hid hr2; clear hr2)
  go_wp2_with (go_at_call 20; (with_reducible refine (ofHigh _).mono ?_); rintro ev w3 ⟨⟨r3, rfl, hr3⟩, hg3⟩; have HH := Lib.hid hr3; clear hr3)
  have g3 := (hg1.tr hg2).tr hg3
  have H4 := Lib.hid (smallLow _ w3 (HL.out.gr hg3).at_)
  go_wp2_with (go_at_call 25; (with_reducible refine H4.out.mono ?_); rintro ev w4 ⟨rfl, hg4⟩)
  have H5 := Lib.hid (smallHigh _ w4 (HH.out.gr hg4).at_)
  go_wp2_with (go_at_call 25; (with_reducible refine H5.out.mono ?_); rintro ev w5 ⟨rfl, hg5⟩)
  have gL5 := hg3.tr (hg4.tr hg5)
  have gH5 := hg4.tr hg5
  go_wp2_with (go_at_call 20; (with_reducible refine (of1i _).mono ?_); rintro ev w6 ⟨⟨r6, rfl, hr6⟩, hg6⟩; have H6 := Lib.hid hr6; clear hr6)
  have H7 := Lib.hid (sub_int _ _ lowZ 1 w6 ((HL.out.gr gL5).gr hg6).at_ H6.out.at_ 2 (by decide) (by decide) (by decide))
  go_wp2_with (go_at_call 19; (with_reducible refine H7.out.mono ?_); rintro ev w7 ⟨⟨r7, rfl, hr7⟩, hg7⟩; have H7' := Lib.hid hr7; clear hr7)
  have H8 := Lib.hid (smallNo _ _ w7 H7'.out.at_ (by decide) (by decide))
  go_wp2_with (go_at_call 25; (with_reducible refine H8.out.mono ?_); rintro ev w8 ⟨rfl, hg8⟩)
  have gL8 := gL5.tr (hg6.tr (hg7.tr hg8))
  have gH8 := gH5.tr (hg6.tr (hg7.tr hg8))
  go_wp2_with (go_at_call 20; (with_reducible refine (of1i _).mono ?_); rintro ev w9 ⟨⟨r9, rfl, hr9⟩, hg9⟩; have H9 := Lib.hid hr9; clear hr9)
  have H10 := Lib.hid (add_int _ _ highZ 1 w9 ((HH.out.gr gH8).gr hg9).at_ H9.out.at_ 2 (by decide) (by decide) (by decide))
  go_wp2_with (go_at_call 26; (with_reducible refine H10.out.mono ?_); rintro ev w10 ⟨⟨r10, rfl, hr10⟩, hg10⟩; have H10' := Lib.hid hr10; clear hr10)
  have H11 := Lib.hid (smallNo _ _ w10 H10'.out.at_ (by decide) (by decide))
  go_wp2_with (go_at_call 25; (with_reducible refine H11.out.mono ?_); rintro ev w11 ⟨rfl, hg11⟩)
  have gL11 := gL8.tr (hg9.tr (hg10.tr hg11))
  have H12 := Lib.hid (neg_calls _ lowZ w11 (HL.out.gr gL11).at_)
  go_wp2_with (go_at_call 27; (with_reducible refine H12.out.mono ?_); rintro ev w12 ⟨⟨r12, rfl, hr12⟩, hg12⟩; have H12' := Lib.hid hr12; clear hr12)
  have H13 := Lib.hid (smallNo _ _ w12 H12'.out.at_ (by decide) (by decide))
  go_wp2_with (go_at_call 25; (with_reducible refine H13.out.mono ?_); rintro ev w13 ⟨rfl, hg13⟩)
  have gL13 := gL11.tr (hg12.tr hg13)
  have H14 := Lib.hid (ofP_calls k HK.out.1 HK.out.2 w13)
  go_wp2_with (go_at_call 20; (with_reducible refine H14.out.mono ?_); rintro ev w14 ⟨⟨r14, rfl, hr14⟩, hg14⟩; have H14' := Lib.hid hr14; clear hr14)
  have hkB : k.natAbs < B ^ 2 := Nat.lt_of_le_of_lt (show k.natAbs ≤ 9223372036854775808 by have := HK.out; omega) (by decide)
  have hsB : (k + lowZ).natAbs < B ^ 2 := Nat.lt_of_le_of_lt (show (k + lowZ).natAbs ≤ 18446744073709551616 by have := HK.out; unfold lowZ; omega) (by decide)
  have H15 := Lib.hid (add_int _ _ k lowZ w14 H14'.out.at_ ((HL.out.gr gL13).gr hg14).at_ 2 hkB (by decide) (by decide))
  go_wp2_with (go_at_call 26; (with_reducible refine H15.out.mono ?_); rintro ev w15 ⟨⟨r15, rfl, hr15⟩, hg15⟩; have H15' := Lib.hid hr15; clear hr15)
  have h16 := sub_int _ _ (k + lowZ) lowZ w15 H15'.out.at_ ((HL.out.gr gL13).gr (hg14.tr hg15)).at_ 2 hsB (by decide) (by decide)
  rw [show k + lowZ - lowZ = k by omega] at h16
  have H16 := Lib.hid h16
  clear h16 hkB hsB
  go_wp2_with (go_at_call 19; (with_reducible refine H16.out.mono ?_); rintro ev w16 ⟨⟨r16, rfl, hr16⟩, hg16⟩; have H16' := Lib.hid hr16; clear hr16)
  have H17 := Lib.hid (smallK _ k w16 H16'.out.at_ HK.out.1 HK.out.2)
  go_wp2_with (go_at_call 25; (with_reducible refine H17.out.mono ?_); rintro ev w17 ⟨rfl, hg17⟩)
  have gL17 := gL13.tr ((hg14.tr hg15).tr (hg16.tr hg17))
  have g17 := (hg1.tr hg2).tr gL17
  have H18 := Lib.hid (textLow _ w17 (HL.out.gr gL17).at_ (HM.out.gr g17).2.2)
  go_wp2_with (go_at_call 17; (with_reducible refine H18.out.mono ?_); rintro ev w18 ⟨rfl, hg18⟩)
  go_wp2_with (go_at_call 28; (with_reducible refine (newNil _).mono ?_); rintro ev w19 ⟨⟨r19, rfl, hr19⟩, hg19⟩; have H19 := Lib.hid hr19; clear hr19)
  have H20 := Lib.hid (text0_int _ w19 H19.out.at_ (HM.out.gr ((g17.tr hg18).tr hg19)).2.2)
  go_wp2_with (go_at_call 17; (with_reducible refine H20.out.mono ?_); rintro ev w20 ⟨rfl, hg20⟩)
  go_ret
  exact ⟨rfl, ((g17.tr hg18).tr hg19).tr hg20⟩
end Go.Proofs.YtkmooclhebjlpaaGreatDoor
