/- Layer 2: 'just a half, rounded thrice'. -/
import Derived.Test.YtglbdafcfcmffaaGreatDoorWa
import Derived.Test.YtglbdafcfcmffaaGreatDoorWb
import Derived.Test.YtglbdafcfcmffaaGreatDoorQk
namespace Go.Proofs.YtglbdafcfcmffaaGreatDoor
open Go.RowKit Go.Extern.Stop Go.Stop Go.Extern Go.Sort
set_option linter.unusedVariables false
set_option linter.unusedSimpArgs false

theorem half_nat (a k D : Nat) (hD : 0 < D) (h : 2 * a = (2 * k + 1) * D) : a / D = k ∧ a % D + a % D = D := by
  have h1 : (2 * k + 1) * D = 2 * (k * D) + D := by rw [Nat.add_mul, Nat.mul_assoc, Nat.one_mul]
  obtain ⟨r, hr⟩ : ∃ r, a = r + D * k := ⟨a - k * D, by rw [Nat.mul_comm D k]; omega⟩
  have h2 : r + r = D := by rw [Nat.mul_comm D k] at hr; omega
  subst hr
  rw [Nat.add_mul_div_left r k hD, Nat.div_eq_of_lt (by omega), Nat.add_mul_mod_self_left, Nat.mod_eq_of_lt (by omega)]
  omega
theorem half_one (a k D : Nat) (hD : 0 < D) (h : 2 * a = (2 * k + 1) * D) : roundN a D 1 = k + 1 := by
  obtain ⟨h1, h2⟩ := half_nat a k D hD h
  rw [roundN_up a D 1 ⟨.inr ⟨h2, .inl rfl⟩, by decide⟩, h1]
theorem half_two_up (a k D : Nat) (hD : 0 < D) (h : 2 * a = (2 * k + 1) * D) (hk : k % 2 = 1) : roundN a D 2 = k + 1 := by
  obtain ⟨h1, h2⟩ := half_nat a k D hD h
  rw [roundN_up a D 2 ⟨.inr ⟨h2, .inr (by rw [h1]; exact hk)⟩, by decide⟩, h1]
theorem half_two_no (a k D : Nat) (hD : 0 < D) (h : 2 * a = (2 * k + 1) * D) (hk : k % 2 = 0) : roundN a D 2 = k := by
  obtain ⟨h1, h2⟩ := half_nat a k D hD h
  rw [roundN_no a D 2 (by
    rintro ⟨hh | ⟨_, hh | hh⟩, _⟩
    · omega
    · exact absurd hh (by decide)
    · rw [h1] at hh; omega), h1]
theorem half_three (a k D : Nat) (hD : 0 < D) (h : 2 * a = (2 * k + 1) * D) : roundN a D 3 = k := by
  obtain ⟨h1, h2⟩ := half_nat a k D hD h
  rw [roundN_no a D 3 (fun hh => hh.2 rfl), h1]
/-- The half's size and sign. -/
theorem half_int (z X : Int) (D : Nat) (hD : 0 < D) (h : 2 * X = (2 * z + 1) * (D : Int)) : ∃ k : Nat, 2 * X.natAbs = (2 * k + 1) * D ∧ ((z < 0 ∧ decide (X < 0) = true ∧ z = -(k : Int) - 1) ∨ (0 ≤ z ∧ decide (X < 0) = false ∧ z = (k : Int))) := by
  have hDi : (0 : Int) < (D : Int) := by omega
  rcases Int.lt_or_le z 0 with hz | hz
  · refine ⟨(-z - 1).toNat, ?_, .inl ⟨hz, decide_eq_true ?_, by omega⟩⟩
    · have h1 : (2 * X).natAbs = (2 * z + 1).natAbs * D := by rw [h, Int.natAbs_mul, Int.natAbs_natCast]
      rw [show (2 * X).natAbs = 2 * X.natAbs by omega, show (2 * z + 1).natAbs = 2 * (-z - 1).toNat + 1 by omega] at h1
      exact h1
    · have h2 : (2 * z + 1) * (D : Int) < 0 := Int.mul_neg_of_neg_of_pos (by omega) hDi
      omega
  · refine ⟨z.toNat, ?_, .inr ⟨hz, decide_eq_false ?_, by omega⟩⟩
    · have h1 : (2 * X).natAbs = (2 * z + 1).natAbs * D := by rw [h, Int.natAbs_mul, Int.natAbs_natCast]
      rw [show (2 * X).natAbs = 2 * X.natAbs by omega, show (2 * z + 1).natAbs = 2 * z.toNat + 1 by omega] at h1
      exact h1
    · have h2 : 0 ≤ (2 * z + 1) * (D : Int) := Int.mul_nonneg (by omega) (by omega)
      omega
theorem half_away (z X : Int) (D : Nat) (hD : 0 < D) (h : 2 * X = (2 * z + 1) * (D : Int)) (A : Int) (hA : A = if z < 0 then z else z + 1) : sgn (decide (X < 0)) (roundN X.natAbs D 1) = A := by
  obtain ⟨k, h1, h2⟩ := half_int z X D hD h
  rw [half_one _ k D hD h1]
  subst hA
  rcases h2 with ⟨a, b, c⟩ | ⟨a, b, c⟩
  · rw [b, if_pos a]; show -((k + 1 : Nat) : Int) = z; omega
  · rw [b, if_neg (by omega)]; show ((k + 1 : Nat) : Int) = z + 1; omega
theorem half_near (z X : Int) (D : Nat) (hD : 0 < D) (h : 2 * X = (2 * z + 1) * (D : Int)) (A : Int) (hA : A = if z < 0 then z + 1 else z) : sgn (decide (X < 0)) (roundN X.natAbs D 3) = A := by
  obtain ⟨k, h1, h2⟩ := half_int z X D hD h
  rw [half_three _ k D hD h1]
  subst hA
  rcases h2 with ⟨a, b, c⟩ | ⟨a, b, c⟩
  · rw [b, if_pos a]; show -((k : Nat) : Int) = z + 1; omega
  · rw [b, if_neg (by omega)]; show ((k : Nat) : Int) = z; omega
theorem half_even (z X : Int) (D : Nat) (hD : 0 < D) (h : 2 * X = (2 * z + 1) * (D : Int)) (A : Int) (hA : A = if z.tmod 2 = 0 then z else z + 1) : sgn (decide (X < 0)) (roundN X.natAbs D 2) = A := by
  obtain ⟨k, h1, h2⟩ := half_int z X D hD h
  subst hA
  have htm : z.tmod 2 = 0 ↔ z % 2 = 0 := by
    rw [← Int.dvd_iff_tmod_eq_zero, Int.dvd_iff_emod_eq_zero]
  rw [show (if z.tmod 2 = 0 then z else z + 1) = (if z % 2 = 0 then z else z + 1) by simp only [htm]]
  rcases h2 with ⟨a, b, c⟩ | ⟨a, b, c⟩
  · rcases Nat.mod_two_eq_zero_or_one k with hk | hk
    · rw [half_two_no _ k D hD h1 hk, b, if_neg (by omega)]; show -((k : Nat) : Int) = z + 1; omega
    · rw [half_two_up _ k D hD h1 hk, b, if_pos (by omega)]; show -((k + 1 : Nat) : Int) = z; omega
  · rcases Nat.mod_two_eq_zero_or_one k with hk | hk
    · rw [half_two_no _ k D hD h1 hk, b, if_pos (by omega)]; show ((k : Nat) : Int) = z; omega
    · rw [half_two_up _ k D hD h1 hk, b, if_neg (by omega)]; show ((k + 1 : Nat) : Int) = z + 1; omega

theorem of_ten (w : World) (hT : BitTab w) : Calls Tryz.prog 48 #[.int .i64 10, .int .i64 1] w fun e w' => (∃ b, e = .returned (.tuple #[.pointer (some ⟨b, 0, none⟩), .nilIface]) ∧ RatAt w' (.pointer (some ⟨b, 0, none⟩)) ((10 : Nat) : Int) 1) ∧ Gr w w' := by
  refine (ofRat_calls 10 1 w hT (by decide) (by decide) (by decide) (by decide)).mono ?_
  rintro e w' ⟨⟨_, h⟩, hg⟩
  obtain ⟨b, n, d, rfl, hr, h1, h2, h3⟩ := h (by decide)
  have hp := hr.pos
  obtain rfl : d = 1 := by have : (1 : Int).natAbs = 1 := rfl; omega
  obtain rfl : n = ((10 : Nat) : Int) := by simpa using h1
  exact ⟨⟨b, rfl, hr⟩, hg⟩
theorem of_half (z : Int) (z0 : -1000000 < z) (z1 : z < 1000000) (w : World) (hT : BitTab w) : Calls Tryz.prog 48 #[.int .i64 (2 * z + 1), .int .i64 2] w fun e w' => (∃ b, e = .returned (.tuple #[.pointer (some ⟨b, 0, none⟩), .nilIface]) ∧ RatAt w' (.pointer (some ⟨b, 0, none⟩)) (2 * z + 1) 2) ∧ Gr w w' := by
  refine (ofRat_calls (2 * z + 1) 2 w hT (by omega) (by omega) (by decide) (by decide)).mono ?_
  rintro e w' ⟨⟨_, h⟩, hg⟩
  obtain ⟨b, n, d, rfl, hr, h1, h2, h3⟩ := h (by decide)
  have hp := hr.pos
  have h4 : d = 1 ∨ d = 2 := by have : (2 : Int).natAbs = 2 := rfl; omega
  rcases h4 with rfl | rfl
  · exfalso; omega
  · obtain rfl : n = 2 * z + 1 := by omega
    exact ⟨⟨b, rfl, hr⟩, hg⟩
theorem pow_ten (x : Value) (p : Nat) (hp : p ≤ 20) (w : World) (hx : RatAt w x ((10 : Nat) : Int) 1) : Calls Tryz.prog 49 #[x, .int .i64 (p : Int)] w fun e w' => (∃ b, e = .returned (.tuple #[.pointer (some ⟨b, 0, none⟩), .nilIface]) ∧ RatAt w' (.pointer (some ⟨b, 0, none⟩)) ((10 ^ p : Nat) : Int) 1) ∧ Gr w w' := by
  have h := powRat_calls x 10 1 p w hx 2 (by decide) (Nat.lt_of_le_of_lt (Nat.pow_le_pow_right (by decide) hp) (by decide)) (by decide) (by rw [Nat.one_pow]; decide) (by decide) (by decide) (by omega)
  rw [Nat.one_pow] at h
  exact h
theorem ten_bd12 (p : Nat) (hp : p < 12) : 10 ^ p ≤ 100000000000 := Nat.le_trans (Nat.pow_le_pow_right (by decide) (show p ≤ 11 by omega)) (by decide)
theorem div_half (x y : Value) (z : Int) (z0 : -1000000 < z) (z1 : z < 1000000) (p : Nat) (hp : p < 12) (w : World) (hT : BitTab w) (hx : RatAt w x (2 * z + 1) 2) (hy : RatAt w y ((10 ^ p : Nat) : Int) 1) :
    Calls Tryz.prog 50 #[x, y] w fun e w' => (∃ b N D, e = .returned (.tuple #[.pointer (some ⟨b, 0, none⟩), .nilIface]) ∧ RatAt w' (.pointer (some ⟨b, 0, none⟩)) N D ∧ (2 * (N * ((10 ^ p : Nat) : Int)) = (2 * z + 1) * (D : Int) ∧ N.natAbs < B ^ 1 ∧ D < B ∧ 0 < D)) ∧ Gr w w' := by
  have ht := ten_bd12 p hp
  have ht0 : 0 < 10 ^ p := Nat.pow_pos (by decide)
  refine (divRat_calls x y (2 * z + 1) ((10 ^ p : Nat) : Int) 2 1 w hT hx hy 1 (by rw [Nat.pow_one, B_eq]; omega) (by rw [Nat.pow_one, B_eq]; omega) (by decide) (by decide) (by decide) (by omega)).mono ?_
  rintro e w' ⟨⟨b, N, D, rfl, hr, h1, h2, h3⟩, hg⟩
  refine ⟨⟨b, N, D, rfl, hr, ?_, ?_, ?_, hr.pos⟩, hg⟩
  · rw [← Int.mul_assoc, Int.mul_comm 2 N, Int.mul_assoc]
    rw [show ((1 : Nat) : Int) = 1 from rfl, Int.mul_one] at h1
    exact h1
  · rw [Nat.pow_one, B_eq]
    rw [show ((1 : Nat) : Int) = 1 from rfl, Int.mul_one] at h2
    omega
  · rw [B_eq]
    have h4 : (((2 : Nat) : Int) * ((10 ^ p : Nat) : Int)).natAbs = 2 * 10 ^ p := by rw [Int.natAbs_mul, Int.natAbs_natCast, Int.natAbs_natCast]
    omega
theorem round_half (v : Value) (N : Int) (D p : Nat) (m Z : Int) (X : ByteArray) (hX : X = ⟨(placedL Z p).toArray⟩) (hp : p < 12) (w : World) (h : RatAt w v N D) (hN : N.natAbs < B ^ 1) (hD : D < B) (hm : m = 1 ∨ m = 2 ∨ m = 3) (hT : PowTab w)
    (hZ : sgn (decide (N * ((10 ^ p : Nat) : Int) < 0)) (roundN (N * ((10 ^ p : Nat) : Int)).natAbs D m) = Z) :
    Calls Tryz.prog 51 #[v, .int .i64 (p : Int), .int .i64 m] w fun e w' => e = .returned (.tuple #[.string X, .nilIface]) ∧ Gr w w' := by
  subst hX hZ
  exact round_calls v N D p m w h 1 hN hD (by decide) (by omega) hm hT
theorem r_of (z : Int) (z0 : -1000000 ≤ z) (z1 : z ≤ 1000000) (w : World) : Calls Tryz.prog 53 #[.int .i64 z] w fun e w' => (∃ sb v, e = .returned (.agg #[.bool sb, v]) ∧ (sb = decide (z < 0) ∧ RN w' v z.natAbs)) ∧ Gr w w' := by
  refine (rOf_calls z (by omega) (by omega) w).mono ?_
  rintro e w' ⟨⟨v, rfl, hv⟩, hg⟩
  exact ⟨⟨_, v, rfl, rfl, hv⟩, hg⟩
theorem r_dec (z : Int) (z0 : -1000000 ≤ z) (z1 : z ≤ 1000000) (v : Value) (p : Nat) (hp : p < 12) (X : ByteArray) (hX : X = ⟨(placedL z p).toArray⟩) (w : World) (sb : Bool) (hs : sb = decide (z < 0)) (h : RN w v z.natAbs) :
    Calls Tryz.prog 52 #[.agg #[.bool sb, v], .int .i64 (p : Int)] w fun e w' => e = .returned (.string X) ∧ Gr w w' := by
  subst hX hs
  refine (rDec_calls (decide (z < 0)) v z.natAbs p w h 1 (by show z.natAbs < 1000000000 ^ 1; omega) (by decide) (by omega)).mono ?_
  rintro e w' ⟨rfl, hg⟩
  refine ⟨?_, hg⟩
  unfold placedL
  by_cases hz : z < 0
  · rw [decide_eq_true hz, if_pos hz]; rfl
  · rw [decide_eq_false hz, if_neg hz]; rfl
set_option maxRecDepth 100000 in
set_option maxHeartbeats 16000000 in
theorem decHalf_ne (n q z : Int) (w : World) (hM : Met2 w) (hz : n.tmod 1000000 = z) (z0 : -1000000 < z) (z1 : z < 1000000) (hc1 : z < 0) (hc2 : z.tmod 2 = 0) (R : Nat) (hk1 : (q.tmod 12 + 12) % 12 = (R : Int)) (hk2 : q.tmod 12 % 12 = (R : Int)) (hk3 : (R : Int) < 12) (hk4 : -12 < q.tmod 12) (hk5 : q.tmod 12 < 12) :
    Calls Tryz.prog 7 #[.int .i64 n, .int .i64 q] w fun e w' => e = .returned (.bool true) ∧ Gr w w' := by
  have HM := Lib.hid hM
  clear hM
  have HR12 : Hid (R < 12) := Lib.hid (by omega)
  have HZ : Hid (-1000000 < z ∧ z < 1000000) := Lib.hid ⟨z0, z1⟩
  obtain ⟨U, hU⟩ : ∃ X : ByteArray, X = ⟨(placedL z R).toArray⟩ := ⟨_, rfl⟩
  have HU := Lib.hid hU
  clear hU
  obtain ⟨E, hE⟩ : ∃ X : ByteArray, X = ⟨(placedL z R).toArray⟩ := ⟨_, rfl⟩
  have HE := Lib.hid hE
  clear hE
  obtain ⟨C, hC⟩ : ∃ X : ByteArray, X = ⟨(placedL (z + 1) R).toArray⟩ := ⟨_, rfl⟩
  have HC := Lib.hid hC
  clear hC
  have HA : Hid (z = if z < 0 then z else z + 1) := Lib.hid (by rw [if_pos hc1])
  have HT : Hid (z = if z.tmod 2 = 0 then z else z + 1) := Lib.hid (by rw [if_pos hc2])
  have HNE : Hid ((z + 1) = if z < 0 then z + 1 else z) := Lib.hid (by rw [if_pos hc1])
  have b1 : decide (z < 0) = true := decide_eq_true hc1
  have b2 : (z.tmod 2 == 0) = true := beq_iff_eq.2 hc2
  have HB1 := Lib.hid b1
  have HBZ : Hid (decide (z + 1 < 0) = decide (z + 1 < 0)) := Lib.hid rfl
  clear hc1 hc2
  have w1 : IntKind.i64.wrap (2 * z) = 2 * z := by rw [IntKind.wrap_i64]; omega
  have w2 : IntKind.i64.wrap (2 * z + 1) = 2 * z + 1 := by rw [IntKind.wrap_i64]; omega
  have w3 : IntKind.i64.wrap (z + 1) = z + 1 := by rw [IntKind.wrap_i64]; omega
  go_enter Tryz.func7, Tryz.ntmps7
  have HC1 := Lib.hid (begun_met w HM.out)
  go_wp2_with (go_at_call 35; (with_reducible refine HC1.out.mono ?_); rintro ev w1 ⟨rfl, hg1⟩; have HG1 := Lib.hid hg1; clear hg1 )
  have HC2 := Lib.hid (of_ten w1 (HM.out.gr HG1.out).2.1)
  go_wp2_with (go_at_call 48; (with_reducible refine HC2.out.mono ?_); rintro ev w2 ⟨⟨bt, rfl, hrt⟩, hg2⟩; have HG2 := Lib.hid hg2; have HRT := Lib.hid hrt; clear hg2 hrt)
  have HC3 := Lib.hid (pow_ten _ R (by have := HR12.out; omega) w2 HRT.out)
  go_wp2_with (go_at_call 49; (with_reducible refine HC3.out.mono ?_); rintro ev w3 ⟨⟨bp, rfl, hrp⟩, hg3⟩; have HG3 := Lib.hid hg3; have HRP := Lib.hid hrp; clear hg3 hrp)
  have HC4 := Lib.hid (of_half z HZ.out.1 HZ.out.2 w3 (HM.out.gr ((HG1.out.tr HG2.out).tr HG3.out)).2.1)
  go_wp2_with (go_at_call 48; (with_reducible refine HC4.out.mono ?_); rintro ev w4 ⟨⟨bh, rfl, hrh⟩, hg4⟩; have HG4 := Lib.hid hg4; have HRH := Lib.hid hrh; clear hg4 hrh)
  have HC5 := Lib.hid (div_half _ _ z HZ.out.1 HZ.out.2 R HR12.out w4 (HM.out.gr (((HG1.out.tr HG2.out).tr HG3.out).tr HG4.out)).2.1 HRH.out (HRP.out.gr HG4.out))
  go_wp2_with (go_at_call 50; (with_reducible refine HC5.out.mono ?_); rintro ev w5 ⟨⟨ba, N, D, rfl, hra, hnd⟩, hg5⟩; have HG5 := Lib.hid hg5; have HRA := Lib.hid hra; have HND := Lib.hid hnd; clear hg5 hra hnd)
  have HC6 := Lib.hid (round_half _ N D R 1 z U HU.out HR12.out w5 HRA.out HND.out.2.1 HND.out.2.2.1 (by decide) (HM.out.gr ((((HG1.out.tr HG2.out).tr HG3.out).tr HG4.out).tr HG5.out)).2.2 (half_away z _ D HND.out.2.2.2 HND.out.1 _ HA.out))
  go_wp2_with (go_at_call 51; (with_reducible refine HC6.out.mono ?_); rintro ev w6 ⟨rfl, hg6⟩; have HG6 := Lib.hid hg6; clear hg6 )
  have HC7 := Lib.hid (round_half _ N D R 2 z E HE.out HR12.out w6 (HRA.out.gr HG6.out) HND.out.2.1 HND.out.2.2.1 (by decide) (HM.out.gr (((((HG1.out.tr HG2.out).tr HG3.out).tr HG4.out).tr HG5.out).tr HG6.out)).2.2 (half_even z _ D HND.out.2.2.2 HND.out.1 _ HT.out))
  go_wp2_with (go_at_call 51; (with_reducible refine HC7.out.mono ?_); rintro ev w7 ⟨rfl, hg7⟩; have HG7 := Lib.hid hg7; clear hg7 )
  have HC8 := Lib.hid (round_half _ N D R 3 (z + 1) C HC.out HR12.out w7 (HRA.out.gr (HG6.out.tr HG7.out)) HND.out.2.1 HND.out.2.2.1 (by decide) (HM.out.gr ((((((HG1.out.tr HG2.out).tr HG3.out).tr HG4.out).tr HG5.out).tr HG6.out).tr HG7.out)).2.2 (half_near z _ D HND.out.2.2.2 HND.out.1 _ HNE.out))
  go_wp2_with (go_at_call 51; (with_reducible refine HC8.out.mono ?_); rintro ev w8 ⟨rfl, hg8⟩; have HG8 := Lib.hid hg8; clear hg8 )
  have HC9 := Lib.hid (r_of z (by have := HZ.out; omega) (by have := HZ.out; omega) w8)
  go_wp2_with (go_at_call 53; (with_reducible refine HC9.out.mono ?_); rintro ev w9 ⟨⟨sU, vU, rfl, hsU, hvU⟩, hg9⟩; have HG9 := Lib.hid hg9; have HSU := Lib.hid hsU; have HVU := Lib.hid hvU; clear hg9 hsU hvU)
  have HC10 := Lib.hid (r_dec z (by have := HZ.out; omega) (by have := HZ.out; omega) vU R HR12.out U HU.out w9 sU HSU.out HVU.out)
  go_wp2_with (go_at_call 52; (with_reducible refine HC10.out.mono ?_); rintro ev w10 ⟨rfl, hg10⟩; have HG10 := Lib.hid hg10; clear hg10 )
  have HC11 := Lib.hid (r_of z (by have := HZ.out; omega) (by have := HZ.out; omega) w10)
  go_wp2_with (go_at_call 53; (with_reducible refine HC11.out.mono ?_); rintro ev w11 ⟨⟨sE, vE, rfl, hsE, hvE⟩, hg11⟩; have HG11 := Lib.hid hg11; have HSE := Lib.hid hsE; have HVE := Lib.hid hvE; clear hg11 hsE hvE)
  have HC12 := Lib.hid (r_dec z (by have := HZ.out; omega) (by have := HZ.out; omega) vE R HR12.out E HE.out w11 sE HSE.out HVE.out)
  go_wp2_with (go_at_call 52; (with_reducible refine HC12.out.mono ?_); rintro ev w12 ⟨rfl, hg12⟩; have HG12 := Lib.hid hg12; clear hg12 )
  have HC13 := Lib.hid (r_of (z + 1) (by have := HZ.out; omega) (by have := HZ.out; omega) w12)
  go_wp2_with (go_at_call 53; (with_reducible refine HC13.out.mono ?_); rintro ev w13 ⟨⟨sC, vC, rfl, hsC, hvC⟩, hg13⟩; have HG13 := Lib.hid hg13; have HSC := Lib.hid hsC; have HVC := Lib.hid hvC; clear hg13 hsC hvC)
  have HC14 := Lib.hid (r_dec (z + 1) (by have := HZ.out; omega) (by have := HZ.out; omega) vC R HR12.out C HC.out w13 sC HSC.out HVC.out)
  go_wp2_with (go_at_call 52; (with_reducible refine HC14.out.mono ?_); rintro ev w14 ⟨rfl, hg14⟩; have HG14 := Lib.hid hg14; clear hg14 )
  go_ret
  exact ⟨by first | rfl | exact ret_bool (by simp), (((((((((((((HG1.out.tr HG2.out).tr HG3.out).tr HG4.out).tr HG5.out).tr HG6.out).tr HG7.out).tr HG8.out).tr HG9.out).tr HG10.out).tr HG11.out).tr HG12.out).tr HG13.out).tr HG14.out)⟩
set_option maxRecDepth 100000 in
set_option maxHeartbeats 16000000 in
theorem decHalf_no (n q z : Int) (w : World) (hM : Met2 w) (hz : n.tmod 1000000 = z) (z0 : -1000000 < z) (z1 : z < 1000000) (hc1 : z < 0) (hc2 : ¬ z.tmod 2 = 0) (R : Nat) (hk1 : (q.tmod 12 + 12) % 12 = (R : Int)) (hk2 : q.tmod 12 % 12 = (R : Int)) (hk3 : (R : Int) < 12) (hk4 : -12 < q.tmod 12) (hk5 : q.tmod 12 < 12) :
    Calls Tryz.prog 7 #[.int .i64 n, .int .i64 q] w fun e w' => e = .returned (.bool true) ∧ Gr w w' := by
  have HM := Lib.hid hM
  clear hM
  have HR12 : Hid (R < 12) := Lib.hid (by omega)
  have HZ : Hid (-1000000 < z ∧ z < 1000000) := Lib.hid ⟨z0, z1⟩
  obtain ⟨U, hU⟩ : ∃ X : ByteArray, X = ⟨(placedL z R).toArray⟩ := ⟨_, rfl⟩
  have HU := Lib.hid hU
  clear hU
  obtain ⟨E, hE⟩ : ∃ X : ByteArray, X = ⟨(placedL (z + 1) R).toArray⟩ := ⟨_, rfl⟩
  have HE := Lib.hid hE
  clear hE
  obtain ⟨C, hC⟩ : ∃ X : ByteArray, X = ⟨(placedL (z + 1) R).toArray⟩ := ⟨_, rfl⟩
  have HC := Lib.hid hC
  clear hC
  have HA : Hid (z = if z < 0 then z else z + 1) := Lib.hid (by rw [if_pos hc1])
  have HT : Hid ((z + 1) = if z.tmod 2 = 0 then z else z + 1) := Lib.hid (by rw [if_neg hc2])
  have HNE : Hid ((z + 1) = if z < 0 then z + 1 else z) := Lib.hid (by rw [if_pos hc1])
  have b1 : decide (z < 0) = true := decide_eq_true hc1
  have b2 : (z.tmod 2 == 0) = false := beq_eq_false_iff_ne.2 hc2
  have HB1 := Lib.hid b1
  have HBZ : Hid (decide (z + 1 < 0) = decide (z + 1 < 0)) := Lib.hid rfl
  clear hc1 hc2
  have w1 : IntKind.i64.wrap (2 * z) = 2 * z := by rw [IntKind.wrap_i64]; omega
  have w2 : IntKind.i64.wrap (2 * z + 1) = 2 * z + 1 := by rw [IntKind.wrap_i64]; omega
  have w3 : IntKind.i64.wrap (z + 1) = z + 1 := by rw [IntKind.wrap_i64]; omega
  go_enter Tryz.func7, Tryz.ntmps7
  have HC1 := Lib.hid (begun_met w HM.out)
  go_wp2_with (go_at_call 35; (with_reducible refine HC1.out.mono ?_); rintro ev w1 ⟨rfl, hg1⟩; have HG1 := Lib.hid hg1; clear hg1 )
  have HC2 := Lib.hid (of_ten w1 (HM.out.gr HG1.out).2.1)
  go_wp2_with (go_at_call 48; (with_reducible refine HC2.out.mono ?_); rintro ev w2 ⟨⟨bt, rfl, hrt⟩, hg2⟩; have HG2 := Lib.hid hg2; have HRT := Lib.hid hrt; clear hg2 hrt)
  have HC3 := Lib.hid (pow_ten _ R (by have := HR12.out; omega) w2 HRT.out)
  go_wp2_with (go_at_call 49; (with_reducible refine HC3.out.mono ?_); rintro ev w3 ⟨⟨bp, rfl, hrp⟩, hg3⟩; have HG3 := Lib.hid hg3; have HRP := Lib.hid hrp; clear hg3 hrp)
  have HC4 := Lib.hid (of_half z HZ.out.1 HZ.out.2 w3 (HM.out.gr ((HG1.out.tr HG2.out).tr HG3.out)).2.1)
  go_wp2_with (go_at_call 48; (with_reducible refine HC4.out.mono ?_); rintro ev w4 ⟨⟨bh, rfl, hrh⟩, hg4⟩; have HG4 := Lib.hid hg4; have HRH := Lib.hid hrh; clear hg4 hrh)
  have HC5 := Lib.hid (div_half _ _ z HZ.out.1 HZ.out.2 R HR12.out w4 (HM.out.gr (((HG1.out.tr HG2.out).tr HG3.out).tr HG4.out)).2.1 HRH.out (HRP.out.gr HG4.out))
  go_wp2_with (go_at_call 50; (with_reducible refine HC5.out.mono ?_); rintro ev w5 ⟨⟨ba, N, D, rfl, hra, hnd⟩, hg5⟩; have HG5 := Lib.hid hg5; have HRA := Lib.hid hra; have HND := Lib.hid hnd; clear hg5 hra hnd)
  have HC6 := Lib.hid (round_half _ N D R 1 z U HU.out HR12.out w5 HRA.out HND.out.2.1 HND.out.2.2.1 (by decide) (HM.out.gr ((((HG1.out.tr HG2.out).tr HG3.out).tr HG4.out).tr HG5.out)).2.2 (half_away z _ D HND.out.2.2.2 HND.out.1 _ HA.out))
  go_wp2_with (go_at_call 51; (with_reducible refine HC6.out.mono ?_); rintro ev w6 ⟨rfl, hg6⟩; have HG6 := Lib.hid hg6; clear hg6 )
  have HC7 := Lib.hid (round_half _ N D R 2 (z + 1) E HE.out HR12.out w6 (HRA.out.gr HG6.out) HND.out.2.1 HND.out.2.2.1 (by decide) (HM.out.gr (((((HG1.out.tr HG2.out).tr HG3.out).tr HG4.out).tr HG5.out).tr HG6.out)).2.2 (half_even z _ D HND.out.2.2.2 HND.out.1 _ HT.out))
  go_wp2_with (go_at_call 51; (with_reducible refine HC7.out.mono ?_); rintro ev w7 ⟨rfl, hg7⟩; have HG7 := Lib.hid hg7; clear hg7 )
  have HC8 := Lib.hid (round_half _ N D R 3 (z + 1) C HC.out HR12.out w7 (HRA.out.gr (HG6.out.tr HG7.out)) HND.out.2.1 HND.out.2.2.1 (by decide) (HM.out.gr ((((((HG1.out.tr HG2.out).tr HG3.out).tr HG4.out).tr HG5.out).tr HG6.out).tr HG7.out)).2.2 (half_near z _ D HND.out.2.2.2 HND.out.1 _ HNE.out))
  go_wp2_with (go_at_call 51; (with_reducible refine HC8.out.mono ?_); rintro ev w8 ⟨rfl, hg8⟩; have HG8 := Lib.hid hg8; clear hg8 )
  have HC9 := Lib.hid (r_of z (by have := HZ.out; omega) (by have := HZ.out; omega) w8)
  go_wp2_with (go_at_call 53; (with_reducible refine HC9.out.mono ?_); rintro ev w9 ⟨⟨sU, vU, rfl, hsU, hvU⟩, hg9⟩; have HG9 := Lib.hid hg9; have HSU := Lib.hid hsU; have HVU := Lib.hid hvU; clear hg9 hsU hvU)
  have HC10 := Lib.hid (r_dec z (by have := HZ.out; omega) (by have := HZ.out; omega) vU R HR12.out U HU.out w9 sU HSU.out HVU.out)
  go_wp2_with (go_at_call 52; (with_reducible refine HC10.out.mono ?_); rintro ev w10 ⟨rfl, hg10⟩; have HG10 := Lib.hid hg10; clear hg10 )
  have HC11 := Lib.hid (r_of (z + 1) (by have := HZ.out; omega) (by have := HZ.out; omega) w10)
  go_wp2_with (go_at_call 53; (with_reducible refine HC11.out.mono ?_); rintro ev w11 ⟨⟨sE, vE, rfl, hsE, hvE⟩, hg11⟩; have HG11 := Lib.hid hg11; have HSE := Lib.hid hsE; have HVE := Lib.hid hvE; clear hg11 hsE hvE)
  have HC12 := Lib.hid (r_dec (z + 1) (by have := HZ.out; omega) (by have := HZ.out; omega) vE R HR12.out E HE.out w11 sE HSE.out HVE.out)
  go_wp2_with (go_at_call 52; (with_reducible refine HC12.out.mono ?_); rintro ev w12 ⟨rfl, hg12⟩; have HG12 := Lib.hid hg12; clear hg12 )
  have HC13 := Lib.hid (r_of (z + 1) (by have := HZ.out; omega) (by have := HZ.out; omega) w12)
  go_wp2_with (go_at_call 53; (with_reducible refine HC13.out.mono ?_); rintro ev w13 ⟨⟨sC, vC, rfl, hsC, hvC⟩, hg13⟩; have HG13 := Lib.hid hg13; have HSC := Lib.hid hsC; have HVC := Lib.hid hvC; clear hg13 hsC hvC)
  have HC14 := Lib.hid (r_dec (z + 1) (by have := HZ.out; omega) (by have := HZ.out; omega) vC R HR12.out C HC.out w13 sC HSC.out HVC.out)
  go_wp2_with (go_at_call 52; (with_reducible refine HC14.out.mono ?_); rintro ev w14 ⟨rfl, hg14⟩; have HG14 := Lib.hid hg14; clear hg14 )
  go_ret
  exact ⟨by first | rfl | exact ret_bool (by simp), (((((((((((((HG1.out.tr HG2.out).tr HG3.out).tr HG4.out).tr HG5.out).tr HG6.out).tr HG7.out).tr HG8.out).tr HG9.out).tr HG10.out).tr HG11.out).tr HG12.out).tr HG13.out).tr HG14.out)⟩
set_option maxRecDepth 100000 in
set_option maxHeartbeats 16000000 in
theorem decHalf_pe (n q z : Int) (w : World) (hM : Met2 w) (hz : n.tmod 1000000 = z) (z0 : -1000000 < z) (z1 : z < 1000000) (hc1 : ¬ z < 0) (hc2 : z.tmod 2 = 0) (R : Nat) (hk1 : (q.tmod 12 + 12) % 12 = (R : Int)) (hk2 : q.tmod 12 % 12 = (R : Int)) (hk3 : (R : Int) < 12) (hk4 : -12 < q.tmod 12) (hk5 : q.tmod 12 < 12) :
    Calls Tryz.prog 7 #[.int .i64 n, .int .i64 q] w fun e w' => e = .returned (.bool true) ∧ Gr w w' := by
  have HM := Lib.hid hM
  clear hM
  have HR12 : Hid (R < 12) := Lib.hid (by omega)
  have HZ : Hid (-1000000 < z ∧ z < 1000000) := Lib.hid ⟨z0, z1⟩
  obtain ⟨U, hU⟩ : ∃ X : ByteArray, X = ⟨(placedL (z + 1) R).toArray⟩ := ⟨_, rfl⟩
  have HU := Lib.hid hU
  clear hU
  obtain ⟨E, hE⟩ : ∃ X : ByteArray, X = ⟨(placedL z R).toArray⟩ := ⟨_, rfl⟩
  have HE := Lib.hid hE
  clear hE
  obtain ⟨C, hC⟩ : ∃ X : ByteArray, X = ⟨(placedL z R).toArray⟩ := ⟨_, rfl⟩
  have HC := Lib.hid hC
  clear hC
  have HA : Hid ((z + 1) = if z < 0 then z else z + 1) := Lib.hid (by rw [if_neg hc1])
  have HT : Hid (z = if z.tmod 2 = 0 then z else z + 1) := Lib.hid (by rw [if_pos hc2])
  have HNE : Hid (z = if z < 0 then z + 1 else z) := Lib.hid (by rw [if_neg hc1])
  have b1 : decide (z < 0) = false := decide_eq_false hc1
  have b2 : (z.tmod 2 == 0) = true := beq_iff_eq.2 hc2
  have HB1 := Lib.hid b1
  have HBZ : Hid (decide (z + 1 < 0) = decide (z + 1 < 0)) := Lib.hid rfl
  clear hc1 hc2
  have w1 : IntKind.i64.wrap (2 * z) = 2 * z := by rw [IntKind.wrap_i64]; omega
  have w2 : IntKind.i64.wrap (2 * z + 1) = 2 * z + 1 := by rw [IntKind.wrap_i64]; omega
  have w3 : IntKind.i64.wrap (z + 1) = z + 1 := by rw [IntKind.wrap_i64]; omega
  go_enter Tryz.func7, Tryz.ntmps7
  have HC1 := Lib.hid (begun_met w HM.out)
  go_wp2_with (go_at_call 35; (with_reducible refine HC1.out.mono ?_); rintro ev w1 ⟨rfl, hg1⟩; have HG1 := Lib.hid hg1; clear hg1 )
  have HC2 := Lib.hid (of_ten w1 (HM.out.gr HG1.out).2.1)
  go_wp2_with (go_at_call 48; (with_reducible refine HC2.out.mono ?_); rintro ev w2 ⟨⟨bt, rfl, hrt⟩, hg2⟩; have HG2 := Lib.hid hg2; have HRT := Lib.hid hrt; clear hg2 hrt)
  have HC3 := Lib.hid (pow_ten _ R (by have := HR12.out; omega) w2 HRT.out)
  go_wp2_with (go_at_call 49; (with_reducible refine HC3.out.mono ?_); rintro ev w3 ⟨⟨bp, rfl, hrp⟩, hg3⟩; have HG3 := Lib.hid hg3; have HRP := Lib.hid hrp; clear hg3 hrp)
  have HC4 := Lib.hid (of_half z HZ.out.1 HZ.out.2 w3 (HM.out.gr ((HG1.out.tr HG2.out).tr HG3.out)).2.1)
  go_wp2_with (go_at_call 48; (with_reducible refine HC4.out.mono ?_); rintro ev w4 ⟨⟨bh, rfl, hrh⟩, hg4⟩; have HG4 := Lib.hid hg4; have HRH := Lib.hid hrh; clear hg4 hrh)
  have HC5 := Lib.hid (div_half _ _ z HZ.out.1 HZ.out.2 R HR12.out w4 (HM.out.gr (((HG1.out.tr HG2.out).tr HG3.out).tr HG4.out)).2.1 HRH.out (HRP.out.gr HG4.out))
  go_wp2_with (go_at_call 50; (with_reducible refine HC5.out.mono ?_); rintro ev w5 ⟨⟨ba, N, D, rfl, hra, hnd⟩, hg5⟩; have HG5 := Lib.hid hg5; have HRA := Lib.hid hra; have HND := Lib.hid hnd; clear hg5 hra hnd)
  have HC6 := Lib.hid (round_half _ N D R 1 (z + 1) U HU.out HR12.out w5 HRA.out HND.out.2.1 HND.out.2.2.1 (by decide) (HM.out.gr ((((HG1.out.tr HG2.out).tr HG3.out).tr HG4.out).tr HG5.out)).2.2 (half_away z _ D HND.out.2.2.2 HND.out.1 _ HA.out))
  go_wp2_with (go_at_call 51; (with_reducible refine HC6.out.mono ?_); rintro ev w6 ⟨rfl, hg6⟩; have HG6 := Lib.hid hg6; clear hg6 )
  have HC7 := Lib.hid (round_half _ N D R 2 z E HE.out HR12.out w6 (HRA.out.gr HG6.out) HND.out.2.1 HND.out.2.2.1 (by decide) (HM.out.gr (((((HG1.out.tr HG2.out).tr HG3.out).tr HG4.out).tr HG5.out).tr HG6.out)).2.2 (half_even z _ D HND.out.2.2.2 HND.out.1 _ HT.out))
  go_wp2_with (go_at_call 51; (with_reducible refine HC7.out.mono ?_); rintro ev w7 ⟨rfl, hg7⟩; have HG7 := Lib.hid hg7; clear hg7 )
  have HC8 := Lib.hid (round_half _ N D R 3 z C HC.out HR12.out w7 (HRA.out.gr (HG6.out.tr HG7.out)) HND.out.2.1 HND.out.2.2.1 (by decide) (HM.out.gr ((((((HG1.out.tr HG2.out).tr HG3.out).tr HG4.out).tr HG5.out).tr HG6.out).tr HG7.out)).2.2 (half_near z _ D HND.out.2.2.2 HND.out.1 _ HNE.out))
  go_wp2_with (go_at_call 51; (with_reducible refine HC8.out.mono ?_); rintro ev w8 ⟨rfl, hg8⟩; have HG8 := Lib.hid hg8; clear hg8 )
  have HC9 := Lib.hid (r_of (z + 1) (by have := HZ.out; omega) (by have := HZ.out; omega) w8)
  go_wp2_with (go_at_call 53; (with_reducible refine HC9.out.mono ?_); rintro ev w9 ⟨⟨sU, vU, rfl, hsU, hvU⟩, hg9⟩; have HG9 := Lib.hid hg9; have HSU := Lib.hid hsU; have HVU := Lib.hid hvU; clear hg9 hsU hvU)
  have HC10 := Lib.hid (r_dec (z + 1) (by have := HZ.out; omega) (by have := HZ.out; omega) vU R HR12.out U HU.out w9 sU HSU.out HVU.out)
  go_wp2_with (go_at_call 52; (with_reducible refine HC10.out.mono ?_); rintro ev w10 ⟨rfl, hg10⟩; have HG10 := Lib.hid hg10; clear hg10 )
  have HC11 := Lib.hid (r_of z (by have := HZ.out; omega) (by have := HZ.out; omega) w10)
  go_wp2_with (go_at_call 53; (with_reducible refine HC11.out.mono ?_); rintro ev w11 ⟨⟨sE, vE, rfl, hsE, hvE⟩, hg11⟩; have HG11 := Lib.hid hg11; have HSE := Lib.hid hsE; have HVE := Lib.hid hvE; clear hg11 hsE hvE)
  have HC12 := Lib.hid (r_dec z (by have := HZ.out; omega) (by have := HZ.out; omega) vE R HR12.out E HE.out w11 sE HSE.out HVE.out)
  go_wp2_with (go_at_call 52; (with_reducible refine HC12.out.mono ?_); rintro ev w12 ⟨rfl, hg12⟩; have HG12 := Lib.hid hg12; clear hg12 )
  have HC13 := Lib.hid (r_of z (by have := HZ.out; omega) (by have := HZ.out; omega) w12)
  go_wp2_with (go_at_call 53; (with_reducible refine HC13.out.mono ?_); rintro ev w13 ⟨⟨sC, vC, rfl, hsC, hvC⟩, hg13⟩; have HG13 := Lib.hid hg13; have HSC := Lib.hid hsC; have HVC := Lib.hid hvC; clear hg13 hsC hvC)
  have HC14 := Lib.hid (r_dec z (by have := HZ.out; omega) (by have := HZ.out; omega) vC R HR12.out C HC.out w13 sC HSC.out HVC.out)
  go_wp2_with (go_at_call 52; (with_reducible refine HC14.out.mono ?_); rintro ev w14 ⟨rfl, hg14⟩; have HG14 := Lib.hid hg14; clear hg14 )
  go_ret
  exact ⟨by first | rfl | exact ret_bool (by simp), (((((((((((((HG1.out.tr HG2.out).tr HG3.out).tr HG4.out).tr HG5.out).tr HG6.out).tr HG7.out).tr HG8.out).tr HG9.out).tr HG10.out).tr HG11.out).tr HG12.out).tr HG13.out).tr HG14.out)⟩
set_option maxRecDepth 100000 in
set_option maxHeartbeats 16000000 in
theorem decHalf_po (n q z : Int) (w : World) (hM : Met2 w) (hz : n.tmod 1000000 = z) (z0 : -1000000 < z) (z1 : z < 1000000) (hc1 : ¬ z < 0) (hc2 : ¬ z.tmod 2 = 0) (R : Nat) (hk1 : (q.tmod 12 + 12) % 12 = (R : Int)) (hk2 : q.tmod 12 % 12 = (R : Int)) (hk3 : (R : Int) < 12) (hk4 : -12 < q.tmod 12) (hk5 : q.tmod 12 < 12) :
    Calls Tryz.prog 7 #[.int .i64 n, .int .i64 q] w fun e w' => e = .returned (.bool true) ∧ Gr w w' := by
  have HM := Lib.hid hM
  clear hM
  have HR12 : Hid (R < 12) := Lib.hid (by omega)
  have HZ : Hid (-1000000 < z ∧ z < 1000000) := Lib.hid ⟨z0, z1⟩
  obtain ⟨U, hU⟩ : ∃ X : ByteArray, X = ⟨(placedL (z + 1) R).toArray⟩ := ⟨_, rfl⟩
  have HU := Lib.hid hU
  clear hU
  obtain ⟨E, hE⟩ : ∃ X : ByteArray, X = ⟨(placedL (z + 1) R).toArray⟩ := ⟨_, rfl⟩
  have HE := Lib.hid hE
  clear hE
  obtain ⟨C, hC⟩ : ∃ X : ByteArray, X = ⟨(placedL z R).toArray⟩ := ⟨_, rfl⟩
  have HC := Lib.hid hC
  clear hC
  have HA : Hid ((z + 1) = if z < 0 then z else z + 1) := Lib.hid (by rw [if_neg hc1])
  have HT : Hid ((z + 1) = if z.tmod 2 = 0 then z else z + 1) := Lib.hid (by rw [if_neg hc2])
  have HNE : Hid (z = if z < 0 then z + 1 else z) := Lib.hid (by rw [if_neg hc1])
  have b1 : decide (z < 0) = false := decide_eq_false hc1
  have b2 : (z.tmod 2 == 0) = false := beq_eq_false_iff_ne.2 hc2
  have HB1 := Lib.hid b1
  have HBZ : Hid (decide (z + 1 < 0) = decide (z + 1 < 0)) := Lib.hid rfl
  clear hc1 hc2
  have w1 : IntKind.i64.wrap (2 * z) = 2 * z := by rw [IntKind.wrap_i64]; omega
  have w2 : IntKind.i64.wrap (2 * z + 1) = 2 * z + 1 := by rw [IntKind.wrap_i64]; omega
  have w3 : IntKind.i64.wrap (z + 1) = z + 1 := by rw [IntKind.wrap_i64]; omega
  go_enter Tryz.func7, Tryz.ntmps7
  have HC1 := Lib.hid (begun_met w HM.out)
  go_wp2_with (go_at_call 35; (with_reducible refine HC1.out.mono ?_); rintro ev w1 ⟨rfl, hg1⟩; have HG1 := Lib.hid hg1; clear hg1 )
  have HC2 := Lib.hid (of_ten w1 (HM.out.gr HG1.out).2.1)
  go_wp2_with (go_at_call 48; (with_reducible refine HC2.out.mono ?_); rintro ev w2 ⟨⟨bt, rfl, hrt⟩, hg2⟩; have HG2 := Lib.hid hg2; have HRT := Lib.hid hrt; clear hg2 hrt)
  have HC3 := Lib.hid (pow_ten _ R (by have := HR12.out; omega) w2 HRT.out)
  go_wp2_with (go_at_call 49; (with_reducible refine HC3.out.mono ?_); rintro ev w3 ⟨⟨bp, rfl, hrp⟩, hg3⟩; have HG3 := Lib.hid hg3; have HRP := Lib.hid hrp; clear hg3 hrp)
  have HC4 := Lib.hid (of_half z HZ.out.1 HZ.out.2 w3 (HM.out.gr ((HG1.out.tr HG2.out).tr HG3.out)).2.1)
  go_wp2_with (go_at_call 48; (with_reducible refine HC4.out.mono ?_); rintro ev w4 ⟨⟨bh, rfl, hrh⟩, hg4⟩; have HG4 := Lib.hid hg4; have HRH := Lib.hid hrh; clear hg4 hrh)
  have HC5 := Lib.hid (div_half _ _ z HZ.out.1 HZ.out.2 R HR12.out w4 (HM.out.gr (((HG1.out.tr HG2.out).tr HG3.out).tr HG4.out)).2.1 HRH.out (HRP.out.gr HG4.out))
  go_wp2_with (go_at_call 50; (with_reducible refine HC5.out.mono ?_); rintro ev w5 ⟨⟨ba, N, D, rfl, hra, hnd⟩, hg5⟩; have HG5 := Lib.hid hg5; have HRA := Lib.hid hra; have HND := Lib.hid hnd; clear hg5 hra hnd)
  have HC6 := Lib.hid (round_half _ N D R 1 (z + 1) U HU.out HR12.out w5 HRA.out HND.out.2.1 HND.out.2.2.1 (by decide) (HM.out.gr ((((HG1.out.tr HG2.out).tr HG3.out).tr HG4.out).tr HG5.out)).2.2 (half_away z _ D HND.out.2.2.2 HND.out.1 _ HA.out))
  go_wp2_with (go_at_call 51; (with_reducible refine HC6.out.mono ?_); rintro ev w6 ⟨rfl, hg6⟩; have HG6 := Lib.hid hg6; clear hg6 )
  have HC7 := Lib.hid (round_half _ N D R 2 (z + 1) E HE.out HR12.out w6 (HRA.out.gr HG6.out) HND.out.2.1 HND.out.2.2.1 (by decide) (HM.out.gr (((((HG1.out.tr HG2.out).tr HG3.out).tr HG4.out).tr HG5.out).tr HG6.out)).2.2 (half_even z _ D HND.out.2.2.2 HND.out.1 _ HT.out))
  go_wp2_with (go_at_call 51; (with_reducible refine HC7.out.mono ?_); rintro ev w7 ⟨rfl, hg7⟩; have HG7 := Lib.hid hg7; clear hg7 )
  have HC8 := Lib.hid (round_half _ N D R 3 z C HC.out HR12.out w7 (HRA.out.gr (HG6.out.tr HG7.out)) HND.out.2.1 HND.out.2.2.1 (by decide) (HM.out.gr ((((((HG1.out.tr HG2.out).tr HG3.out).tr HG4.out).tr HG5.out).tr HG6.out).tr HG7.out)).2.2 (half_near z _ D HND.out.2.2.2 HND.out.1 _ HNE.out))
  go_wp2_with (go_at_call 51; (with_reducible refine HC8.out.mono ?_); rintro ev w8 ⟨rfl, hg8⟩; have HG8 := Lib.hid hg8; clear hg8 )
  have HC9 := Lib.hid (r_of (z + 1) (by have := HZ.out; omega) (by have := HZ.out; omega) w8)
  go_wp2_with (go_at_call 53; (with_reducible refine HC9.out.mono ?_); rintro ev w9 ⟨⟨sU, vU, rfl, hsU, hvU⟩, hg9⟩; have HG9 := Lib.hid hg9; have HSU := Lib.hid hsU; have HVU := Lib.hid hvU; clear hg9 hsU hvU)
  have HC10 := Lib.hid (r_dec (z + 1) (by have := HZ.out; omega) (by have := HZ.out; omega) vU R HR12.out U HU.out w9 sU HSU.out HVU.out)
  go_wp2_with (go_at_call 52; (with_reducible refine HC10.out.mono ?_); rintro ev w10 ⟨rfl, hg10⟩; have HG10 := Lib.hid hg10; clear hg10 )
  have HC11 := Lib.hid (r_of (z + 1) (by have := HZ.out; omega) (by have := HZ.out; omega) w10)
  go_wp2_with (go_at_call 53; (with_reducible refine HC11.out.mono ?_); rintro ev w11 ⟨⟨sE, vE, rfl, hsE, hvE⟩, hg11⟩; have HG11 := Lib.hid hg11; have HSE := Lib.hid hsE; have HVE := Lib.hid hvE; clear hg11 hsE hvE)
  have HC12 := Lib.hid (r_dec (z + 1) (by have := HZ.out; omega) (by have := HZ.out; omega) vE R HR12.out E HE.out w11 sE HSE.out HVE.out)
  go_wp2_with (go_at_call 52; (with_reducible refine HC12.out.mono ?_); rintro ev w12 ⟨rfl, hg12⟩; have HG12 := Lib.hid hg12; clear hg12 )
  have HC13 := Lib.hid (r_of z (by have := HZ.out; omega) (by have := HZ.out; omega) w12)
  go_wp2_with (go_at_call 53; (with_reducible refine HC13.out.mono ?_); rintro ev w13 ⟨⟨sC, vC, rfl, hsC, hvC⟩, hg13⟩; have HG13 := Lib.hid hg13; have HSC := Lib.hid hsC; have HVC := Lib.hid hvC; clear hg13 hsC hvC)
  have HC14 := Lib.hid (r_dec z (by have := HZ.out; omega) (by have := HZ.out; omega) vC R HR12.out C HC.out w13 sC HSC.out HVC.out)
  go_wp2_with (go_at_call 52; (with_reducible refine HC14.out.mono ?_); rintro ev w14 ⟨rfl, hg14⟩; have HG14 := Lib.hid hg14; clear hg14 )
  go_ret
  exact ⟨by first | rfl | exact ret_bool (by simp), (((((((((((((HG1.out.tr HG2.out).tr HG3.out).tr HG4.out).tr HG5.out).tr HG6.out).tr HG7.out).tr HG8.out).tr HG9.out).tr HG10.out).tr HG11.out).tr HG12.out).tr HG13.out).tr HG14.out)⟩
theorem decHalf_calls (n p : Int) (n0 : -9223372036854775808 ≤ n) (n1 : n ≤ 9223372036854775807) (p0 : -9223372036854775808 ≤ p) (p1 : p ≤ 9223372036854775807) (w : World) (hM : Met2 w) :
    Calls Tryz.prog 7 #[.int .i64 n, .int .i64 p] w fun e w' => e = .returned (.bool true) ∧ Gr w w' := by
  obtain ⟨R, h1, h2, h3, h4, h5⟩ := rem_nat p 12 (by decide)
  have z0 := Int.lt_tmod_of_pos n (show (0 : Int) < 1000000 by decide)
  have z1 := Int.tmod_lt_of_pos n (show (0 : Int) < 1000000 by decide)
  by_cases c1 : n.tmod 1000000 < 0 <;> by_cases c2 : (n.tmod 1000000).tmod 2 = 0
  · exact decHalf_ne n p _ w hM rfl z0 z1 c1 c2 R h1 h2 h3 h4 h5
  · exact decHalf_no n p _ w hM rfl z0 z1 c1 c2 R h1 h2 h3 h4 h5
  · exact decHalf_pe n p _ w hM rfl z0 z1 c1 c2 R h1 h2 h3 h4 h5
  · exact decHalf_po n p _ w hM rfl z0 z1 c1 c2 R h1 h2 h3 h4 h5
end Go.Proofs.YtglbdafcfcmffaaGreatDoor
