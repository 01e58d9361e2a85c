/- Layer 4: sure, sums of fractions by contract. -/
import Derived.Test.YtcjjgdoafkdeaaaGreatDoorWa
namespace Go.Proofs.YtcjjgdoafkdeaaaGreatDoor
open Go.RowKit Go.Extern.Stop Go.Stop Go.Extern Go.Sort
set_option linter.unusedVariables false
set_option linter.unusedSimpArgs false

set_option maxRecDepth 100000 in
/-- rat.sure. -/
theorem sure_calls (x y : Value) (z e : Int) (w : World) (hT : BitTab w) (hx : IntAt w x z) (hy : IntAt w y e) (k : Nat) (hz : z.natAbs < B ^ k) (he : e.natAbs < B ^ k) (hk : k ≤ 1000) (hne : e ≠ 0) :
    Calls Tryz.prog 91 #[x, y] w fun ev w' => (∃ b n d, ev = .returned (.pointer (some ⟨b, 0, none⟩)) ∧ RatAt w' (.pointer (some ⟨b, 0, none⟩)) n d ∧ n * e = z * (d : Int) ∧ n.natAbs ≤ z.natAbs ∧ d ≤ e.natAbs) ∧ Gr w w' := by
  have HN := Lib.hid (newG_calls x y z e w hT hx hy k hz he hk)
  have HE := Lib.hid hne
  clear hx hy hz he hne hT
  go_enter Tryz.func91, Tryz.ntmps91
  go_wp2_with (go_at_call 65; (with_reducible refine HN.out.mono ?_); rintro ev w1 ⟨⟨_, hnw⟩, hg1⟩; obtain ⟨b, n, d, rfl, hq⟩ := hnw HE.out; have HQ := Lib.hid hq; have HG1 := Lib.hid hg1; clear hnw hq hg1)
  go_ret
  exact ⟨⟨b, n, d, rfl, HQ.out⟩, HG1.out⟩
theorem add_abs_lt {a b : Int} {k : Nat} (ha : a.natAbs < B ^ k) (hb : b.natAbs < B ^ k) : (a + b).natAbs < B ^ (k + 1) := by
  have h1 : B ^ (k + 1) = B ^ k * B := Nat.pow_succ _ _
  have h2 : B ^ k * 2 ≤ B ^ k * B := Nat.mul_le_mul_left _ (by decide)
  omega
set_option maxRecDepth 100000 in
set_option maxHeartbeats 4000000 in
/-- (*Rat).Add. -/
theorem addRat_calls (x y : Value) (n1 n2 : Int) (d1 d2 : Nat) (w : World) (hT : BitTab w) (hx : RatAt w x n1 d1) (hy : RatAt w y n2 d2) (k : Nat) (h1 : n1.natAbs < B ^ k) (h2 : n2.natAbs < B ^ k) (h3 : d1 < B ^ k) (h4 : d2 < B ^ k) (hk : k ≤ 400) :
    Calls Tryz.prog 87 #[x, y] w fun e w' => (∃ b n d, e = .returned (.pointer (some ⟨b, 0, none⟩)) ∧ RatAt w' (.pointer (some ⟨b, 0, none⟩)) n d ∧ n * ((d1 : Int) * (d2 : Int)) = (n1 * (d2 : Int) + n2 * (d1 : Int)) * (d : Int) ∧ n.natAbs < B ^ (2 * k + 1) ∧ d < B ^ (2 * k)) ∧ Gr w w' := by
  have HX := Lib.hid hx
  have HY := Lib.hid hy
  have HT := Lib.hid hT
  have hp1 := hx.pos
  have hp2 := hy.pos
  have HP := Lib.hid (And.intro hp1 hp2)
  have HD1 := Lib.hid (den_calls x n1 d1 w hx)
  have h3i : (d1 : Int).natAbs < B ^ k := by rw [Int.natAbs_natCast]; exact h3
  have h4i : (d2 : Int).natAbs < B ^ k := by rw [Int.natAbs_natCast]; exact h4
  have m1 := mul_abs_lt (a := n1) (b := (d2 : Int)) h1 h4i (show k + k = 2 * k by omega)
  have m2 := mul_abs_lt (a := n2) (b := (d1 : Int)) h2 h3i (show k + k = 2 * k by omega)
  have m3 := mul_abs_lt (a := (d1 : Int)) (b := (d2 : Int)) h3i h4i (show k + k = 2 * k by omega)
  have HB := Lib.hid (And.intro (And.intro h1 h2) (And.intro h3i h4i))
  have HM := Lib.hid (And.intro m1 (And.intro m2 m3))
  have hne1 : (d1 : Int) ≠ 0 := by omega
  have hne3 : (d1 : Int) * (d2 : Int) ≠ 0 := Int.mul_ne_zero hne1 (by omega)
  have HNE := Lib.hid (And.intro hne1 hne3)
  clear hx hy hT h1 h2 h3 h4 h3i h4i m1 m2 m3 hne1 hne3 hp1 hp2
  by_cases hd : d1 = d2
  · have hz : ((d1 : Int) - (d2 : Int)).sign = 0 := by rw [hd, Int.sub_self]; rfl
    have HDD := Lib.hid hd
    have HC := Lib.hid (fun (r1 r2 : Value) (w' : World) ha hb => cmp_int r1 r2 (d1 : Int) (d2 : Int) w' ha hb k HB.out.2.1 HB.out.2.2 (by omega))
    rw [hz] at HC
    clear hz hd
    go_enter Tryz.func87, Tryz.ntmps87
    go_wp2_with (go_at_call 44; (with_reducible refine HD1.out.mono ?_); rintro ev w1 ⟨⟨r1, rfl, hr1⟩, hg1⟩; have HR1 := Lib.hid hr1; have HG1 := Lib.hid hg1; clear hr1 hg1)
    have HD2 := Lib.hid (den_calls y n2 d2 w1 (HY.out.gr HG1.out))
    go_wp2_with (go_at_call 44; (with_reducible refine HD2.out.mono ?_); rintro ev w2 ⟨⟨r2, rfl, hr2⟩, hg2⟩; have HR2 := Lib.hid hr2; have HG2 := Lib.hid hg2; clear hr2 hg2)
    have HC3 := Lib.hid (HC.out r1 r2 w2 (HR1.out.gr HG2.out) HR2.out)
    go_wp2_with (go_at_call 90; (with_reducible refine HC3.out.mono ?_); rintro ev w3 ⟨rfl, hg3⟩; have HG3 := Lib.hid hg3; clear hg3)
    have HG := Lib.hid (HG1.out.tr (HG2.out.tr HG3.out))
    have HN4 := Lib.hid (num_calls x n1 d1 w3 (HX.out.gr HG.out))
    go_wp2_with (go_at_call 42; (with_reducible refine HN4.out.mono ?_); rintro ev w4 ⟨⟨r4, rfl, hr4⟩, hg4⟩; have HR4 := Lib.hid hr4; have HG4 := Lib.hid hg4; clear hr4 hg4)
    have HN5 := Lib.hid (num_calls y n2 d2 w4 (HY.out.gr (HG.out.tr HG4.out)))
    go_wp2_with (go_at_call 42; (with_reducible refine HN5.out.mono ?_); rintro ev w5 ⟨⟨r5, rfl, hr5⟩, hg5⟩; have HR5 := Lib.hid hr5; have HG5 := Lib.hid hg5; clear hr5 hg5)
    have HA6 := Lib.hid (add_int r4 r5 n1 n2 w5 (HR4.out.gr HG5.out) HR5.out k HB.out.1.1 HB.out.1.2 (by omega))
    go_wp2_with (go_at_call 146; (with_reducible refine HA6.out.mono ?_); rintro ev w6 ⟨⟨r6, rfl, hr6⟩, hg6⟩; have HR6 := Lib.hid hr6; have HG6 := Lib.hid hg6; clear hr6 hg6)
    have HGB := Lib.hid (HG.out.tr (HG4.out.tr (HG5.out.tr HG6.out)))
    have HD7 := Lib.hid (den_calls x n1 d1 w6 (HX.out.gr HGB.out))
    go_wp2_with (go_at_call 44; (with_reducible refine HD7.out.mono ?_); rintro ev w7 ⟨⟨r7, rfl, hr7⟩, hg7⟩; have HR7 := Lib.hid hr7; have HG7 := Lib.hid hg7; clear hr7 hg7)
    have HS8 := Lib.hid (sure_calls r6 r7 (n1 + n2) (d1 : Int) w7 (HT.out.gr (HGB.out.tr HG7.out)) (HR6.out.gr HG7.out).at_ HR7.out (k + 1) (add_abs_lt HB.out.1.1 HB.out.1.2) (Nat.lt_of_lt_of_le HB.out.2.1 (Nat.pow_le_pow_right B_pos (by omega))) (by omega) HNE.out.1)
    go_wp2_with (go_at_call 91; (with_reducible refine HS8.out.mono ?_); rintro ev w8 ⟨⟨b8, n, d, rfl, hr8⟩, hg8⟩; have HR8 := Lib.hid hr8; have HG8 := Lib.hid hg8; clear hr8 hg8)
    go_ret
    obtain ⟨q1, q2, q3, q4⟩ := HR8.out
    refine ⟨⟨b8, n, d, rfl, q1, ?_, ?_, ?_⟩, HGB.out.tr (HG7.out.tr HG8.out)⟩
    · have e := HDD.out
      subst e
      rw [← Int.mul_assoc, q2, ← Int.add_mul, Int.mul_right_comm]
    · exact Nat.lt_of_le_of_lt q3 (Nat.lt_of_lt_of_le (add_abs_lt HB.out.1.1 HB.out.1.2) (Nat.pow_le_pow_right B_pos (by omega)))
    · exact Nat.lt_of_le_of_lt q4 (Nat.lt_of_lt_of_le HB.out.2.1 (Nat.pow_le_pow_right B_pos (by omega)))
  · have hz : (((d1 : Int) - (d2 : Int)).sign == 0) = false := beq_eq_false_iff_ne.2 (fun h => hd (by have := Int.sign_eq_zero_iff_zero.1 h; omega))
    obtain ⟨s1, s2⟩ := sign_bd ((d1 : Int) - (d2 : Int))
    have HC := Lib.hid (fun (r1 r2 : Value) (w' : World) ha hb => cmp_int r1 r2 (d1 : Int) (d2 : Int) w' ha hb k HB.out.2.1 HB.out.2.2 (by omega))
    generalize ((d1 : Int) - (d2 : Int)).sign = sg at hz HC s1 s2
    clear hd
    go_enter Tryz.func87, Tryz.ntmps87
    go_wp2_with (go_at_call 44; (with_reducible refine HD1.out.mono ?_); rintro ev w1 ⟨⟨r1, rfl, hr1⟩, hg1⟩; have HR1 := Lib.hid hr1; have HG1 := Lib.hid hg1; clear hr1 hg1)
    have HD2 := Lib.hid (den_calls y n2 d2 w1 (HY.out.gr HG1.out))
    go_wp2_with (go_at_call 44; (with_reducible refine HD2.out.mono ?_); rintro ev w2 ⟨⟨r2, rfl, hr2⟩, hg2⟩; have HR2 := Lib.hid hr2; have HG2 := Lib.hid hg2; clear hr2 hg2)
    have HC3 := Lib.hid (HC.out r1 r2 w2 (HR1.out.gr HG2.out) HR2.out)
    go_wp2_with (go_at_call 90; (with_reducible refine HC3.out.mono ?_); rintro ev w3 ⟨rfl, hg3⟩; have HG3 := Lib.hid hg3; clear hg3)
    have HG := Lib.hid (HG1.out.tr (HG2.out.tr HG3.out))
    have HN4 := Lib.hid (num_calls x n1 d1 w3 (HX.out.gr HG.out))
    go_wp2_with (go_at_call 42; (with_reducible refine HN4.out.mono ?_); rintro ev w4 ⟨⟨r4, rfl, hr4⟩, hg4⟩; have HR4 := Lib.hid hr4; have HG4 := Lib.hid hg4; clear hr4 hg4)
    have HD5 := Lib.hid (den_calls y n2 d2 w4 (HY.out.gr (HG.out.tr HG4.out)))
    go_wp2_with (go_at_call 44; (with_reducible refine HD5.out.mono ?_); rintro ev w5 ⟨⟨r5, rfl, hr5⟩, hg5⟩; have HR5 := Lib.hid hr5; have HG5 := Lib.hid hg5; clear hr5 hg5)
    have HM6 := Lib.hid (mul_int r4 r5 n1 (d2 : Int) w5 (HR4.out.gr HG5.out) HR5.out k HB.out.1.1 HB.out.2.2 (by omega))
    go_wp2_with (go_at_call 72; (with_reducible refine HM6.out.mono ?_); rintro ev w6 ⟨⟨r6, rfl, hr6⟩, hg6⟩; have HR6 := Lib.hid hr6; have HG6 := Lib.hid hg6; clear hr6 hg6)
    have HGB := Lib.hid (HG.out.tr (HG4.out.tr (HG5.out.tr HG6.out)))
    have HN7 := Lib.hid (num_calls y n2 d2 w6 (HY.out.gr HGB.out))
    go_wp2_with (go_at_call 42; (with_reducible refine HN7.out.mono ?_); rintro ev w7 ⟨⟨r7, rfl, hr7⟩, hg7⟩; have HR7 := Lib.hid hr7; have HG7 := Lib.hid hg7; clear hr7 hg7)
    have HD8 := Lib.hid (den_calls x n1 d1 w7 (HX.out.gr (HGB.out.tr HG7.out)))
    go_wp2_with (go_at_call 44; (with_reducible refine HD8.out.mono ?_); rintro ev w8 ⟨⟨r8, rfl, hr8⟩, hg8⟩; have HR8 := Lib.hid hr8; have HG8 := Lib.hid hg8; clear hr8 hg8)
    have HM9 := Lib.hid (mul_int r7 r8 n2 (d1 : Int) w8 (HR7.out.gr HG8.out) HR8.out k HB.out.1.2 HB.out.2.1 (by omega))
    go_wp2_with (go_at_call 72; (with_reducible refine HM9.out.mono ?_); rintro ev w9 ⟨⟨r9, rfl, hr9⟩, hg9⟩; have HR9 := Lib.hid hr9; have HG9 := Lib.hid hg9; clear hr9 hg9)
    have HGC := Lib.hid (HG7.out.tr (HG8.out.tr HG9.out))
    have HA10 := Lib.hid (add_int r6 r9 (n1 * (d2 : Int)) (n2 * (d1 : Int)) w9 (HR6.out.gr HGC.out).at_ HR9.out.at_ (2 * k) HM.out.1 HM.out.2.1 (by omega))
    go_wp2_with (go_at_call 146; (with_reducible refine HA10.out.mono ?_); rintro ev w10 ⟨⟨r10, rfl, hr10⟩, hg10⟩; have HR10 := Lib.hid hr10; have HG10 := Lib.hid hg10; clear hr10 hg10)
    have HGD := Lib.hid (HGB.out.tr (HGC.out.tr HG10.out))
    have HD11 := Lib.hid (den_calls x n1 d1 w10 (HX.out.gr HGD.out))
    go_wp2_with (go_at_call 44; (with_reducible refine HD11.out.mono ?_); rintro ev w11 ⟨⟨r11, rfl, hr11⟩, hg11⟩; have HR11 := Lib.hid hr11; have HG11 := Lib.hid hg11; clear hr11 hg11)
    have HD12 := Lib.hid (den_calls y n2 d2 w11 (HY.out.gr (HGD.out.tr HG11.out)))
    go_wp2_with (go_at_call 44; (with_reducible refine HD12.out.mono ?_); rintro ev w12 ⟨⟨r12, rfl, hr12⟩, hg12⟩; have HR12 := Lib.hid hr12; have HG12 := Lib.hid hg12; clear hr12 hg12)
    have HM13 := Lib.hid (mul_int r11 r12 (d1 : Int) (d2 : Int) w12 (HR11.out.gr HG12.out) HR12.out k HB.out.2.1 HB.out.2.2 (by omega))
    go_wp2_with (go_at_call 72; (with_reducible refine HM13.out.mono ?_); rintro ev w13 ⟨⟨r13, rfl, hr13⟩, hg13⟩; have HR13 := Lib.hid hr13; have HG13 := Lib.hid hg13; clear hr13 hg13)
    have HGE := Lib.hid (HG11.out.tr (HG12.out.tr HG13.out))
    have HS := Lib.hid (sure_calls r10 r13 (n1 * (d2 : Int) + n2 * (d1 : Int)) ((d1 : Int) * (d2 : Int)) w13 (HT.out.gr (HGD.out.tr HGE.out)) (HR10.out.gr HGE.out).at_ HR13.out.at_ (2 * k + 1) (add_abs_lt HM.out.1 HM.out.2.1) (Nat.lt_of_lt_of_le HM.out.2.2 (Nat.pow_le_pow_right B_pos (by omega))) (by omega) HNE.out.2)
    go_wp2_with (go_at_call 91; (with_reducible refine HS.out.mono ?_); rintro ev w14 ⟨⟨b14, n, d, rfl, hr14⟩, hg14⟩; have HR14 := Lib.hid hr14; have HG14 := Lib.hid hg14; clear hr14 hg14)
    go_ret
    obtain ⟨q1, q2, q3, q4⟩ := HR14.out
    exact ⟨⟨b14, n, d, rfl, q1, q2, Nat.lt_of_le_of_lt q3 (add_abs_lt HM.out.1 HM.out.2.1), Nat.lt_of_le_of_lt q4 HM.out.2.2⟩, HGD.out.tr (HGE.out.tr HG14.out)⟩
end Go.Proofs.YtcjjgdoafkdeaaaGreatDoor
