/- Layer 4: fractions of numbers of any length: New, Div, Pow by contract. -/
import Derived.Test.YtcjjgdoafkdeaaaGreatDoorJc
import Derived.Test.YtcjjgdoafkdeaaaGreatDoorGl
import Derived.Test.YtcjjgdoafkdeaaaGreatDoorGn
import Derived.Laws.Bits64b
namespace Go.Proofs.YtcjjgdoafkdeaaaGreatDoor
open Go.RowKit Go.Extern.Stop Go.Stop Go.Extern Go.Sort
set_option linter.unusedVariables false
set_option linter.unusedSimpArgs false

set_option maxRecDepth 100000 in
set_option maxHeartbeats 2000000 in
/-- rat.New of numbers of any length. -/
theorem newG_calls (x y : Value) (z e : Int) (w : World) (hT : BitTab w) (hx : IntAt w x z) (hy : IntAt w y e) (k : Nat) (hz : z.natAbs < B ^ k) (he : e.natAbs < B ^ k) (hk : k ≤ 1000) :
    Calls Tryz.prog 65 #[x, y] w fun ev w' =>
      ((e = 0 → ev = .returned (.tuple #[.pointer none, .iface 169 (.int .i64 3)])) ∧
       (e ≠ 0 → ∃ b n d, ev = .returned (.tuple #[.pointer (some ⟨b, 0, none⟩), .nilIface]) ∧ RatAt w' (.pointer (some ⟨b, 0, none⟩)) n d ∧ n * e = z * (d : Int) ∧ n.natAbs ≤ z.natAbs ∧ d ≤ e.natAbs)) ∧ Gr w w' := by
  have HX := Lib.hid (fun w' (hg : Gr w w') => abs_calls x z w' (hx.gr hg))
  have HY := Lib.hid (fun w' (hg : Gr w w') => abs_calls y e w' (hy.gr hg))
  have HSX := Lib.hid (fun w' (hg : Gr w w') => sign_calls x z w' (hx.gr hg))
  have HSY := Lib.hid (fun w' (hg : Gr w w') => sign_calls y e w' (hy.gr hg))
  have HTT := Lib.hid hT
  have HO := Lib.hid (of_calls 3 rfl)
  by_cases he0 : e = 0
  · have HS := HSY.out w (Gr.rf w)
    have HE := Lib.hid he0
    rw [he0, show (0 : Int).sign = 0 from rfl] at HS
    have HS := Lib.hid HS
    clear hx hy hT he0 hz he
    go_enter Tryz.func65, Tryz.ntmps65
    go_wp2_with (go_at_call 89; (with_reducible refine HS.out.mono ?_); rintro ev w1 ⟨rfl, hg1⟩)
    go_wp2_with (go_at_call 68; (with_reducible refine (HO.out _).mono ?_); rintro ev w2 ⟨rfl, rfl⟩)
    go_ret2
    exact ⟨⟨fun _ => rfl, fun h => absurd HE.out h⟩, hg1⟩
  · have hs0 : (e.sign == 0) = false := beq_eq_false_iff_ne.2 (fun h => he0 (Int.sign_eq_zero_iff_zero.1 h))
    have hgp : 0 < Nat.gcd z.natAbs e.natAbs := Nat.gcd_pos_of_pos_right _ (by omega)
    have hgB : Nat.gcd z.natAbs e.natAbs < B ^ k := Nat.lt_of_le_of_lt (Nat.gcd_le_right _ (by omega)) he
    have hcop : Nat.gcd (z.natAbs / Nat.gcd z.natAbs e.natAbs) (e.natAbs / Nat.gcd z.natAbs e.natAbs) = 1 := Nat.coprime_div_gcd_div_gcd hgp
    have hzA : z.natAbs = Nat.gcd z.natAbs e.natAbs * (z.natAbs / Nat.gcd z.natAbs e.natAbs) := (Nat.mul_div_cancel' (Nat.gcd_dvd_left _ _)).symm
    have heD : e.natAbs = Nat.gcd z.natAbs e.natAbs * (e.natAbs / Nat.gcd z.natAbs e.natAbs) := (Nat.mul_div_cancel' (Nat.gcd_dvd_right _ _)).symm
    have hAle : z.natAbs / Nat.gcd z.natAbs e.natAbs ≤ z.natAbs := Nat.div_le_self _ _
    have hDle : e.natAbs / Nat.gcd z.natAbs e.natAbs ≤ e.natAbs := Nat.div_le_self _ _
    have HGC := Lib.hid (fun (r3 r4 : Value) (w4 : World) (h1 : BitTab w4) h3 h4 => gcd_calls r3 r4 z.natAbs e.natAbs w4 h1 h3 h4 k hz he (by omega))
    have hD0 : 0 < e.natAbs / Nat.gcd z.natAbs e.natAbs := Nat.div_pos (Nat.gcd_le_right _ (by omega)) hgp
    generalize hgg : Nat.gcd z.natAbs e.natAbs = g at *
    have HDV := Lib.hid (fun (r3 r4 : Value) (w4 : World) h3 h4 => div_calls r3 r4 z.natAbs g w4 h3 h4 k hz hgB (by omega))
    have HDV2 := Lib.hid (fun (r3 r4 : Value) (w4 : World) h3 h4 => div_calls r3 r4 e.natAbs g w4 h3 h4 k he hgB (by omega))
    generalize z.natAbs / g = A at *
    generalize e.natAbs / g = D at *
    obtain ⟨bb, hbb⟩ : ∃ bb : Bool, decide ((z * e).sign < 0) = bb := ⟨_, rfl⟩
    have hm : z.sign * e.sign = (z * e).sign := (Int.sign_mul z e).symm
    obtain ⟨hb1, hb2⟩ := sign_bd (z * e)
    have hrat := rat_eq z e g A D hzA heD he0 bb hbb
    have HR := Lib.hid (And.intro hrat (And.intro hcop (And.intro hD0 (And.intro (And.intro hAle hDle) (And.intro hgp he0)))))
    generalize (z * e).sign = s at hm hbb hb1 hb2
    generalize z.sign = sz at HSX hm
    generalize e.sign = se at HSY hm hs0
    clear hx hy hT hz he he0 hgB hcop hzA heD hAle hDle hD0 hgp hrat hgg
    have HS0 := Lib.hid (HSY.out w (Gr.rf w))
    go_enter Tryz.func65, Tryz.ntmps65
    go_wp2_with (go_at_call 89; (with_reducible refine HS0.out.mono ?_); rintro ev w1 ⟨rfl, hg1⟩)
    clear hs0
    have HA := Lib.hid (HX.out w1 hg1)
    go_wp2_with (go_at_call 97; (with_reducible refine HA.out.mono ?_); rintro ev w2 ⟨⟨r2, rfl, hr2⟩, hg2⟩; have HR2 := Lib.hid hr2; clear hr2)
    have g2 := hg1.tr hg2
    have HA2 := Lib.hid (HY.out w2 g2)
    go_wp2_with (go_at_call 97; (with_reducible refine HA2.out.mono ?_); rintro ev w3 ⟨⟨r3, rfl, hr3⟩, hg3⟩; have HR3 := Lib.hid hr3; clear hr3)
    have g3 := g2.tr hg3
    have HG := Lib.hid (HGC.out r2 r3 w3 (HTT.out.gr g3) (HR2.out.gr hg3) HR3.out)
    go_wp2_with (go_at_call 132; (with_reducible refine HG.out.mono ?_); rintro ev w4 ⟨⟨r4, rfl, hr4⟩, hg4⟩; have HR4 := Lib.hid hr4; clear hr4)
    have g4 := g3.tr hg4
    have HA5 := Lib.hid (HX.out w4 g4)
    go_wp2_with (go_at_call 97; (with_reducible refine HA5.out.mono ?_); rintro ev w5 ⟨⟨r5, rfl, hr5⟩, hg5⟩; have HR5 := Lib.hid hr5; clear hr5)
    have g5 := g4.tr hg5
    have HD6 := Lib.hid (HDV.out r5 r4 w5 HR5.out (HR4.out.gr hg5))
    go_wp2_with (go_at_call 55; (with_reducible refine HD6.out.mono ?_); rintro ev w6 ⟨⟨_, hdv⟩, hg6⟩; obtain ⟨q6, r6, rfl, hq6, hr6⟩ := hdv HR.out.2.2.2.2.1; have HQ6 := Lib.hid hq6; clear hq6 hr6 hdv)
    have g6 := g5.tr hg6
    have HA7 := Lib.hid (HY.out w6 g6)
    go_wp2_with (go_at_call 97; (with_reducible refine HA7.out.mono ?_); rintro ev w7 ⟨⟨r7, rfl, hr7⟩, hg7⟩; have HR7 := Lib.hid hr7; clear hr7)
    have g7 := g6.tr hg7
    have HD8 := Lib.hid (HDV2.out r7 r4 w7 HR7.out (HR4.out.gr (hg5.tr (hg6.tr hg7))))
    go_wp2_with (go_at_call 55; (with_reducible refine HD8.out.mono ?_); rintro ev w8 ⟨⟨_, hdv⟩, hg8⟩; obtain ⟨q8, r8, rfl, hq8, hr8⟩ := hdv HR.out.2.2.2.2.1; have HQ8 := Lib.hid hq8; clear hq8 hr8 hdv)
    have g8 := g7.tr hg8
    have HS9 := Lib.hid (HSX.out w8 g8)
    go_wp2_with (go_at_call 89; (with_reducible refine HS9.out.mono ?_); rintro ev w9 ⟨rfl, hg9⟩)
    have g9 := g8.tr hg9
    have HS10 := Lib.hid (HSY.out w9 g9)
    go_wp2_with (go_at_call 89; (with_reducible refine HS10.out.mono ?_); rintro ev w10 ⟨rfl, hg10⟩)
    have g10 := g9.tr hg10
    have HN11 := Lib.hid (newInt_calls bb q6 A w10 (HQ6.out.gr (hg7.tr (hg8.tr (hg9.tr hg10)))))
    go_wp2_with (go_at_call 66; (with_reducible refine HN11.out.mono ?_); rintro ev w11 ⟨⟨b11, rfl, hr11⟩, hg11⟩; have HR11 := Lib.hid hr11; clear hr11)
    have g11 := g10.tr hg11
    have HN12 := Lib.hid (newInt_calls false q8 D w11 (HQ8.out.gr (hg9.tr (hg10.tr hg11))))
    go_wp2_with (go_at_call 66; (with_reducible refine HN12.out.mono ?_); rintro ev w12 ⟨⟨b12, rfl, hr12⟩, hg12⟩; have HR12 := Lib.hid hr12; clear hr12)
    have g12 := g11.tr hg12
    have HGA := Lib.hid ((Gr.rf w12).alloc (Nat.le_refl _) (.cells #[.pointer (some ⟨b11, 0, none⟩), .pointer (some ⟨b12, 0, none⟩)] 93))
    go_ret2
    refine ⟨⟨fun h => absurd h HR.out.2.2.2.2.2, fun _ => ⟨_, sgn bb A, D, rfl, .inr ⟨_, _, _, rfl, ?_, ?_, (HR11.out.gr hg12).gr HGA.out, .inr ⟨by simp, HR12.out.gr HGA.out⟩, HR.out.2.2.1, by rw [sgn_abs]; exact HR.out.2.1⟩, HR.out.1, by rw [sgn_abs]; exact HR.out.2.2.2.1.1, HR.out.2.2.2.1.2⟩⟩, g12.tr HGA.out⟩
    · rw [World.cell?_alloc_at _ _ _ _ rfl]; rfl
    · rw [World.cell?_alloc_at _ _ _ _ rfl]; rfl

theorem and1u (n : Nat) (h : n < 18446744073709551616) : bits .and .u64 (n : Int) 1 = ((n % 2 : Nat) : Int) := by
  have h1 := bits_and_u64_nat n 1 h (by omega)
  rw [Nat.and_one_is_mod] at h1
  exact h1
theorem mul_abs_lt {a b : Int} {j k m : Nat} (ha : a.natAbs < B ^ j) (hb : b.natAbs < B ^ k) (hm : j + k = m) : (a * b).natAbs < B ^ m := by
  subst hm
  rw [Int.natAbs_mul, Nat.pow_add]
  exact Nat.mul_lt_mul'' ha hb
theorem b_upB {a k m : Nat} (h : a < B ^ k) (hk : k ≤ m) : a < B ^ m := Nat.lt_of_lt_of_le h (Nat.pow_le_pow_right B_pos hk)
set_option maxRecDepth 100000 in
set_option maxHeartbeats 2000000 in
/-- (*Rat).Div. -/
theorem divRat_calls (x y : Value) (n1 n2 : Int) (d1 d2 : Nat) (w : World) (hT : BitTab w) (hx : RatAt w x n1 d1) (hy : RatAt w y n2 d2) (k : Nat) (h1 : n1.natAbs < B ^ k) (h2 : n2.natAbs < B ^ k) (h3 : d1 < B ^ k) (h4 : d2 < B ^ k) (hk : k ≤ 400) (hn : n2 ≠ 0) :
    Calls Tryz.prog 30 #[x, y] w fun e w' => (∃ b n d, e = .returned (.tuple #[.pointer (some ⟨b, 0, none⟩), .nilIface]) ∧ RatAt w' (.pointer (some ⟨b, 0, none⟩)) n d ∧ n * ((d1 : Int) * n2) = n1 * (d2 : Int) * (d : Int) ∧ n.natAbs ≤ (n1 * (d2 : Int)).natAbs ∧ d ≤ ((d1 : Int) * n2).natAbs) ∧ Gr w w' := by
  have HX := Lib.hid hx
  have HY := Lib.hid hy
  have HN1 := Lib.hid (num_calls x n1 d1 w hx)
  have HT := Lib.hid hT
  have HB := Lib.hid (And.intro (And.intro h1 h2) (And.intro h3 h4))
  have hz := mul_abs_lt (b := (d2 : Int)) h1 (by rw [Int.natAbs_natCast]; exact h4) rfl
  have he := mul_abs_lt (a := (d1 : Int)) (by rw [Int.natAbs_natCast]; exact h3) h2 rfl
  have hne : (d1 : Int) * n2 ≠ 0 := Int.mul_ne_zero (by have := hx.pos; omega) hn
  have HZ := Lib.hid (And.intro hz (And.intro he hne))
  clear hx hy hT h1 h2 h3 h4 hz he hne hn
  go_enter Tryz.func30, Tryz.ntmps30
  go_wp2_with (go_at_call 42; (with_reducible refine HN1.out.mono ?_); rintro ev w1 ⟨⟨r1, rfl, hr1⟩, hg1⟩; have HR1 := Lib.hid hr1; have HG1 := Lib.hid hg1; clear hr1 hg1)
  have HD2 := Lib.hid (den_calls y n2 d2 w1 (HY.out.gr HG1.out))
  go_wp2_with (go_at_call 44; (with_reducible refine HD2.out.mono ?_); rintro ev w2 ⟨⟨r2, rfl, hr2⟩, hg2⟩; have HR2 := Lib.hid hr2; have HG2 := Lib.hid hg2; clear hr2 hg2)
  have HM3 := Lib.hid (mul_int r1 r2 n1 (d2 : Int) w2 (HR1.out.gr HG2.out) HR2.out k HB.out.1.1 (by rw [Int.natAbs_natCast]; exact HB.out.2.2) (by omega))
  go_wp2_with (go_at_call 72; (with_reducible refine HM3.out.mono ?_); rintro ev w3 ⟨⟨r3, rfl, hr3⟩, hg3⟩; have HR3 := Lib.hid hr3; have HG3 := Lib.hid hg3; clear hr3 hg3)
  have HGX := Lib.hid (HG1.out.tr (HG2.out.tr HG3.out))
  have HD4 := Lib.hid (den_calls x n1 d1 w3 (HX.out.gr HGX.out))
  go_wp2_with (go_at_call 44; (with_reducible refine HD4.out.mono ?_); rintro ev w4 ⟨⟨r4, rfl, hr4⟩, hg4⟩; have HR4 := Lib.hid hr4; have HG4 := Lib.hid hg4; clear hr4 hg4)
  have HN5 := Lib.hid (num_calls y n2 d2 w4 (HY.out.gr (HGX.out.tr HG4.out)))
  go_wp2_with (go_at_call 42; (with_reducible refine HN5.out.mono ?_); rintro ev w5 ⟨⟨r5, rfl, hr5⟩, hg5⟩; have HR5 := Lib.hid hr5; have HG5 := Lib.hid hg5; clear hr5 hg5)
  have HM6 := Lib.hid (mul_int r4 r5 (d1 : Int) n2 w5 (HR4.out.gr HG5.out) HR5.out k (by rw [Int.natAbs_natCast]; exact HB.out.2.1) HB.out.1.2 (by omega))
  go_wp2_with (go_at_call 72; (with_reducible refine HM6.out.mono ?_); rintro ev w6 ⟨⟨r6, rfl, hr6⟩, hg6⟩; have HR6 := Lib.hid hr6; have HG6 := Lib.hid hg6; clear hr6 hg6)
  have HGY := Lib.hid (HGX.out.tr (HG4.out.tr (HG5.out.tr HG6.out)))
  have HNW := Lib.hid (newG_calls r3 r6 (n1 * (d2 : Int)) ((d1 : Int) * n2) w6 (HT.out.gr HGY.out) (HR3.out.at_.gr (HG4.out.tr (HG5.out.tr HG6.out))) HR6.out.at_ (k + k) HZ.out.1 HZ.out.2.1 (by omega))
  go_wp2_with (go_at_call 65; (with_reducible refine HNW.out.mono ?_); rintro ev w7 ⟨⟨_, hnw⟩, hg7⟩; obtain ⟨b, n, d, rfl, hq⟩ := hnw HZ.out.2.2; have HQ := Lib.hid hq; have HG7 := Lib.hid hg7; clear hnw hq hg7)
  go_ret2
  exact ⟨⟨b, n, d, rfl, HQ.out⟩, HGY.out.tr HG7.out⟩
end Go.Proofs.YtcjjgdoafkdeaaaGreatDoor
