/- Layer 4: fractions in memory; New, Of, Num, Den by contract (numbers of one limb); Layer 4: fractions: Of, Num, Den, Text, Sign, Cmp by contract; (*Int).Small. -/
import Derived.Test.YtcjjgdoafkdeaaaGreatDoorGk
namespace Go.Proofs.YtcjjgdoafkdeaaaGreatDoor
section
open Go.RowKit Go.Extern.Stop Go.Stop Go.Extern Go.Sort
set_option linter.unusedVariables false
set_option linter.unusedSimpArgs false

/-- A fraction in lowest terms behind a pointer. -/
def RatAt (w : World) (v : Value) (n : Int) (d : Nat) : Prop :=
  (v = .pointer none ∧ n = 0 ∧ d = 1) ∨ ∃ b p q, v = .pointer (some ⟨b, 0, none⟩) ∧ w.cell? ⟨b, 0, none⟩ = some (.pointer p) ∧ w.cell? ⟨b, 1, none⟩ = some (.pointer q) ∧
    IntAt w (.pointer p) n ∧ ((q = none ∧ d = 1) ∨ (q ≠ none ∧ IntAt w (.pointer q) (d : Int))) ∧ 0 < d ∧ Nat.gcd n.natAbs d = 1
theorem RatAt.gr {w w' : World} (hg : Gr w w') {v : Value} {n : Int} {d : Nat} (h : RatAt w v n d) : RatAt w' v n d := by
  rcases h with h | ⟨b, p, q, hv, h0, h1, hn, hd, hp, hc⟩
  · exact .inl h
  · exact .inr ⟨b, p, q, hv, (hg.cell (World.block_lt_of_cell? w _ h0)).trans h0, (hg.cell (World.block_lt_of_cell? w _ h1)).trans h1, hn.gr hg, hd.imp id (fun h => ⟨h.1, h.2.gr hg⟩), hp, hc⟩
theorem rat_eq (z e : Int) (g A D : Nat) (hz : z.natAbs = g * A) (he : e.natAbs = g * D) (he0 : e ≠ 0) (bb : Bool) (hbb : decide ((z * e).sign < 0) = bb) : sgn bb A * e = z * (D : Int) := by
  have h := sign_neg_iff (z * e)
  have hz1 : (z.natAbs : Int) = (g : Int) * (A : Int) := by rw [hz, Int.natCast_mul]
  have he1 : (e.natAbs : Int) = (g : Int) * (D : Int) := by rw [he, Int.natCast_mul]
  rcases Int.lt_trichotomy z 0 with h1 | h1 | h1
  · rcases Int.lt_or_lt_of_ne he0 with h2 | h2
    · have hp : 0 < z * e := Int.mul_pos_of_neg_of_neg h1 h2
      have hb : bb = false := by rw [← hbb]; exact decide_eq_false (fun hh => by have := h.1 hh; omega)
      have e1 : z = -((g : Int) * (A : Int)) := by rw [← hz1]; omega
      have e2 : e = -((g : Int) * (D : Int)) := by rw [← he1]; omega
      rw [hb, e1, e2]
      simp only [sgn, Bool.false_eq_true, if_false, Int.mul_neg, Int.neg_mul]
      congr 1; ac_rfl
    · have hp : z * e < 0 := Int.mul_neg_of_neg_of_pos h1 h2
      have hb : bb = true := by rw [← hbb]; exact decide_eq_true (h.2 hp)
      have e1 : z = -((g : Int) * (A : Int)) := by rw [← hz1]; omega
      have e2 : e = (g : Int) * (D : Int) := by rw [← he1]; omega
      rw [hb, e1, e2]
      simp only [sgn, if_true, Int.mul_neg, Int.neg_mul]
      congr 1; ac_rfl
  · subst h1
    have hA : A = 0 := by
      rcases Nat.eq_zero_or_pos A with h3 | h3
      · exact h3
      · have hg : 0 < g := by
          rcases Nat.eq_zero_or_pos g with h4 | h4
          · subst h4; rw [Nat.zero_mul] at he; omega
          · exact h4
        have := Nat.mul_pos hg h3
        simp at hz; omega
    subst hA
    simp [sgn]
  · rcases Int.lt_or_lt_of_ne he0 with h2 | h2
    · have hp : z * e < 0 := Int.mul_neg_of_pos_of_neg h1 h2
      have hb : bb = true := by rw [← hbb]; exact decide_eq_true (h.2 hp)
      have e1 : z = (g : Int) * (A : Int) := by rw [← hz1]; omega
      have e2 : e = -((g : Int) * (D : Int)) := by rw [← he1]; omega
      rw [hb, e1, e2]
      simp only [sgn, if_true, Int.mul_neg, Int.neg_mul, Int.neg_neg]
      ac_rfl
    · have hp : 0 < z * e := Int.mul_pos h1 h2
      have hb : bb = false := by rw [← hbb]; exact decide_eq_false (fun hh => by have := h.1 hh; omega)
      have e1 : z = (g : Int) * (A : Int) := by rw [← hz1]; omega
      have e2 : e = (g : Int) * (D : Int) := by rw [← he1]; omega
      rw [hb, e1, e2]
      simp only [sgn, Bool.false_eq_true, if_false]
      ac_rfl

set_option maxRecDepth 100000 in
set_option maxHeartbeats 2000000 in
/-- rat.New. -/
theorem newRat_calls (x y : Value) (z e : Int) (w : World) (hT : BitTab w) (hx : IntAt w x z) (hy : IntAt w y e) (hz : z.natAbs < B) (he : e.natAbs < B) :
    Calls Tryz.prog 65 #[x, y] w fun ev w' =>
      ((e = 0 → ev = .returned (.tuple #[.pointer none, .iface 169 (.int .i64 3)])) ∧
       (e ≠ 0 → ∃ b n d, ev = .returned (.tuple #[.pointer (some ⟨b, 0, none⟩), .nilIface]) ∧ RatAt w' (.pointer (some ⟨b, 0, none⟩)) n d ∧ n * e = z * (d : Int) ∧ n.natAbs ≤ z.natAbs ∧ d ≤ e.natAbs)) ∧ Gr w w' := by
  have HX := Lib.hid (fun w' (hg : Gr w w') => abs_calls x z w' (hx.gr hg))
  have HY := Lib.hid (fun w' (hg : Gr w w') => abs_calls y e w' (hy.gr hg))
  have HSX := Lib.hid (fun w' (hg : Gr w w') => sign_calls x z w' (hx.gr hg))
  have HSY := Lib.hid (fun w' (hg : Gr w w') => sign_calls y e w' (hy.gr hg))
  have HTT := Lib.hid hT
  have HO := Lib.hid (of_calls 3 rfl)
  by_cases he0 : e = 0
  · have HS := HSY.out w (Gr.rf w)
    have HE := Lib.hid he0
    rw [he0, show (0 : Int).sign = 0 from rfl] at HS
    have HS := Lib.hid HS
    clear hx hy hT he0 hz he
    go_enter Tryz.func65, Tryz.ntmps65
    go_wp2_with (go_at_call 89; (with_reducible refine HS.out.mono ?_); rintro ev w1 ⟨rfl, hg1⟩)
    go_wp2_with (go_at_call 68; (with_reducible refine (HO.out _).mono ?_); rintro ev w2 ⟨rfl, rfl⟩)
    go_ret2
    exact ⟨⟨fun _ => rfl, fun h => absurd HE.out h⟩, hg1⟩
  · have hs0 : (e.sign == 0) = false := beq_eq_false_iff_ne.2 (fun h => he0 (Int.sign_eq_zero_iff_zero.1 h))
    have hgp : 0 < Nat.gcd z.natAbs e.natAbs := Nat.gcd_pos_of_pos_right _ (by omega)
    have hgB : Nat.gcd z.natAbs e.natAbs < B := Nat.lt_of_le_of_lt (Nat.gcd_le_right _ (by omega)) he
    have hcop : Nat.gcd (z.natAbs / Nat.gcd z.natAbs e.natAbs) (e.natAbs / Nat.gcd z.natAbs e.natAbs) = 1 := Nat.coprime_div_gcd_div_gcd hgp
    have hzA : z.natAbs = Nat.gcd z.natAbs e.natAbs * (z.natAbs / Nat.gcd z.natAbs e.natAbs) := (Nat.mul_div_cancel' (Nat.gcd_dvd_left _ _)).symm
    have heD : e.natAbs = Nat.gcd z.natAbs e.natAbs * (e.natAbs / Nat.gcd z.natAbs e.natAbs) := (Nat.mul_div_cancel' (Nat.gcd_dvd_right _ _)).symm
    have hAle : z.natAbs / Nat.gcd z.natAbs e.natAbs ≤ z.natAbs := Nat.div_le_self _ _
    have hDle : e.natAbs / Nat.gcd z.natAbs e.natAbs ≤ e.natAbs := Nat.div_le_self _ _
    have HGC := Lib.hid (fun (r3 r4 : Value) (w4 : World) (h1 : BitTab w4) h3 h4 => gcd1_calls r3 r4 z.natAbs e.natAbs w4 h1 h3 h4 hz he)
    have hD0 : 0 < e.natAbs / Nat.gcd z.natAbs e.natAbs := Nat.div_pos (Nat.gcd_le_right _ (by omega)) hgp
    generalize hgg : Nat.gcd z.natAbs e.natAbs = g at *
    have HDV := Lib.hid (fun (r3 r4 : Value) (w4 : World) h3 h4 => div1_calls r3 r4 z.natAbs g w4 h3 h4 1 (by rw [Nat.pow_one]; exact hz) hgB (by omega))
    have HDV2 := Lib.hid (fun (r3 r4 : Value) (w4 : World) h3 h4 => div1_calls r3 r4 e.natAbs g w4 h3 h4 1 (by rw [Nat.pow_one]; exact he) hgB (by omega))
    generalize z.natAbs / g = A at *
    generalize e.natAbs / g = D at *
    obtain ⟨bb, hbb⟩ : ∃ bb : Bool, decide ((z * e).sign < 0) = bb := ⟨_, rfl⟩
    have hm : z.sign * e.sign = (z * e).sign := (Int.sign_mul z e).symm
    obtain ⟨hb1, hb2⟩ := sign_bd (z * e)
    have hrat := rat_eq z e g A D hzA heD he0 bb hbb
    have HR := Lib.hid (And.intro hrat (And.intro hcop (And.intro hD0 (And.intro (And.intro hAle hDle) (And.intro hgp he0)))))
    generalize (z * e).sign = s at hm hbb hb1 hb2
    generalize z.sign = sz at HSX hm
    generalize e.sign = se at HSY hm hs0
    clear hx hy hT hz he he0 hgB hcop hzA heD hAle hDle hD0 hgp hrat hgg
    have HS0 := Lib.hid (HSY.out w (Gr.rf w))
    go_enter Tryz.func65, Tryz.ntmps65
    go_wp2_with (go_at_call 89; (with_reducible refine HS0.out.mono ?_); rintro ev w1 ⟨rfl, hg1⟩)
    clear hs0
    have HA := Lib.hid (HX.out w1 hg1)
    go_wp2_with (go_at_call 97; (with_reducible refine HA.out.mono ?_); rintro ev w2 ⟨⟨r2, rfl, hr2⟩, hg2⟩; have HR2 := Lib.hid hr2; clear hr2)
    have g2 := hg1.tr hg2
    have HA2 := Lib.hid (HY.out w2 g2)
    go_wp2_with (go_at_call 97; (with_reducible refine HA2.out.mono ?_); rintro ev w3 ⟨⟨r3, rfl, hr3⟩, hg3⟩; have HR3 := Lib.hid hr3; clear hr3)
    have g3 := g2.tr hg3
    have HG := Lib.hid (HGC.out r2 r3 w3 (HTT.out.gr g3) (HR2.out.gr hg3) HR3.out)
    go_wp2_with (go_at_call 132; (with_reducible refine HG.out.mono ?_); rintro ev w4 ⟨⟨r4, rfl, hr4⟩, hg4⟩; have HR4 := Lib.hid hr4; clear hr4)
    have g4 := g3.tr hg4
    have HA5 := Lib.hid (HX.out w4 g4)
    go_wp2_with (go_at_call 97; (with_reducible refine HA5.out.mono ?_); rintro ev w5 ⟨⟨r5, rfl, hr5⟩, hg5⟩; have HR5 := Lib.hid hr5; clear hr5)
    have g5 := g4.tr hg5
    have HD6 := Lib.hid (HDV.out r5 r4 w5 HR5.out (HR4.out.gr hg5))
    go_wp2_with (go_at_call 55; (with_reducible refine HD6.out.mono ?_); rintro ev w6 ⟨⟨_, hdv⟩, hg6⟩; obtain ⟨q6, r6, rfl, hq6, hr6⟩ := hdv HR.out.2.2.2.2.1; have HQ6 := Lib.hid hq6; clear hq6 hr6 hdv)
    have g6 := g5.tr hg6
    have HA7 := Lib.hid (HY.out w6 g6)
    go_wp2_with (go_at_call 97; (with_reducible refine HA7.out.mono ?_); rintro ev w7 ⟨⟨r7, rfl, hr7⟩, hg7⟩; have HR7 := Lib.hid hr7; clear hr7)
    have g7 := g6.tr hg7
    have HD8 := Lib.hid (HDV2.out r7 r4 w7 HR7.out (HR4.out.gr (hg5.tr (hg6.tr hg7))))
    go_wp2_with (go_at_call 55; (with_reducible refine HD8.out.mono ?_); rintro ev w8 ⟨⟨_, hdv⟩, hg8⟩; obtain ⟨q8, r8, rfl, hq8, hr8⟩ := hdv HR.out.2.2.2.2.1; have HQ8 := Lib.hid hq8; clear hq8 hr8 hdv)
    have g8 := g7.tr hg8
    have HS9 := Lib.hid (HSX.out w8 g8)
    go_wp2_with (go_at_call 89; (with_reducible refine HS9.out.mono ?_); rintro ev w9 ⟨rfl, hg9⟩)
    have g9 := g8.tr hg9
    have HS10 := Lib.hid (HSY.out w9 g9)
    go_wp2_with (go_at_call 89; (with_reducible refine HS10.out.mono ?_); rintro ev w10 ⟨rfl, hg10⟩)
    have g10 := g9.tr hg10
    have HN11 := Lib.hid (newInt_calls bb q6 A w10 (HQ6.out.gr (hg7.tr (hg8.tr (hg9.tr hg10)))))
    go_wp2_with (go_at_call 66; (with_reducible refine HN11.out.mono ?_); rintro ev w11 ⟨⟨b11, rfl, hr11⟩, hg11⟩; have HR11 := Lib.hid hr11; clear hr11)
    have g11 := g10.tr hg11
    have HN12 := Lib.hid (newInt_calls false q8 D w11 (HQ8.out.gr (hg9.tr (hg10.tr hg11))))
    go_wp2_with (go_at_call 66; (with_reducible refine HN12.out.mono ?_); rintro ev w12 ⟨⟨b12, rfl, hr12⟩, hg12⟩; have HR12 := Lib.hid hr12; clear hr12)
    have g12 := g11.tr hg12
    have HGA := Lib.hid ((Gr.rf w12).alloc (Nat.le_refl _) (.cells #[.pointer (some ⟨b11, 0, none⟩), .pointer (some ⟨b12, 0, none⟩)] 93))
    go_ret2
    refine ⟨⟨fun h => absurd h HR.out.2.2.2.2.2, fun _ => ⟨_, sgn bb A, D, rfl, .inr ⟨_, _, _, rfl, ?_, ?_, (HR11.out.gr hg12).gr HGA.out, .inr ⟨by simp, HR12.out.gr HGA.out⟩, HR.out.2.2.1, by rw [sgn_abs]; exact HR.out.2.1⟩, HR.out.1, by rw [sgn_abs]; exact HR.out.2.2.2.1.1, HR.out.2.2.2.1.2⟩⟩, g12.tr HGA.out⟩
    · rw [World.cell?_alloc_at _ _ _ _ rfl]; rfl
    · rw [World.cell?_alloc_at _ _ _ _ rfl]; rfl
end
section
open Go.RowKit Go.Extern.Stop Go.Stop Go.Extern Go.Sort
set_option linter.unusedVariables false
set_option linter.unusedSimpArgs false

set_option maxRecDepth 100000 in
/-- rat.Of. -/
theorem ofRat_calls (z e : Int) (w : World) (hT : BitTab w) (hz0 : -9223372036854775808 ≤ z) (hz1 : z ≤ 9223372036854775807) (he0 : -9223372036854775808 ≤ e) (he1 : e ≤ 9223372036854775807) :
    Calls Tryz.prog 29 #[.int .i64 z, .int .i64 e] w fun ev w' =>
      ((e = 0 → ev = .returned (.tuple #[.pointer none, .iface 169 (.int .i64 3)])) ∧
       (e ≠ 0 → ∃ b n d, ev = .returned (.tuple #[.pointer (some ⟨b, 0, none⟩), .nilIface]) ∧ RatAt w' (.pointer (some ⟨b, 0, none⟩)) n d ∧ n * e = z * (d : Int) ∧ n.natAbs ≤ z.natAbs ∧ d ≤ e.natAbs)) ∧ Gr w w' := by
  have HZ := Lib.hid (ofP_calls z hz0 hz1 w)
  have HE := Lib.hid (fun w => ofP_calls e he0 he1 w)
  have HB := Lib.hid (show z.natAbs < B ∧ e.natAbs < B by rw [B_eq]; omega)
  have HTT := Lib.hid hT
  clear hT hz0 hz1 he0 he1
  go_enter Tryz.func29, Tryz.ntmps29
  go_wp2_with (go_at_call 56; (with_reducible refine HZ.out.mono ?_); rintro ev w1 ⟨⟨r1, rfl, hr1⟩, hg1⟩; have HR1 := Lib.hid hr1; clear hr1)
  have HE1 := Lib.hid (HE.out w1)
  go_wp2_with (go_at_call 56; (with_reducible refine HE1.out.mono ?_); rintro ev w2 ⟨⟨r2, rfl, hr2⟩, hg2⟩; have HR2 := Lib.hid hr2; clear hr2)
  have hn := newRat_calls r1 r2 z e w2 (HTT.out.gr (hg1.tr hg2)) (HR1.out.gr hg2).at_ HR2.out.at_ HB.out.1 HB.out.2
  have HN := Lib.hid hn
  clear hn
  by_cases h0 : e = 0
  · have H0 := Lib.hid h0
    clear h0
    go_wp2_with (go_at_call 65; (with_reducible refine HN.out.mono ?_); rintro ev w3 ⟨⟨hnew, _⟩, hg3⟩; obtain rfl := hnew H0.out; clear hnew)
    go_ret2
    exact ⟨⟨fun _ => rfl, fun h => absurd H0.out h⟩, (hg1.tr hg2).tr hg3⟩
  · have H0 := Lib.hid h0
    clear h0
    go_wp2_with (go_at_call 65; (with_reducible refine HN.out.mono ?_); rintro ev w3 ⟨⟨_, hnew⟩, hg3⟩; obtain ⟨r, n, d, rfl, hr⟩ := hnew H0.out; have HR := Lib.hid hr; clear hnew hr)
    go_ret2
    exact ⟨⟨fun h => absurd h H0.out, fun _ => ⟨_, n, d, rfl, HR.out⟩⟩, (hg1.tr hg2).tr hg3⟩

set_option maxRecDepth 100000 in
/-- (*Rat).Num. -/
theorem num_calls (v : Value) (n : Int) (d : Nat) (w : World) (h : RatAt w v n d) :
    Calls Tryz.prog 42 #[v] w fun e w' => (∃ r, e = .returned r ∧ IntAt w' r n) ∧ Gr w w' := by
  have HO := Lib.hid (fun w => ofP_calls 0 (by decide) (by decide) w)
  rcases h with ⟨rfl, rfl, _⟩ | ⟨b, p, q, rfl, h0, h1, hn, hd, hp, hc⟩
  · go_enter Tryz.func42, Tryz.ntmps42
    go_wp2_with (go_at_call 56; (with_reducible refine (HO.out _).mono ?_); rintro ev w1 ⟨⟨r1, rfl, hr1⟩, hg1⟩; have HR1 := Lib.hid hr1; clear hr1)
    go_ret
    exact ⟨⟨_, rfl, HR1.out.at_⟩, hg1⟩
  · have HN := Lib.hid hn
    clear h1 hd hp hc
    cases p with
    | none =>
      have hz : n = 0 := by
        rcases hn with ⟨_, h⟩ | ⟨_, _, _, _, h, _⟩
        · exact h
        · cases h
      have HZ := Lib.hid hz
      clear hn hz
      go_enter Tryz.func42, Tryz.ntmps42
      go_wp2_with (go_at_call 56; (with_reducible refine (HO.out _).mono ?_); rintro ev w1 ⟨⟨r1, rfl, hr1⟩, hg1⟩; have HR1 := Lib.hid hr1; clear hr1)
      go_ret
      exact ⟨⟨_, rfl, by rw [HZ.out]; exact HR1.out.at_⟩, hg1⟩
    | some a =>
      clear hn
      go_enter Tryz.func42, Tryz.ntmps42
      go_wp2
      go_ret
      exact ⟨⟨_, rfl, HN.out⟩, Gr.rf _⟩

set_option maxRecDepth 100000 in
/-- (*Rat).Den. -/
theorem den_calls (v : Value) (n : Int) (d : Nat) (w : World) (h : RatAt w v n d) :
    Calls Tryz.prog 44 #[v] w fun e w' => (∃ r, e = .returned r ∧ IntAt w' r (d : Int)) ∧ Gr w w' := by
  have HO := Lib.hid (fun w => ofP_calls 1 (by decide) (by decide) w)
  rcases h with ⟨rfl, _, rfl⟩ | ⟨b, p, q, rfl, h0, h1, hn, hd, hp, hc⟩
  · go_enter Tryz.func44, Tryz.ntmps44
    go_wp2_with (go_at_call 56; (with_reducible refine (HO.out _).mono ?_); rintro ev w1 ⟨⟨r1, rfl, hr1⟩, hg1⟩; have HR1 := Lib.hid hr1; clear hr1)
    go_ret
    exact ⟨⟨_, rfl, HR1.out.at_⟩, hg1⟩
  · clear h0 hn hp hc
    rcases hd with ⟨rfl, rfl⟩ | ⟨hq, hd⟩
    · go_enter Tryz.func44, Tryz.ntmps44
      go_wp2_with (go_at_call 56; (with_reducible refine (HO.out _).mono ?_); rintro ev w1 ⟨⟨r1, rfl, hr1⟩, hg1⟩; have HR1 := Lib.hid hr1; clear hr1)
      go_ret
      exact ⟨⟨_, rfl, HR1.out.at_⟩, hg1⟩
    · cases q with
      | none => exact absurd rfl hq
      | some a =>
        have HD := Lib.hid hd
        clear hd hq
        go_enter Tryz.func44, Tryz.ntmps44
        go_wp2
        go_ret
        exact ⟨⟨_, rfl, HD.out⟩, Gr.rf _⟩

set_option maxRecDepth 100000 in
/-- (*Rat).Sign. -/
theorem signRat_calls (v : Value) (n : Int) (d : Nat) (w : World) (h : RatAt w v n d) :
    Calls Tryz.prog 32 #[v] w fun e w' => e = .returned (.int .i64 n.sign) ∧ Gr w w' := by
  have HN := Lib.hid (num_calls v n d w h)
  clear h
  go_enter Tryz.func32, Tryz.ntmps32
  go_wp2_with (go_at_call 42; (with_reducible refine HN.out.mono ?_); rintro ev w1 ⟨⟨r1, rfl, hr1⟩, hg1⟩; have HR1 := Lib.hid hr1; clear hr1)
  have HS := Lib.hid (sign_calls r1 n w1 HR1.out)
  go_wp2_with (go_at_call 89; (with_reducible refine HS.out.mono ?_); rintro ev w2 ⟨rfl, hg2⟩)
  go_ret
  exact ⟨rfl, hg1.tr hg2⟩

theorem RatAt.pos {w : World} {v : Value} {n : Int} {d : Nat} (h : RatAt w v n d) : 0 < d := by
  rcases h with ⟨_, _, rfl⟩ | ⟨b, p, q, _, _, _, _, _, hp, _⟩
  · decide
  · exact hp
/-- A fraction's text. -/
def ratText (n : Int) (d : Nat) : List UInt8 := if d = 1 then Lib.itoa n else Lib.itoa n ++ 47 :: Lib.decDigits d
theorem itoa_nat (d : Nat) : Lib.itoa (d : Int) = Lib.decDigits d := by unfold Lib.itoa; rw [if_neg (by omega)]; rfl
theorem decDigits_one_iff (d : Nat) : Lib.decDigits d = [49] ↔ d = 1 := by
  constructor
  · intro h
    by_cases h10 : d < 10
    · rw [Lib.decDigits_one h10] at h
      have h1 : UInt8.ofNat (48 + d) = 49 := by injection h
      have h2 := congrArg UInt8.toNat h1
      rw [UInt8.toNat_ofNat'] at h2
      have h3 : (49 : UInt8).toNat = 49 := rfl
      omega
    · have h1 := congrArg List.length h
      rw [Lib.decDigits_length, Lib.nDigits_big h10] at h1
      have := Lib.nDigits_pos (d / 10)
      simp at h1; omega
  · rintro rfl; rw [Lib.decDigits_one (by decide)]; rfl

set_option maxRecDepth 100000 in
set_option maxHeartbeats 2000000 in
/-- (*Rat).Text. -/
theorem textRat_calls (v : Value) (n : Int) (d : Nat) (w : World) (h : RatAt w v n d) (m : Nat) (hn : n.natAbs < B ^ m) (hd : d < B ^ m) (hm0 : 1 ≤ m) (hm : m ≤ 1000) (hT : PowTab w) :
    Calls Tryz.prog 18 #[v] w fun e w' => e = .returned (.string ⟨(ratText n d).toArray⟩) ∧ Gr w w' := by
  have HD := Lib.hid (den_calls v n d w h)
  have HN := Lib.hid (fun w' (hg : Gr w w') => num_calls v n d w' (h.gr hg))
  have HB := Lib.hid (And.intro hn hd)
  have HTT := Lib.hid hT
  have h1 := decDigits_one_iff d
  have hsn : (Lib.itoa n).length ≤ 20 * m + 1 := by
    unfold Lib.itoa
    have e1 := nd_le (20 * m) n.natAbs (by omega) (Nat.lt_of_lt_of_le hn (B_le_ten m))
    split
    · rw [List.length_cons]; omega
    · rw [show n.toNat = n.natAbs by omega]; omega
  have hsd : (Lib.decDigits d).length ≤ 20 * m := nd_le (20 * m) d (by omega) (Nat.lt_of_lt_of_le hd (B_le_ten m))
  obtain ⟨S, hS⟩ : ∃ S : ByteArray, S = ⟨(Lib.decDigits d).toArray⟩ := ⟨_, rfl⟩
  obtain ⟨R, hR⟩ : ∃ R : ByteArray, R = ⟨(Lib.itoa n).toArray⟩ := ⟨_, rfl⟩
  have hSs : S.size ≤ 20 * m := by rw [hS, Lib.size_eq]; exact hsd
  have hRs : R.size ≤ 20 * m + 1 := by rw [hR, Lib.size_eq]; exact hsn
  have hSl : S.toList = Lib.decDigits d := by rw [ByteArray.toList_eq, hS]
  have hcat : R ++ ⟨#[47]⟩ ++ S = ⟨(Lib.itoa n ++ 47 :: Lib.decDigits d).toArray⟩ := by
    apply ba_ext
    rw [ByteArray.data_append, Array.toList_append, ByteArray.data_append, Array.toList_append, hS, hR]
    simp
  have HTX := Lib.hid (fun (r : Value) (w' : World) (hi : IntAt w' r n) (ht : PowTab w') => text_int r n w' hi m hn hm0 hm ht)
  have HTD := Lib.hid (fun (r : Value) (w' : World) (hi : IntAt w' r (d : Int)) (ht : PowTab w') => text_int r (d : Int) w' hi m (by simpa using hd) hm0 hm ht)
  rw [itoa_nat, ← hS] at HTD
  rw [← hR] at HTX
  have HCT := Lib.hid hcat
  have HRR := Lib.hid hR
  clear h hn hd hT hsn hsd hcat hR
  by_cases hd1 : d = 1
  · have hS1 : S = ⟨#[49]⟩ := by rw [hS, h1.2 hd1]
    rw [hS1] at HTD
    have HD1 := Lib.hid hd1
    clear hd1 hS hS1 hSs hSl h1
    go_enter Tryz.func18, Tryz.ntmps18
    go_wp2_with (go_at_call 44; (with_reducible refine HD.out.mono ?_); rintro ev w1 ⟨⟨r1, rfl, hr1⟩, hg1⟩; have HR1 := Lib.hid hr1; clear hr1)
    have HX1 := Lib.hid (HTD.out r1 w1 HR1.out (HTT.out.gr hg1))
    go_wp2_with (go_at_call 43; (with_reducible refine HX1.out.mono ?_); rintro ev w2 ⟨rfl, hg2⟩)
    have HN3 := Lib.hid (HN.out w2 (hg1.tr hg2))
    go_wp2_with (go_at_call 42; (with_reducible refine HN3.out.mono ?_); rintro ev w3 ⟨⟨r3, rfl, hr3⟩, hg3⟩; have HR3 := Lib.hid hr3; clear hr3)
    have HX4 := Lib.hid (HTX.out r3 w3 HR3.out (HTT.out.gr ((hg1.tr hg2).tr hg3)))
    go_wp2_with (go_at_call 43; (with_reducible refine HX4.out.mono ?_); rintro ev w4 ⟨rfl, hg4⟩)
    go_ret
    exact ⟨ret_str (by rw [HRR.out]; unfold ratText; rw [if_pos HD1.out]), ((hg1.tr hg2).tr hg3).tr hg4⟩
  · have hne : (S.toList == [49]) = false := by rw [hSl]; exact beq_eq_false_iff_ne.2 (fun e => hd1 (h1.1 e))
    have hne2 : (S.toList != [49]) = true := by rw [bne, hne]; rfl
    have HD1 := Lib.hid hd1
    clear hd1 hS hSl h1
    go_enter Tryz.func18, Tryz.ntmps18
    go_wp2_with (go_at_call 44; (with_reducible refine HD.out.mono ?_); rintro ev w1 ⟨⟨r1, rfl, hr1⟩, hg1⟩; have HR1 := Lib.hid hr1; clear hr1)
    have HX1 := Lib.hid (HTD.out r1 w1 HR1.out (HTT.out.gr hg1))
    go_wp2_with (go_at_call 43; (with_reducible refine HX1.out.mono ?_); rintro ev w2 ⟨rfl, hg2⟩)
    have HN3 := Lib.hid (HN.out w2 (hg1.tr hg2))
    go_wp2_with (go_at_call 42; (with_reducible refine HN3.out.mono ?_); rintro ev w3 ⟨⟨r3, rfl, hr3⟩, hg3⟩; have HR3 := Lib.hid hr3; clear hr3)
    have HX4 := Lib.hid (HTX.out r3 w3 HR3.out (HTT.out.gr ((hg1.tr hg2).tr hg3)))
    go_wp2_with (go_at_call 43; (with_reducible refine HX4.out.mono ?_); rintro ev w4 ⟨rfl, hg4⟩)
    go_ret
    exact ⟨ret_str (by rw [HCT.out]; unfold ratText; rw [if_neg HD1.out]), ((hg1.tr hg2).tr hg3).tr hg4⟩

set_option maxRecDepth 100000 in
set_option maxHeartbeats 1000000 in
/-- (*Rat).Cmp. -/
theorem cmpRat_calls (x y : Value) (n1 n2 : Int) (d1 d2 : Nat) (w : World) (hx : RatAt w x n1 d1) (hy : RatAt w y n2 d2) (k : Nat) (h1 : n1.natAbs < B ^ k) (h2 : n2.natAbs < B ^ k) (h3 : d1 < B ^ k) (h4 : d2 < B ^ k) (hk : k ≤ 1000) :
    Calls Tryz.prog 33 #[x, y] w fun e w' => e = .returned (.int .i64 (n1 * (d2 : Int) - n2 * (d1 : Int)).sign) ∧ Gr w w' := by
  have HN1 := Lib.hid (fun w' (hg : Gr w w') => num_calls x n1 d1 w' (hx.gr hg))
  have HN2 := Lib.hid (fun w' (hg : Gr w w') => num_calls y n2 d2 w' (hy.gr hg))
  have HD1 := Lib.hid (fun w' (hg : Gr w w') => den_calls x n1 d1 w' (hx.gr hg))
  have HD2 := Lib.hid (fun w' (hg : Gr w w') => den_calls y n2 d2 w' (hy.gr hg))
  have hb1 : (n1 * (d2 : Int)).natAbs < B ^ (2 * k) := by
    rw [Int.natAbs_mul, Int.natAbs_natCast, Nat.two_mul, Nat.pow_add]; exact Nat.mul_lt_mul'' h1 h4
  have hb2 : (n2 * (d1 : Int)).natAbs < B ^ (2 * k) := by
    rw [Int.natAbs_mul, Int.natAbs_natCast, Nat.two_mul, Nat.pow_add]; exact Nat.mul_lt_mul'' h2 h3
  have HB := Lib.hid (And.intro h1 (And.intro h2 (And.intro (show (d1 : Int).natAbs < B ^ k by simpa using h3) (And.intro (show (d2 : Int).natAbs < B ^ k by simpa using h4) (And.intro hb1 hb2)))))
  clear hx hy h1 h2 h3 h4 hb1 hb2
  have HA := Lib.hid (HN1.out w (Gr.rf w))
  go_enter Tryz.func33, Tryz.ntmps33
  go_wp2_with (go_at_call 42; (with_reducible refine HA.out.mono ?_); rintro ev w1 ⟨⟨r1, rfl, hr1⟩, hg1⟩; have HR1 := Lib.hid hr1; clear hr1)
  have H2 := Lib.hid (HD2.out w1 hg1)
  go_wp2_with (go_at_call 44; (with_reducible refine H2.out.mono ?_); rintro ev w2 ⟨⟨r2, rfl, hr2⟩, hg2⟩; have HR2 := Lib.hid hr2; clear hr2)
  have g2 := hg1.tr hg2
  have H3 := Lib.hid (mul_int r1 r2 n1 d2 w2 (HR1.out.gr hg2) HR2.out k HB.out.1 HB.out.2.2.2.1 (by omega))
  go_wp2_with (go_at_call 72; (with_reducible refine H3.out.mono ?_); rintro ev w3 ⟨⟨r3, rfl, hr3⟩, hg3⟩; have HR3 := Lib.hid hr3; clear hr3)
  have g3 := g2.tr hg3
  have H4 := Lib.hid (HN2.out w3 g3)
  go_wp2_with (go_at_call 42; (with_reducible refine H4.out.mono ?_); rintro ev w4 ⟨⟨r4, rfl, hr4⟩, hg4⟩; have HR4 := Lib.hid hr4; clear hr4)
  have g4 := g3.tr hg4
  have H5 := Lib.hid (HD1.out w4 g4)
  go_wp2_with (go_at_call 44; (with_reducible refine H5.out.mono ?_); rintro ev w5 ⟨⟨r5, rfl, hr5⟩, hg5⟩; have HR5 := Lib.hid hr5; clear hr5)
  have g5 := g4.tr hg5
  have H6 := Lib.hid (mul_int r4 r5 n2 d1 w5 (HR4.out.gr hg5) HR5.out k HB.out.2.1 HB.out.2.2.1 (by omega))
  go_wp2_with (go_at_call 72; (with_reducible refine H6.out.mono ?_); rintro ev w6 ⟨⟨r6, rfl, hr6⟩, hg6⟩; have HR6 := Lib.hid hr6; clear hr6)
  have H7 := Lib.hid (cmp_int r3 r6 (n1 * d2) (n2 * d1) w6 (HR3.out.at_.gr (hg4.tr (hg5.tr hg6))) HR6.out.at_ (2 * k) HB.out.2.2.2.2.1 HB.out.2.2.2.2.2 (by omega))
  go_wp2_with (go_at_call 90; (with_reducible refine H7.out.mono ?_); rintro ev w7 ⟨rfl, hg7⟩)
  go_ret
  exact ⟨rfl, (g5.tr hg6).tr hg7⟩
end
end Go.Proofs.YtcjjgdoafkdeaaaGreatDoor
