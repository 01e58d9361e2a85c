/- Layer 4: fractions in memory; New, Of, Num, Den by contract (numbers of one limb). -/
import Derived.Test.YtgejadnfeeoknaaGreatDoorOc
namespace Go.Proofs.YtgejadnfeeoknaaGreatDoor
open Go.RowKit Go.Extern.Stop Go.Stop Go.Extern Go.Sort
set_option linter.unusedVariables false
set_option linter.unusedSimpArgs false

/-- A fraction in lowest terms behind a pointer. -/
def RatAt (w : World) (v : Value) (n : Int) (d : Nat) : Prop :=
  (v = .pointer none ∧ n = 0 ∧ d = 1) ∨ ∃ b p q, v = .pointer (some ⟨b, 0, none⟩) ∧ w.cell? ⟨b, 0, none⟩ = some (.pointer p) ∧ w.cell? ⟨b, 1, none⟩ = some (.pointer q) ∧
    IntAt w (.pointer p) n ∧ ((q = none ∧ d = 1) ∨ (q ≠ none ∧ IntAt w (.pointer q) (d : Int))) ∧ 0 < d ∧ Nat.gcd n.natAbs d = 1
theorem RatAt.gr {w w' : World} (hg : Gr w w') {v : Value} {n : Int} {d : Nat} (h : RatAt w v n d) : RatAt w' v n d := by
  rcases h with h | ⟨b, p, q, hv, h0, h1, hn, hd, hp, hc⟩
  · exact .inl h
  · exact .inr ⟨b, p, q, hv, (hg.cell (World.block_lt_of_cell? w _ h0)).trans h0, (hg.cell (World.block_lt_of_cell? w _ h1)).trans h1, hn.gr hg, hd.imp id (fun h => ⟨h.1, h.2.gr hg⟩), hp, hc⟩
theorem rat_eq (z e : Int) (g A D : Nat) (hz : z.natAbs = g * A) (he : e.natAbs = g * D) (he0 : e ≠ 0) (bb : Bool) (hbb : decide ((z * e).sign < 0) = bb) : sgn bb A * e = z * (D : Int) := by
  have h := sign_neg_iff (z * e)
  have hz1 : (z.natAbs : Int) = (g : Int) * (A : Int) := by rw [hz, Int.natCast_mul]
  have he1 : (e.natAbs : Int) = (g : Int) * (D : Int) := by rw [he, Int.natCast_mul]
  rcases Int.lt_trichotomy z 0 with h1 | h1 | h1
  · rcases Int.lt_or_lt_of_ne he0 with h2 | h2
    · have hp : 0 < z * e := Int.mul_pos_of_neg_of_neg h1 h2
      have hb : bb = false := by rw [← hbb]; exact decide_eq_false (fun hh => by have := h.1 hh; omega)
      have e1 : z = -((g : Int) * (A : Int)) := by rw [← hz1]; omega
      have e2 : e = -((g : Int) * (D : Int)) := by rw [← he1]; omega
      rw [hb, e1, e2]
      simp only [sgn, Bool.false_eq_true, if_false, Int.mul_neg, Int.neg_mul]
      congr 1; ac_rfl
    · have hp : z * e < 0 := Int.mul_neg_of_neg_of_pos h1 h2
      have hb : bb = true := by rw [← hbb]; exact decide_eq_true (h.2 hp)
      have e1 : z = -((g : Int) * (A : Int)) := by rw [← hz1]; omega
      have e2 : e = (g : Int) * (D : Int) := by rw [← he1]; omega
      rw [hb, e1, e2]
      simp only [sgn, if_true, Int.mul_neg, Int.neg_mul]
      congr 1; ac_rfl
  · subst h1
    have hA : A = 0 := by
      rcases Nat.eq_zero_or_pos A with h3 | h3
      · exact h3
      · have hg : 0 < g := by
          rcases Nat.eq_zero_or_pos g with h4 | h4
          · subst h4; rw [Nat.zero_mul] at he; omega
          · exact h4
        have := Nat.mul_pos hg h3
        simp at hz; omega
    subst hA
    simp [sgn]
  · rcases Int.lt_or_lt_of_ne he0 with h2 | h2
    · have hp : z * e < 0 := Int.mul_neg_of_pos_of_neg h1 h2
      have hb : bb = true := by rw [← hbb]; exact decide_eq_true (h.2 hp)
      have e1 : z = (g : Int) * (A : Int) := by rw [← hz1]; omega
      have e2 : e = -((g : Int) * (D : Int)) := by rw [← he1]; omega
      rw [hb, e1, e2]
      simp only [sgn, if_true, Int.mul_neg, Int.neg_mul, Int.neg_neg]
      ac_rfl
    · have hp : 0 < z * e := Int.mul_pos h1 h2
      have hb : bb = false := by rw [← hbb]; exact decide_eq_false (fun hh => by have := h.1 hh; omega)
      have e1 : z = (g : Int) * (A : Int) := by rw [← hz1]; omega
      have e2 : e = (g : Int) * (D : Int) := by rw [← he1]; omega
      rw [hb, e1, e2]
      simp only [sgn, Bool.false_eq_true, if_false]
      ac_rfl

set_option maxRecDepth 100000 in
set_option maxHeartbeats 2000000 in
/-- rat.New. -/
theorem newRat_calls (x y : Value) (z e : Int) (w : World) (hT : BitTab w) (hx : IntAt w x z) (hy : IntAt w y e) (hz : z.natAbs < B) (he : e.natAbs < B) :
    Calls Tryz.prog 88 #[x, y] w fun ev w' =>
      ((e = 0 → ev = .returned (.tuple #[.pointer none, .iface 89 (.int .i64 3)])) ∧
       (e ≠ 0 → ∃ b n d, ev = .returned (.tuple #[.pointer (some ⟨b, 0, none⟩), .nilIface]) ∧ RatAt w' (.pointer (some ⟨b, 0, none⟩)) n d ∧ n * e = z * (d : Int) ∧ n.natAbs ≤ z.natAbs ∧ d ≤ e.natAbs)) ∧ Gr w w' := by
  have HX := Lib.hid (fun w' (hg : Gr w w') => abs_calls x z w' (hx.gr hg))
  have HY := Lib.hid (fun w' (hg : Gr w w') => abs_calls y e w' (hy.gr hg))
  have HSX := Lib.hid (fun w' (hg : Gr w w') => sign_calls x z w' (hx.gr hg))
  have HSY := Lib.hid (fun w' (hg : Gr w w') => sign_calls y e w' (hy.gr hg))
  have HTT := Lib.hid hT
  have HO := Lib.hid (of_calls 3 rfl)
  by_cases he0 : e = 0
  · have HS := HSY.out w (Gr.rf w)
    have HE := Lib.hid he0
    rw [he0, show (0 : Int).sign = 0 from rfl] at HS
    have HS := Lib.hid HS
    clear hx hy hT he0 hz he
    go_enter Tryz.func88, Tryz.ntmps88
    go_wp2_with (go_at_call 106; (with_reducible refine HS.out.mono ?_); rintro ev w1 ⟨rfl, hg1⟩)
    go_wp2_with (go_at_call 54; (with_reducible refine (HO.out _).mono ?_); rintro ev w2 ⟨rfl, rfl⟩)
    go_ret2
    exact ⟨⟨fun _ => rfl, fun h => absurd HE.out h⟩, hg1⟩
  · have hs0 : (e.sign == 0) = false := beq_eq_false_iff_ne.2 (fun h => he0 (Int.sign_eq_zero_iff_zero.1 h))
    have hgp : 0 < Nat.gcd z.natAbs e.natAbs := Nat.gcd_pos_of_pos_right _ (by omega)
    have hgB : Nat.gcd z.natAbs e.natAbs < B := Nat.lt_of_le_of_lt (Nat.gcd_le_right _ (by omega)) he
    have hcop : Nat.gcd (z.natAbs / Nat.gcd z.natAbs e.natAbs) (e.natAbs / Nat.gcd z.natAbs e.natAbs) = 1 := Nat.coprime_div_gcd_div_gcd hgp
    have hzA : z.natAbs = Nat.gcd z.natAbs e.natAbs * (z.natAbs / Nat.gcd z.natAbs e.natAbs) := (Nat.mul_div_cancel' (Nat.gcd_dvd_left _ _)).symm
    have heD : e.natAbs = Nat.gcd z.natAbs e.natAbs * (e.natAbs / Nat.gcd z.natAbs e.natAbs) := (Nat.mul_div_cancel' (Nat.gcd_dvd_right _ _)).symm
    have hAle : z.natAbs / Nat.gcd z.natAbs e.natAbs ≤ z.natAbs := Nat.div_le_self _ _
    have hDle : e.natAbs / Nat.gcd z.natAbs e.natAbs ≤ e.natAbs := Nat.div_le_self _ _
    have HGC := Lib.hid (fun (r3 r4 : Value) (w4 : World) (h1 : BitTab w4) h3 h4 => gcd1_calls r3 r4 z.natAbs e.natAbs w4 h1 h3 h4 hz he)
    have hD0 : 0 < e.natAbs / Nat.gcd z.natAbs e.natAbs := Nat.div_pos (Nat.gcd_le_right _ (by omega)) hgp
    generalize hgg : Nat.gcd z.natAbs e.natAbs = g at *
    have HDV := Lib.hid (fun (r3 r4 : Value) (w4 : World) h3 h4 => div1_calls r3 r4 z.natAbs g w4 h3 h4 1 (by rw [Nat.pow_one]; exact hz) hgB (by omega))
    have HDV2 := Lib.hid (fun (r3 r4 : Value) (w4 : World) h3 h4 => div1_calls r3 r4 e.natAbs g w4 h3 h4 1 (by rw [Nat.pow_one]; exact he) hgB (by omega))
    generalize z.natAbs / g = A at *
    generalize e.natAbs / g = D at *
    obtain ⟨bb, hbb⟩ : ∃ bb : Bool, decide ((z * e).sign < 0) = bb := ⟨_, rfl⟩
    have hm : z.sign * e.sign = (z * e).sign := (Int.sign_mul z e).symm
    obtain ⟨hb1, hb2⟩ := sign_bd (z * e)
    have hrat := rat_eq z e g A D hzA heD he0 bb hbb
    have HR := Lib.hid (And.intro hrat (And.intro hcop (And.intro hD0 (And.intro (And.intro hAle hDle) (And.intro hgp he0)))))
    generalize (z * e).sign = s at hm hbb hb1 hb2
    generalize z.sign = sz at HSX hm
    generalize e.sign = se at HSY hm hs0
    clear hx hy hT hz he he0 hgB hcop hzA heD hAle hDle hD0 hgp hrat hgg
    have HS0 := Lib.hid (HSY.out w (Gr.rf w))
    go_enter Tryz.func88, Tryz.ntmps88
    go_wp2_with (go_at_call 106; (with_reducible refine HS0.out.mono ?_); rintro ev w1 ⟨rfl, hg1⟩)
    clear hs0
    have HA := Lib.hid (HX.out w1 hg1)
    go_wp2_with (go_at_call 107; (with_reducible refine HA.out.mono ?_); rintro ev w2 ⟨⟨r2, rfl, hr2⟩, hg2⟩; have HR2 := Lib.hid hr2; clear hr2)
    have g2 := hg1.tr hg2
    have HA2 := Lib.hid (HY.out w2 g2)
    go_wp2_with (go_at_call 107; (with_reducible refine HA2.out.mono ?_); rintro ev w3 ⟨⟨r3, rfl, hr3⟩, hg3⟩; have HR3 := Lib.hid hr3; clear hr3)
    have g3 := g2.tr hg3
    have HG := Lib.hid (HGC.out r2 r3 w3 (HTT.out.gr g3) (HR2.out.gr hg3) HR3.out)
    go_wp2_with (go_at_call 124; (with_reducible refine HG.out.mono ?_); rintro ev w4 ⟨⟨r4, rfl, hr4⟩, hg4⟩; have HR4 := Lib.hid hr4; clear hr4)
    have g4 := g3.tr hg4
    have HA5 := Lib.hid (HX.out w4 g4)
    go_wp2_with (go_at_call 107; (with_reducible refine HA5.out.mono ?_); rintro ev w5 ⟨⟨r5, rfl, hr5⟩, hg5⟩; have HR5 := Lib.hid hr5; clear hr5)
    have g5 := g4.tr hg5
    have HD6 := Lib.hid (HDV.out r5 r4 w5 HR5.out (HR4.out.gr hg5))
    go_wp2_with (go_at_call 93; (with_reducible refine HD6.out.mono ?_); rintro ev w6 ⟨⟨_, hdv⟩, hg6⟩; obtain ⟨q6, r6, rfl, hq6, hr6⟩ := hdv HR.out.2.2.2.2.1; have HQ6 := Lib.hid hq6; clear hq6 hr6 hdv)
    have g6 := g5.tr hg6
    have HA7 := Lib.hid (HY.out w6 g6)
    go_wp2_with (go_at_call 107; (with_reducible refine HA7.out.mono ?_); rintro ev w7 ⟨⟨r7, rfl, hr7⟩, hg7⟩; have HR7 := Lib.hid hr7; clear hr7)
    have g7 := g6.tr hg7
    have HD8 := Lib.hid (HDV2.out r7 r4 w7 HR7.out (HR4.out.gr (hg5.tr (hg6.tr hg7))))
    go_wp2_with (go_at_call 93; (with_reducible refine HD8.out.mono ?_); rintro ev w8 ⟨⟨_, hdv⟩, hg8⟩; obtain ⟨q8, r8, rfl, hq8, hr8⟩ := hdv HR.out.2.2.2.2.1; have HQ8 := Lib.hid hq8; clear hq8 hr8 hdv)
    have g8 := g7.tr hg8
    have HS9 := Lib.hid (HSX.out w8 g8)
    go_wp2_with (go_at_call 106; (with_reducible refine HS9.out.mono ?_); rintro ev w9 ⟨rfl, hg9⟩)
    have g9 := g8.tr hg9
    have HS10 := Lib.hid (HSY.out w9 g9)
    go_wp2_with (go_at_call 106; (with_reducible refine HS10.out.mono ?_); rintro ev w10 ⟨rfl, hg10⟩)
    have g10 := g9.tr hg10
    have HN11 := Lib.hid (newInt_calls bb q6 A w10 (HQ6.out.gr (hg7.tr (hg8.tr (hg9.tr hg10)))))
    go_wp2_with (go_at_call 125; (with_reducible refine HN11.out.mono ?_); rintro ev w11 ⟨⟨b11, rfl, hr11⟩, hg11⟩; have HR11 := Lib.hid hr11; clear hr11)
    have g11 := g10.tr hg11
    have HN12 := Lib.hid (newInt_calls false q8 D w11 (HQ8.out.gr (hg9.tr (hg10.tr hg11))))
    go_wp2_with (go_at_call 125; (with_reducible refine HN12.out.mono ?_); rintro ev w12 ⟨⟨b12, rfl, hr12⟩, hg12⟩; have HR12 := Lib.hid hr12; clear hr12)
    have g12 := g11.tr hg12
    have HGA := Lib.hid ((Gr.rf w12).alloc (Nat.le_refl _) (.cells #[.pointer (some ⟨b11, 0, none⟩), .pointer (some ⟨b12, 0, none⟩)] 109))
    go_ret2
    refine ⟨⟨fun h => absurd h HR.out.2.2.2.2.2, fun _ => ⟨_, sgn bb A, D, rfl, .inr ⟨_, _, _, rfl, ?_, ?_, (HR11.out.gr hg12).gr HGA.out, .inr ⟨by simp, HR12.out.gr HGA.out⟩, HR.out.2.2.1, by rw [sgn_abs]; exact HR.out.2.1⟩, HR.out.1, by rw [sgn_abs]; exact HR.out.2.2.2.1.1, HR.out.2.2.2.1.2⟩⟩, g12.tr HGA.out⟩
    · rw [World.cell?_alloc_at _ _ _ _ rfl]; rfl
    · rw [World.cell?_alloc_at _ _ _ _ rfl]; rfl
end Go.Proofs.YtgejadnfeeoknaaGreatDoor
