/- Layer 4: 'any text is a fraction, just its own, or none; of small numbers, of any signs', walked. -/
import Derived.Test.YtcjjgdoafkdeaaaGreatDoorWk
import Derived.Test.YtcjjgdoafkdeaaaGreatDoorWp
import Derived.Test.YtcjjgdoafkdeaaaGreatDoorWs
import Derived.Test.YtcjjgdoafkdeaaaGreatDoorQk
namespace Go.Proofs.YtcjjgdoafkdeaaaGreatDoor
open Go.RowKit Go.Extern.Stop Go.Stop Go.Extern Go.Sort
set_option linter.unusedVariables false
set_option linter.unusedSimpArgs false

theorem frac_low (n d nb : Int) (db : Nat) (hd : d ≠ 0) (h : nb * d = n * (db : Int)) (hp : 0 < db) (hc : Nat.gcd nb.natAbs db = 1) (sb : Bool) (hsb : sb = ((decide (n < 0) != decide (d < 0)) && decide (0 < n.natAbs))) :
    sgn (sb && decide (0 < n.natAbs / Nat.gcd n.natAbs d.natAbs)) (n.natAbs / Nat.gcd n.natAbs d.natAbs) = nb ∧ d.natAbs / Nat.gcd n.natAbs d.natAbs = db := by
  have hs : nb * (d.natAbs : Int) = sgn sb n.natAbs * (db : Int) := by
    subst hsb
    rcases Int.lt_or_le d 0 with h1 | h1
    · have e1 : (d.natAbs : Int) = -d := by omega
      rw [e1, Int.mul_neg, h]
      have : sgn ((decide (n < 0) != decide (d < 0)) && decide (0 < n.natAbs)) n.natAbs = -n := by
        rw [decide_eq_true h1]
        by_cases h2 : n < 0
        · rw [decide_eq_true h2]; show (n.natAbs : Int) = -n; omega
        · rw [decide_eq_false h2]
          by_cases h3 : 0 < n.natAbs
          · rw [decide_eq_true h3]; show -(n.natAbs : Int) = -n; omega
          · rw [decide_eq_false h3]; show (n.natAbs : Int) = -n; omega
      rw [this, Int.neg_mul]
    · have e1 : (d.natAbs : Int) = d := by omega
      rw [e1, h]
      have : sgn ((decide (n < 0) != decide (d < 0)) && decide (0 < n.natAbs)) n.natAbs = n := by
        rw [decide_eq_false (show ¬ d < 0 by omega)]
        by_cases h2 : n < 0
        · rw [decide_eq_true h2, decide_eq_true (show 0 < n.natAbs by omega)]; show -(n.natAbs : Int) = n; omega
        · rw [decide_eq_false h2]; show (n.natAbs : Int) = n; omega
      rw [this]
  obtain ⟨e1, e2⟩ := low_is sb n.natAbs d.natAbs (by omega) nb db hs hp hc
  have hz : (sb && decide (0 < n.natAbs / Nat.gcd n.natAbs d.natAbs)) = true ∨ sgn (sb && decide (0 < n.natAbs / Nat.gcd n.natAbs d.natAbs)) (n.natAbs / Nat.gcd n.natAbs d.natAbs) = sgn sb (n.natAbs / Nat.gcd n.natAbs d.natAbs) := by
    cases sb
    · exact .inr rfl
    · rcases Nat.eq_zero_or_pos (n.natAbs / Nat.gcd n.natAbs d.natAbs) with h0 | h0
      · right; rw [h0]; rfl
      · left; rw [decide_eq_true h0]; rfl
  refine ⟨?_, e2.symm⟩
  rcases hz with hz | hz
  · rw [hz, e1]
    have : sb = true := by cases sb; exact absurd hz (by simp); rfl
    rw [this]
  · rw [hz, e1]
theorem ratGet_bd {s t t2 u : ByteArray} {neg : Bool} (hs : s.size ≤ 240) (hc : CutQ s t u) (hp : Parts t t2 neg) (hq : QT s t2 u neg) : (sgn neg (dv t2.data.toList / Nat.gcd (dv t2.data.toList) (dv u.data.toList))).natAbs < B ^ 30 ∧ dv u.data.toList / Nat.gcd (dv t2.data.toList) (dv u.data.toList) < B ^ 30 := by
  obtain ⟨z1, z2⟩ := cutQ_size hc
  have z3 := size_parts hp
  have h1 := dv_B t2 hq.1.1.2.2.2 (by omega)
  have h2 := dv_B u hq.2.1.2.2.2 (by omega)
  refine ⟨?_, ?_⟩
  · rw [sgn_abs]
    exact Nat.lt_of_le_of_lt (Nat.div_le_self _ _) (b_upB h1 (by decide))
  · exact Nat.lt_of_le_of_lt (Nat.div_le_self _ _) (b_upB h2 (by decide))
set_option maxRecDepth 100000 in
set_option maxHeartbeats 16000000 in
theorem ratText_yz (s : ByteArray) (hs : s.size ≤ 9223372036854775807) (n d : Int) (n0 : -9223372036854775808 ≤ n) (n1 : n ≤ 9223372036854775807) (d0 : -9223372036854775808 ≤ d) (d1 : d ≤ 9223372036854775807) (T t t2 u : ByteArray) (neg : Bool) (hT : s.extract 0 (min s.size (60 : Int).toNat) = T) (hTs : T.size ≤ 240) (hc : CutQ T t u) (hp : Parts t t2 neg) (hq : QT T t2 u neg) (hd : d = 0) (w : World) (hM : Met2 w) :
    Calls Tryz.prog 8 #[.string s, .int .i64 n, .int .i64 d] w fun e w' => e = .returned (.bool true) ∧ Gr w w' := by
  have HM := Lib.hid hM
  have HBG := Lib.hid (begun_met w hM)
  have HTC := Lib.hid (fun w => text_calls s 60 (by decide) (by decide) hs w)
  rw [hT] at HTC
  have HA := Lib.hid (fun w hB hP => ratGet_calls T t t2 u neg hTs hc hp w hB hP)
  have HB := Lib.hid (fun w => rgetQ_calls T t t2 u neg hTs hc hp w)
  have HQ := Lib.hid hq
  have HDD := Lib.hid hd
  have HOF := Lib.hid (fun w hB => ofRat_calls n d w hB n0 n1 d0 d1)
  have HFR := Lib.hid (fun w => rFrac_calls n d n0 n1 d0 d1 w)
  have HND : Hid (n.natAbs ≤ 9223372036854775808 ∧ d.natAbs ≤ 9223372036854775808) := Lib.hid (by omega)
  have hdz : (d == 0) = true := beq_iff_eq.2 hd
  have hbd := ratGet_bd hTs hc hp hq
  have HBD := Lib.hid hbd
  have HTX := Lib.hid (show (⟨(ratText (sgn neg (dv t2.data.toList / Nat.gcd (dv t2.data.toList) (dv u.data.toList))) (dv u.data.toList / Nat.gcd (dv t2.data.toList) (dv u.data.toList))).toArray⟩ : ByteArray) = T from ba_ext (by rw [(ba_lists _).1]; exact hq.2.2.2))
  clear hbd
  clear hT hM hp hc hq hs hd n0 n1 d0 d1
  go_enter Tryz.func8, Tryz.ntmps8
  go_wp2_with (first | (go_at_call 11; (with_reducible refine HBG.out.mono ?_); rintro ev w1 ⟨rfl, hg1⟩) | (go_at_call 16; (with_reducible refine (HTC.out _).mono ?_); rintro ev wq ⟨rfl, rfl⟩))
  have HG1 := Lib.hid hg1
  clear hg1
  have HA1 := Lib.hid (HA.out w1 (HM.out.gr HG1.out).2.1 (HM.out.gr HG1.out).2.2)
  go_wp2_with fail
  refine HA1.out.mono ?_
  rintro ev w2 ⟨⟨hr, _⟩, hg2⟩
  obtain ⟨b2, rfl, hr2⟩ := hr HQ.out
  have HR2 := Lib.hid hr2
  have HG2 := Lib.hid (HG1.out.tr hg2)
  clear hr hr2 hg2
  go_wp2_with fail
  refine (HB.out _).mono ?_
  rintro ev w3 ⟨⟨hr, _⟩, hg3⟩
  obtain ⟨x1, x2, x3, x4, x5, x6, x7, rfl⟩ := hr HQ.out
  have hga : Gr w3 (w3.alloc (.cells #[.bool x1, .slice x2 x3 x4, .slice x5 x6 x7] 29)) := gr_al (Gr.rf w3)
  have HG3 := Lib.hid (HG2.out.tr (hg3.tr hga))
  have htx := textRat_calls (.pointer (some ⟨b2, 0, none⟩)) _ _ (w3.alloc (.cells #[.bool x1, .slice x2 x3 x4, .slice x5 x6 x7] 29)) (HR2.out.gr (hg3.tr hga)) 30 HBD.out.1 HBD.out.2 (by decide) (by decide) (HM.out.gr HG3.out).2.2
  rw [HTX.out] at htx
  have HT1 := Lib.hid htx
  clear hr hg3 hga htx
  go_wp2_with fail
  refine HT1.out.mono ?_
  rintro ev w4 ⟨rfl, hg4⟩
  have HG4 := Lib.hid (HG3.out.tr hg4)
  clear hg4
  have HOF1 := Lib.hid (HOF.out w4 (HM.out.gr HG4.out).2.1)
  go_wp2_with fail
  refine HOF1.out.mono ?_
  rintro ev w5 ⟨⟨hr, _⟩, hg5⟩
  obtain rfl := hr HDD.out
  have HG5 := Lib.hid (HG4.out.tr hg5)
  have HS3 := Lib.hid (same_own 3 w5 (HM.out.gr HG5.out).1)
  clear hr hg5
  go_wp2_with (go_at_call 20; (with_reducible refine HS3.out.mono ?_); rintro ev w6 ⟨rfl, hg6⟩)
  go_ret
  exact ⟨by first | rfl | simp, HG5.out.tr hg6⟩
set_option maxRecDepth 100000 in
set_option maxHeartbeats 16000000 in
theorem ratText_yp (s : ByteArray) (hs : s.size ≤ 9223372036854775807) (n d : Int) (n0 : -9223372036854775808 ≤ n) (n1 : n ≤ 9223372036854775807) (d0 : -9223372036854775808 ≤ d) (d1 : d ≤ 9223372036854775807) (T t t2 u : ByteArray) (neg : Bool) (hT : s.extract 0 (min s.size (60 : Int).toNat) = T) (hTs : T.size ≤ 240) (hc : CutQ T t u) (hp : Parts t t2 neg) (hq : QT T t2 u neg) (hd : d ≠ 0) (w : World) (hM : Met2 w) :
    Calls Tryz.prog 8 #[.string s, .int .i64 n, .int .i64 d] w fun e w' => e = .returned (.bool true) ∧ Gr w w' := by
  have HM := Lib.hid hM
  have HBG := Lib.hid (begun_met w hM)
  have HTC := Lib.hid (fun w => text_calls s 60 (by decide) (by decide) hs w)
  rw [hT] at HTC
  have HA := Lib.hid (fun w hB hP => ratGet_calls T t t2 u neg hTs hc hp w hB hP)
  have HB := Lib.hid (fun w => rgetQ_calls T t t2 u neg hTs hc hp w)
  have HQ := Lib.hid hq
  have HDD := Lib.hid hd
  have HOF := Lib.hid (fun w hB => ofRat_calls n d w hB n0 n1 d0 d1)
  have HFR := Lib.hid (fun w => rFrac_calls n d n0 n1 d0 d1 w)
  have HND : Hid (n.natAbs ≤ 9223372036854775808 ∧ d.natAbs ≤ 9223372036854775808) := Lib.hid (by omega)
  have hdz : (d == 0) = false := beq_eq_false_iff_ne.2 hd
  have hbd := ratGet_bd hTs hc hp hq
  have HBD := Lib.hid hbd
  have HTX := Lib.hid (show (⟨(ratText (sgn neg (dv t2.data.toList / Nat.gcd (dv t2.data.toList) (dv u.data.toList))) (dv u.data.toList / Nat.gcd (dv t2.data.toList) (dv u.data.toList))).toArray⟩ : ByteArray) = T from ba_ext (by rw [(ba_lists _).1]; exact hq.2.2.2))
  clear hbd
  clear hT hM hp hc hq hs hd n0 n1 d0 d1
  go_enter Tryz.func8, Tryz.ntmps8
  go_wp2_with (first | (go_at_call 11; (with_reducible refine HBG.out.mono ?_); rintro ev w1 ⟨rfl, hg1⟩) | (go_at_call 16; (with_reducible refine (HTC.out _).mono ?_); rintro ev wq ⟨rfl, rfl⟩))
  have HG1 := Lib.hid hg1
  clear hg1
  have HA1 := Lib.hid (HA.out w1 (HM.out.gr HG1.out).2.1 (HM.out.gr HG1.out).2.2)
  go_wp2_with fail
  refine HA1.out.mono ?_
  rintro ev w2 ⟨⟨hr, _⟩, hg2⟩
  obtain ⟨b2, rfl, hr2⟩ := hr HQ.out
  have HR2 := Lib.hid hr2
  have HG2 := Lib.hid (HG1.out.tr hg2)
  clear hr hr2 hg2
  go_wp2_with fail
  refine (HB.out _).mono ?_
  rintro ev w3 ⟨⟨hr, _⟩, hg3⟩
  obtain ⟨x1, x2, x3, x4, x5, x6, x7, rfl⟩ := hr HQ.out
  have hga : Gr w3 (w3.alloc (.cells #[.bool x1, .slice x2 x3 x4, .slice x5 x6 x7] 29)) := gr_al (Gr.rf w3)
  have HG3 := Lib.hid (HG2.out.tr (hg3.tr hga))
  have htx := textRat_calls (.pointer (some ⟨b2, 0, none⟩)) _ _ (w3.alloc (.cells #[.bool x1, .slice x2 x3 x4, .slice x5 x6 x7] 29)) (HR2.out.gr (hg3.tr hga)) 30 HBD.out.1 HBD.out.2 (by decide) (by decide) (HM.out.gr HG3.out).2.2
  rw [HTX.out] at htx
  have HT1 := Lib.hid htx
  clear hr hg3 hga htx
  go_wp2_with fail
  refine HT1.out.mono ?_
  rintro ev w4 ⟨rfl, hg4⟩
  have HG4 := Lib.hid (HG3.out.tr hg4)
  clear hg4
  have HOF1 := Lib.hid (HOF.out w4 (HM.out.gr HG4.out).2.1)
  go_wp2_with fail
  refine HOF1.out.mono ?_
  rintro ev w5 ⟨⟨_, hr⟩, hg5⟩
  obtain ⟨b5, nb, db, rfl, hr5, hnd, hn5, hd5⟩ := hr HDD.out
  have HR5 := Lib.hid hr5
  have HG5 := Lib.hid (HG4.out.tr hg5)
  have HBN := Lib.hid (show nb.natAbs < B ^ 2 ∧ db < B ^ 2 from by
    have h1 := HND.out
    have h2 : 9223372036854775808 < B ^ 2 := by decide
    omega)
  obtain ⟨X, hX⟩ : ∃ X : ByteArray, X = ⟨(ratText nb db).toArray⟩ := ⟨_, rfl⟩
  have htx := fun w' (hg : Gr w5 w') => textRat_calls (.pointer (some ⟨b5, 0, none⟩)) nb db w' (hr5.gr hg) 2 HBN.out.1 HBN.out.2 (by decide) (by decide) (HM.out.gr (HG5.out.tr hg)).2.2
  rw [← hX] at htx
  have HTX5 := Lib.hid htx
  obtain ⟨yt, yu, yt2, yc, yp, yq, yv1, yv2, ys⟩ := rat_back nb db hr5.pos hr5.cop (by have h1 := HND.out; exact Nat.lt_of_le_of_lt (Nat.le_trans hn5 h1.1) (by decide)) (by have h1 := HND.out; exact Nat.lt_of_le_of_lt (Nat.le_trans hd5 h1.2) (by decide))
  rw [← hX] at yc yq ys
  have hget := fun w' (hg : Gr w5 w') => ratGet_calls X yt yt2 yu (decide (nb < 0)) (by omega) yc yp w' (HM.out.gr (HG5.out.tr hg)).2.1 (HM.out.gr (HG5.out.tr hg)).2.2
  rw [yv1, yv2, hr5.cop, Nat.div_one, Nat.div_one, sgn_self] at hget
  have HGET := Lib.hid hget
  have HYQ := Lib.hid yq
  have HLOW := Lib.hid (fun sb hsb => frac_low n d nb db HDD.out hnd hr5.pos hr5.cop sb hsb)
  have HXX := Lib.hid hX
  clear hr hr5 hnd hn5 hd5 hg5 htx hget yc yp yq yv1 yv2 ys hX
  have HT6 := Lib.hid (HTX5.out w5 (Gr.rf _))
  go_wp2_with fail
  refine HT6.out.mono ?_
  rintro ev w6 ⟨rfl, hg6⟩
  have HG6 := Lib.hid hg6
  have HT7 := Lib.hid (HGET.out w6 hg6)
  clear hg6
  go_wp2_with fail
  refine HT7.out.mono ?_
  rintro ev w7 ⟨⟨hr, _⟩, hg7⟩
  obtain ⟨b7, rfl, hr7⟩ := hr HYQ.out
  have HR7 := Lib.hid hr7
  have HG7 := Lib.hid (HG6.out.tr hg7)
  have HT8 := Lib.hid (HTX5.out w7 HG7.out)
  clear hr hr7 hg7
  go_wp2_with fail
  refine HT8.out.mono ?_
  rintro ev w8 ⟨rfl, hg8⟩
  have HG8 := Lib.hid hg8
  clear hg8
  go_wp2_with fail
  refine (HFR.out _).mono ?_
  rintro ev w9 ⟨⟨sb, va, vb, rfl, hsb, hva, hvb⟩, hg9⟩
  have HG9 := Lib.hid (HG8.out.tr hg9)
  obtain ⟨l1, l2⟩ := HLOW.out sb hsb
  have hqt := rQText_calls sb va vb n.natAbs d.natAbs w9 hva hvb (by have := HDD.out; omega) 3 (Nat.lt_of_le_of_lt HND.out.1 (by decide)) (Nat.lt_of_le_of_lt HND.out.2 (by decide)) (by decide) (by decide) X (by rw [l1, l2]; exact HXX.out)
  obtain ⟨a1, a2, a3, rfl⟩ := rn_sl hva
  obtain ⟨c1, c2, c3, rfl⟩ := rn_sl hvb
  have HQT := Lib.hid hqt
  clear hsb hva hvb hg9 l1 l2 hqt
  go_wp2_with fail
  refine HQT.out.mono ?_
  rintro ev wa ⟨rfl, hga⟩
  have HGA := Lib.hid (HG9.out.tr hga)
  have hcm := cmpRat_calls (.pointer (some ⟨b7, 0, none⟩)) (.pointer (some ⟨b5, 0, none⟩)) nb nb db db wa (HR7.out.gr HGA.out) (HR5.out.gr (HG7.out.tr HGA.out)) 2 HBN.out.1 HBN.out.1 HBN.out.2 HBN.out.2 (by decide)
  rw [Int.sub_self, show (0 : Int).sign = 0 from rfl] at hcm
  have HCM := Lib.hid hcm
  clear hga hcm
  go_wp2_with fail
  refine HCM.out.mono ?_
  rintro ev wb ⟨rfl, hgb⟩
  have HGB := Lib.hid (HG5.out.tr (HG7.out.tr (HGA.out.tr hgb)))
  clear hgb
  go_wp2
  go_ret
  exact ⟨by first | rfl | simp, HGB.out⟩
set_option maxRecDepth 100000 in
set_option maxHeartbeats 16000000 in
theorem ratText_nz (s : ByteArray) (hs : s.size ≤ 9223372036854775807) (n d : Int) (n0 : -9223372036854775808 ≤ n) (n1 : n ≤ 9223372036854775807) (d0 : -9223372036854775808 ≤ d) (d1 : d ≤ 9223372036854775807) (T t t2 u : ByteArray) (neg : Bool) (hT : s.extract 0 (min s.size (60 : Int).toNat) = T) (hTs : T.size ≤ 240) (hc : CutQ T t u) (hp : Parts t t2 neg) (hq : ¬ QT T t2 u neg) (hd : d = 0) (w : World) (hM : Met2 w) :
    Calls Tryz.prog 8 #[.string s, .int .i64 n, .int .i64 d] w fun e w' => e = .returned (.bool true) ∧ Gr w w' := by
  have HM := Lib.hid hM
  have HBG := Lib.hid (begun_met w hM)
  have HTC := Lib.hid (fun w => text_calls s 60 (by decide) (by decide) hs w)
  rw [hT] at HTC
  have HA := Lib.hid (fun w hB hP => ratGet_calls T t t2 u neg hTs hc hp w hB hP)
  have HB := Lib.hid (fun w => rgetQ_calls T t t2 u neg hTs hc hp w)
  have HQ := Lib.hid hq
  have HDD := Lib.hid hd
  have HOF := Lib.hid (fun w hB => ofRat_calls n d w hB n0 n1 d0 d1)
  have HFR := Lib.hid (fun w => rFrac_calls n d n0 n1 d0 d1 w)
  have HND : Hid (n.natAbs ≤ 9223372036854775808 ∧ d.natAbs ≤ 9223372036854775808) := Lib.hid (by omega)
  have hdz : (d == 0) = true := beq_iff_eq.2 hd
  clear hT hM hp hc hq hs hd n0 n1 d0 d1
  go_enter Tryz.func8, Tryz.ntmps8
  go_wp2_with (first | (go_at_call 11; (with_reducible refine HBG.out.mono ?_); rintro ev w1 ⟨rfl, hg1⟩) | (go_at_call 16; (with_reducible refine (HTC.out _).mono ?_); rintro ev wq ⟨rfl, rfl⟩))
  have HG1 := Lib.hid hg1
  clear hg1
  have HA1 := Lib.hid (HA.out w1 (HM.out.gr HG1.out).2.1 (HM.out.gr HG1.out).2.2)
  go_wp2_with fail
  refine HA1.out.mono ?_
  rintro ev w2 ⟨⟨_, hr⟩, hg2⟩
  obtain rfl := hr HQ.out
  have HG2 := Lib.hid (HG1.out.tr hg2)
  clear hr hg2
  go_wp2_with fail
  refine (HB.out _).mono ?_
  rintro ev w3 ⟨⟨_, hr⟩, hg3⟩
  obtain ⟨x1, x2, x3, x4, x5, x6, x7, rfl⟩ := hr HQ.out
  have HG3 := Lib.hid (HG2.out.tr (hg3.tr (gr_al (o := .cells #[.bool x1, .slice x2 x3 x4, .slice x5 x6 x7] 29) (Gr.rf w3))))
  have HSO := Lib.hid (same_own 1 (w3.alloc (.cells #[.bool x1, .slice x2 x3 x4, .slice x5 x6 x7] 29)) (HM.out.gr HG3.out).1)
  clear hr hg3
  go_wp2_with fail
  refine HSO.out.mono ?_
  rintro ev w4 ⟨rfl, hg4⟩
  have HG4 := Lib.hid (HG3.out.tr hg4)
  clear hg4
  have HOF1 := Lib.hid (HOF.out w4 (HM.out.gr HG4.out).2.1)
  go_wp2_with fail
  refine HOF1.out.mono ?_
  rintro ev w5 ⟨⟨hr, _⟩, hg5⟩
  obtain rfl := hr HDD.out
  have HG5 := Lib.hid (HG4.out.tr hg5)
  have HS3 := Lib.hid (same_own 3 w5 (HM.out.gr HG5.out).1)
  clear hr hg5
  go_wp2_with (go_at_call 20; (with_reducible refine HS3.out.mono ?_); rintro ev w6 ⟨rfl, hg6⟩)
  go_ret
  exact ⟨by first | rfl | simp, HG5.out.tr hg6⟩
set_option maxRecDepth 100000 in
set_option maxHeartbeats 16000000 in
theorem ratText_np (s : ByteArray) (hs : s.size ≤ 9223372036854775807) (n d : Int) (n0 : -9223372036854775808 ≤ n) (n1 : n ≤ 9223372036854775807) (d0 : -9223372036854775808 ≤ d) (d1 : d ≤ 9223372036854775807) (T t t2 u : ByteArray) (neg : Bool) (hT : s.extract 0 (min s.size (60 : Int).toNat) = T) (hTs : T.size ≤ 240) (hc : CutQ T t u) (hp : Parts t t2 neg) (hq : ¬ QT T t2 u neg) (hd : d ≠ 0) (w : World) (hM : Met2 w) :
    Calls Tryz.prog 8 #[.string s, .int .i64 n, .int .i64 d] w fun e w' => e = .returned (.bool true) ∧ Gr w w' := by
  have HM := Lib.hid hM
  have HBG := Lib.hid (begun_met w hM)
  have HTC := Lib.hid (fun w => text_calls s 60 (by decide) (by decide) hs w)
  rw [hT] at HTC
  have HA := Lib.hid (fun w hB hP => ratGet_calls T t t2 u neg hTs hc hp w hB hP)
  have HB := Lib.hid (fun w => rgetQ_calls T t t2 u neg hTs hc hp w)
  have HQ := Lib.hid hq
  have HDD := Lib.hid hd
  have HOF := Lib.hid (fun w hB => ofRat_calls n d w hB n0 n1 d0 d1)
  have HFR := Lib.hid (fun w => rFrac_calls n d n0 n1 d0 d1 w)
  have HND : Hid (n.natAbs ≤ 9223372036854775808 ∧ d.natAbs ≤ 9223372036854775808) := Lib.hid (by omega)
  have hdz : (d == 0) = false := beq_eq_false_iff_ne.2 hd
  clear hT hM hp hc hq hs hd n0 n1 d0 d1
  go_enter Tryz.func8, Tryz.ntmps8
  go_wp2_with (first | (go_at_call 11; (with_reducible refine HBG.out.mono ?_); rintro ev w1 ⟨rfl, hg1⟩) | (go_at_call 16; (with_reducible refine (HTC.out _).mono ?_); rintro ev wq ⟨rfl, rfl⟩))
  have HG1 := Lib.hid hg1
  clear hg1
  have HA1 := Lib.hid (HA.out w1 (HM.out.gr HG1.out).2.1 (HM.out.gr HG1.out).2.2)
  go_wp2_with fail
  refine HA1.out.mono ?_
  rintro ev w2 ⟨⟨_, hr⟩, hg2⟩
  obtain rfl := hr HQ.out
  have HG2 := Lib.hid (HG1.out.tr hg2)
  clear hr hg2
  go_wp2_with fail
  refine (HB.out _).mono ?_
  rintro ev w3 ⟨⟨_, hr⟩, hg3⟩
  obtain ⟨x1, x2, x3, x4, x5, x6, x7, rfl⟩ := hr HQ.out
  have HG3 := Lib.hid (HG2.out.tr (hg3.tr (gr_al (o := .cells #[.bool x1, .slice x2 x3 x4, .slice x5 x6 x7] 29) (Gr.rf w3))))
  have HSO := Lib.hid (same_own 1 (w3.alloc (.cells #[.bool x1, .slice x2 x3 x4, .slice x5 x6 x7] 29)) (HM.out.gr HG3.out).1)
  clear hr hg3
  go_wp2_with fail
  refine HSO.out.mono ?_
  rintro ev w4 ⟨rfl, hg4⟩
  have HG4 := Lib.hid (HG3.out.tr hg4)
  clear hg4
  have HOF1 := Lib.hid (HOF.out w4 (HM.out.gr HG4.out).2.1)
  go_wp2_with fail
  refine HOF1.out.mono ?_
  rintro ev w5 ⟨⟨_, hr⟩, hg5⟩
  obtain ⟨b5, nb, db, rfl, hr5, hnd, hn5, hd5⟩ := hr HDD.out
  have HR5 := Lib.hid hr5
  have HG5 := Lib.hid (HG4.out.tr hg5)
  have HBN := Lib.hid (show nb.natAbs < B ^ 2 ∧ db < B ^ 2 from by
    have h1 := HND.out
    have h2 : 9223372036854775808 < B ^ 2 := by decide
    omega)
  obtain ⟨X, hX⟩ : ∃ X : ByteArray, X = ⟨(ratText nb db).toArray⟩ := ⟨_, rfl⟩
  have htx := fun w' (hg : Gr w5 w') => textRat_calls (.pointer (some ⟨b5, 0, none⟩)) nb db w' (hr5.gr hg) 2 HBN.out.1 HBN.out.2 (by decide) (by decide) (HM.out.gr (HG5.out.tr hg)).2.2
  rw [← hX] at htx
  have HTX5 := Lib.hid htx
  obtain ⟨yt, yu, yt2, yc, yp, yq, yv1, yv2, ys⟩ := rat_back nb db hr5.pos hr5.cop (by have h1 := HND.out; exact Nat.lt_of_le_of_lt (Nat.le_trans hn5 h1.1) (by decide)) (by have h1 := HND.out; exact Nat.lt_of_le_of_lt (Nat.le_trans hd5 h1.2) (by decide))
  rw [← hX] at yc yq ys
  have hget := fun w' (hg : Gr w5 w') => ratGet_calls X yt yt2 yu (decide (nb < 0)) (by omega) yc yp w' (HM.out.gr (HG5.out.tr hg)).2.1 (HM.out.gr (HG5.out.tr hg)).2.2
  rw [yv1, yv2, hr5.cop, Nat.div_one, Nat.div_one, sgn_self] at hget
  have HGET := Lib.hid hget
  have HYQ := Lib.hid yq
  have HLOW := Lib.hid (fun sb hsb => frac_low n d nb db HDD.out hnd hr5.pos hr5.cop sb hsb)
  have HXX := Lib.hid hX
  clear hr hr5 hnd hn5 hd5 hg5 htx hget yc yp yq yv1 yv2 ys hX
  have HT6 := Lib.hid (HTX5.out w5 (Gr.rf _))
  go_wp2_with fail
  refine HT6.out.mono ?_
  rintro ev w6 ⟨rfl, hg6⟩
  have HG6 := Lib.hid hg6
  have HT7 := Lib.hid (HGET.out w6 hg6)
  clear hg6
  go_wp2_with fail
  refine HT7.out.mono ?_
  rintro ev w7 ⟨⟨hr, _⟩, hg7⟩
  obtain ⟨b7, rfl, hr7⟩ := hr HYQ.out
  have HR7 := Lib.hid hr7
  have HG7 := Lib.hid (HG6.out.tr hg7)
  have HT8 := Lib.hid (HTX5.out w7 HG7.out)
  clear hr hr7 hg7
  go_wp2_with fail
  refine HT8.out.mono ?_
  rintro ev w8 ⟨rfl, hg8⟩
  have HG8 := Lib.hid hg8
  clear hg8
  go_wp2_with fail
  refine (HFR.out _).mono ?_
  rintro ev w9 ⟨⟨sb, va, vb, rfl, hsb, hva, hvb⟩, hg9⟩
  have HG9 := Lib.hid (HG8.out.tr hg9)
  obtain ⟨l1, l2⟩ := HLOW.out sb hsb
  have hqt := rQText_calls sb va vb n.natAbs d.natAbs w9 hva hvb (by have := HDD.out; omega) 3 (Nat.lt_of_le_of_lt HND.out.1 (by decide)) (Nat.lt_of_le_of_lt HND.out.2 (by decide)) (by decide) (by decide) X (by rw [l1, l2]; exact HXX.out)
  obtain ⟨a1, a2, a3, rfl⟩ := rn_sl hva
  obtain ⟨c1, c2, c3, rfl⟩ := rn_sl hvb
  have HQT := Lib.hid hqt
  clear hsb hva hvb hg9 l1 l2 hqt
  go_wp2_with fail
  refine HQT.out.mono ?_
  rintro ev wa ⟨rfl, hga⟩
  have HGA := Lib.hid (HG9.out.tr hga)
  have hcm := cmpRat_calls (.pointer (some ⟨b7, 0, none⟩)) (.pointer (some ⟨b5, 0, none⟩)) nb nb db db wa (HR7.out.gr HGA.out) (HR5.out.gr (HG7.out.tr HGA.out)) 2 HBN.out.1 HBN.out.1 HBN.out.2 HBN.out.2 (by decide)
  rw [Int.sub_self, show (0 : Int).sign = 0 from rfl] at hcm
  have HCM := Lib.hid hcm
  clear hga hcm
  go_wp2_with fail
  refine HCM.out.mono ?_
  rintro ev wb ⟨rfl, hgb⟩
  have HGB := Lib.hid (HG5.out.tr (HG7.out.tr (HGA.out.tr hgb)))
  clear hgb
  go_wp2
  go_ret
  exact ⟨by first | rfl | simp, HGB.out⟩
theorem ratText_calls (s : ByteArray) (n d : Int) (hs : s.size ≤ 9223372036854775807) (n0 : -9223372036854775808 ≤ n) (n1 : n ≤ 9223372036854775807) (d0 : -9223372036854775808 ≤ d) (d1 : d ≤ 9223372036854775807) (w : World) (hM : Met2 w) :
    Calls Tryz.prog 8 #[.string s, .int .i64 n, .int .i64 d] w fun e w' => e = .returned (.bool true) ∧ Gr w w' := by
  obtain ⟨T, hT⟩ : ∃ T, s.extract 0 (min s.size (60 : Int).toNat) = T := ⟨_, rfl⟩
  have hTs : T.size ≤ 240 := by rw [← hT, ByteArray.size_extract]; omega
  obtain ⟨t, u, hc⟩ := cutQ_ex T
  obtain ⟨t2, neg, hp⟩ := parts_ex t
  by_cases hq : QT T t2 u neg <;> by_cases hd : d = 0
  · exact ratText_yz s hs n d n0 n1 d0 d1 T t t2 u neg hT hTs hc hp hq hd w hM
  · exact ratText_yp s hs n d n0 n1 d0 d1 T t t2 u neg hT hTs hc hp hq hd w hM
  · exact ratText_nz s hs n d n0 n1 d0 d1 T t t2 u neg hT hTs hc hp hq hd w hM
  · exact ratText_np s hs n d n0 n1 d0 d1 T t t2 u neg hT hTs hc hp hq hd w hM
end Go.Proofs.YtcjjgdoafkdeaaaGreatDoor
