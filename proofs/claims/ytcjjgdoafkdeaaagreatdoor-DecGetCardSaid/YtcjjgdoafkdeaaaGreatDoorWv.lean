/- Layer 5: 'any text is a decimal, or none', walked. -/
import Derived.Test.YtcjjgdoafkdeaaaGreatDoorWz
import Derived.Test.YtcjjgdoafkdeaaaGreatDoorQk
namespace Go.Proofs.YtcjjgdoafkdeaaaGreatDoor
open Go.RowKit Go.Extern.Stop Go.Stop Go.Extern Go.Sort
set_option linter.unusedVariables false
set_option linter.unusedSimpArgs false

/-- A decimal that was read is put as it was. -/
theorem put_read (N P : Nat) (neg : Bool) (hP : 0 < P) (h : neg = true → N ≠ 0) : ((sgn neg (N / Nat.gcd N P)) * (P : Int)).natAbs % (P / Nat.gcd N P) = 0 ∧ sgn (decide ((sgn neg (N / Nat.gcd N P)) * (P : Int) < 0)) (((sgn neg (N / Nat.gcd N P)) * (P : Int)).natAbs / (P / Nat.gcd N P)) = sgn neg N := by
  have hg : 0 < Nat.gcd N P := Nat.gcd_pos_of_pos_right _ hP
  have hN := Nat.div_mul_cancel (Nat.gcd_dvd_left N P)
  have hPP := Nat.div_mul_cancel (Nat.gcd_dvd_right N P)
  have he : 0 < P / Nat.gcd N P := Nat.div_pos (Nat.gcd_le_right _ hP) hg
  generalize Nat.gcd N P = g at *
  generalize N / g = a at *
  generalize P / g = e at *
  subst hN hPP
  have ha : ((sgn neg a) * ((e * g : Nat) : Int)).natAbs = a * g * e := by
    rw [Int.natAbs_mul, sgn_abs, Int.natAbs_natCast]; ac_rfl
  rw [ha]
  refine ⟨Nat.mul_mod_left _ _, ?_⟩
  rw [Nat.mul_div_cancel _ he]
  cases neg
  · have h0 : (0 : Int) ≤ (sgn false a) * ((e * g : Nat) : Int) := Int.mul_nonneg (by show (0 : Int) ≤ (a : Int); omega) (Int.natCast_nonneg _)
    rw [decide_eq_false (by omega)]
  · have h0 := h rfl
    have ha0 : 0 < a := by
      rcases Nat.eq_zero_or_pos a with h1 | h1
      · rw [h1, Nat.zero_mul] at h0; exact absurd rfl h0
      · exact h1
    have h1 : (0 : Int) < (a : Int) * ((e * g : Nat) : Int) := Int.mul_pos (by omega) (by have := Nat.mul_pos he hg; omega)
    have h2 : (sgn true a) * ((e * g : Nat) : Int) = -((a : Int) * ((e * g : Nat) : Int)) := by show -(a : Int) * _ = _; rw [Int.neg_mul]
    rw [h2, decide_eq_true (by omega)]
theorem dec_put {w : World} {v : Value} {neg : Bool} {N p : Nat} (h : RatAt w v (sgn neg (N / Nat.gcd N (10 ^ p))) (10 ^ p / Nat.gcd N (10 ^ p))) (hN : N < Dg.D ^ 30) (hp : p ≤ 20) (hz : neg = true → N ≠ 0) (hT : PowTab w) {X : ByteArray} (hX : placedL (sgn neg N) p = X.data.toList) :
    Calls Tryz.prog 35 #[v, .int .i64 (p : Int)] w fun e w' => e = .returned (.tuple #[.string X, .bool true]) ∧ Gr w w' := by
  obtain ⟨p1, p2⟩ := put_read N (10 ^ p) neg (ten_p p hp).2.2 hz
  refine (put_calls v _ _ p w h 30 (by rw [sgn_abs]; exact Nat.lt_of_le_of_lt (Nat.div_le_self _ _) (b_B hN)) (Nat.lt_of_le_of_lt (Nat.div_le_self _ _) (b_upB (ten_p p hp).2.1 (by decide))) (by decide) hp hT).mono ?_
  rintro e w' ⟨⟨h1, _⟩, hg⟩
  refine ⟨?_, hg⟩
  rw [h1 p1, p2, hX]
set_option maxRecDepth 100000 in
set_option maxHeartbeats 8000000 in
theorem decGet_no (s : ByteArray) (hs : s.size ≤ 9223372036854775807) (T t a r : ByteArray) (neg pt : Bool) (hT : s.extract 0 (min s.size (70 : Int).toNat) = T) (hTs : T.size ≤ 240) (hp : Parts T t neg) (hc : CutP t a r pt) (hd : ¬ DecT T a r neg pt) (w : World) (hM : Met2 w) :
    Calls Tryz.prog 6 #[.string s] w fun e w' => e = .returned (.bool true) ∧ Gr w w' := by
  have HM := Lib.hid hM
  have HBG := Lib.hid (begun_met w hM)
  have HTC := Lib.hid (fun w => text_calls s 70 (by decide) (by decide) hs w)
  rw [hT] at HTC
  have HA := Lib.hid (fun w hB => decGet_calls T t a r neg pt hTs hp hc w hB)
  have HB := Lib.hid (fun w => rgetDec_calls T t a r neg pt hTs hp hc w)
  have HD := Lib.hid hd
  clear hT hM hp hc hd hs
  go_enter Tryz.func6, Tryz.ntmps6
  go_wp2_with (first | (go_at_call 11; (with_reducible refine HBG.out.mono ?_); rintro ev w1 ⟨rfl, hg1⟩) | (go_at_call 16; (with_reducible refine (HTC.out _).mono ?_); rintro ev wq ⟨rfl, rfl⟩))
  have HG1 := Lib.hid hg1
  clear hg1
  have HA1 := Lib.hid (HA.out w1 (HM.out.gr HG1.out).2.1)
  go_wp2_with (go_at_call 14; (with_reducible refine HA1.out.mono ?_); rintro ev w2 ⟨⟨_, hr⟩, hg2⟩; obtain rfl := hr HD.out; have HG2 := Lib.hid hg2; clear hr hg2)
  go_wp2_with (go_at_call 17; (with_reducible refine (HB.out _).mono ?_); rintro ev w3 ⟨⟨_, hr⟩, hg3⟩; obtain rfl := hr HD.out; have HG3 := Lib.hid hg3; clear hr hg3)
  have HSO := Lib.hid (fun w' (hg : Gr w3 w') => same_own 1 w' (HM.out.gr (HG1.out.tr (HG2.out.tr (HG3.out.tr hg)))).1)
  go_wp2_with (go_at_call 20; (with_reducible refine (HSO.out _ (gr_al (Gr.rf _))).mono ?_); rintro ev w4 ⟨rfl, hg4⟩)
  go_ret
  exact ⟨by first | rfl | simp, HG1.out.tr (HG2.out.tr (HG3.out.tr (Gr.tr (gr_al (Gr.rf _)) hg4)))⟩
set_option maxRecDepth 100000 in
set_option maxHeartbeats 8000000 in
theorem decGet_yes (s : ByteArray) (hs : s.size ≤ 9223372036854775807) (T t a r : ByteArray) (neg pt : Bool) (hT : s.extract 0 (min s.size (70 : Int).toNat) = T) (hTs : T.size ≤ 240) (hp : Parts T t neg) (hc : CutP t a r pt) (hd : DecT T a r neg pt) (w : World) (hM : Met2 w) :
    Calls Tryz.prog 6 #[.string s] w fun e w' => e = .returned (.bool true) ∧ Gr w w' := by
  have HM := Lib.hid hM
  have HBG := Lib.hid (begun_met w hM)
  have HTC := Lib.hid (fun w => text_calls s 70 (by decide) (by decide) hs w)
  rw [hT] at HTC
  have HA := Lib.hid (fun w hB => decGet_calls T t a r neg pt hTs hp hc w hB)
  have HB := Lib.hid (fun w => rgetDec_calls T t a r neg pt hTs hp hc w)
  have HD := Lib.hid hd
  have HPB := Lib.hid (placed_back hp hc hd)
  have HVB := Lib.hid (dec_bd hp hc hd)
  clear hT hM hp hc hd hs
  go_enter Tryz.func6, Tryz.ntmps6
  go_wp2_with (first | (go_at_call 11; (with_reducible refine HBG.out.mono ?_); rintro ev w1 ⟨rfl, hg1⟩) | (go_at_call 16; (with_reducible refine (HTC.out _).mono ?_); rintro ev wq ⟨rfl, rfl⟩))
  have HG1 := Lib.hid hg1
  clear hg1
  have HA1 := Lib.hid (HA.out w1 (HM.out.gr HG1.out).2.1)
  go_wp2_with (go_at_call 14; (with_reducible refine HA1.out.mono ?_); rintro ev w2 ⟨⟨hr, _⟩, hg2⟩; obtain ⟨b2, rfl, hr2⟩ := hr HD.out; have HR2 := Lib.hid hr2; have HG2 := Lib.hid hg2; clear hr hg2 hr2)
  go_wp2_with fail
  refine (HB.out _).mono ?_
  rintro ev w3 ⟨⟨hr, _⟩, hg3⟩
  obtain ⟨va, vb, rfl, hva, hvb⟩ := hr HD.out
  have HVV := Lib.hid (And.intro hva hvb)
  obtain ⟨aa, la, ca, rfl⟩ := rn_sl hva
  obtain ⟨ab, lb, cb, rfl⟩ := rn_sl hvb
  have HG3 := Lib.hid hg3
  have HR3 := Lib.hid (HR2.out.gr hg3)
  clear hr hg3 hva hvb
  have hblk := heap_alloc_new w3 (.cells #[.bool neg, .slice aa la ca, .slice ab lb cb] 29)
  have hga : Gr w3 (w3.alloc (.cells #[.bool neg, .slice aa la ca, .slice ab lb cb] 29)) := gr_al (Gr.rf w3)
  have HG13 := Lib.hid (HG1.out.tr (HG2.out.tr (HG3.out.tr hga)))
  have HPU := Lib.hid (dec_put (HR3.out.gr hga) HVB.out.1 HVB.out.2.1 HVB.out.2.2 (HM.out.gr HG13.out).2.2 HPB.out)
  have HR4 := Lib.hid (HR3.out.gr hga)
  have HV4 := Lib.hid (And.intro (HVV.out.1.gr hga) (HVV.out.2.gr hga))
  have HBK := Lib.hid hblk
  clear hblk hga
  go_wp2_with fail
  generalize w3.alloc (.cells #[.bool neg, .slice aa la ca, .slice ab lb cb] 29) = w4 at *
  refine HPU.out.mono ?_
  rintro ev w5 ⟨rfl, hg5⟩
  have HG5 := Lib.hid hg5
  have HTX : Hid (∀ w', Gr w5 w' → (Gr w5 w' ∧ w'.cell? ⟨w3.heap.size, 0, none⟩ = some (.bool neg) ∧ w'.cell? ⟨w3.heap.size, 1, none⟩ = some (.slice aa la ca) ∧ w'.cell? ⟨w3.heap.size, 2, none⟩ = some (.slice ab lb cb))) := Lib.hid (fun w' hg => ⟨hg, heap_cell (hg.heap (HG5.out.heap HBK.out)) 0, heap_cell (hg.heap (HG5.out.heap HBK.out)) 1, heap_cell (hg.heap (HG5.out.heap HBK.out)) 2⟩)
  have hgd : Gr w5 w5.drew := Gr.drew (Gr.rf w5) 1
  obtain ⟨X, hX⟩ : ∃ X : ByteArray, X = ⟨(ratText (sgn neg (dv (a.data.toList ++ r.data.toList) / Nat.gcd (dv (a.data.toList ++ r.data.toList)) (10 ^ r.size))) (10 ^ r.size / Nat.gcd (dv (a.data.toList ++ r.data.toList)) (10 ^ r.size))).toArray⟩ := ⟨_, rfl⟩
  have HT1 : Hid (∀ w', Gr w5 w' → Calls Tryz.prog 18 #[.pointer (some ⟨b2, 0, none⟩)] w' fun e w2 => e = .returned (.string X) ∧ Gr w' w2) := Lib.hid (fun w' hg => dec_text (HR4.out.gr (HG5.out.tr hg)) HVB.out.1 HVB.out.2.1 (HM.out.gr (HG13.out.tr (HG5.out.tr hg))).2.2 hX)
  have HT2 : Hid (∀ w', Gr w5 w' → Calls Tryz.prog 19 #[.agg #[.bool neg, .slice aa la ca, .slice ab lb cb]] w' fun e w2 => e = .returned (.string X) ∧ Gr w' w2) := Lib.hid (fun w' hg => rdec_text (HV4.out.1.gr (HG5.out.tr hg)) (HV4.out.2.gr (HG5.out.tr hg)) HVB.out.2.2 HVB.out.1 HVB.out.2.1 hX)
  clear hg5 hX
  go_wp2_with fail
  go_region_held3 (fun w' => Gr w5 w' ∧ w'.cell? ⟨w3.heap.size, 0, none⟩ = some (.bool neg) ∧ w'.cell? ⟨w3.heap.size, 1, none⟩ = some (.slice aa la ca) ∧ w'.cell? ⟨w3.heap.size, 2, none⟩ = some (.slice ab lb cb))
    (first | exact HTX.out _ hgd | exact HTX.out _ hs6 | exact HTX.out _ hs7 | fail)
    (first
      | (go_at_call 18; go_split_ands; refine (HT1.out _ (by assumption)).mono ?_; rintro ev w6 ⟨rfl, hg6⟩; have hs6 : Gr w5 w6 := Gr.tr (by assumption) hg6)
      | (go_at_call 19; go_split_ands; refine (HT2.out _ (by assumption)).mono ?_; rintro ev w7 ⟨rfl, hg7⟩; have hs7 : Gr w5 w7 := Gr.tr (by assumption) hg7))
  all_goals
    go_wp2
    go_ret
    first
    | exact ⟨by first | rfl | simp, HG13.out.tr (HG5.out.tr hs7)⟩
    | exact ⟨by first | rfl | simp, HG13.out.tr (HG5.out.tr hs6)⟩
theorem decGetLaw_calls (s : ByteArray) (hs : s.size ≤ 9223372036854775807) (w : World) (hM : Met2 w) :
    Calls Tryz.prog 6 #[.string s] w fun e w' => e = .returned (.bool true) ∧ Gr w w' := by
  obtain ⟨T, hT⟩ : ∃ T, s.extract 0 (min s.size (70 : Int).toNat) = T := ⟨_, rfl⟩
  have hTs : T.size ≤ 240 := by rw [← hT, ByteArray.size_extract]; omega
  obtain ⟨t, neg, hp⟩ := parts_ex T
  obtain ⟨a, r, pt, hc⟩ := cutP_ex t
  by_cases hd : DecT T a r neg pt
  · exact decGet_yes s hs T t a r neg pt hT hTs hp hc hd w hM
  · exact decGet_no s hs T t a r neg pt hT hTs hp hc hd w hM
end Go.Proofs.YtcjjgdoafkdeaaaGreatDoor
