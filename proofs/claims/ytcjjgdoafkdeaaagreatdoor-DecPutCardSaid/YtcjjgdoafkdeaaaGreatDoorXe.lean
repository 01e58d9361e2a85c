/- Layer 5: 'a decimal of just so many places, if it is one', walked. -/
import Derived.Test.YtcjjgdoafkdeaaaGreatDoorWo
import Derived.Test.YtcjjgdoafkdeaaaGreatDoorWt
import Derived.Test.YtcjjgdoafkdeaaaGreatDoorXf
import Derived.Test.YtcjjgdoafkdeaaaGreatDoorWh
import Derived.Test.YtcjjgdoafkdeaaaGreatDoorWb
import Derived.Test.YtcjjgdoafkdeaaaGreatDoorQk
import Derived.Deep.DeepCutAuto
namespace Go.Proofs.YtcjjgdoafkdeaaaGreatDoor
open Go.RowKit Go.Extern.Stop Go.Stop Go.Extern Go.Sort
set_option linter.unusedVariables false
set_option linter.unusedSimpArgs false

/-- Whether a fraction is a decimal of so many places: by its own terms, and by others. -/
theorem put_plain (n : Int) (d g P : Nat) (hd : 0 < d) (hg : 0 < g) : (d * g / Nat.gcd (n.natAbs * g * P) (d * g) = 1 ↔ (n * (P : Int)).natAbs % d = 0) ∧ ((n * (P : Int)).natAbs % d = 0 → n.natAbs * g * P / Nat.gcd (n.natAbs * g * P) (d * g) = (n * (P : Int)).natAbs / d) := by
  rw [Int.natAbs_mul, Int.natAbs_natCast]
  have e1 : n.natAbs * g * P = n.natAbs * P * g := by rw [Nat.mul_assoc, Nat.mul_comm g P, ← Nat.mul_assoc]
  rw [e1, Nat.gcd_mul_right, Nat.mul_div_mul_right _ _ hg, Nat.mul_div_mul_right _ _ hg]
  generalize n.natAbs * P = a
  have hgp : 0 < Nat.gcd a d := Nat.gcd_pos_of_pos_right _ hd
  have key : a % d = 0 ↔ Nat.gcd a d = d := by
    constructor
    · intro h
      exact Nat.gcd_eq_right (Nat.dvd_of_mod_eq_zero h)
    · intro h
      have := Nat.gcd_dvd_left a d
      rw [h] at this
      exact Nat.mod_eq_zero_of_dvd this
  refine ⟨?_, fun h => by rw [key.1 h]⟩
  rw [key]
  constructor
  · intro h
    have := Nat.div_mul_cancel (Nat.gcd_dvd_right a d)
    rw [h, Nat.one_mul] at this
    exact this
  · intro h
    rw [h, Nat.div_self hd]
theorem q_stored (w4 W : World) (b : Nat) (hb : W.heap[b]? = some (.cells #[.bool false, .slice none 0 0, .slice none 0 0] 29 (0, 0))) (hs : w4.heap.size ≤ b) (hg : Gr w4 W) (x y z : Value) (N D : Nat) (hy : RN W y N) (hz : RN W z D) :
    Gr w4 (((W.setCell ⟨b, 0, none⟩ x).setCell ⟨b, 1, none⟩ y).setCell ⟨b, 2, none⟩ z) ∧ (((W.setCell ⟨b, 0, none⟩ x).setCell ⟨b, 1, none⟩ y).setCell ⟨b, 2, none⟩ z).cell? ⟨b, 0, none⟩ = some x ∧ (((W.setCell ⟨b, 0, none⟩ x).setCell ⟨b, 1, none⟩ y).setCell ⟨b, 2, none⟩ z).cell? ⟨b, 1, none⟩ = some y ∧ (((W.setCell ⟨b, 0, none⟩ x).setCell ⟨b, 1, none⟩ y).setCell ⟨b, 2, none⟩ z).cell? ⟨b, 2, none⟩ = some z ∧ RN (((W.setCell ⟨b, 0, none⟩ x).setCell ⟨b, 1, none⟩ y).setCell ⟨b, 2, none⟩ z) y N ∧ RN (((W.setCell ⟨b, 0, none⟩ x).setCell ⟨b, 1, none⟩ y).setCell ⟨b, 2, none⟩ z) z D := by
  obtain ⟨h1, h2, h3⟩ := three_set W b x y z _ _ _ (heap_cell hb 0) (heap_cell hb 1) (heap_cell hb 2) (fun n h => by cases h) (fun n h => by cases h) (fun n h => by cases h)
  exact ⟨h3 w4 hg hs, h1 0 _ rfl, h1 1 _ rfl, h1 2 _ rfl, h2 _ _ hy, h2 _ _ hz⟩
theorem q_new (w4 W : World) (hg : Gr w4 W) (x y z : Value) (N D : Nat) (hy : RN W y N) (hz : RN W z D) :
    Gr w4 (W.alloc (.cells #[x, y, z] 29)) ∧ (W.alloc (.cells #[x, y, z] 29)).cell? ⟨W.heap.size, 0, none⟩ = some x ∧ (W.alloc (.cells #[x, y, z] 29)).cell? ⟨W.heap.size, 1, none⟩ = some y ∧ (W.alloc (.cells #[x, y, z] 29)).cell? ⟨W.heap.size, 2, none⟩ = some z ∧ RN (W.alloc (.cells #[x, y, z] 29)) y N ∧ RN (W.alloc (.cells #[x, y, z] 29)) z D := by
  have hb := heap_alloc_new W (.cells #[x, y, z] 29)
  have hga : Gr W (W.alloc (.cells #[x, y, z] 29)) := gr_al (Gr.rf W)
  exact ⟨hg.tr hga, heap_cell hb 0, heap_cell hb 1, heap_cell hb 2, hy.gr hga, hz.gr hga⟩
set_option maxRecDepth 100000 in
set_option maxHeartbeats 16000000 in
theorem decPut_bad (s t : ByteArray) (neg : Bool) (p : Int) (hs : s.size ≤ 9223372036854775807) (ht : t.size ≤ 9223372036854775807) (hp : p < 0 ∨ 20 < p) (w : World) (hM : Met2 w) :
    Calls Tryz.prog 7 #[.string s, .string t, .bool neg, .int .i64 p] w fun e w' => e = .returned (.bool true) ∧ Gr w w' := by
  have HM := Lib.hid hM
  have HBG := Lib.hid (begun_met w hM)
  have HRC := Lib.hid (fun w hB => r_calls s t neg hs ht w hB)
  have HPN := Lib.hid (fun v w => put_noplace v p w hp)
  have hc : (decide (p < 0) = true) ∨ (decide (p < 0) = false ∧ decide (20 < p) = true) := by
    by_cases h : p < 0
    · exact .inl (decide_eq_true h)
    · exact .inr ⟨decide_eq_false h, decide_eq_true (by omega)⟩
  clear hM hs ht hp
  rcases hc with b1 | ⟨b1, b2⟩
  all_goals
    go_enter Tryz.func7, Tryz.ntmps7
    go_wp2_with (go_at_call 11; (with_reducible refine HBG.out.mono ?_); rintro ev w1 ⟨rfl, hg1⟩; have HG1 := Lib.hid hg1; clear hg1)
    have HR1 := Lib.hid (HRC.out w1 (HM.out.gr HG1.out).2.1)
    go_wp2_with fail
    refine HR1.out.mono ?_
    rintro ev w2 ⟨⟨bR, sb, vx, vy, n, d, X, Y, rfl, htw⟩, hg2⟩
    obtain ⟨aa, la, ca, rfl⟩ := rn_sl htw.2.1.1
    obtain ⟨ab, lb, cb, rfl⟩ := rn_sl htw.2.1.2
    have HG2 := Lib.hid (HG1.out.tr hg2)
    clear htw hg2
    go_wp2_with fail
    refine (HPN.out _ _).mono ?_
    rintro ev w3 ⟨rfl, hg3⟩
    have HG3 := Lib.hid (HG2.out.tr (Gr.tr (gr_al (Gr.rf w2)) hg3))
    clear hg3
    go_wp2
    go_ret
    exact ⟨by first | rfl | simp, HG3.out⟩
set_option maxRecDepth 100000 in
set_option maxHeartbeats 16000000 in
theorem decPut_go (s t : ByteArray) (neg : Bool) (p : Nat) (hs : s.size ≤ 9223372036854775807) (ht : t.size ≤ 9223372036854775807) (hp : p ≤ 20) (w : World) (hM : Met2 w) :
    Calls Tryz.prog 7 #[.string s, .string t, .bool neg, .int .i64 (p : Int)] w fun e w' => e = .returned (.bool true) ∧ Gr w w' := by
  have HM := Lib.hid hM
  have HBG := Lib.hid (begun_met w hM)
  have HRC := Lib.hid (fun w hB => r_calls s t neg hs ht w hB)
  have b0 : decide ((20 : Int) < (p : Int)) = false := decide_eq_false (by omega)
  have b0n : decide (20 < p) = false := decide_eq_false (by omega)
  have HP := Lib.hid hp
  clear hM hs ht hp
  go_enter Tryz.func7, Tryz.ntmps7
  go_wp2_with (go_at_call 11; (with_reducible refine HBG.out.mono ?_); rintro ev w1 ⟨rfl, hg1⟩; have HG1 := Lib.hid hg1; clear hg1)
  have HR1 := Lib.hid (HRC.out w1 (HM.out.gr HG1.out).2.1)
  go_wp2_with fail
  refine HR1.out.mono ?_
  rintro ev w2 ⟨⟨bR, sb, vx, vy, n, d, X, Y, rfl, htw⟩, hg2⟩
  obtain ⟨aa, la, ca, rfl⟩ := rn_sl htw.2.1.1
  obtain ⟨ab, lb, cb, rfl⟩ := rn_sl htw.2.1.2
  have hga : Gr w2 (w2.alloc (.cells #[.bool sb, .slice aa la ca, .slice ab lb cb] 29)) := gr_al (Gr.rf w2)
  have HG2 := Lib.hid (HG1.out.tr (hg2.tr hga))
  have HRA := Lib.hid (htw.1.gr hga)
  have HVV := Lib.hid (And.intro (htw.2.1.1.gr hga) (htw.2.1.2.gr hga))
  have HBK := Lib.hid (heap_alloc_new w2 (.cells #[.bool sb, .slice aa la ca, .slice ab lb cb] 29))
  have HTW := Lib.hid htw.2.2
  have HBN := Lib.hid (show n.natAbs ≤ X ∧ d ≤ Y ∧ X < Dg.D ^ 4 ∧ Y < Dg.D ^ 4 from by
    obtain ⟨g, hg, e1, e2⟩ := htw.2.2.2.2.1
    exact ⟨by rw [e1]; exact Nat.le_mul_of_pos_right _ hg, by rw [e2]; exact Nat.le_mul_of_pos_right _ hg, htw.2.2.2.2.2.1, htw.2.2.2.2.2.2⟩)
  clear htw hg2 hga
  have hput := fun w' (h : RatAt w' (.pointer (some ⟨bR, 0, none⟩)) n d) (hT : PowTab w') => put_calls (.pointer (some ⟨bR, 0, none⟩)) n d p w' h 4 (Nat.lt_of_le_of_lt HBN.out.1 (b_B HBN.out.2.2.1)) (Nat.lt_of_le_of_lt HBN.out.2.1 (b_B HBN.out.2.2.2)) (by decide) HP.out hT
  have HPUT := Lib.hid hput
  clear hput
  go_wp2_with fail
  generalize w2.alloc (.cells #[.bool sb, .slice aa la ca, .slice ab lb cb] 29) = w3 at *
  refine (HPUT.out w3 HRA.out (HM.out.gr HG2.out).2.2).mono ?_
  rintro ev w4 ⟨hpr, hg4⟩
  have HG4 := Lib.hid hg4
  obtain ⟨F, okb, rfl, hF⟩ : ∃ F okb, ev = .returned (.tuple #[.string F, .bool okb]) ∧ ((okb = true ∧ (n * ((10 ^ p : Nat) : Int)).natAbs % d = 0 ∧ F = ⟨(placedL (sgn (decide (n * ((10 ^ p : Nat) : Int) < 0)) ((n * ((10 ^ p : Nat) : Int)).natAbs / d)) p).toArray⟩) ∨ (okb = false ∧ (n * ((10 ^ p : Nat) : Int)).natAbs % d ≠ 0 ∧ F = ⟨#[]⟩)) := by
    by_cases hw : (n * ((10 ^ p : Nat) : Int)).natAbs % d = 0
    · exact ⟨_, _, hpr.1 hw, .inl ⟨rfl, hw, rfl⟩⟩
    · exact ⟨_, _, hpr.2 hw, .inr ⟨rfl, hw, rfl⟩⟩
  have HF := Lib.hid hF
  have HTX : Hid (∀ w', Gr w4 w' → (Gr w4 w' ∧ w'.cell? ⟨w2.heap.size, 0, none⟩ = some (.bool sb) ∧ w'.cell? ⟨w2.heap.size, 1, none⟩ = some (.slice aa la ca) ∧ w'.cell? ⟨w2.heap.size, 2, none⟩ = some (.slice ab lb cb))) := Lib.hid (fun w' hg => ⟨hg, heap_cell (hg.heap (HG4.out.heap HBK.out)) 0, heap_cell (hg.heap (HG4.out.heap HBK.out)) 1, heap_cell (hg.heap (HG4.out.heap HBK.out)) 2⟩)
  have HV4 := Lib.hid (And.intro (HVV.out.1.gr hg4) (HVV.out.2.gr hg4))
  have hT : 10 ^ p < Dg.D ^ 4 := Nat.lt_of_le_of_lt (Nat.pow_le_pow_right (by decide) HP.out) (by decide)
  have hXT : X * 10 ^ p < Dg.D ^ 8 := b_mul HBN.out.2.2.1 hT rfl
  have hY1 : Y * 1 = Y := Nat.mul_one Y
  obtain ⟨s1, hs1⟩ : ∃ s1, s1 = ((sb != false) && decide (0 < X * 10 ^ p)) := ⟨_, rfl⟩
  obtain ⟨s2, hs2⟩ : ∃ s2, s2 = (s1 && decide (0 < X * 10 ^ p / Nat.gcd (X * 10 ^ p) Y)) := ⟨_, rfl⟩
  have HO10 : Hid (∀ w', Calls Tryz.prog 27 #[.int .u64 10] w' fun e w2 => (∃ r, e = .returned r ∧ RN w2 r 10) ∧ Gr w' w2) := Lib.hid (fun w' => r_ofU 10 (by decide) w')
  have HO1 : Hid (∀ w', Calls Tryz.prog 27 #[.int .u64 1] w' fun e w2 => (∃ a l c, e = .returned (.slice a l c) ∧ RN w2 (.slice a l c) 1) ∧ Gr w' w2) := Lib.hid (fun w' => sl_of (r_ofU 1 (by decide) w'))
  have HPW : Hid (∀ w' x, RN w' x 10 → Calls Tryz.prog 26 #[x, .int .i64 (p : Int)] w' fun e w2 => (∃ a l c, e = .returned (.slice a l c) ∧ RN w2 (.slice a l c) (10 ^ p)) ∧ Gr w' w2) := Lib.hid (fun w' x h => sl_of (r_pow h p (k := 4) (by decide) (Nat.lt_of_lt_of_le (Nat.pow_lt_pow_right (by decide) (show p + 1 < 22 by have := HP.out; omega)) (by decide)) (by decide) (by decide) (by have := HP.out; omega)))
  have HPR : Hid (∀ w' x z, Gr w4 w' → RN w' x (10 ^ p) → RN w' z 1 → Calls Tryz.prog 25 #[.agg #[.bool sb, .slice aa la ca, .slice ab lb cb], .agg #[.bool false, x, z]] w' fun ev w2 => (∃ v v2, ev = .returned (.agg #[.bool s1, v, v2]) ∧ RN w2 v (X * 10 ^ p) ∧ RN w2 v2 Y) ∧ Gr w' w2) := Lib.hid (fun w' x z hg h1 h2 => by
    have h := rProd_calls sb false _ _ _ _ X (10 ^ p) Y 1 w' (HV4.out.1.gr hg) h1 (HV4.out.2.gr hg) h2 4 HBN.out.2.2.1 hT HBN.out.2.2.2 (by decide) (by decide)
    rw [hY1, ← hs1] at h
    exact h)
  have HLO : Hid (∀ w' v v2, RN w' v (X * 10 ^ p) → RN w' v2 Y → Calls Tryz.prog 36 #[.agg #[.bool s1, v, v2]] w' fun e w2 => (∃ a1 l1 c1 a2 l2 c2, e = .returned (.agg #[.bool s2, .slice a1 l1 c1, .slice a2 l2 c2]) ∧ RN w2 (.slice a1 l1 c1) (X * 10 ^ p / Nat.gcd (X * 10 ^ p) Y) ∧ RN w2 (.slice a2 l2 c2) (Y / Nat.gcd (X * 10 ^ p) Y)) ∧ Gr w' w2) := Lib.hid (fun w' v v2 h1 h2 => by
    have h := rLow_calls s1 v v2 (X * 10 ^ p) Y w' h1 h2 HTW.out.1 8 hXT (b_up HBN.out.2.2.2 (by decide)) (by decide)
    rw [← hs2] at h
    refine h.mono ?_
    rintro e w2 ⟨⟨xa, xb, rfl, hxa, hxb⟩, hg⟩
    obtain ⟨a1, l1, c1, rfl⟩ := rn_sl hxa
    obtain ⟨a2, l2, c2, rfl⟩ := rn_sl hxb
    exact ⟨⟨_, _, _, _, _, _, rfl, hxa, hxb⟩, hg⟩)
  have HS12 := Lib.hid (And.intro hs1 hs2)
  have hgd : Gr w4 w4.drew := Gr.drew (Gr.rf w4) 1
  clear hpr hg4 hF hT hXT hY1 hs1 hs2
  go_upto_region 8 with (fail)
  go_cut [14] (fun v wx => ∃ bb a1 l1 c1 a2 l2 c2, v = .pointer (some ⟨bb, 0, none⟩) ∧ Hid (Gr w4 wx ∧ wx.cell? ⟨bb, 0, none⟩ = some (.bool s2) ∧ wx.cell? ⟨bb, 1, none⟩ = some (.slice a1 l1 c1) ∧ wx.cell? ⟨bb, 2, none⟩ = some (.slice a2 l2 c2) ∧ RN wx (.slice a1 l1 c1) (X * 10 ^ p / Nat.gcd (X * 10 ^ p) Y) ∧ RN wx (.slice a2 l2 c2) (Y / Nat.gcd (X * 10 ^ p) Y)))
  case first =>
    go_region_held3 (fun w' => Gr w4 w' ∧ w'.cell? ⟨w2.heap.size, 0, none⟩ = some (.bool sb) ∧ w'.cell? ⟨w2.heap.size, 1, none⟩ = some (.slice aa la ca) ∧ w'.cell? ⟨w2.heap.size, 2, none⟩ = some (.slice ab lb cb))
      (first | exact HTX.out _ hgd | exact HTX.out _ (Gr.drew (gr_al (Gr.rf _)) 1) | exact HTX.out _ hs3 | exact HTX.out _ hs4 | exact HTX.out _ hs5 | exact HTX.out _ hs6 | exact HTX.out _ hs7 | exact HTX.out _ (gr_al hs3) | exact HTX.out _ (gr_al hs4) | exact HTX.out _ (gr_al hs5) | exact HTX.out _ (gr_al hs6) | exact HTX.out _ (gr_al hs7) | exact HTX.out _ hs8 | exact HTX.out _ (gr_al hs8) | exact HTX.out _ (Gr.setCell (Gr.setCell (Gr.setCell hs8 (by first | exact Nat.le_refl _ | exact hs3.size | exact hs4.size | exact hs5.size | exact hs6.size | exact hs7.size | exact hs8.size) _) (by first | exact Nat.le_refl _ | exact hs3.size | exact hs4.size | exact hs5.size | exact hs6.size | exact hs7.size | exact hs8.size) _) (by first | exact Nat.le_refl _ | exact hs3.size | exact hs4.size | exact hs5.size | exact hs6.size | exact hs7.size | exact hs8.size) _) | fail)
      (first
        | (go_at_call 27; go_split_ands; first | ((with_reducible refine (HO10.out _).mono ?_); rintro ev w3 ⟨⟨r3, rfl, hr3⟩, hg3⟩; have hs3 : Gr w4 w3 := Gr.tr (by assumption) hg3; (try (first | (have hb7 := hg3.heap hb7) | (have hb7 := hg3.heap (heap_alloc_new _ _)) | (have hb7 := hg3.heap (show (World.drew (World.alloc _ _)).heap[_]? = _ from heap_alloc_new _ _))))) | ((with_reducible refine (HO1.out _).mono ?_); rintro ev w5 ⟨⟨a5, l5, c5, rfl, hr5⟩, hg5⟩; have hs5 : Gr w4 w5 := Gr.tr (by assumption) hg5; (try (first | (have hb7 := hg5.heap hb7) | (have hb7 := hg5.heap (heap_alloc_new _ _)) | (have hb7 := hg5.heap (show (World.drew (World.alloc _ _)).heap[_]? = _ from heap_alloc_new _ _))))))
        | (go_at_call 26; go_split_ands; refine (HPW.out _ _ (hr3.gr (by (repeat' (first | exact Gr.rf _ | refine gr_al ?_ | refine Gr.tr ?_ hg3 | refine Gr.tr ?_ hg5 | refine Gr.tr ?_ hg6 | refine Gr.tr ?_ hg7 | refine Gr.tr ?_ hg8))))).mono ?_; rintro ev w6 ⟨⟨a6, l6, c6, rfl, hr6⟩, hg6⟩; have hs6 : Gr w4 w6 := Gr.tr (by assumption) hg6; (try (first | (have hb7 := hg6.heap hb7) | (have hb7 := hg6.heap (heap_alloc_new _ _)) | (have hb7 := hg6.heap (show (World.drew (World.alloc _ _)).heap[_]? = _ from heap_alloc_new _ _)))))
        | (go_at_call 25; go_split_ands; refine (HPR.out _ _ _ (by assumption) (hr6.gr (by (repeat' (first | exact Gr.rf _ | refine gr_al ?_ | refine Gr.tr ?_ hg3 | refine Gr.tr ?_ hg5 | refine Gr.tr ?_ hg6 | refine Gr.tr ?_ hg7 | refine Gr.tr ?_ hg8)))) (hr5.gr (by (repeat' (first | exact Gr.rf _ | refine gr_al ?_ | refine Gr.tr ?_ hg3 | refine Gr.tr ?_ hg5 | refine Gr.tr ?_ hg6 | refine Gr.tr ?_ hg7 | refine Gr.tr ?_ hg8))))).mono ?_; rintro ev w7 ⟨⟨v7, u7, rfl, hv7, hu7⟩, hg7⟩; have hs7 : Gr w4 w7 := Gr.tr (by assumption) hg7; (try (first | (have hb7 := hg7.heap hb7) | (have hb7 := hg7.heap (heap_alloc_new _ _)) | (have hb7 := hg7.heap (show (World.drew (World.alloc _ _)).heap[_]? = _ from heap_alloc_new _ _)))))
        | (go_at_call 36; go_split_ands; refine (HLO.out _ _ _ (hv7.gr (by (repeat' (first | exact Gr.rf _ | refine gr_al ?_ | refine Gr.tr ?_ hg3 | refine Gr.tr ?_ hg5 | refine Gr.tr ?_ hg6 | refine Gr.tr ?_ hg7 | refine Gr.tr ?_ hg8)))) (hu7.gr (by (repeat' (first | exact Gr.rf _ | refine gr_al ?_ | refine Gr.tr ?_ hg3 | refine Gr.tr ?_ hg5 | refine Gr.tr ?_ hg6 | refine Gr.tr ?_ hg7 | refine Gr.tr ?_ hg8))))).mono ?_; rintro ev w8 ⟨⟨x1, x2, x3, x4, x5, x6, rfl, hx1, hx2⟩, hg8⟩; have hs8 : Gr w4 w8 := Gr.tr (by assumption) hg8; (try (first | (have hb7 := hg8.heap hb7) | (have hb7 := hg8.heap (heap_alloc_new _ _)) | (have hb7 := hg8.heap (show (World.drew (World.alloc _ _)).heap[_]? = _ from heap_alloc_new _ _)))); (try (have q0 := heap_cell hb7 0; have q1 := heap_cell hb7 1; have q2 := heap_cell hb7 2; have p0 := heap_frz hb7 0; have p1 := heap_frz hb7 1; have p2 := heap_frz hb7 2))))
    all_goals
      go_wp2
      go_meet
      first
      | (obtain ⟨e1, e2, e3, e4, e5, e6⟩ := q_new w4 w8 hs8 (.bool s2) _ _ _ _ hx1 hx2; exact ⟨_, _, _, _, _, _, _, rfl, Lib.hid ⟨e1, e2, e3, e4, e5, e6⟩⟩)
      | (obtain ⟨e1, e2, e3, e4, e5, e6⟩ := q_stored w4 w8 _ hb7 (by first | exact Nat.le_refl _ | exact hs3.size | exact hs5.size | exact hs6.size | exact hs7.size) hs8 (.bool s2) _ _ _ _ hx1 hx2; exact ⟨_, _, _, _, _, _, _, rfl, Lib.hid ⟨e1, e2, e3, e4, e5, e6⟩⟩)
  case rest =>
    obtain ⟨bb, a1, l1, c1, a2, l2, c2, rfl, HW⟩ := hcut
    have hD1b : Y / Nat.gcd (X * 10 ^ p) Y < Dg.D ^ 4 := b_div HBN.out.2.2.2
    have hN1b : X * 10 ^ p / Nat.gcd (X * 10 ^ p) Y < Dg.D ^ 8 := b_div (b_mul HBN.out.2.2.1 (Nat.lt_of_le_of_lt (Nat.pow_le_pow_right (by decide) HP.out) (show 10 ^ 20 < Dg.D ^ 4 by decide)) rfl)
    have hD10 : 0 < Y / Nat.gcd (X * 10 ^ p) Y := Nat.div_pos (Nat.gcd_le_right _ HTW.out.1) (Nat.gcd_pos_of_pos_right _ HTW.out.1)
    have hpl : (Y / Nat.gcd (X * 10 ^ p) Y = 1 ↔ (n * ((10 ^ p : Nat) : Int)).natAbs % d = 0) ∧ ((n * ((10 ^ p : Nat) : Int)).natAbs % d = 0 → X * 10 ^ p / Nat.gcd (X * 10 ^ p) Y = (n * ((10 ^ p : Nat) : Int)).natAbs / d) := by
      obtain ⟨g, hg, e1, e2⟩ := HTW.out.2.2.1
      rw [e1, e2]
      exact put_plain n d g (10 ^ p) HRA.out.pos hg
    have hs2 : s2 = (decide (n * ((10 ^ p : Nat) : Int) < 0) && decide (0 < X * 10 ^ p / Nat.gcd (X * 10 ^ p) Y)) := by
      rw [HS12.out.2, HS12.out.1, neg_mul_ten n _ (Nat.pow_pos (by decide)), ← HTW.out.2.1]
      rcases Nat.eq_zero_or_pos (X * 10 ^ p) with h0 | h0
      · rw [h0, Nat.zero_div]; cases sb <;> rfl
      · rw [decide_eq_true h0]; cases sb <;> rfl
    have hgdc : Gr wc wc.drew := Gr.drew (Gr.rf wc) 1
    have HTC : Hid (∀ w', Gr wc w' → (Gr wc w' ∧ w'.cell? ⟨bb, 2, none⟩ = some (.slice a2 l2 c2))) := Lib.hid (fun w' hg => ⟨hg, hg.cell (World.block_lt_of_cell? wc _ HW.out.2.2.2.1) |>.trans HW.out.2.2.2.1⟩)
    generalize Y / Nat.gcd (X * 10 ^ p) Y = D1 at *
    generalize X * 10 ^ p / Nat.gcd (X * 10 ^ p) Y = N1 at *
    have HCM : Hid (∀ w' x (z : Int), cmpN D1 1 = z → Gr wc w' → RN w' x 1 → Calls Tryz.prog 37 #[.slice a2 l2 c2, x] w' fun e w2 => e = .returned (.int .i64 z) ∧ Gr w' w2) := Lib.hid (fun w' x z hz hg hx => r_cmp (k := 4) (HW.out.2.2.2.2.2.gr hg) hx hD1b (b_one (by decide)) (by decide) hz)
    have HPL := Lib.hid hpl
    have HBB := Lib.hid (And.intro hN1b (And.intro hD10 hs2))
    clear hD1b hN1b hD10 hpl hs2
    rcases HF.out with ⟨rfl, hw, hFe⟩ | ⟨rfl, hw, hFe⟩
    · have HZ : Hid (cmpN D1 1 = 0) := Lib.hid (by rw [HPL.out.1.2 hw]; exact cmpN_eq 1)
      have HFE : Hid (F = ⟨(if s2 then 45 :: pointL (padL (Lib.decDigits N1) p) p else pointL (padL (Lib.decDigits N1) p) p).toArray⟩) := Lib.hid (by
        rw [hFe, ← HPL.out.2 hw, placed_sgn, ← HBB.out.2.2])
      clear hw hFe
      go_wp2_with fail
      go_region_held3 (fun w' => Gr wc w' ∧ w'.cell? ⟨bb, 2, none⟩ = some (.slice a2 l2 c2))
        (first | exact HTC.out _ hgdc | exact HTC.out _ hs9 | exact HTC.out _ hs10 | fail)
        (first
          | (go_at_call 27; go_split_ands; refine (HO1.out _).mono ?_; rintro ev w9 ⟨⟨a9, l9, c9, rfl, hr9⟩, hg9⟩; have hs9 : Gr wc w9 := Gr.tr (by assumption) hg9)
          | (go_at_call 37; go_split_ands; refine (HCM.out _ _ _ HZ.out (by assumption) hr9).mono ?_; rintro ev w10 ⟨rfl, hg10⟩; have hs10 : Gr wc w10 := Gr.tr (by assumption) hg10))
      have HS10 := Lib.hid hs10
      have k0 := (hs10.cell (World.block_lt_of_cell? wc _ HW.out.2.1)).trans HW.out.2.1
      have k1 := (hs10.cell (World.block_lt_of_cell? wc _ HW.out.2.2.1)).trans HW.out.2.2.1
      have hdec := rDec_calls s2 (.slice a1 l1 c1) N1 p w10 (HW.out.2.2.2.2.1.gr hs10) 8 HBB.out.1 (by decide) HP.out
      rw [← HFE.out] at hdec
      have HDEC := Lib.hid hdec
      clear hs9 hg9 hr9 hs10 hg10 hdec
      go_wp2_with fail
      refine HDEC.out.mono ?_
      rintro ev w11 ⟨rfl, hg11⟩
      have HG11 := Lib.hid (HG2.out.tr (HG4.out.tr (HW.out.1.tr (HS10.out.tr hg11))))
      clear hg11
      go_wp2
      go_ret
      exact ⟨by first | rfl | simp, HG11.out⟩
    · have HZ : Hid (cmpN D1 1 = 1) := Lib.hid (cmpN_gt (by
        have h1 := HBB.out.2.1
        rcases Nat.lt_or_ge 1 D1 with h2 | h2
        · exact h2
        · exact absurd (HPL.out.1.1 (by omega)) hw))
      subst hFe
      clear hw
      go_wp2_with fail
      go_region_held3 (fun w' => Gr wc w' ∧ w'.cell? ⟨bb, 2, none⟩ = some (.slice a2 l2 c2))
        (first | exact HTC.out _ hgdc | exact HTC.out _ hs9 | exact HTC.out _ hs10 | fail)
        (first
          | (go_at_call 27; go_split_ands; refine (HO1.out _).mono ?_; rintro ev w9 ⟨⟨a9, l9, c9, rfl, hr9⟩, hg9⟩; have hs9 : Gr wc w9 := Gr.tr (by assumption) hg9)
          | (go_at_call 37; go_split_ands; refine (HCM.out _ _ _ HZ.out (by assumption) hr9).mono ?_; rintro ev w10 ⟨rfl, hg10⟩; have hs10 : Gr wc w10 := Gr.tr (by assumption) hg10))
      have HG11 := Lib.hid (HG2.out.tr (HG4.out.tr (HW.out.1.tr hs10)))
      clear hs9 hg9 hr9 hs10 hg10
      go_wp2
      go_ret
      exact ⟨by first | rfl | simp, HG11.out⟩
theorem decPut_calls (s t : ByteArray) (neg : Bool) (p : Int) (hs : s.size ≤ 9223372036854775807) (ht : t.size ≤ 9223372036854775807) (p0 : -9223372036854775808 ≤ p) (p1 : p ≤ 9223372036854775807) (w : World) (hM : Met2 w) :
    Calls Tryz.prog 7 #[.string s, .string t, .bool neg, .int .i64 p] w fun e w' => e = .returned (.bool true) ∧ Gr w w' := by
  by_cases h : p < 0 ∨ 20 < p
  · exact decPut_bad s t neg p hs ht h w hM
  · obtain ⟨q, rfl⟩ : ∃ q : Nat, p = (q : Int) := ⟨p.toNat, by omega⟩
    exact decPut_go s t neg q hs ht (by omega) w hM
end Go.Proofs.YtcjjgdoafkdeaaaGreatDoor
