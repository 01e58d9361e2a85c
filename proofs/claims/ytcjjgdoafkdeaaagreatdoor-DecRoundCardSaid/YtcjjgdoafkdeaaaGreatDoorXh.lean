/- Layer 5: 'a fraction rounded, by each mode', walked. -/
import Derived.Test.YtcjjgdoafkdeaaaGreatDoorWp
import Derived.Test.YtcjjgdoafkdeaaaGreatDoorWt
import Derived.Test.YtcjjgdoafkdeaaaGreatDoorXc
import Derived.Test.YtcjjgdoafkdeaaaGreatDoorXg
import Derived.Test.YtcjjgdoafkdeaaaGreatDoorQk
namespace Go.Proofs.YtcjjgdoafkdeaaaGreatDoor
open Go.RowKit Go.Extern.Stop Go.Stop Go.Extern Go.Sort
set_option linter.unusedVariables false
set_option linter.unusedSimpArgs false

theorem round_same (n : Int) (d g P : Nat) (m : Int) (hd : 0 < d) (hg : 0 < g) (hP : 0 < P) : sgn (decide (n < 0) && decide (0 < n.natAbs * g * P)) (roundN (n.natAbs * g * P) (d * g) m) = sgn (decide (n * (P : Int) < 0)) (roundN (n * (P : Int)).natAbs d m) := by
  have e1 : n.natAbs * g * P = n.natAbs * P * g := by rw [Nat.mul_assoc, Nat.mul_comm g P, ← Nat.mul_assoc]
  have e2 : (n * (P : Int)).natAbs = n.natAbs * P := by rw [Int.natAbs_mul, Int.natAbs_natCast]
  rw [neg_mul_ten n P hP, e2]
  rcases Nat.eq_zero_or_pos n.natAbs with h0 | h0
  · simp only [h0, Nat.zero_mul]
    rw [roundN_nought _ m (Nat.mul_pos hd hg), roundN_nought _ m hd]
    have : n = 0 := by omega
    subst this; rfl
  · rw [e1, roundN_scale _ _ _ m hg, decide_eq_true (Nat.mul_pos (Nat.mul_pos h0 hP) hg), Bool.and_true]
theorem near_same (n : Int) (d g : Nat) (m : Int) (hg : 0 < g) : sgn (decide (n < 0) && decide (0 < roundN (n.natAbs * g) (d * g) m)) (roundN (n.natAbs * g) (d * g) m) = sgn (decide (n < 0)) (roundN n.natAbs d m) := by
  rw [roundN_scale _ _ _ m hg]
  rcases Nat.eq_zero_or_pos (roundN n.natAbs d m) with h0 | h0
  · rw [h0]; cases decide (n < 0) <;> rfl
  · rw [decide_eq_true h0, Bool.and_true]
/-- What a decimal that was read back is worth. -/
theorem dec_val (Z : Int) (P : Nat) (hP : 0 < P) (nb : Int) (db : Nat) (h1 : nb = sgn (decide (Z < 0)) (Z.natAbs / Nat.gcd Z.natAbs P)) (h2 : db = P / Nat.gcd Z.natAbs P) : nb * (P : Int) = Z * (db : Int) ∧ 0 < db ∧ nb.natAbs ≤ Z.natAbs ∧ db ≤ P ∧ (nb = 0 ∨ nb.sign = Z.sign) := by
  subst h1 h2
  have hg : 0 < Nat.gcd Z.natAbs P := Nat.gcd_pos_of_pos_right _ hP
  have e1 := Nat.div_mul_cancel (Nat.gcd_dvd_left Z.natAbs P)
  have e2 := Nat.div_mul_cancel (Nat.gcd_dvd_right Z.natAbs P)
  have hdb : 0 < P / Nat.gcd Z.natAbs P := Nat.div_pos (Nat.gcd_le_right _ hP) hg
  have hZ := sgn_self Z
  refine ⟨?_, hdb, by rw [sgn_abs]; exact Nat.div_le_self _ _, Nat.div_le_self _ _, ?_⟩
  · have key0 : ∀ (N P g : Nat), N / g * g = N → P / g * g = P → N / g * P = N * (P / g) := fun N P g h1 h2 => by
      calc N / g * P = N / g * (P / g * g) := by rw [h2]
        _ = N / g * g * (P / g) := by ac_rfl
        _ = N * (P / g) := by rw [h1]
    have key2 : ((Z.natAbs / Nat.gcd Z.natAbs P : Nat) : Int) * (P : Int) = (Z.natAbs : Int) * ((P / Nat.gcd Z.natAbs P : Nat) : Int) := by
      rw [← Int.natCast_mul, key0 _ _ _ e1 e2, Int.natCast_mul]
    by_cases h : Z < 0
    · rw [decide_eq_true h]
      show -((_ : Nat) : Int) * (P : Int) = _
      rw [Int.neg_mul, key2, ← Int.neg_mul]
      congr 1
      omega
    · rw [decide_eq_false h]
      show ((_ : Nat) : Int) * (P : Int) = _
      rw [key2]
      congr 1
      omega
  · rcases Nat.eq_zero_or_pos Z.natAbs with h0 | h0
    · left; rw [h0, Nat.zero_div]; cases decide (Z < 0) <;> rfl
    · have hq : 0 < Z.natAbs / Nat.gcd Z.natAbs P := Nat.div_pos (Nat.gcd_le_left _ h0) hg
      right
      by_cases h : Z < 0
      · rw [decide_eq_true h, Int.sign_eq_neg_one_of_neg h, Int.sign_eq_neg_one_of_neg (by show -((_ : Nat) : Int) < 0; omega)]
      · rw [decide_eq_false h, Int.sign_eq_one_of_pos (show 0 < Z by omega), Int.sign_eq_one_of_pos (by show 0 < ((_ : Nat) : Int); omega)]
theorem z_sign (n : Int) (P R : Nat) (hP : 0 < P) (hR : n = 0 → R = 0) : sgn (decide (n * (P : Int) < 0)) R = 0 ∨ (sgn (decide (n * (P : Int) < 0)) R).sign = n.sign := by
  rw [neg_mul_ten n P hP]
  rcases Nat.eq_zero_or_pos R with h0 | h0
  · left; rw [h0]; cases decide (n < 0) <;> rfl
  · right
    by_cases h : n < 0
    · rw [decide_eq_true h, Int.sign_eq_neg_one_of_neg h, Int.sign_eq_neg_one_of_neg (by show -((_ : Nat) : Int) < 0; omega)]
    · have hn : n ≠ 0 := fun e => by have := hR e; omega
      rw [decide_eq_false h, Int.sign_eq_one_of_pos (show 0 < n by omega), Int.sign_eq_one_of_pos (by show 0 < ((_ : Nat) : Int); omega)]
theorem round_bd57 (n : Int) (X d p : Nat) (m : Int) (hX : X < Dg.D ^ 4) (hn : n.natAbs ≤ X) (hp : p ≤ 20) (b : Bool) : (sgn b (roundN (n * ((10 ^ p : Nat) : Int)).natAbs d m)).natAbs < 10 ^ 57 := by
  rw [sgn_abs, Int.natAbs_mul, Int.natAbs_natCast]
  refine Nat.lt_of_le_of_lt (roundN_le _ _ _) ?_
  have h1 : n.natAbs * 10 ^ p ≤ Dg.D ^ 4 * 10 ^ 20 := Nat.mul_le_mul (by omega) (Nat.pow_le_pow_right (by decide) hp)
  have h2 : Dg.D ^ 4 * 10 ^ 20 + 1 < 10 ^ 57 := by decide
  omega
set_option maxRecDepth 100000 in
set_option maxHeartbeats 16000000 in
theorem decRound_bad1 (s t : ByteArray) (neg : Bool) (p m : Int) (hs : s.size ≤ 9223372036854775807) (ht : t.size ≤ 9223372036854775807) (hp : p < 0 ∨ 20 < p) (w : World) (hM : Met2 w) :
    Calls Tryz.prog 5 #[.string s, .string t, .bool neg, .int .i64 p, .int .i64 m] w fun e w' => e = .returned (.bool true) ∧ Gr w w' := by
  have HM := Lib.hid hM
  have HBG := Lib.hid (begun_met w hM)
  have HRC := Lib.hid (fun w hB => r_calls s t neg hs ht w hB)
  have HPN := Lib.hid (fun v w => round_noplace v p m w hp)
  have hc : (decide (p < 0) = true) ∨ (decide (p < 0) = false ∧ decide (20 < p) = true) := by
    by_cases h : p < 0
    · exact .inl (decide_eq_true h)
    · exact .inr ⟨decide_eq_false h, decide_eq_true (by omega)⟩
  clear hM hs ht hp
  rcases hc with b1 | ⟨b1, b2⟩
  all_goals
    go_enter Tryz.func5, Tryz.ntmps5
    go_wp2_with (go_at_call 11; (with_reducible refine HBG.out.mono ?_); rintro ev w1 ⟨rfl, hg1⟩; have HG1 := Lib.hid hg1; clear hg1)
    have HR1 := Lib.hid (HRC.out w1 (HM.out.gr HG1.out).2.1)
    go_wp2_with fail
    refine HR1.out.mono ?_
    rintro ev w2 ⟨⟨bR, sb, vx, vy, n, d, X, Y, rfl, htw⟩, hg2⟩
    obtain ⟨aa, la, ca, rfl⟩ := rn_sl htw.2.1.1
    obtain ⟨ab, lb, cb, rfl⟩ := rn_sl htw.2.1.2
    have HG2 := Lib.hid (HG1.out.tr hg2)
    clear htw hg2
    go_wp2_with fail
    refine (HPN.out _ _).mono ?_
    rintro ev w3 ⟨rfl, hg3⟩
    have HG3 := Lib.hid (HG2.out.tr (Gr.tr (gr_al (Gr.rf w2)) hg3))
    have HSO := Lib.hid (same_own 2 w3 (HM.out.gr HG3.out).1)
    clear hg3
    go_wp2_with (go_at_call 20; (with_reducible refine HSO.out.mono ?_); rintro ev w4 ⟨rfl, hg4⟩)
    go_ret
    exact ⟨by first | rfl | simp, HG3.out.tr hg4⟩
set_option maxRecDepth 100000 in
set_option maxHeartbeats 16000000 in
theorem decRound_bad2 (s t : ByteArray) (neg : Bool) (p m : Int) (hs : s.size ≤ 9223372036854775807) (ht : t.size ≤ 9223372036854775807) (hp0 : 0 ≤ p) (hp1 : p ≤ 20) (hm : m < 1 ∨ 3 < m) (w : World) (hM : Met2 w) :
    Calls Tryz.prog 5 #[.string s, .string t, .bool neg, .int .i64 p, .int .i64 m] w fun e w' => e = .returned (.bool true) ∧ Gr w w' := by
  have HM := Lib.hid hM
  have HBG := Lib.hid (begun_met w hM)
  have HRC := Lib.hid (fun w hB => r_calls s t neg hs ht w hB)
  have HPN := Lib.hid (fun v w => round_nomode v p m w hp0 hp1 hm)
  have b8 : decide (p < 0) = false := decide_eq_false (by omega)
  have b9 : decide (20 < p) = false := decide_eq_false (by omega)
  have hc : (decide (m < 1) = true) ∨ (decide (m < 1) = false ∧ decide (3 < m) = true) := by
    by_cases h : m < 1
    · exact .inl (decide_eq_true h)
    · exact .inr ⟨decide_eq_false h, decide_eq_true (by omega)⟩
  clear hM hs ht hp0 hp1 hm
  rcases hc with b1 | ⟨b1, b2⟩
  all_goals
    go_enter Tryz.func5, Tryz.ntmps5
    go_wp2_with (go_at_call 11; (with_reducible refine HBG.out.mono ?_); rintro ev w1 ⟨rfl, hg1⟩; have HG1 := Lib.hid hg1; clear hg1)
    have HR1 := Lib.hid (HRC.out w1 (HM.out.gr HG1.out).2.1)
    go_wp2_with fail
    refine HR1.out.mono ?_
    rintro ev w2 ⟨⟨bR, sb, vx, vy, n, d, X, Y, rfl, htw⟩, hg2⟩
    obtain ⟨aa, la, ca, rfl⟩ := rn_sl htw.2.1.1
    obtain ⟨ab, lb, cb, rfl⟩ := rn_sl htw.2.1.2
    have HG2 := Lib.hid (HG1.out.tr hg2)
    clear htw hg2
    go_wp2_with fail
    refine (HPN.out _ _).mono ?_
    rintro ev w3 ⟨rfl, hg3⟩
    have HG3 := Lib.hid (HG2.out.tr (Gr.tr (gr_al (Gr.rf w2)) hg3))
    have HSO := Lib.hid (same_own 1 w3 (HM.out.gr HG3.out).1)
    clear hg3
    go_wp2_with (go_at_call 20; (with_reducible refine HSO.out.mono ?_); rintro ev w4 ⟨rfl, hg4⟩)
    go_ret
    exact ⟨by first | rfl | simp, HG3.out.tr hg4⟩
set_option maxRecDepth 100000 in
set_option maxHeartbeats 16000000 in
theorem decRound_trunc (s t : ByteArray) (neg : Bool) (p : Nat) (hs : s.size ≤ 9223372036854775807) (ht : t.size ≤ 9223372036854775807) (hp : p ≤ 20) (w : World) (hM : Met2 w) :
    Calls Tryz.prog 5 #[.string s, .string t, .bool neg, .int .i64 (p : Int), .int .i64 3] w fun e w' => e = .returned (.bool true) ∧ Gr w w' := by
  have HM := Lib.hid hM
  have HBG := Lib.hid (begun_met w hM)
  have HRC := Lib.hid (fun w hB => r_calls s t neg hs ht w hB)
  have hm : (3 : Int) = 1 ∨ (3 : Int) = 2 ∨ (3 : Int) = 3 := by decide
  have b0 : decide ((20 : Int) < (p : Int)) = false := decide_eq_false (by omega)
  have b0n : decide (20 < p) = false := decide_eq_false (by omega)
  have HP := Lib.hid hp
  have HMM := Lib.hid hm
  have hP0 : 0 < 10 ^ p := Nat.pow_pos (by decide)
  have HP0 := Lib.hid hP0
  clear hM hs ht hp hm hP0
  go_enter Tryz.func5, Tryz.ntmps5
  go_wp2_with (go_at_call 11; (with_reducible refine HBG.out.mono ?_); rintro ev w1 ⟨rfl, hg1⟩; have HG1 := Lib.hid hg1; clear hg1)
  have HR1 := Lib.hid (HRC.out w1 (HM.out.gr HG1.out).2.1)
  go_wp2_with fail
  refine HR1.out.mono ?_
  rintro ev w2 ⟨⟨bR, sb, vx, vy, n, d, X, Y, rfl, htw⟩, hg2⟩
  obtain ⟨aa, la, ca, rfl⟩ := rn_sl htw.2.1.1
  obtain ⟨ab, lb, cb, rfl⟩ := rn_sl htw.2.1.2
  have hga : Gr w2 (w2.alloc (.cells #[.bool sb, .slice aa la ca, .slice ab lb cb] 29)) := gr_al (Gr.rf w2)
  have HG2 := Lib.hid (HG1.out.tr (hg2.tr hga))
  have HRA := Lib.hid (htw.1.gr hga)
  have HVV := Lib.hid (And.intro (htw.2.1.1.gr hga) (htw.2.1.2.gr hga))
  have HBK := Lib.hid (heap_alloc_new w2 (.cells #[.bool sb, .slice aa la ca, .slice ab lb cb] 29))
  have HTW := Lib.hid htw.2.2
  have HBN := Lib.hid (show n.natAbs ≤ X ∧ d ≤ Y ∧ X < Dg.D ^ 4 ∧ Y < Dg.D ^ 4 from by
    obtain ⟨g, hg, e1, e2⟩ := htw.2.2.2.2.1
    exact ⟨by rw [e1]; exact Nat.le_mul_of_pos_right _ hg, by rw [e2]; exact Nat.le_mul_of_pos_right _ hg, htw.2.2.2.2.2.1, htw.2.2.2.2.2.2⟩)
  clear htw hg2 hga
  obtain ⟨Z, hZ⟩ : ∃ Z, Z = sgn (decide (n * ((10 ^ p : Nat) : Int) < 0)) (roundN (n * ((10 ^ p : Nat) : Int)).natAbs d 3) := ⟨_, rfl⟩
  obtain ⟨U, hU⟩ : ∃ U, U = sgn (decide (n < 0)) (roundN n.natAbs d 3) := ⟨_, rfl⟩
  have hzb : Z.natAbs < 10 ^ 57 := by rw [hZ]; exact round_bd57 n X d p 3 HBN.out.2.2.1 HBN.out.1 HP.out _
  obtain ⟨F, hF⟩ : ∃ F : ByteArray, F = ⟨(placedL Z p).toArray⟩ := ⟨_, rfl⟩
  have hr4 := fun w' (h : RatAt w' (.pointer (some ⟨bR, 0, none⟩)) n d) (hT : PowTab w') => roundG_calls (.pointer (some ⟨bR, 0, none⟩)) n d p 3 w' h 4 (Nat.lt_of_le_of_lt HBN.out.1 (b_B HBN.out.2.2.1)) (Nat.lt_of_le_of_lt HBN.out.2.1 (b_B HBN.out.2.2.2)) (by decide) HP.out (Or.inr (Or.inr rfl)) hT
  rw [← hZ, ← hF] at hr4
  have HR4 := Lib.hid hr4
  have hrr := fun w' (hg : Gr _ w') => rRound_calls sb (.slice aa la ca) (.slice ab lb cb) X Y p 3 w' (HVV.out.1.gr hg) (HVV.out.2.gr hg) HBN.out.2.2.1 HBN.out.2.2.2 HTW.out.1 HP.out (Or.inr (Or.inr rfl))
  have hre : sgn (sb && decide (0 < X * 10 ^ p)) (roundN (X * 10 ^ p) Y 3) = Z := by
    obtain ⟨g, hg, e1, e2⟩ := HTW.out.2.2.1
    rw [HTW.out.2.1, e1, e2, hZ]
    exact round_same n d g (10 ^ p) 3 HRA.out.pos hg HP0.out
  rw [hre, ← hF] at hrr
  have HRR := Lib.hid hrr
  have hun := fun w' (h : RatAt w' (.pointer (some ⟨bR, 0, none⟩)) n d) => unitsG_calls (.pointer (some ⟨bR, 0, none⟩)) n d 3 w' h 5 (by have := HBN.out.1; have := HBN.out.2.2.1; exact Nat.lt_of_le_of_lt (show n.natAbs + 1 ≤ Dg.D ^ 4 by omega) (by decide)) (Nat.lt_of_lt_of_le (show d * 2 < Dg.D ^ 4 * 2 by have := HBN.out.2.1; have := HBN.out.2.2.2; omega) (by decide)) (by decide) (by decide) (Or.inr (Or.inr rfl))
  rw [← hU] at hun
  have HUN := Lib.hid hun
  have hne := fun w' (hg : Gr _ w') => rNear_calls sb (.slice aa la ca) (.slice ab lb cb) X Y 3 w' (HVV.out.1.gr hg) (HVV.out.2.gr hg) 4 HBN.out.2.2.1 HBN.out.2.2.2 (by decide) HTW.out.1 (Or.inr (Or.inr rfl))
  obtain ⟨R0, hR0⟩ : ∃ R0, R0 = roundN X Y 3 := ⟨_, rfl⟩
  obtain ⟨s2, hs2⟩ : ∃ s2, s2 = (sb && decide (0 < R0)) := ⟨_, rfl⟩
  rw [← hR0, ← hs2] at hne
  have hRb : R0 < Dg.D ^ 5 := by rw [hR0]; exact Nat.lt_of_le_of_lt (roundN_le _ _ _) (b_add HBN.out.2.2.1 (b_one (by decide)) rfl)
  have hsU : sgn s2 R0 = U := by
    obtain ⟨g, hg, e1, e2⟩ := HTW.out.2.2.1
    rw [hs2, hR0, HTW.out.2.1, e1, e2, hU]
    exact near_same n d g 3 hg
  have hsm := fun (v : Value) w' (h : RN w' v R0) => rSmallI_calls s2 v R0 w' h 5 hRb (by decide) (fun h => by rw [hs2, Bool.and_eq_true, decide_eq_true_eq] at h; exact h.2)
  rw [hsU] at hsm
  have HSM := Lib.hid hsm
  have HNE := Lib.hid hne
  obtain ⟨zt, za, zr, zpt, zp, zc, zd, zs, zv⟩ := dec_back Z p HP.out hzb
  rw [← hF] at zp zd
  have hlen : F.size ≤ 60 := zd.1
  obtain ⟨nb, hnb⟩ : ∃ nb, nb = sgn (decide (Z < 0)) (Z.natAbs / Nat.gcd Z.natAbs (10 ^ p)) := ⟨_, rfl⟩
  obtain ⟨db, hdb⟩ : ∃ db, db = 10 ^ p / Nat.gcd Z.natAbs (10 ^ p) := ⟨_, rfl⟩
  have hget := fun w' hB => decGet_calls F zt za zr _ zpt (by omega) zp zc w' hB
  rw [zv, zs, ← hnb, ← hdb] at hget
  have HGET := Lib.hid hget
  have HZD := Lib.hid zd
  have hdv := dec_val Z (10 ^ p) HP0.out nb db hnb hdb
  have HDV := Lib.hid hdv
  have hgap := round_gap (n * ((10 ^ p : Nat) : Int)).natAbs d 3 HRA.out.pos (Or.inr (Or.inr rfl))
  have hga2 := gap_abs (n * ((10 ^ p : Nat) : Int)) d (roundN (n * ((10 ^ p : Nat) : Int)).natAbs d 3)
  rw [← hZ] at hga2
  have HGAP := Lib.hid (And.intro (hgap.1 rfl) hga2)
  have HZS := Lib.hid (show Z = 0 ∨ Z.sign = n.sign from by
    rw [hZ]
    exact z_sign n (10 ^ p) _ HP0.out (fun e => by subst e; rw [Int.zero_mul]; exact roundN_nought _ _ HRA.out.pos))
  have HNB := Lib.hid (show nb.natAbs < B ^ 4 ∧ db < B ^ 4 ∧ n.natAbs < B ^ 4 ∧ d < B ^ 4 ∧ 10 ^ p < B ^ 4 from ⟨Nat.lt_of_le_of_lt hdv.2.2.1 (Nat.lt_of_lt_of_le hzb (by decide)), Nat.lt_of_le_of_lt hdv.2.2.2.1 (b_upB (ten_B2 p HP.out) (by decide)), Nat.lt_of_le_of_lt HBN.out.1 (b_B HBN.out.2.2.1), Nat.lt_of_le_of_lt HBN.out.2.1 (b_B HBN.out.2.2.2), b_upB (ten_B2 p HP.out) (by decide)⟩)
  generalize hRM : roundN (n * ((10 ^ p : Nat) : Int)).natAbs d 3 = RM at *
  clear hZ hU hzb hF hr4 hrr hre hun hne hR0 hs2 hRb hsU hsm zp zc zd zs zv hlen hnb hdb hget hdv hgap hga2 hRM
  have HRD := Lib.hid (HR4.out _ HRA.out (HM.out.gr HG2.out).2.2)
  go_wp2_with fail
  have HC0 : Hid (∀ w', Gr (w2.alloc (.cells #[.bool sb, .slice aa la ca, .slice ab lb cb] 29)) w' → w'.cell? ⟨w2.heap.size, 0, none⟩ = some (.bool sb) ∧ w'.cell? ⟨w2.heap.size, 1, none⟩ = some (.slice aa la ca) ∧ w'.cell? ⟨w2.heap.size, 2, none⟩ = some (.slice ab lb cb)) := Lib.hid (fun w' hg => ⟨heap_cell (hg.heap HBK.out) 0, heap_cell (hg.heap HBK.out) 1, heap_cell (hg.heap HBK.out) 2⟩)
  generalize w2.alloc (.cells #[.bool sb, .slice aa la ca, .slice ab lb cb] 29) = w3 at *
  refine HRD.out.mono ?_
  rintro ev w4 ⟨rfl, hg4⟩
  have HG4 := Lib.hid hg4
  obtain ⟨c0, c1, c2⟩ := HC0.out _ hg4
  have HRR4 := Lib.hid (HRR.out w4 hg4)
  clear hg4
  go_wp2_with fail
  refine HRR4.out.mono ?_
  rintro ev w5 ⟨rfl, hg5⟩
  have HG5 := Lib.hid (HG4.out.tr hg5)
  clear hg5 c0 c1 c2
  have HUN5 := Lib.hid (HUN.out w5 (HRA.out.gr HG5.out))
  go_wp2_with fail
  refine HUN5.out.mono ?_
  rintro ev w6 ⟨hun, hg6⟩
  have HG6 := Lib.hid (HG5.out.tr hg6)
  have HUN6 := Lib.hid hun
  obtain ⟨c0, c1, c2⟩ := HC0.out _ HG6.out
  have HNE6 := Lib.hid (HNE.out w6 HG6.out)
  clear hg6 hun
  by_cases hin : -9223372036854775808 ≤ U ∧ U ≤ 9223372036854775807
  case' pos =>
    obtain rfl := HUN6.out.1 hin
    have HIN := Lib.hid hin
    clear hin
    go_wp2_with fail
    refine HNE6.out.mono ?_
    rintro ev w7 ⟨⟨v7, rfl, hv7⟩, hg7⟩
    have HSM7 := Lib.hid (HSM.out v7 w7 hv7)
    obtain ⟨a7, l7, c7, rfl⟩ := rn_sl hv7
    have HG7 := Lib.hid (HG6.out.tr hg7)
    clear hv7 hg7 c0 c1 c2
    go_wp2_with fail
    refine HSM7.out.mono ?_
    rintro ev w8 ⟨⟨hr, _⟩, hg8⟩
    obtain rfl := hr HIN.out
    have HG8 := Lib.hid (HG7.out.tr hg8)
    clear hr hg8
    have HC8 := Lib.hid (HGET.out w8 (HM.out.gr (HG2.out.tr HG8.out)).2.1)
    go_wp2_with fail
  case' neg =>
    obtain rfl := HUN6.out.2 hin
    have HIN := Lib.hid hin
    clear hin
    go_wp2_with fail
    refine HNE6.out.mono ?_
    rintro ev w7 ⟨⟨v7, rfl, hv7⟩, hg7⟩
    have HSM7 := Lib.hid (HSM.out v7 w7 hv7)
    obtain ⟨a7, l7, c7, rfl⟩ := rn_sl hv7
    have HG7 := Lib.hid (HG6.out.tr hg7)
    clear hv7 hg7 c0 c1 c2
    go_wp2_with fail
    refine HSM7.out.mono ?_
    rintro ev w7b ⟨⟨_, hr⟩, hg7b⟩
    obtain rfl := hr HIN.out
    have HG7b := Lib.hid (HG7.out.tr hg7b)
    have HSO := Lib.hid (same_own 11 w7b (HM.out.gr (HG2.out.tr HG7b.out)).1)
    clear hr hg7b
    go_wp2_with fail
    refine HSO.out.mono ?_
    rintro ev w8 ⟨rfl, hg8⟩
    have HG8 := Lib.hid (HG7b.out.tr hg8)
    clear hg8
    have HC8 := Lib.hid (HGET.out w8 (HM.out.gr (HG2.out.tr HG8.out)).2.1)
    go_wp2_with fail
  all_goals
    refine HC8.out.mono ?_
    rintro ev w9 ⟨⟨hr, _⟩, hg9⟩
    obtain ⟨bB, rfl, hrb⟩ := hr HZD.out
    have HRB := Lib.hid hrb
    have HG9 := Lib.hid (HG8.out.tr hg9)
    clear hr hrb hg9
    have HO1 := Lib.hid (of_int 1 (by decide) (by decide) w9 (HM.out.gr (HG2.out.tr HG9.out)).2.1)
    go_wp2_with fail
    refine HO1.out.mono ?_
    rintro ev wa ⟨⟨b1, rfl, hr1⟩, hga⟩
    have HR1 := Lib.hid hr1
    have HGA := Lib.hid (HG9.out.tr hga)
    have HRBA := Lib.hid (HRB.out.gr hga)
    clear hr1 hga
    have HO10 := Lib.hid (of_int 10 (by decide) (by decide) wa (HM.out.gr (HG2.out.tr HGA.out)).2.1)
    go_wp2_with fail
    refine HO10.out.mono ?_
    rintro ev wb ⟨⟨b10, rfl, hr10⟩, hgb⟩
    have HR10 := Lib.hid hr10
    have HR1B := Lib.hid (HR1.out.gr hgb)
    have HRBB := Lib.hid (HRBA.out.gr hgb)
    have HGB := Lib.hid (HGA.out.tr hgb)
    clear hr10 hgb
    go_wp2_with fail
    go_loopg [23, 27] p (fun g st si wr => ∃ (i b : Nat), g = p - i ∧ i ≤ p ∧ si = .int .i64 (i : Int) ∧ st = .pointer (some ⟨b, 0, none⟩) ∧ Hid (RatAt wr (.pointer (some ⟨b, 0, none⟩)) 1 (10 ^ i)) ∧ Hid (Gr wb wr))
    case atStart => exact ⟨0, b1, rfl, Nat.zero_le _, rfl, rfl, Lib.hid (by rw [Nat.pow_zero]; exact HR1B.out), Lib.hid (Gr.rf _)⟩
    case round =>
      obtain ⟨i, b, hg, hi, rfl, rfl, HS, HGW⟩ := hrel
      have HGG := Lib.hid hg
      clear hg
      have hp20 : p ≤ 20 := HP.out
      by_cases hlt : i < p
      · have c1 : decide ((i : Int) < (p : Int)) = true := decide_eq_true (by omega)
        have c1n : decide (i < p) = true := decide_eq_true hlt
        have HST := Lib.hid (step_ten _ _ i wr (HM.out.gr (HG2.out.tr (HGB.out.tr HGW.out))).2.1 HS.out (HR10.out.gr HGW.out) (by have := HP.out; omega))
        go_wp2_with fail
        refine HST.out.mono ?_
        rintro ev wk ⟨⟨bk, rfl, hrk⟩, hgk⟩
        have HRK := Lib.hid hrk
        have HGK := Lib.hid (HGW.out.tr hgk)
        clear hrk hgk
        go_wp2
        go_roundg (p - (i + 1))
        case measure => have := HGG.out; omega
        case rel => exact ⟨i + 1, bk, rfl, by omega, by first | rfl | go_num, rfl, HRK, HGK⟩
      · have hip : i = p := by omega
        subst hip
        have c1 : decide ((i : Int) < (i : Int)) = false := decide_eq_false (by omega)
        have c1n : decide (i < i) = false := decide_eq_false (by omega)
        clear hlt hi
        have HGR := Lib.hid (HGB.out.tr HGW.out)
        have HSB := Lib.hid (subRat_calls _ _ n nb d db wr (HM.out.gr (HG2.out.tr HGR.out)).2.1 (HRA.out.gr HGR.out) (HRBB.out.gr HGW.out) 4 HNB.out.2.2.1 HNB.out.1 HNB.out.2.2.2.1 HNB.out.2.1 (by decide))
        go_wp2_with fail
        refine HSB.out.mono ?_
        rintro ev wd ⟨⟨bd, dn, dd, rfl, hrd, hde, hdn, hdd⟩, hgd⟩
        have hdq := diff_eq n nb dn (n * ((10 ^ i : Nat) : Int)) Z d db dd (10 ^ i) HDV.out.2.1 rfl HDV.out.1 hde
        have hsg := sign_of_eq (show (0 : Int) < ((10 ^ i : Nat) : Int) by have := HP0.out; omega) (show (0 : Int) < (d : Int) by have := HRA.out.pos; omega) (show (0 : Int) < (dd : Int) by have := hrd.pos; omega) hdq
        have HRD2 := Lib.hid hrd
        have HGD := Lib.hid hgd
        have HDN := Lib.hid (And.intro hdn hdd)
        have HDQ := Lib.hid hdq
        have HSG := Lib.hid hsg
        have hsc := signRat_calls _ dn dd wd hrd
        have hs0 := sign_neg_iff dn
        obtain ⟨sd, hsd⟩ : ∃ sd, sd = dn.sign := ⟨_, rfl⟩
        rw [← hsd] at hsc hs0
        have HSC := Lib.hid hsc
        clear hrd hde hdn hdd hgd hdq hsg hsc hsd
        by_cases hneg : dn < 0
        case' pos =>
          have d1 : decide (sd < 0) = true := decide_eq_true (hs0.2 hneg)
          have HNEG := Lib.hid hneg
          clear hs0 hneg
          go_wp2_with fail
          refine HSC.out.mono ?_
          rintro ev we ⟨rfl, hge⟩
          have HGE := Lib.hid (HGD.out.tr hge)
          have HSB2 := Lib.hid (subRat_calls _ _ nb n db d we (HM.out.gr (HG2.out.tr (HGR.out.tr HGE.out))).2.1 (HRBB.out.gr (HGW.out.tr HGE.out)) (HRA.out.gr (HGR.out.tr HGE.out)) 4 HNB.out.1 HNB.out.2.2.1 HNB.out.2.1 HNB.out.2.2.2.1 (by decide))
          clear hge
          go_wp2_with fail
          refine HSB2.out.mono ?_
          rintro ev wf ⟨⟨be, e, f, rfl, hre, hee, he, hf⟩, hgf⟩
          have HE := Lib.hid hre
          have HEB := Lib.hid (And.intro he hf)
          have HGF := Lib.hid (HGE.out.tr hgf)
          have HEQ := Lib.hid (show e * ((10 ^ i : Nat) : Int) * (d : Int) = ((n * ((10 ^ i : Nat) : Int) - Z * (d : Int)).natAbs : Int) * (f : Int) from by
            rw [diff_neg n nb e (n * ((10 ^ i : Nat) : Int)) Z d db f (10 ^ i) HDV.out.2.1 rfl HDV.out.1 hee]
            congr 1
            have := HSG.out.1 HNEG.out
            omega)
          clear hre hee he hf hgf
        case' neg =>
          have d1 : decide (sd < 0) = false := decide_eq_false (fun h => hneg (hs0.1 h))
          have HNEG := Lib.hid hneg
          clear hs0 hneg
          go_wp2_with fail
          refine HSC.out.mono ?_
          rintro ev wf ⟨rfl, hgf⟩
          have HGF := Lib.hid (HGD.out.tr hgf)
          have HE := Lib.hid (HRD2.out.gr hgf)
          have HEB := HDN
          have HEQ := Lib.hid (show dn * ((10 ^ i : Nat) : Int) * (d : Int) = ((n * ((10 ^ i : Nat) : Int) - Z * (d : Int)).natAbs : Int) * (dd : Int) from by
            rw [HDQ.out]
            congr 1
            have h1 : ¬ (n * ((10 ^ i : Nat) : Int) - Z * (d : Int) < 0) := fun h => absurd (HSG.out.2 h) (by have := HNEG.out; omega)
            omega)
          clear hgf
          generalize dn = e at *
          generalize dd = f at *
          generalize bd = be at *
        all_goals
          have HO2 := Lib.hid (of_int 2 (by decide) (by decide) wf (HM.out.gr (HG2.out.tr (HGR.out.tr HGF.out))).2.1)
          go_wp2_with fail
          refine HO2.out.mono ?_
          rintro ev wg ⟨⟨b2, rfl, hr2⟩, hgg⟩
          have HR2 := Lib.hid hr2
          have HGG2 := Lib.hid (HGF.out.tr hgg)
          have HEG := Lib.hid (HE.out.gr hgg)
          clear hr2 hgg
          have hcm := cmpRat_calls _ _ e 1 f (10 ^ i) wg HEG.out (HS.out.gr HGG2.out) 9 HEB.out.1 (by decide) (b_upB HEB.out.2 (by decide)) (b_upB HNB.out.2.2.2.2 (by decide)) (by decide)
          obtain ⟨z, hz⟩ : ∃ z, z = (e * ((10 ^ i : Nat) : Int) - 1 * (f : Int)).sign := ⟨_, rfl⟩
          rw [← hz] at hcm
          have hzn : z < 0 := by
            rw [hz]
            refine trunc_near (show (0 : Int) < ((10 ^ i : Nat) : Int) by have := HP0.out; omega) (show (0 : Int) < (d : Int) by have := HRA.out.pos; omega) (show (0 : Int) < (f : Int) by have := HE.out.pos; omega) HEQ.out ?_
            have h1 := HGAP.out.1
            have h2 := HGAP.out.2
            omega
          have d2 : decide (z < 0) = true := decide_eq_true hzn
          have HCM := Lib.hid hcm
          clear hcm hz hzn
          go_wp2_with fail
          refine HCM.out.mono ?_
          rintro ev wh ⟨rfl, hgh⟩
          have HGH := Lib.hid (HGG2.out.tr hgh)
          clear hgh
          have hsb := fun w' (hg : Gr wr w') => signRat_calls _ nb db w' (HRBB.out.gr (HGW.out.tr hg))
          have hsa := fun w' (hg : Gr wr w') => signRat_calls _ n d w' (HRA.out.gr (HGR.out.tr hg))
          have hzs : nb.sign = 0 ∨ (nb.sign ≠ 0 ∧ nb.sign = n.sign) := by
            rcases HDV.out.2.2.2.2 with h | h
            · left; rw [h]; rfl
            · by_cases h0 : nb.sign = 0
              · exact .inl h0
              · refine .inr ⟨h0, ?_⟩
                rcases HZS.out with h2 | h2
                · rw [h2] at h; exact absurd h h0
                · rw [h, h2]
          have HSB1 := Lib.hid (hsb wh HGH.out)
          have HSBW := Lib.hid hsb
          have HSAW := Lib.hid hsa
          clear hsb hsa
          rcases hzs with hz0 | ⟨hz0, hz1⟩
          · rw [hz0] at HSB1
            clear hz0
            go_wp2_with fail
            refine HSB1.out.mono ?_
            rintro ev wi ⟨rfl, hgi⟩
            go_wp2
            go_ret
            exact ⟨by first | rfl | simp, HG2.out.tr (HGR.out.tr (HGH.out.tr hgi))⟩
          · have d3 : (nb.sign == 0) = false := beq_eq_false_iff_ne.2 hz0
            have HEQS := Lib.hid hz1
            have d4 : (nb.sign == n.sign) = true := beq_iff_eq.2 hz1
            clear hz0 hz1
            obtain ⟨s5, hs5⟩ : ∃ s5, s5 = nb.sign := ⟨_, rfl⟩
            obtain ⟨s6, hs6⟩ : ∃ s6, s6 = n.sign := ⟨_, rfl⟩
            rw [← hs5] at d3 d4 HSB1 HSBW
            rw [← hs6] at d4 HSAW
            clear hs5 hs6
            go_wp2_with fail
            refine HSB1.out.mono ?_
            rintro ev wi ⟨rfl, hgi⟩
            have HGI := Lib.hid (HGH.out.tr hgi)
            clear hgi
            have HSB2 := Lib.hid (HSBW.out wi HGI.out)
            go_wp2_with fail
            refine HSB2.out.mono ?_
            rintro ev wj ⟨rfl, hgj⟩
            have HGJ := Lib.hid (HGI.out.tr hgj)
            clear hgj
            have HSA2 := Lib.hid (HSAW.out wj HGJ.out)
            go_wp2_with fail
            refine HSA2.out.mono ?_
            rintro ev wl ⟨rfl, hgl⟩
            go_wp2
            go_ret
            exact ⟨by first | rfl | simp, HG2.out.tr (HGR.out.tr (HGJ.out.tr hgl))⟩
set_option maxRecDepth 100000 in
set_option maxHeartbeats 16000000 in
theorem decRound_near (s t : ByteArray) (neg : Bool) (p : Nat) (m : Int) (hs : s.size ≤ 9223372036854775807) (ht : t.size ≤ 9223372036854775807) (hp : p ≤ 20) (hm2 : m = 1 ∨ m = 2) (w : World) (hM : Met2 w) :
    Calls Tryz.prog 5 #[.string s, .string t, .bool neg, .int .i64 (p : Int), .int .i64 m] w fun e w' => e = .returned (.bool true) ∧ Gr w w' := by
  have HM := Lib.hid hM
  have HBG := Lib.hid (begun_met w hM)
  have HRC := Lib.hid (fun w hB => r_calls s t neg hs ht w hB)
  have hm : m = 1 ∨ m = 2 ∨ m = 3 := by omega
  have m1 : decide (m < 1) = false := decide_eq_false (by omega)
  have m2 : decide (3 < m) = false := decide_eq_false (by omega)
  have m3 : (m == 3) = false := beq_eq_false_iff_ne.2 (by omega)
  have m4 : (m != 3) = true := bne_iff_ne.2 (by omega)
  have HM3 : Hid (m ≠ 3) := Lib.hid (by omega)
  have b0 : decide ((20 : Int) < (p : Int)) = false := decide_eq_false (by omega)
  have b0n : decide (20 < p) = false := decide_eq_false (by omega)
  have HP := Lib.hid hp
  have HMM := Lib.hid hm
  have hP0 : 0 < 10 ^ p := Nat.pow_pos (by decide)
  have HP0 := Lib.hid hP0
  clear hM hs ht hp hm hP0
  go_enter Tryz.func5, Tryz.ntmps5
  go_wp2_with (go_at_call 11; (with_reducible refine HBG.out.mono ?_); rintro ev w1 ⟨rfl, hg1⟩; have HG1 := Lib.hid hg1; clear hg1)
  have HR1 := Lib.hid (HRC.out w1 (HM.out.gr HG1.out).2.1)
  go_wp2_with fail
  refine HR1.out.mono ?_
  rintro ev w2 ⟨⟨bR, sb, vx, vy, n, d, X, Y, rfl, htw⟩, hg2⟩
  obtain ⟨aa, la, ca, rfl⟩ := rn_sl htw.2.1.1
  obtain ⟨ab, lb, cb, rfl⟩ := rn_sl htw.2.1.2
  have hga : Gr w2 (w2.alloc (.cells #[.bool sb, .slice aa la ca, .slice ab lb cb] 29)) := gr_al (Gr.rf w2)
  have HG2 := Lib.hid (HG1.out.tr (hg2.tr hga))
  have HRA := Lib.hid (htw.1.gr hga)
  have HVV := Lib.hid (And.intro (htw.2.1.1.gr hga) (htw.2.1.2.gr hga))
  have HBK := Lib.hid (heap_alloc_new w2 (.cells #[.bool sb, .slice aa la ca, .slice ab lb cb] 29))
  have HTW := Lib.hid htw.2.2
  have HBN := Lib.hid (show n.natAbs ≤ X ∧ d ≤ Y ∧ X < Dg.D ^ 4 ∧ Y < Dg.D ^ 4 from by
    obtain ⟨g, hg, e1, e2⟩ := htw.2.2.2.2.1
    exact ⟨by rw [e1]; exact Nat.le_mul_of_pos_right _ hg, by rw [e2]; exact Nat.le_mul_of_pos_right _ hg, htw.2.2.2.2.2.1, htw.2.2.2.2.2.2⟩)
  clear htw hg2 hga
  obtain ⟨Z, hZ⟩ : ∃ Z, Z = sgn (decide (n * ((10 ^ p : Nat) : Int) < 0)) (roundN (n * ((10 ^ p : Nat) : Int)).natAbs d m) := ⟨_, rfl⟩
  obtain ⟨U, hU⟩ : ∃ U, U = sgn (decide (n < 0)) (roundN n.natAbs d m) := ⟨_, rfl⟩
  have hzb : Z.natAbs < 10 ^ 57 := by rw [hZ]; exact round_bd57 n X d p m HBN.out.2.2.1 HBN.out.1 HP.out _
  obtain ⟨F, hF⟩ : ∃ F : ByteArray, F = ⟨(placedL Z p).toArray⟩ := ⟨_, rfl⟩
  have hr4 := fun w' (h : RatAt w' (.pointer (some ⟨bR, 0, none⟩)) n d) (hT : PowTab w') => roundG_calls (.pointer (some ⟨bR, 0, none⟩)) n d p m w' h 4 (Nat.lt_of_le_of_lt HBN.out.1 (b_B HBN.out.2.2.1)) (Nat.lt_of_le_of_lt HBN.out.2.1 (b_B HBN.out.2.2.2)) (by decide) HP.out HMM.out hT
  rw [← hZ, ← hF] at hr4
  have HR4 := Lib.hid hr4
  have hrr := fun w' (hg : Gr _ w') => rRound_calls sb (.slice aa la ca) (.slice ab lb cb) X Y p m w' (HVV.out.1.gr hg) (HVV.out.2.gr hg) HBN.out.2.2.1 HBN.out.2.2.2 HTW.out.1 HP.out HMM.out
  have hre : sgn (sb && decide (0 < X * 10 ^ p)) (roundN (X * 10 ^ p) Y m) = Z := by
    obtain ⟨g, hg, e1, e2⟩ := HTW.out.2.2.1
    rw [HTW.out.2.1, e1, e2, hZ]
    exact round_same n d g (10 ^ p) m HRA.out.pos hg HP0.out
  rw [hre, ← hF] at hrr
  have HRR := Lib.hid hrr
  have hun := fun w' (h : RatAt w' (.pointer (some ⟨bR, 0, none⟩)) n d) => unitsG_calls (.pointer (some ⟨bR, 0, none⟩)) n d m w' h 5 (by have := HBN.out.1; have := HBN.out.2.2.1; exact Nat.lt_of_le_of_lt (show n.natAbs + 1 ≤ Dg.D ^ 4 by omega) (by decide)) (Nat.lt_of_lt_of_le (show d * 2 < Dg.D ^ 4 * 2 by have := HBN.out.2.1; have := HBN.out.2.2.2; omega) (by decide)) (by decide) (by decide) HMM.out
  rw [← hU] at hun
  have HUN := Lib.hid hun
  have hne := fun w' (hg : Gr _ w') => rNear_calls sb (.slice aa la ca) (.slice ab lb cb) X Y m w' (HVV.out.1.gr hg) (HVV.out.2.gr hg) 4 HBN.out.2.2.1 HBN.out.2.2.2 (by decide) HTW.out.1 HMM.out
  obtain ⟨R0, hR0⟩ : ∃ R0, R0 = roundN X Y m := ⟨_, rfl⟩
  obtain ⟨s2, hs2⟩ : ∃ s2, s2 = (sb && decide (0 < R0)) := ⟨_, rfl⟩
  rw [← hR0, ← hs2] at hne
  have hRb : R0 < Dg.D ^ 5 := by rw [hR0]; exact Nat.lt_of_le_of_lt (roundN_le _ _ _) (b_add HBN.out.2.2.1 (b_one (by decide)) rfl)
  have hsU : sgn s2 R0 = U := by
    obtain ⟨g, hg, e1, e2⟩ := HTW.out.2.2.1
    rw [hs2, hR0, HTW.out.2.1, e1, e2, hU]
    exact near_same n d g m hg
  have hsm := fun (v : Value) w' (h : RN w' v R0) => rSmallI_calls s2 v R0 w' h 5 hRb (by decide) (fun h => by rw [hs2, Bool.and_eq_true, decide_eq_true_eq] at h; exact h.2)
  rw [hsU] at hsm
  have HSM := Lib.hid hsm
  have HNE := Lib.hid hne
  obtain ⟨zt, za, zr, zpt, zp, zc, zd, zs, zv⟩ := dec_back Z p HP.out hzb
  rw [← hF] at zp zd
  have hlen : F.size ≤ 60 := zd.1
  obtain ⟨nb, hnb⟩ : ∃ nb, nb = sgn (decide (Z < 0)) (Z.natAbs / Nat.gcd Z.natAbs (10 ^ p)) := ⟨_, rfl⟩
  obtain ⟨db, hdb⟩ : ∃ db, db = 10 ^ p / Nat.gcd Z.natAbs (10 ^ p) := ⟨_, rfl⟩
  have hget := fun w' hB => decGet_calls F zt za zr _ zpt (by omega) zp zc w' hB
  rw [zv, zs, ← hnb, ← hdb] at hget
  have HGET := Lib.hid hget
  have HZD := Lib.hid zd
  have hdv := dec_val Z (10 ^ p) HP0.out nb db hnb hdb
  have HDV := Lib.hid hdv
  have hgap := round_gap (n * ((10 ^ p : Nat) : Int)).natAbs d m HRA.out.pos HMM.out
  have hga2 := gap_abs (n * ((10 ^ p : Nat) : Int)) d (roundN (n * ((10 ^ p : Nat) : Int)).natAbs d m)
  rw [← hZ] at hga2
  have HGAP := Lib.hid (And.intro (hgap.2 HM3.out) hga2)
  have HZS := Lib.hid (show Z = 0 ∨ Z.sign = n.sign from by
    rw [hZ]
    exact z_sign n (10 ^ p) _ HP0.out (fun e => by subst e; rw [Int.zero_mul]; exact roundN_nought _ _ HRA.out.pos))
  have HNB := Lib.hid (show nb.natAbs < B ^ 4 ∧ db < B ^ 4 ∧ n.natAbs < B ^ 4 ∧ d < B ^ 4 ∧ 10 ^ p < B ^ 4 from ⟨Nat.lt_of_le_of_lt hdv.2.2.1 (Nat.lt_of_lt_of_le hzb (by decide)), Nat.lt_of_le_of_lt hdv.2.2.2.1 (b_upB (ten_B2 p HP.out) (by decide)), Nat.lt_of_le_of_lt HBN.out.1 (b_B HBN.out.2.2.1), Nat.lt_of_le_of_lt HBN.out.2.1 (b_B HBN.out.2.2.2), b_upB (ten_B2 p HP.out) (by decide)⟩)
  generalize hRM : roundN (n * ((10 ^ p : Nat) : Int)).natAbs d m = RM at *
  clear hZ hU hzb hF hr4 hrr hre hun hne hR0 hs2 hRb hsU hsm zp zc zd zs zv hlen hnb hdb hget hdv hgap hga2 hRM
  have HRD := Lib.hid (HR4.out _ HRA.out (HM.out.gr HG2.out).2.2)
  go_wp2_with fail
  have HC0 : Hid (∀ w', Gr (w2.alloc (.cells #[.bool sb, .slice aa la ca, .slice ab lb cb] 29)) w' → w'.cell? ⟨w2.heap.size, 0, none⟩ = some (.bool sb) ∧ w'.cell? ⟨w2.heap.size, 1, none⟩ = some (.slice aa la ca) ∧ w'.cell? ⟨w2.heap.size, 2, none⟩ = some (.slice ab lb cb)) := Lib.hid (fun w' hg => ⟨heap_cell (hg.heap HBK.out) 0, heap_cell (hg.heap HBK.out) 1, heap_cell (hg.heap HBK.out) 2⟩)
  generalize w2.alloc (.cells #[.bool sb, .slice aa la ca, .slice ab lb cb] 29) = w3 at *
  refine HRD.out.mono ?_
  rintro ev w4 ⟨rfl, hg4⟩
  have HG4 := Lib.hid hg4
  obtain ⟨c0, c1, c2⟩ := HC0.out _ hg4
  have HRR4 := Lib.hid (HRR.out w4 hg4)
  clear hg4
  go_wp2_with fail
  refine HRR4.out.mono ?_
  rintro ev w5 ⟨rfl, hg5⟩
  have HG5 := Lib.hid (HG4.out.tr hg5)
  clear hg5 c0 c1 c2
  have HUN5 := Lib.hid (HUN.out w5 (HRA.out.gr HG5.out))
  go_wp2_with fail
  refine HUN5.out.mono ?_
  rintro ev w6 ⟨hun, hg6⟩
  have HG6 := Lib.hid (HG5.out.tr hg6)
  have HUN6 := Lib.hid hun
  obtain ⟨c0, c1, c2⟩ := HC0.out _ HG6.out
  have HNE6 := Lib.hid (HNE.out w6 HG6.out)
  clear hg6 hun
  by_cases hin : -9223372036854775808 ≤ U ∧ U ≤ 9223372036854775807
  case' pos =>
    obtain rfl := HUN6.out.1 hin
    have HIN := Lib.hid hin
    clear hin
    go_wp2_with fail
    refine HNE6.out.mono ?_
    rintro ev w7 ⟨⟨v7, rfl, hv7⟩, hg7⟩
    have HSM7 := Lib.hid (HSM.out v7 w7 hv7)
    obtain ⟨a7, l7, c7, rfl⟩ := rn_sl hv7
    have HG7 := Lib.hid (HG6.out.tr hg7)
    clear hv7 hg7 c0 c1 c2
    go_wp2_with fail
    refine HSM7.out.mono ?_
    rintro ev w8 ⟨⟨hr, _⟩, hg8⟩
    obtain rfl := hr HIN.out
    have HG8 := Lib.hid (HG7.out.tr hg8)
    clear hr hg8
    have HC8 := Lib.hid (HGET.out w8 (HM.out.gr (HG2.out.tr HG8.out)).2.1)
    go_wp2_with fail
  case' neg =>
    obtain rfl := HUN6.out.2 hin
    have HIN := Lib.hid hin
    clear hin
    go_wp2_with fail
    refine HNE6.out.mono ?_
    rintro ev w7 ⟨⟨v7, rfl, hv7⟩, hg7⟩
    have HSM7 := Lib.hid (HSM.out v7 w7 hv7)
    obtain ⟨a7, l7, c7, rfl⟩ := rn_sl hv7
    have HG7 := Lib.hid (HG6.out.tr hg7)
    clear hv7 hg7 c0 c1 c2
    go_wp2_with fail
    refine HSM7.out.mono ?_
    rintro ev w7b ⟨⟨_, hr⟩, hg7b⟩
    obtain rfl := hr HIN.out
    have HG7b := Lib.hid (HG7.out.tr hg7b)
    have HSO := Lib.hid (same_own 11 w7b (HM.out.gr (HG2.out.tr HG7b.out)).1)
    clear hr hg7b
    go_wp2_with fail
    refine HSO.out.mono ?_
    rintro ev w8 ⟨rfl, hg8⟩
    have HG8 := Lib.hid (HG7b.out.tr hg8)
    clear hg8
    have HC8 := Lib.hid (HGET.out w8 (HM.out.gr (HG2.out.tr HG8.out)).2.1)
    go_wp2_with fail
  all_goals
    refine HC8.out.mono ?_
    rintro ev w9 ⟨⟨hr, _⟩, hg9⟩
    obtain ⟨bB, rfl, hrb⟩ := hr HZD.out
    have HRB := Lib.hid hrb
    have HG9 := Lib.hid (HG8.out.tr hg9)
    clear hr hrb hg9
    have HO1 := Lib.hid (of_int 1 (by decide) (by decide) w9 (HM.out.gr (HG2.out.tr HG9.out)).2.1)
    go_wp2_with fail
    refine HO1.out.mono ?_
    rintro ev wa ⟨⟨b1, rfl, hr1⟩, hga⟩
    have HR1 := Lib.hid hr1
    have HGA := Lib.hid (HG9.out.tr hga)
    have HRBA := Lib.hid (HRB.out.gr hga)
    clear hr1 hga
    have HO10 := Lib.hid (of_int 10 (by decide) (by decide) wa (HM.out.gr (HG2.out.tr HGA.out)).2.1)
    go_wp2_with fail
    refine HO10.out.mono ?_
    rintro ev wb ⟨⟨b10, rfl, hr10⟩, hgb⟩
    have HR10 := Lib.hid hr10
    have HR1B := Lib.hid (HR1.out.gr hgb)
    have HRBB := Lib.hid (HRBA.out.gr hgb)
    have HGB := Lib.hid (HGA.out.tr hgb)
    clear hr10 hgb
    go_wp2_with fail
    go_loopg [23, 27] p (fun g st si wr => ∃ (i b : Nat), g = p - i ∧ i ≤ p ∧ si = .int .i64 (i : Int) ∧ st = .pointer (some ⟨b, 0, none⟩) ∧ Hid (RatAt wr (.pointer (some ⟨b, 0, none⟩)) 1 (10 ^ i)) ∧ Hid (Gr wb wr))
    case atStart => exact ⟨0, b1, rfl, Nat.zero_le _, rfl, rfl, Lib.hid (by rw [Nat.pow_zero]; exact HR1B.out), Lib.hid (Gr.rf _)⟩
    case round =>
      obtain ⟨i, b, hg, hi, rfl, rfl, HS, HGW⟩ := hrel
      have HGG := Lib.hid hg
      clear hg
      have hp20 : p ≤ 20 := HP.out
      by_cases hlt : i < p
      · have c1 : decide ((i : Int) < (p : Int)) = true := decide_eq_true (by omega)
        have c1n : decide (i < p) = true := decide_eq_true hlt
        have HST := Lib.hid (step_ten _ _ i wr (HM.out.gr (HG2.out.tr (HGB.out.tr HGW.out))).2.1 HS.out (HR10.out.gr HGW.out) (by have := HP.out; omega))
        go_wp2_with fail
        refine HST.out.mono ?_
        rintro ev wk ⟨⟨bk, rfl, hrk⟩, hgk⟩
        have HRK := Lib.hid hrk
        have HGK := Lib.hid (HGW.out.tr hgk)
        clear hrk hgk
        go_wp2
        go_roundg (p - (i + 1))
        case measure => have := HGG.out; omega
        case rel => exact ⟨i + 1, bk, rfl, by omega, by first | rfl | go_num, rfl, HRK, HGK⟩
      · have hip : i = p := by omega
        subst hip
        have c1 : decide ((i : Int) < (i : Int)) = false := decide_eq_false (by omega)
        have c1n : decide (i < i) = false := decide_eq_false (by omega)
        clear hlt hi
        have HGR := Lib.hid (HGB.out.tr HGW.out)
        have HSB := Lib.hid (subRat_calls _ _ n nb d db wr (HM.out.gr (HG2.out.tr HGR.out)).2.1 (HRA.out.gr HGR.out) (HRBB.out.gr HGW.out) 4 HNB.out.2.2.1 HNB.out.1 HNB.out.2.2.2.1 HNB.out.2.1 (by decide))
        go_wp2_with fail
        refine HSB.out.mono ?_
        rintro ev wd ⟨⟨bd, dn, dd, rfl, hrd, hde, hdn, hdd⟩, hgd⟩
        have hdq := diff_eq n nb dn (n * ((10 ^ i : Nat) : Int)) Z d db dd (10 ^ i) HDV.out.2.1 rfl HDV.out.1 hde
        have hsg := sign_of_eq (show (0 : Int) < ((10 ^ i : Nat) : Int) by have := HP0.out; omega) (show (0 : Int) < (d : Int) by have := HRA.out.pos; omega) (show (0 : Int) < (dd : Int) by have := hrd.pos; omega) hdq
        have HRD2 := Lib.hid hrd
        have HGD := Lib.hid hgd
        have HDN := Lib.hid (And.intro hdn hdd)
        have HDQ := Lib.hid hdq
        have HSG := Lib.hid hsg
        have hsc := signRat_calls _ dn dd wd hrd
        have hs0 := sign_neg_iff dn
        obtain ⟨sd, hsd⟩ : ∃ sd, sd = dn.sign := ⟨_, rfl⟩
        rw [← hsd] at hsc hs0
        have HSC := Lib.hid hsc
        clear hrd hde hdn hdd hgd hdq hsg hsc hsd
        by_cases hneg : dn < 0
        case' pos =>
          have d1 : decide (sd < 0) = true := decide_eq_true (hs0.2 hneg)
          have HNEG := Lib.hid hneg
          clear hs0 hneg
          go_wp2_with fail
          refine HSC.out.mono ?_
          rintro ev we ⟨rfl, hge⟩
          have HGE := Lib.hid (HGD.out.tr hge)
          have HSB2 := Lib.hid (subRat_calls _ _ nb n db d we (HM.out.gr (HG2.out.tr (HGR.out.tr HGE.out))).2.1 (HRBB.out.gr (HGW.out.tr HGE.out)) (HRA.out.gr (HGR.out.tr HGE.out)) 4 HNB.out.1 HNB.out.2.2.1 HNB.out.2.1 HNB.out.2.2.2.1 (by decide))
          clear hge
          go_wp2_with fail
          refine HSB2.out.mono ?_
          rintro ev wf ⟨⟨be, e, f, rfl, hre, hee, he, hf⟩, hgf⟩
          have HE := Lib.hid hre
          have HEB := Lib.hid (And.intro he hf)
          have HGF := Lib.hid (HGE.out.tr hgf)
          have HEQ := Lib.hid (show e * ((10 ^ i : Nat) : Int) * (d : Int) = ((n * ((10 ^ i : Nat) : Int) - Z * (d : Int)).natAbs : Int) * (f : Int) from by
            rw [diff_neg n nb e (n * ((10 ^ i : Nat) : Int)) Z d db f (10 ^ i) HDV.out.2.1 rfl HDV.out.1 hee]
            congr 1
            have := HSG.out.1 HNEG.out
            omega)
          clear hre hee he hf hgf
        case' neg =>
          have d1 : decide (sd < 0) = false := decide_eq_false (fun h => hneg (hs0.1 h))
          have HNEG := Lib.hid hneg
          clear hs0 hneg
          go_wp2_with fail
          refine HSC.out.mono ?_
          rintro ev wf ⟨rfl, hgf⟩
          have HGF := Lib.hid (HGD.out.tr hgf)
          have HE := Lib.hid (HRD2.out.gr hgf)
          have HEB := HDN
          have HEQ := Lib.hid (show dn * ((10 ^ i : Nat) : Int) * (d : Int) = ((n * ((10 ^ i : Nat) : Int) - Z * (d : Int)).natAbs : Int) * (dd : Int) from by
            rw [HDQ.out]
            congr 1
            have h1 : ¬ (n * ((10 ^ i : Nat) : Int) - Z * (d : Int) < 0) := fun h => absurd (HSG.out.2 h) (by have := HNEG.out; omega)
            omega)
          clear hgf
          generalize dn = e at *
          generalize dd = f at *
          generalize bd = be at *
        all_goals
          have HO2 := Lib.hid (of_int 2 (by decide) (by decide) wf (HM.out.gr (HG2.out.tr (HGR.out.tr HGF.out))).2.1)
          go_wp2_with fail
          refine HO2.out.mono ?_
          rintro ev wg ⟨⟨b2, rfl, hr2⟩, hgg⟩
          have HR2 := Lib.hid hr2
          have HGG2 := Lib.hid (HGF.out.tr hgg)
          have HEG := Lib.hid (HE.out.gr hgg)
          clear hr2 hgg
          have HMU := Lib.hid (mulRat_calls _ _ e 2 f 1 wg (HM.out.gr (HG2.out.tr (HGR.out.tr HGG2.out))).2.1 HEG.out HR2.out 9 HEB.out.1 (by decide) (b_upB HEB.out.2 (by decide)) (by decide) (by decide))
          go_wp2_with fail
          refine HMU.out.mono ?_
          rintro ev wh ⟨⟨bm, x, y, rfl, hrm, hxm, hx1, hy1⟩, hgh⟩
          have HGH := Lib.hid (HGG2.out.tr hgh)
          have hcm := cmpRat_calls _ _ x 1 y (10 ^ i) wh hrm (HS.out.gr HGH.out) 18 hx1 (by decide) hy1 (b_upB HNB.out.2.2.2.2 (by decide)) (by decide)
          obtain ⟨z, hz⟩ : ∃ z, z = (x * ((10 ^ i : Nat) : Int) - 1 * (y : Int)).sign := ⟨_, rfl⟩
          rw [← hz] at hcm
          have hzn : z ≤ 0 := by
            rw [hz]
            refine half_near2 (show (0 : Int) < ((10 ^ i : Nat) : Int) by have := HP0.out; omega) (show (0 : Int) < (d : Int) by have := HRA.out.pos; omega) (show (0 : Int) < (f : Int) by have := HE.out.pos; omega) (show (0 : Int) < (y : Int) by have := hrm.pos; omega) HEQ.out ?_ hxm
            have h1 := HGAP.out.1
            have h2 := HGAP.out.2
            omega
          have d2 : decide (z ≤ 0) = true := decide_eq_true hzn
          have HCM := Lib.hid hcm
          clear hrm hxm hx1 hy1 hgh hcm hz hzn
          go_wp2_with fail
          refine HCM.out.mono ?_
          rintro ev wi ⟨rfl, hgi⟩
          go_wp2
          go_ret
          exact ⟨by first | rfl | simp, HG2.out.tr (HGR.out.tr (HGH.out.tr hgi))⟩
theorem decRound_calls (s t : ByteArray) (neg : Bool) (p m : Int) (hs : s.size ≤ 9223372036854775807) (ht : t.size ≤ 9223372036854775807) (p0 : -9223372036854775808 ≤ p) (p1 : p ≤ 9223372036854775807) (m0 : -9223372036854775808 ≤ m) (m1 : m ≤ 9223372036854775807) (w : World) (hM : Met2 w) :
    Calls Tryz.prog 5 #[.string s, .string t, .bool neg, .int .i64 p, .int .i64 m] w fun e w' => e = .returned (.bool true) ∧ Gr w w' := by
  by_cases h : p < 0 ∨ 20 < p
  · exact decRound_bad1 s t neg p m hs ht h w hM
  · by_cases h2 : m < 1 ∨ 3 < m
    · exact decRound_bad2 s t neg p m hs ht (by omega) (by omega) h2 w hM
    · obtain ⟨q, rfl⟩ : ∃ q : Nat, p = (q : Int) := ⟨p.toNat, by omega⟩
      by_cases h3 : m = 3
      · subst h3
        exact decRound_trunc s t neg q hs ht (by omega) w hM
      · exact decRound_near s t neg q m hs ht (by omega) (by omega) w hM
end Go.Proofs.YtcjjgdoafkdeaaaGreatDoor
