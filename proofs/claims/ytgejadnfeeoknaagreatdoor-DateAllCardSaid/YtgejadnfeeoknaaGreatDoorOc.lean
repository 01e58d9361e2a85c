/- Layer 3: integers: Add, Sub, Cmp, Small by contract. -/
import Derived.Test.YtgejadnfeeoknaaGreatDoorOb
namespace Go.Proofs.YtgejadnfeeoknaaGreatDoor
open Go.RowKit Go.Extern.Stop Go.Stop Go.Extern Go.Sort
set_option linter.unusedVariables false
set_option linter.unusedSimpArgs false

set_option maxRecDepth 100000 in
set_option maxHeartbeats 2000000 in
/-- (*Int).Add. -/
theorem add_int (x y : Value) (a b : Int) (w : World) (hx : IntAt w x a) (hy : IntAt w y b) (k : Nat) (ha : a.natAbs < B ^ k) (hb : b.natAbs < B ^ k) (hk : k ≤ 1000000) :
    Calls Tryz.prog 206 #[x, y] w fun e w' => (∃ r, e = .returned r ∧ IntP w' r (a + b)) ∧ Gr w w' := by
  have HS := Lib.hid (sign_calls x a w hx)
  have HB := Lib.hid (And.intro ha hb)
  have HX := Lib.hid (fun w' (hg : Gr w w') => abs_calls x a w' (hx.gr hg))
  have HY := Lib.hid (fun w' (hg : Gr w w') => abs_calls y b w' (hy.gr hg))
  have hsa := sign_neg_iff a
  have hsb := sign_neg_iff b
  have HSY : ∀ w', Gr w w' → Calls Tryz.prog 106 #[y] w' fun e w2 => e = .returned (.int .i64 b.sign) ∧ Gr w' w2 := fun w' hg => sign_calls y b w' (hy.gr hg)
  generalize a.sign = sa at HS hsa
  generalize b.sign = sb at HSY hsb
  obtain ⟨ba, hba⟩ : ∃ ba : Bool, decide (sa < 0) = ba := ⟨_, rfl⟩
  obtain ⟨bb, hbb⟩ : ∃ bb : Bool, decide (sb < 0) = bb := ⟨_, rfl⟩
  have HSY := Lib.hid HSY
  clear hx hy ha hb
  by_cases hs : ba = bb
  · have hbe : (ba == bb) = true := by rw [hs]; exact beq_self_eq_true bb
    have hr : sgn ba (a.natAbs + b.natAbs) = a + b := by
      cases bb <;> subst hs
      · have h1 := of_decide_eq_false hba; have h2 := of_decide_eq_false hbb; simp [sgn]; omega
      · have h1 := of_decide_eq_true hba; have h2 := of_decide_eq_true hbb; simp [sgn]; omega
    have HR := Lib.hid hr
    clear hr hs hsa hsb
    go_enter Tryz.func206, Tryz.ntmps206
    go_wp2_with (go_at_call 106; (with_reducible refine HS.out.mono ?_); rintro ev w1 ⟨rfl, hg1⟩)
    go_wp2_with (go_at_call 106; (with_reducible refine (HSY.out _ hg1).mono ?_); rintro ev w2 ⟨rfl, hg2⟩)
    have HA := Lib.hid (HX.out w2 (hg1.tr hg2))
    go_wp2_with (go_at_call 107; (with_reducible refine HA.out.mono ?_); rintro ev w3 ⟨⟨r3, rfl, hr3⟩, hg3⟩; have HR3 := Lib.hid hr3; clear hr3)
    have HA2 := Lib.hid (HY.out w3 ((hg1.tr hg2).tr hg3))
    go_wp2_with (go_at_call 107; (with_reducible refine HA2.out.mono ?_); rintro ev w4 ⟨⟨r4, rfl, hr4⟩, hg4⟩; have HR4 := Lib.hid hr4; clear hr4)
    have HM := Lib.hid (add_calls r3 r4 _ _ w4 (HR3.out.gr hg4) HR4.out k HB.out.1 HB.out.2 hk)
    go_wp2_with (go_at_call 99; (with_reducible refine HM.out.mono ?_); rintro ev w5 ⟨⟨r5, rfl, hr5⟩, hg5⟩; have HR5 := Lib.hid hr5; clear hr5)
    have HN := Lib.hid (newP_calls ba r5 _ w5 HR5.out.at_)
    go_wp2_with (go_at_call 125; (with_reducible refine HN.out.mono ?_); rintro ev w6 ⟨⟨r6, rfl, hr6⟩, hg6⟩; have HR6 := Lib.hid hr6; clear hr6)
    go_ret
    exact ⟨⟨_, rfl, by rw [← HR.out]; exact HR6.out⟩, ((((hg1.tr hg2).tr hg3).tr hg4).tr hg5).tr hg6⟩
  · have hbe : (ba == bb) = false := beq_eq_false_iff_ne.2 hs
    have HBE := Lib.hid hs
    have HI := Lib.hid (And.intro hsa hsb)
    have HBA := Lib.hid (And.intro hba hbb)
    by_cases hlt : a.natAbs < b.natAbs
    · have hcc : decide (cmpN a.natAbs b.natAbs < 0) = true := decide_eq_true (cmpN_neg.2 hlt)
      have hr : sgn bb (b.natAbs - a.natAbs) = a + b := by
        have h0 := HBE.out
        cases bb
        · have h1 : ba = true := by cases ba; exact absurd rfl h0; rfl
          rw [h1] at hba
          have h1 := of_decide_eq_true hba; have h2 := of_decide_eq_false hbb; simp [sgn]; omega
        · have h1 : ba = false := by cases ba; rfl; exact absurd rfl h0
          rw [h1] at hba
          have h1 := of_decide_eq_false hba; have h2 := of_decide_eq_true hbb; simp [sgn]; omega
      have HR := Lib.hid hr
      have HLT := Lib.hid hlt
      clear hr hs hlt hsa hsb
      have HCN := Lib.hid (fun (r3 r4 : Value) (w4 : World) h3 h4 => cmp_calls r3 r4 a.natAbs b.natAbs w4 h3 h4 k HB.out.1 HB.out.2 hk)
      generalize cmpN a.natAbs b.natAbs = cc at HCN hcc
      go_enter Tryz.func206, Tryz.ntmps206
      go_wp2_with (go_at_call 106; (with_reducible refine HS.out.mono ?_); rintro ev w1 ⟨rfl, hg1⟩)
      go_wp2_with (go_at_call 106; (with_reducible refine (HSY.out _ hg1).mono ?_); rintro ev w2 ⟨rfl, hg2⟩)
      have hg12 := hg1.tr hg2
      have HA := Lib.hid (HX.out w2 hg12)
      go_wp2_with (go_at_call 107; (with_reducible refine HA.out.mono ?_); rintro ev w3 ⟨⟨r3, rfl, hr3⟩, hg3⟩; have HR3 := Lib.hid hr3; clear hr3)
      have hg13 := hg12.tr hg3
      have HA2 := Lib.hid (HY.out w3 hg13)
      go_wp2_with (go_at_call 107; (with_reducible refine HA2.out.mono ?_); rintro ev w4 ⟨⟨r4, rfl, hr4⟩, hg4⟩; have HR4 := Lib.hid hr4; clear hr4)
      have hg14 := hg13.tr hg4
      have HC := Lib.hid (HCN.out r3 r4 w4 (HR3.out.gr hg4) HR4.out)
      go_wp2_with (go_at_call 100; (with_reducible refine HC.out.mono ?_); rintro ev w5 ⟨rfl, hg5⟩)
      have hg15 := hg14.tr hg5
      have HA3 := Lib.hid (HY.out w5 hg15)
      go_wp2_with (go_at_call 107; (with_reducible refine HA3.out.mono ?_); rintro ev w6 ⟨⟨r6, rfl, hr6⟩, hg6⟩; have HR6 := Lib.hid hr6; clear hr6)
      have hg16 := hg15.tr hg6
      have HA4 := Lib.hid (HX.out w6 hg16)
      go_wp2_with (go_at_call 107; (with_reducible refine HA4.out.mono ?_); rintro ev w7 ⟨⟨r7, rfl, hr7⟩, hg7⟩; have HR7 := Lib.hid hr7; clear hr7)
      have hg17 := hg16.tr hg7
      have HSU := Lib.hid (sub_calls r6 r7 _ _ w7 (HR6.out.gr hg7) HR7.out k HB.out.2 HB.out.1 hk)
      go_wp2_with (go_at_call 220; (with_reducible refine HSU.out.mono ?_); rintro ev w8 ⟨⟨_, hsu⟩, hg8⟩; obtain ⟨r8, rfl, hr8⟩ := hsu (Nat.le_of_lt HLT.out); have HR8 := Lib.hid hr8; clear hr8 hsu)
      have HN := Lib.hid (newP_calls bb r8 _ w8 HR8.out.at_)
      go_wp2_with (go_at_call 125; (with_reducible refine HN.out.mono ?_); rintro ev w9 ⟨⟨r9, rfl, hr9⟩, hg9⟩; have HR9 := Lib.hid hr9; clear hr9)
      go_ret
      exact ⟨⟨_, rfl, by rw [← HR.out]; exact HR9.out⟩, (hg17.tr hg8).tr hg9⟩
    · have hcc : decide (cmpN a.natAbs b.natAbs < 0) = false := decide_eq_false (fun h => hlt (cmpN_neg.1 h))
      have hr : sgn ba (a.natAbs - b.natAbs) = a + b := by
        have h0 := HBE.out
        cases bb
        · have h1 : ba = true := by cases ba; exact absurd rfl h0; rfl
          subst h1
          have h1 := of_decide_eq_true hba; have h2 := of_decide_eq_false hbb; simp [sgn]; omega
        · have h1 : ba = false := by cases ba; rfl; exact absurd rfl h0
          subst h1
          have h1 := of_decide_eq_false hba; have h2 := of_decide_eq_true hbb; simp [sgn]; omega
      have HR := Lib.hid hr
      have HLT := Lib.hid hlt
      clear hr hs hlt hsa hsb
      have HCN := Lib.hid (fun (r3 r4 : Value) (w4 : World) h3 h4 => cmp_calls r3 r4 a.natAbs b.natAbs w4 h3 h4 k HB.out.1 HB.out.2 hk)
      generalize cmpN a.natAbs b.natAbs = cc at HCN hcc
      go_enter Tryz.func206, Tryz.ntmps206
      go_wp2_with (go_at_call 106; (with_reducible refine HS.out.mono ?_); rintro ev w1 ⟨rfl, hg1⟩)
      go_wp2_with (go_at_call 106; (with_reducible refine (HSY.out _ hg1).mono ?_); rintro ev w2 ⟨rfl, hg2⟩)
      have hg12 := hg1.tr hg2
      have HA := Lib.hid (HX.out w2 hg12)
      go_wp2_with (go_at_call 107; (with_reducible refine HA.out.mono ?_); rintro ev w3 ⟨⟨r3, rfl, hr3⟩, hg3⟩; have HR3 := Lib.hid hr3; clear hr3)
      have hg13 := hg12.tr hg3
      have HA2 := Lib.hid (HY.out w3 hg13)
      go_wp2_with (go_at_call 107; (with_reducible refine HA2.out.mono ?_); rintro ev w4 ⟨⟨r4, rfl, hr4⟩, hg4⟩; have HR4 := Lib.hid hr4; clear hr4)
      have hg14 := hg13.tr hg4
      have HC := Lib.hid (HCN.out r3 r4 w4 (HR3.out.gr hg4) HR4.out)
      go_wp2_with (go_at_call 100; (with_reducible refine HC.out.mono ?_); rintro ev w5 ⟨rfl, hg5⟩)
      have hg15 := hg14.tr hg5
      have HA3 := Lib.hid (HX.out w5 hg15)
      go_wp2_with (go_at_call 107; (with_reducible refine HA3.out.mono ?_); rintro ev w6 ⟨⟨r6, rfl, hr6⟩, hg6⟩; have HR6 := Lib.hid hr6; clear hr6)
      have hg16 := hg15.tr hg6
      have HA4 := Lib.hid (HY.out w6 hg16)
      go_wp2_with (go_at_call 107; (with_reducible refine HA4.out.mono ?_); rintro ev w7 ⟨⟨r7, rfl, hr7⟩, hg7⟩; have HR7 := Lib.hid hr7; clear hr7)
      have hg17 := hg16.tr hg7
      have HSU := Lib.hid (sub_calls r6 r7 _ _ w7 (HR6.out.gr hg7) HR7.out k HB.out.1 HB.out.2 hk)
      go_wp2_with (go_at_call 220; (with_reducible refine HSU.out.mono ?_); rintro ev w8 ⟨⟨_, hsu⟩, hg8⟩; obtain ⟨r8, rfl, hr8⟩ := hsu (by have := HLT.out; omega); have HR8 := Lib.hid hr8; clear hr8 hsu)
      have HN := Lib.hid (newP_calls ba r8 _ w8 HR8.out.at_)
      go_wp2_with (go_at_call 125; (with_reducible refine HN.out.mono ?_); rintro ev w9 ⟨⟨r9, rfl, hr9⟩, hg9⟩; have HR9 := Lib.hid hr9; clear hr9)
      go_ret
      exact ⟨⟨_, rfl, by rw [← HR.out]; exact HR9.out⟩, (hg17.tr hg8).tr hg9⟩

theorem IntP.at_ {w : World} {v : Value} {z : Int} (h : IntP w v z) : IntAt w v z := h.choose_spec.2

set_option maxRecDepth 100000 in
/-- (*Int).Sub. -/
theorem sub_int (x y : Value) (a b : Int) (w : World) (hx : IntAt w x a) (hy : IntAt w y b) (k : Nat) (ha : a.natAbs < B ^ k) (hb : b.natAbs < B ^ k) (hk : k ≤ 1000000) :
    Calls Tryz.prog 185 #[x, y] w fun e w' => (∃ r, e = .returned r ∧ IntP w' r (a - b)) ∧ Gr w w' := by
  have HN := Lib.hid (neg_calls y b w hy)
  have HX := Lib.hid hx
  have HB := Lib.hid (show a.natAbs < B ^ k ∧ (-b).natAbs < B ^ k from ⟨ha, by rw [Int.natAbs_neg]; exact hb⟩)
  clear hx hy ha hb
  go_enter Tryz.func185, Tryz.ntmps185
  go_wp2_with (go_at_call 207; (with_reducible refine HN.out.mono ?_); rintro ev w1 ⟨⟨r1, rfl, hr1⟩, hg1⟩; have HR1 := Lib.hid hr1; clear hr1)
  have HA := Lib.hid (add_int x r1 a (-b) w1 (HX.out.gr hg1) HR1.out.at_ k HB.out.1 HB.out.2 hk)
  go_wp2_with (go_at_call 206; (with_reducible refine HA.out.mono ?_); rintro ev w2 ⟨⟨r2, rfl, hr2⟩, hg2⟩; have HR2 := Lib.hid hr2; clear hr2)
  go_ret
  exact ⟨⟨_, rfl, HR2.out⟩, hg1.tr hg2⟩

set_option maxRecDepth 100000 in
/-- (*Int).Cmp. -/
theorem cmp_int (x y : Value) (a b : Int) (w : World) (hx : IntAt w x a) (hy : IntAt w y b) (k : Nat) (ha : a.natAbs < B ^ k) (hb : b.natAbs < B ^ k) (hk : k ≤ 1000000) :
    Calls Tryz.prog 149 #[x, y] w fun e w' => e = .returned (.int .i64 (a - b).sign) ∧ Gr w w' := by
  have HS := Lib.hid (sub_int x y a b w hx hy k ha hb hk)
  clear hx hy ha hb
  go_enter Tryz.func149, Tryz.ntmps149
  go_wp2_with (go_at_call 185; (with_reducible refine HS.out.mono ?_); rintro ev w1 ⟨⟨r1, rfl, hr1⟩, hg1⟩; have HR1 := Lib.hid hr1; clear hr1)
  have HG := Lib.hid (sign_calls r1 _ w1 HR1.out.at_)
  go_wp2_with (go_at_call 106; (with_reducible refine HG.out.mono ?_); rintro ev w2 ⟨rfl, hg2⟩)
  go_ret
  exact ⟨rfl, hg1.tr hg2⟩

set_option maxRecDepth 100000 in
/-- (*Nat).Small. -/
theorem small_nat (x : Value) (n : Nat) (w : World) (hx : NatAt w x n) (k : Nat) (hn : n < B ^ k) (hk : k ≤ 1000000) :
    Calls Tryz.prog 179 #[x] w fun e w' => ((n < B → e = .returned (.tuple #[.int .u64 (n : Int), .bool true])) ∧ (B ≤ n → e = .returned (.tuple #[.int .u64 0, .bool false]))) ∧ w = w' := by
  obtain ⟨sa, p, sc, hl, hnm, hv, hcl⟩ := limbs_ex x n w hx
  have h1 := norm_length p hnm k (by rw [hv]; exact hn)
  have HL := Lib.hid hcl
  subst hv
  clear hx hcl hn
  by_cases h0 : p.length = 0
  · have hp : p = [] := List.eq_nil_of_length_eq_zero h0
    subst hp
    rw [show ([] : List Nat).length = 0 from rfl] at HL
    clear hl hnm h0 h1
    go_enter Tryz.func179, Tryz.ntmps179
    go_wp2_with (go_at_call 129; (with_reducible refine HL.out.mono ?_); rintro ev w1 ⟨rfl, rfl⟩)
    go_ret2
    exact ⟨⟨fun _ => rfl, fun h => absurd h (by decide)⟩, rfl⟩
  · by_cases h2 : p.length = 1
    · obtain ⟨d, rfl⟩ : ∃ d, p = [d] := by
        cases p with
        | nil => exact absurd rfl h0
        | cons d t =>
          have ht : t = [] := List.eq_nil_of_length_eq_zero (by simpa using h2)
          exact ⟨d, by rw [ht]⟩
      obtain ⟨g, o, c, e, hc⟩ := hl.get (Gr.rf w) 0 (by simp)
      cases e
      have hc3 : w.cell? ⟨g, o, none⟩ = some (.int .u64 (d : Int)) := hc
      have hdB := hl.1 d (by simp)
      rw [val1]
      have HD := Lib.hid hdB
      rw [show [d].length = 1 from rfl] at HL
      clear hl hnm h0 h1 h2 hc hdB
      go_enter Tryz.func179, Tryz.ntmps179
      go_wp2_with (go_at_call 129; (with_reducible refine HL.out.mono ?_); rintro ev w1 ⟨rfl, rfl⟩)
      go_ret2
      exact ⟨⟨fun _ => rfl, fun h => absurd h (by have := HD.out; omega)⟩, rfl⟩
    · have hB : B ≤ val p := by
        have := norm_pos p hnm (by rintro rfl; exact h0 rfl)
        refine Nat.le_trans ?_ this
        calc B = B ^ 1 := (Nat.pow_one B).symm
          _ ≤ _ := Nat.pow_le_pow_right B_pos (by omega)
      have HBB := Lib.hid hB
      have b1 : ((p.length : Int) == 0) = false := beq_eq_false_iff_ne.2 (by omega)
      have b2 : ((p.length : Int) == 1) = false := beq_eq_false_iff_ne.2 (by omega)
      clear hl hnm h0 h2 hB
      go_enter Tryz.func179, Tryz.ntmps179
      go_wp2_with (go_at_call 129; (with_reducible refine HL.out.mono ?_); rintro ev w1 ⟨rfl, rfl⟩)
      go_ret2
      exact ⟨⟨fun h => absurd h (by have := HBB.out; omega), fun _ => rfl⟩, rfl⟩
end Go.Proofs.YtgejadnfeeoknaaGreatDoor
