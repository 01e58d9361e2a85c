/- Layer 3: integers: Text, Neg, Add, Sub, Mul, Cmp, Small by contract. -/
import Derived.Test.YtgejadnfeeoknaaGreatDoorOa
namespace Go.Proofs.YtgejadnfeeoknaaGreatDoor
open Go.RowKit Go.Extern.Stop Go.Stop Go.Extern Go.Sort
set_option linter.unusedVariables false
set_option linter.unusedSimpArgs false

theorem ba_ext {a b : ByteArray} (h : a.data.toList = b.data.toList) : a = b := by
  cases a; cases b; congr; exact Array.toList_inj.1 h
theorem sign_neg_iff (z : Int) : z.sign < 0 ↔ z < 0 := by
  rcases Int.lt_trichotomy z 0 with h | h | h
  · rw [Int.sign_eq_neg_one_of_neg h]; omega
  · subst h; simp
  · rw [Int.sign_eq_one_of_pos h]; omega
theorem sign_bd (z : Int) : -1 ≤ z.sign ∧ z.sign ≤ 1 := by
  rcases Int.lt_trichotomy z 0 with h | h | h
  · rw [Int.sign_eq_neg_one_of_neg h]; omega
  · subst h; simp
  · rw [Int.sign_eq_one_of_pos h]; omega
/-- A pointer to an integer that is there. -/
def IntP (w : World) (v : Value) (z : Int) : Prop := ∃ b, v = .pointer (some ⟨b, 0, none⟩) ∧ IntAt w v z
theorem IntP.gr {w w' : World} (hg : Gr w w') {v : Value} {z : Int} (h : IntP w v z) : IntP w' v z := by
  obtain ⟨b, e, hi⟩ := h
  exact ⟨b, e, hi.gr hg⟩
theorem newP_calls (neg : Bool) (v : Value) (m : Nat) (w : World) (h : NatAt w v m) :
    Calls Tryz.prog 125 #[.bool neg, v] w fun e w' => (∃ r, e = .returned r ∧ IntP w' r (sgn neg m)) ∧ Gr w w' := by
  refine (newInt_calls neg v m w h).mono ?_
  rintro e w' ⟨⟨b, rfl, hi⟩, hg⟩
  exact ⟨⟨_, rfl, b, rfl, hi⟩, hg⟩
theorem ofP_calls (z : Int) (h0 : -9223372036854775808 ≤ z) (h1 : z ≤ 9223372036854775807) (w : World) :
    Calls Tryz.prog 89 #[.int .i64 z] w fun e w' => (∃ r, e = .returned r ∧ IntP w' r z) ∧ Gr w w' := by
  refine (of_int_calls z h0 h1 w).mono ?_
  rintro e w' ⟨⟨b, rfl, hi⟩, hg⟩
  exact ⟨⟨_, rfl, b, rfl, hi⟩, hg⟩

set_option maxRecDepth 100000 in
set_option maxHeartbeats 1000000 in
/-- (*Int).Text. -/
theorem text_int (v : Value) (z : Int) (w : World) (h : IntAt w v z) (m : Nat) (hb : z.natAbs < B ^ m) (hm0 : 1 ≤ m) (hm : m ≤ 1000) (hT : PowTab w) :
    Calls Tryz.prog 79 #[v] w fun e w' => e = .returned (.string ⟨(Lib.itoa z).toArray⟩) ∧ Gr w w' := by
  have HS := Lib.hid (sign_calls v z w h)
  have HI := Lib.hid h
  have HB := Lib.hid hb
  have HTT := Lib.hid hT
  have HZ := Lib.hid (sign_neg_iff z)
  by_cases hz : z < 0
  · have b1 : decide (z.sign < 0) = true := decide_eq_true (HZ.out.2 hz)
    have hit : Lib.itoa z = 45 :: Lib.decDigits z.natAbs := by unfold Lib.itoa; rw [if_pos hz]
    rw [hit]
    generalize z.sign = s at HS b1 HZ
    clear h hb hT hit HZ hz
    go_enter Tryz.func79, Tryz.ntmps79
    go_wp2_with (go_at_call 106; (with_reducible refine HS.out.mono ?_); rintro ev w1 ⟨rfl, hg1⟩)
    have HA := Lib.hid (abs_calls v z w1 (HI.out.gr hg1))
    go_wp2_with (go_at_call 107; (with_reducible refine HA.out.mono ?_); rintro ev w2 ⟨⟨r2, rfl, hr2⟩, hg2⟩; have HR2 := Lib.hid hr2; clear hr2)
    obtain ⟨S, hS⟩ : ∃ S : ByteArray, S = ⟨(Lib.decDigits z.natAbs).toArray⟩ := ⟨_, rfl⟩
    have hsz : S.size ≤ 20 * m := by
      rw [hS, Lib.size_eq]
      exact nd_le (20 * m) _ (by omega) (Nat.lt_of_lt_of_le HB.out (B_le_ten m))
    have hct : (⟨#[45]⟩ : ByteArray) ++ S = ⟨(45 :: Lib.decDigits z.natAbs).toArray⟩ := by
      apply ba_ext
      rw [ByteArray.data_append, Array.toList_append, hS]
      rfl
    have ht := text_nat r2 z.natAbs w2 HR2.out m HB.out hm0 hm (HTT.out.gr (hg1.tr hg2))
    rw [← hS] at ht
    have HX := Lib.hid ht
    have HCT := Lib.hid hct
    clear hS ht hct
    go_wp2_with (go_at_call 101; (with_reducible refine HX.out.mono ?_); rintro ev w3 ⟨rfl, hg3⟩)
    go_ret
    exact ⟨ret_str HCT.out, (hg1.tr hg2).tr hg3⟩
  · have b1 : decide (z.sign < 0) = false := decide_eq_false (fun h => hz (HZ.out.1 h))
    have hit : Lib.itoa z = Lib.decDigits z.natAbs := by unfold Lib.itoa; rw [if_neg hz]; congr 1; omega
    rw [hit]
    generalize z.sign = s at HS b1 HZ
    clear h hb hT hit HZ hz
    go_enter Tryz.func79, Tryz.ntmps79
    go_wp2_with (go_at_call 106; (with_reducible refine HS.out.mono ?_); rintro ev w1 ⟨rfl, hg1⟩)
    have HA := Lib.hid (abs_calls v z w1 (HI.out.gr hg1))
    go_wp2_with (go_at_call 107; (with_reducible refine HA.out.mono ?_); rintro ev w2 ⟨⟨r2, rfl, hr2⟩, hg2⟩; have HR2 := Lib.hid hr2; clear hr2)
    have HX := Lib.hid (text_nat r2 z.natAbs w2 HR2.out m HB.out hm0 hm (HTT.out.gr (hg1.tr hg2)))
    go_wp2_with (go_at_call 101; (with_reducible refine HX.out.mono ?_); rintro ev w3 ⟨rfl, hg3⟩)
    go_ret
    exact ⟨rfl, (hg1.tr hg2).tr hg3⟩

set_option maxRecDepth 100000 in
/-- (*Int).Neg. -/
theorem neg_calls (v : Value) (z : Int) (w : World) (h : IntAt w v z) :
    Calls Tryz.prog 207 #[v] w fun e w' => (∃ r, e = .returned r ∧ IntP w' r (-z)) ∧ Gr w w' := by
  have HS := Lib.hid (sign_calls v z w h)
  have HI := Lib.hid h
  obtain ⟨bb, hbb⟩ : ∃ bb : Bool, decide (0 ≤ z.sign) = bb := ⟨_, rfl⟩
  have hr : sgn bb z.natAbs = -z := by
    have := sign_neg_iff z
    cases bb
    · have h1 := of_decide_eq_false hbb; simp [sgn]; omega
    · have h1 := of_decide_eq_true hbb; simp [sgn]; omega
  have HR := Lib.hid hr
  generalize z.sign = s at HS hbb
  clear h hr
  go_enter Tryz.func207, Tryz.ntmps207
  go_wp2_with (go_at_call 106; (with_reducible refine HS.out.mono ?_); rintro ev w1 ⟨rfl, hg1⟩)
  have HA := Lib.hid (abs_calls v z w1 (HI.out.gr hg1))
  go_wp2_with (go_at_call 107; (with_reducible refine HA.out.mono ?_); rintro ev w2 ⟨⟨r2, rfl, hr2⟩, hg2⟩; have HR2 := Lib.hid hr2; clear hr2)
  have HN := Lib.hid (newP_calls bb r2 _ w2 HR2.out)
  go_wp2_with (go_at_call 125; (with_reducible refine HN.out.mono ?_); rintro ev w3 ⟨⟨r3, rfl, hr3⟩, hg3⟩; have HR3 := Lib.hid hr3; clear hr3)
  go_ret
  exact ⟨⟨_, rfl, by rw [← HR.out]; exact HR3.out⟩, (hg1.tr hg2).tr hg3⟩

set_option maxRecDepth 100000 in
set_option maxHeartbeats 1000000 in
/-- (*Int).Mul. -/
theorem mul_int (x y : Value) (a b : Int) (w : World) (hx : IntAt w x a) (hy : IntAt w y b) (k : Nat) (ha : a.natAbs < B ^ k) (hb : b.natAbs < B ^ k) (hk : k ≤ 1000000) :
    Calls Tryz.prog 90 #[x, y] w fun e w' => (∃ r, e = .returned r ∧ IntP w' r (a * b)) ∧ Gr w w' := by
  have HS := Lib.hid (sign_calls x a w hx)
  have HX := Lib.hid hx
  have HY := Lib.hid hy
  have HB := Lib.hid (And.intro ha hb)
  obtain ⟨bb, hbb⟩ : ∃ bb : Bool, decide ((a * b).sign < 0) = bb := ⟨_, rfl⟩
  have hr : sgn bb (a.natAbs * b.natAbs) = a * b := by
    have := sign_neg_iff (a * b)
    rw [← Int.natAbs_mul]
    cases bb
    · have h1 := of_decide_eq_false hbb; simp [sgn]; omega
    · have h1 := of_decide_eq_true hbb; simp [sgn]; omega
  have HR := Lib.hid hr
  have hm : a.sign * b.sign = (a * b).sign := (Int.sign_mul a b).symm
  have hbd := sign_bd (a * b)
  obtain ⟨hb1, hb2⟩ := hbd
  have HSY : ∀ w', Gr w w' → Calls Tryz.prog 106 #[y] w' fun e w2 => e = .returned (.int .i64 b.sign) ∧ Gr w' w2 := fun w' hg => sign_calls y b w' (hy.gr hg)
  generalize (a * b).sign = s at hm hbb hb1 hb2
  generalize a.sign = sa at HS hm
  generalize b.sign = sb at HSY hm
  have HSY := Lib.hid HSY
  clear hx hy ha hb hr
  go_enter Tryz.func90, Tryz.ntmps90
  go_wp2_with (go_at_call 106; (with_reducible refine HS.out.mono ?_); rintro ev w1 ⟨rfl, hg1⟩)
  go_wp2_with (go_at_call 106; (with_reducible refine (HSY.out _ hg1).mono ?_); rintro ev w2 ⟨rfl, hg2⟩)
  have HA := Lib.hid (abs_calls x a w2 (HX.out.gr (hg1.tr hg2)))
  go_wp2_with (go_at_call 107; (with_reducible refine HA.out.mono ?_); rintro ev w3 ⟨⟨r3, rfl, hr3⟩, hg3⟩; have HR3 := Lib.hid hr3; clear hr3)
  have HA2 := Lib.hid (abs_calls y b w3 (HY.out.gr ((hg1.tr hg2).tr hg3)))
  go_wp2_with (go_at_call 107; (with_reducible refine HA2.out.mono ?_); rintro ev w4 ⟨⟨r4, rfl, hr4⟩, hg4⟩; have HR4 := Lib.hid hr4; clear hr4)
  have HM := Lib.hid (mul_calls r3 r4 _ _ w4 (HR3.out.gr hg4) HR4.out k HB.out.1 HB.out.2 hk)
  go_wp2_with (go_at_call 98; (with_reducible refine HM.out.mono ?_); rintro ev w5 ⟨⟨r5, rfl, hr5⟩, hg5⟩; have HR5 := Lib.hid hr5; clear hr5)
  have HN := Lib.hid (newP_calls bb r5 _ w5 HR5.out.at_)
  go_wp2_with (go_at_call 125; (with_reducible refine HN.out.mono ?_); rintro ev w6 ⟨⟨r6, rfl, hr6⟩, hg6⟩; have HR6 := Lib.hid hr6; clear hr6)
  go_ret
  exact ⟨⟨_, rfl, by rw [← HR.out]; exact HR6.out⟩, ((((hg1.tr hg2).tr hg3).tr hg4).tr hg5).tr hg6⟩
end Go.Proofs.YtgejadnfeeoknaaGreatDoor
