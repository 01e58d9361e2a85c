/- Layer 2: 'any text is a number, just its own, or none; numbers of 64 bits, and back', walked. -/
import Derived.Test.YteljmmeomhpccaaGreatDoorQk
import Derived.Test.YteljmmeomhpccaaGreatDoorQe
import Derived.Test.YteljmmeomhpccaaGreatDoorQf
import Derived.Test.YteljmmeomhpccaaGreatDoorFy
namespace Go.Proofs.YteljmmeomhpccaaGreatDoor
open Go.RowKit Go.Extern.Stop Go.Stop Go.Extern Go.Sort
set_option linter.unusedVariables false
set_option linter.unusedSimpArgs false

/-- A text that is a number is that number's numeral. -/
theorem numT_own (s : ByteArray) (h : NumT s) : Lib.decDigits (dv s.data.toList) = s.data.toList := by
  obtain ⟨h1, h2, h3, h4⟩ := h
  have hl : s.data.toList.length = s.size := (Lib.size_eq s).symm
  refine digits_of _ _ rfl h4 (by intro e; rw [e] at hl; simp at hl; omega) ?_
  rcases h3 with h3 | h3
  · exact .inl (by omega)
  · refine .inr fun e => ?_
    have h5 := h3 h1
    have h6 := at_list s 0 h1 (by omega)
    rw [List.head?_eq_getElem?, List.getElem?_eq_getElem (by omega)] at e
    injection e with e
    rw [← h6, e] at h5
    exact h5 rfl
theorem bytes_own (s : ByteArray) : (⟨s.data.toList.toArray⟩ : ByteArray) = s := by
  cases s; simp
theorem numT_bad (s : ByteArray) (h : ¬ NumT s) : s.size = 0 ∨ 4000 < s.size ∨ (1 < s.size ∧ ∀ h : 0 < s.size, (s[0]'h).toNat = 48) ∨ ¬ Dig s.data.toList := by
  by_cases c1 : s.size = 0
  · exact .inl c1
  · by_cases c2 : 4000 < s.size
    · exact .inr (.inl c2)
    · by_cases c3 : Dig s.data.toList
      · refine .inr (.inr (.inl ⟨?_, fun hp => ?_⟩))
        · by_cases c4 : s.size = 1
          · exact absurd ⟨by omega, by omega, .inl c4, c3⟩ h
          · omega
        · by_cases c5 : (s[0]'hp).toNat = 48
          · exact c5
          · exact absurd ⟨hp, by omega, .inr fun _ => c5, c3⟩ h
      · exact .inr (.inr (.inr c3))
theorem numT_numeral (k : Nat) (h : k < 18446744073709551616) : NumT ⟨(Lib.decDigits k).toArray⟩ ∧ dv (⟨(Lib.decDigits k).toArray⟩ : ByteArray).data.toList = k := by
  obtain ⟨h1, h2, h3, h4⟩ := numeral k
  have hl : (⟨(Lib.decDigits k).toArray⟩ : ByteArray).size = (Lib.decDigits k).length := by rw [Lib.size_eq]
  have hlen : (Lib.decDigits k).length ≤ 20 := by
    rcases h4 with h4 | h4
    · omega
    · have h5 : 10 ^ ((Lib.decDigits k).length - 1) ≤ dv (Lib.decDigits k) := by
        cases hc : Lib.decDigits k with
        | nil => exact absurd hc h3
        | cons a l =>
          rw [hc] at h1 h4
          have ha := h1 a (by simp)
          rw [dv_cons, List.length_cons, Nat.add_sub_cancel]
          have : a.toNat ≠ 48 := fun e => h4 (by rw [List.head?_cons]; congr 1; exact UInt8.toNat_inj.1 e)
          have h6 : 1 * 10 ^ l.length ≤ (a.toNat - 48) * 10 ^ l.length := Nat.mul_le_mul_right _ (by omega)
          omega
      rw [h2] at h5
      by_cases hh : (Lib.decDigits k).length ≤ 20
      · exact hh
      · have h6 : 10 ^ 20 ≤ 10 ^ ((Lib.decDigits k).length - 1) := Nat.pow_le_pow_right (by decide) (by omega)
        have h7 : (10 : Nat) ^ 20 = 100000000000000000000 := by decide
        omega
  have hpos : 0 < (Lib.decDigits k).length := List.length_pos_iff.2 h3
  refine ⟨⟨by omega, by omega, ?_, h1⟩, h2⟩
  rcases h4 with h4 | h4
  · exact .inl (by omega)
  · refine .inr fun hp e => h4 ?_
    rw [← at_list _ 0 hp (by show 0 < (Lib.decDigits k).length; exact hpos)] at e
    rw [List.head?_eq_getElem?, List.getElem?_eq_getElem hpos]
    congr 1
    exact UInt8.toNat_inj.1 e
theorem dv_bd (s : ByteArray) (h : NumT s) : dv s.data.toList < B ^ 250 ∧ dv s.data.toList < Dg.D ^ 500 := by
  have h1 := dv_lt _ h.2.2.2
  have h2 : s.data.toList.length ≤ 4000 := by rw [← Lib.size_eq]; exact h.2.1
  exact ⟨Nat.lt_of_lt_of_le h1 (ten_pow_le _ 250 (by omega)), Nat.lt_of_lt_of_le h1 (Nat.le_trans (Nat.pow_le_pow_right (by decide) (show s.data.toList.length ≤ 9 * 500 by omega)) (Nat.le_of_eq (D_pow 500).symm))⟩
theorem small_bd (k : Nat) (h : k < 18446744073709551616) : k < Dg.D ^ 500 :=
  Nat.lt_of_lt_of_le (Nat.lt_trans h (show 18446744073709551616 < 10 ^ 20 by decide)) (Nat.le_trans (Nat.pow_le_pow_right (by decide) (show 20 ≤ 9 * 500 by omega)) (Nat.le_of_eq (D_pow 500).symm))
/-- nat.Get of whatever text. -/
theorem natGet_calls (s : ByteArray) (w : World) (hs : s.size ≤ 9223372036854775807) :
    Calls Tryz.prog 7 #[.string s] w fun e w' => ((NumT s → ∃ r, e = .returned (.tuple #[r, .nilIface]) ∧ NatP w' r (dv s.data.toList)) ∧ (¬ NumT s → e = .returned (.tuple #[.pointer none, .iface 118 (.int .i64 1)]))) ∧ Gr w w' := by
  by_cases h : NumT s
  · refine (get_nat_ok s w h.1 h.2.1 h.2.2.2 h.2.2.1).mono ?_
    rintro e w' ⟨h1, hg⟩
    exact ⟨⟨fun _ => h1, fun h2 => absurd h h2⟩, hg⟩
  · refine (get_nat_bad s w hs (numT_bad s h)).mono ?_
    rintro e w' ⟨h1, hg⟩
    exact ⟨⟨fun h2 => absurd h2 h, fun _ => h1⟩, hg⟩

set_option maxRecDepth 100000 in
set_option maxHeartbeats 8000000 in
theorem natText_calls (s : ByteArray) (n : Int) (hs : s.size ≤ 9223372036854775807) (n0 : 0 ≤ n) (n1 : n ≤ 18446744073709551615) (w : World) (hM : Met2 w) :
    Calls Tryz.prog 4 #[.string s, .int .u64 n] w fun e w' => e = .returned (.bool true) ∧ Gr w w' := by
  have HM := Lib.hid hM
  have HBG := Lib.hid (begun_met w hM)
  have HTC := Lib.hid (fun w => text_calls s 100 (by decide) (by decide) hs w)
  obtain ⟨T, hT⟩ : ∃ T, s.extract 0 (min s.size (100 : Int).toNat) = T := ⟨_, rfl⟩
  have hTs : T.size ≤ 4000 := by rw [← hT, ByteArray.size_extract]; omega
  rw [hT] at HTC
  obtain ⟨k, rfl⟩ : ∃ k : Nat, n = (k : Int) := ⟨n.toNat, by omega⟩
  have hk : k < 18446744073709551616 := by omega
  have HK := Lib.hid hk
  clear hT hM n0 n1
  by_cases hok : NumT T
  case' pos =>
    have HOK := Lib.hid hok
    have HOW := Lib.hid (show (⟨(Lib.decDigits (dv T.data.toList)).toArray⟩ : ByteArray) = T by rw [numT_own T hok])
    clear hok
    go_enter Tryz.func4, Tryz.ntmps4
    go_wp2_with (first | (go_at_call 6; (with_reducible refine HBG.out.mono ?_); rintro ev w1 ⟨rfl, hg1⟩) | (go_at_call 10; (with_reducible refine (HTC.out _).mono ?_); rintro ev wq ⟨rfl, rfl⟩))
    have HG1 := Lib.hid hg1
    have HA := Lib.hid (natGet_calls T w1 (by omega))
    clear hg1
    go_wp2_with (go_at_call 7; (with_reducible refine HA.out.mono ?_); rintro ev w2 ⟨⟨hr, _⟩, hg2⟩; obtain ⟨r2, rfl, hr2⟩ := hr HOK.out)
    have HR2 := Lib.hid hr2
    have HG2 := Lib.hid (HG1.out.tr hg2)
    have HB := Lib.hid (rgetN_calls T w2)
    clear hr hr2 hg2
    go_wp2_with (go_at_call 11; (with_reducible refine HB.out.mono ?_); rintro ev w3 ⟨⟨hr, _⟩, hg3⟩; obtain ⟨r3, rfl, hr3⟩ := hr HOK.out)
    have HR3 := Lib.hid hr3
    have HG3 := Lib.hid (HG2.out.tr hg3)
    have HC := Lib.hid (text_nat r2 _ w3 (HR2.out.gr hg3).at_ 250 (dv_bd T HOK.out).1 (by decide) (by decide) (HM.out.2.2.gr HG3.out))
    rw [HOW.out] at HC
    clear hr hr3 hg3
    go_wp2_with (go_at_call 9; (with_reducible refine HC.out.mono ?_); rintro ev w4 ⟨rfl, hg4⟩)
    have HD := Lib.hid (rtext_calls r3 _ w4 (HR3.out.gr hg4) (dv_bd T HOK.out).2)
    rw [HOW.out] at HD
    go_wp2_with (go_at_call 12; (with_reducible refine HD.out.mono ?_); rintro ev w5 ⟨rfl, hg5⟩)
    have HG5 := Lib.hid (HG3.out.tr (hg4.tr hg5))
    clear hg4 hg5
  case' neg =>
    have HOK := Lib.hid hok
    clear hok
    go_enter Tryz.func4, Tryz.ntmps4
    go_wp2_with (first | (go_at_call 6; (with_reducible refine HBG.out.mono ?_); rintro ev w1 ⟨rfl, hg1⟩) | (go_at_call 10; (with_reducible refine (HTC.out _).mono ?_); rintro ev wq ⟨rfl, rfl⟩))
    have HG1 := Lib.hid hg1
    have HA := Lib.hid (natGet_calls T w1 (by omega))
    clear hg1
    go_wp2_with (go_at_call 7; (with_reducible refine HA.out.mono ?_); rintro ev w2 ⟨⟨_, hr⟩, hg2⟩; obtain rfl := hr HOK.out)
    have HG2 := Lib.hid (HG1.out.tr hg2)
    have HB := Lib.hid (rgetN_calls T w2)
    clear hr hg2
    go_wp2_with (go_at_call 11; (with_reducible refine HB.out.mono ?_); rintro ev w3 ⟨⟨_, hr⟩, hg3⟩; obtain rfl := hr HOK.out)
    have HG3 := Lib.hid (HG2.out.tr hg3)
    have HC := Lib.hid (same_own 1 w3 (HM.out.1.gr HG3.out))
    clear hr hg3
    go_wp2_with (go_at_call 8; (with_reducible refine HC.out.mono ?_); rintro ev w5 ⟨rfl, hg5⟩)
    have HG5 := Lib.hid (HG3.out.tr hg5)
    clear hg5
  all_goals
    have HE := Lib.hid (of_nat_calls k (by rw [B_eq]; exact HK.out) w5)
    go_wp2_with (go_at_call 13; (with_reducible refine HE.out.mono ?_); rintro ev w6 ⟨⟨r6, rfl, hr6⟩, hg6⟩)
    have HR6 := Lib.hid hr6
    have HG6 := Lib.hid (HG5.out.tr hg6)
    have hsm : Calls Tryz.prog 14 #[r6] w6 fun e w' => e = .returned (.tuple #[.int .u64 (k : Int), .bool true]) ∧ w6 = w' :=
      (small_nat r6 k w6 hr6.at_ 1 (by rw [Nat.pow_one, B_eq]; exact HK.out) (by decide)).mono fun e w' ⟨h1, hg⟩ => ⟨h1.1 (by rw [B_eq]; exact HK.out), hg⟩
    have HSM := Lib.hid hsm
    clear hr6 hg6 hsm
    go_wp2_with (go_at_call 14; (with_reducible refine HSM.out.mono ?_); rintro ev w7 ⟨rfl, rfl⟩)
    have HF := Lib.hid (show Calls Tryz.prog 13 #[.int .u64 18446744073709551615] w6 fun e w' => (∃ r, e = .returned r ∧ NatP w' r 18446744073709551615) ∧ Gr w6 w' from of_nat_calls 18446744073709551615 (by decide) w6)
    go_wp2_with (go_at_call 13; (with_reducible refine HF.out.mono ?_); rintro ev w8 ⟨⟨r8, rfl, hr8⟩, hg8⟩)
    have HR8 := Lib.hid hr8
    have HR6b := Lib.hid (HR6.out.gr hg8)
    have HG8 := Lib.hid (HG6.out.tr hg8)
    have HAD := Lib.hid (add_calls r6 r8 k 18446744073709551615 w8 HR6b.out.at_ hr8.at_ 2 (Nat.lt_trans HK.out (by decide)) (by decide) (by decide))
    clear hr8 hg8
    go_wp2_with (go_at_call 15; (with_reducible refine HAD.out.mono ?_); rintro ev w9 ⟨⟨r9, rfl, hr9⟩, hg9⟩)
    have HR9 := Lib.hid hr9
    have HR6c := Lib.hid (HR6b.out.gr hg9)
    have HG9 := Lib.hid (HG8.out.tr hg9)
    have hsm : ∃ z : Int, Calls Tryz.prog 14 #[r9] w9 fun e w' => e = .returned (.tuple #[.int .u64 z, .bool (decide ((k : Int) = 0))]) ∧ w9 = w' := by
      have h1 := small_nat r9 _ w9 hr9.at_ 2 (Nat.lt_trans (Nat.add_lt_add_right HK.out 18446744073709551615) (by decide)) (by decide)
      by_cases hz : k = 0
      · exact ⟨_, h1.mono fun e w' ⟨h2, hg⟩ => ⟨by rw [h2.1 (by subst hz; decide), show decide ((k : Int) = 0) = true from decide_eq_true (by omega)], hg⟩⟩
      · exact ⟨_, h1.mono fun e w' ⟨h2, hg⟩ => ⟨by rw [h2.2 (by rw [B_eq]; omega), show decide ((k : Int) = 0) = false from decide_eq_false (by omega)], hg⟩⟩
    obtain ⟨z9, hsm⟩ := hsm
    obtain ⟨b9, hb9⟩ : ∃ b9 : Bool, decide ((k : Int) = 0) = b9 := ⟨_, rfl⟩
    have hb9n : (((k : Int) == 0) : Bool) = b9 := by rw [← hb9]; rfl
    rw [hb9] at hsm
    have HSM2 := Lib.hid hsm
    clear hr9 hg9 hsm
    go_wp2_with (go_at_call 14; (with_reducible refine HSM2.out.mono ?_); rintro ev w10 ⟨rfl, rfl⟩)
    obtain ⟨X, hX⟩ : ∃ X : ByteArray, X = ⟨(Lib.decDigits k).toArray⟩ := ⟨_, rfl⟩
    have HX := Lib.hid (show NumT X ∧ dv X.data.toList = k by rw [hX]; exact numT_numeral k HK.out)
    have HTX := Lib.hid (show ∀ w', Gr w9 w' → Calls Tryz.prog 9 #[r6] w' fun e w'' => e = .returned (.string X) ∧ Gr w9 w'' from fun w' hg => by
      refine (text_nat r6 k w' (HR6c.out.gr hg).at_ 1 (by rw [Nat.pow_one, B_eq]; exact HK.out) (by decide) (by decide) (HM.out.2.2.gr (HG9.out.tr hg))).mono ?_
      rintro e w'' ⟨rfl, hg2⟩
      exact ⟨by rw [hX], hg.tr hg2⟩)
    have HXK := Lib.hid hX
    clear hX
    go_wp2_with (go_at_call 9; (with_reducible refine (HTX.out _ (Gr.rf _)).mono ?_); rintro ev w11 ⟨rfl, hg11⟩)
    have HG11 := Lib.hid hg11
    have HA2 := Lib.hid (natGet_calls X w11 (by have := HX.out.1.2.1; omega))
    clear hg11
    go_wp2_with (go_at_call 7; (with_reducible refine HA2.out.mono ?_); rintro ev w12 ⟨⟨hr, _⟩, hg12⟩; obtain ⟨r12, rfl, hr12⟩ := hr HX.out.1)
    have HR12 := Lib.hid hr12
    have HG12 := Lib.hid (HG11.out.tr hg12)
    have hcm := cmp_calls r12 r6 _ k w12 hr12.at_ (HR6c.out.gr HG12.out).at_ 1 (by rw [HX.out.2, Nat.pow_one, B_eq]; exact HK.out) (by rw [Nat.pow_one, B_eq]; exact HK.out) (by decide)
    rw [HX.out.2, show cmpN k k = 0 by unfold cmpN; rw [if_neg (Nat.lt_irrefl k), if_neg (Nat.lt_irrefl k)]] at hcm
    have HCM := Lib.hid hcm
    clear hr hr12 hg12 hcm
    go_wp2_with (go_at_call 16; (with_reducible refine HCM.out.mono ?_); rintro ev w13 ⟨rfl, hg13⟩)
    have HG13 := Lib.hid (HG12.out.tr hg13)
    clear hg13
    go_wp2_with (go_at_call 9; (with_reducible refine (HTX.out _ HG13.out).mono ?_); rintro ev w14 ⟨rfl, hg14⟩)
    have HG14 := Lib.hid hg14
    have HOU := Lib.hid (ofU_calls k (by rw [B_eq]; exact HK.out) w14)
    clear hg14
    go_wp2_with (go_at_call 17; (with_reducible refine HOU.out.mono ?_); rintro ev w15 ⟨⟨r15, rfl, hr15⟩, hg15⟩)
    have HG15 := Lib.hid (HG14.out.tr hg15)
    have hrt := rtext_calls r15 k w15 hr15 (small_bd k HK.out)
    rw [← HXK.out] at hrt
    have HRT := Lib.hid hrt
    clear hr15 hg15 hrt
    go_wp2_with (go_at_call 12; (with_reducible refine HRT.out.mono ?_); rintro ev w16 ⟨rfl, hg16⟩)
    go_ret
    exact ⟨by first | rfl | simp, HG9.out.tr (HG15.out.tr hg16)⟩
end Go.Proofs.YteljmmeomhpccaaGreatDoor
