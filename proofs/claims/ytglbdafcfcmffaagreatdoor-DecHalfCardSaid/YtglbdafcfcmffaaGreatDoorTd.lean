/- Layer 2: Div of numbers of any length. -/
import Derived.Test.YtglbdafcfcmffaaGreatDoorTc
import Derived.Test.YtglbdafcfcmffaaGreatDoorGh
namespace Go.Proofs.YtglbdafcfcmffaaGreatDoor
open Go.RowKit Go.Extern.Stop Go.Stop Go.Extern
set_option linter.unusedVariables false
set_option linter.unusedSimpArgs false

set_option maxRecDepth 100000 in
set_option maxHeartbeats 4000000 in
/-- (*Nat).Div by a number of two limbs or more. -/
theorem div2_calls (x y : Value) (a b : Nat) (w : World) (hx : NatAt w x a) (hy : NatAt w y b) (k : Nat) (ha : a < B ^ k) (hb : b < B ^ k) (hk : k ≤ 1000000) (hB : B ≤ b) :
    Calls Tryz.prog 66 #[x, y] w fun e w' => (∃ q r, e = .returned (.tuple #[q, r, .nilIface]) ∧ NatP w' q (a / b) ∧ NatP w' r (a % b)) ∧ Gr w w' := by
  obtain ⟨sa, p, sc, hl, hn, hv, hcl⟩ := limbs_ex x a w hx
  obtain ⟨ta, q, tc, hl2, hn2, hv2, hcl2⟩ := limbs_ex y b w hy
  have h1 := norm_length p hn k (by rw [hv]; exact ha)
  have h2 := norm_length q hn2 k (by rw [hv2]; exact hb)
  have HC := Lib.hid (compare_calls _ _ p q w hl hl2 hn hn2 (by omega) (by omega))
  have hq2 : 2 ≤ q.length := by
    rcases Nat.lt_or_ge q.length 2 with h | h
    · have h3 := val_lt q hl2.1
      have h4 : B ^ q.length ≤ B ^ 1 := Nat.pow_le_pow_right B_pos (by omega)
      rw [Nat.pow_one] at h4
      omega
    · exact h
  subst hv
  subst hv2
  have HL := Lib.hid hcl
  have HM := Lib.hid hcl2
  have HP := Lib.hid hl
  have HQ := Lib.hid hl2
  have HN2 := Lib.hid hn2
  have hpk : p.length ≤ 1000000 := by omega
  have hlen := length_le_of_val p q hl.1 hn2
  have b1 : ((q.length : Int) == 0) = false := beq_eq_false_iff_ne.2 (by omega)
  have b2 : ((q.length : Int) == 1) = false := beq_eq_false_iff_ne.2 (by omega)
  clear hx hy ha hb hn hn2 hcl hcl2 hl hl2 h1 hB
  by_cases hlt : val p < val q
  · have bc : decide (cmpN (val p) (val q) < 0) = true := decide_eq_true (cmpN_neg.2 hlt)
    have HT := Lib.hid hlt
    clear hlt hlen
    generalize hcc : cmpN (val p) (val q) = cc at bc HC
    clear hcc
    go_enter Tryz.func66, Tryz.ntmps66
    go_wp2_with (go_at_call 113; (with_reducible refine HL.out.mono ?_); rintro ev w1 ⟨rfl, rfl⟩)
    go_wp2_with (go_at_call 113; (with_reducible refine HM.out.mono ?_); rintro ev w1 ⟨rfl, rfl⟩)
    go_wp2_with (go_at_call 114; (with_reducible refine HC.out.mono ?_); rintro ev w1 ⟨rfl, hg1⟩)
    go_wp2_with (go_at_call 36; (with_reducible refine (of0_calls _).mono ?_); rintro ev w2 ⟨⟨r1, rfl, hr1⟩, hg2⟩; have HR1 := Lib.hid hr1; clear hr1)
    have HMD := Lib.hid (made_calls _ p w2 (HP.out.gr (hg1.tr hg2)) (by omega))
    go_wp2_with (go_at_call 112; (with_reducible refine HMD.out.mono ?_); rintro ev w3 ⟨⟨r, rfl, hr⟩, hg3⟩; have HR := Lib.hid hr; clear hr)
    go_ret3
    exact ⟨⟨_, _, rfl, by rw [Nat.div_eq_of_lt HT.out]; exact HR1.out.gr hg3, by rw [Nat.mod_eq_of_lt HT.out]; exact HR.out⟩, (hg1.tr hg2).tr hg3⟩
  · have bc : decide (cmpN (val p) (val q) < 0) = false := decide_eq_false (fun h => hlt (cmpN_neg.1 h))
    have hle := hlen (by omega)
    clear hlt hlen
    generalize hcc : cmpN (val p) (val q) = cc at bc HC
    clear hcc
    go_enter Tryz.func66, Tryz.ntmps66
    go_wp2_with (go_at_call 113; (with_reducible refine HL.out.mono ?_); rintro ev w1 ⟨rfl, rfl⟩)
    go_wp2_with (go_at_call 113; (with_reducible refine HM.out.mono ?_); rintro ev w1 ⟨rfl, rfl⟩)
    go_wp2_with (go_at_call 114; (with_reducible refine HC.out.mono ?_); rintro ev w1 ⟨rfl, hg1⟩)
    have HLG := Lib.hid (long_calls _ _ p q w1 (HP.out.gr hg1) (HQ.out.gr hg1) HN2.out hq2 hle hpk)
    go_wp2_with (go_at_call 139; (with_reducible refine HLG.out.mono ?_); rintro ev w2 ⟨v1, l1, v2, l2, rfl, hm1, hm2, he1, he2, hn1, hn2, hg2⟩)
    have HE := Lib.hid (And.intro he1 he2)
    have HN12 := Lib.hid (And.intro hn1 hn2)
    have HM2 := Lib.hid hm2
    have HMD := Lib.hid (made_calls _ l1 w2 hm1 (by omega))
    clear hm1 hm2 he1 he2 hn1 hn2
    go_wp2_with (go_at_call 112; (with_reducible refine HMD.out.mono ?_); rintro ev w3 ⟨⟨r, rfl, hr⟩, hg3⟩; have HR := Lib.hid hr; clear hr)
    have HMD2 := Lib.hid (made_calls _ l2 w3 (HM2.out.gr hg3) (by have := HN12.out.2; omega))
    go_wp2_with (go_at_call 112; (with_reducible refine HMD2.out.mono ?_); rintro ev w4 ⟨⟨r4, rfl, hr4⟩, hg4⟩; have HR4 := Lib.hid hr4; clear hr4)
    go_ret3
    refine ⟨⟨_, _, rfl, ?_, ?_⟩, ((hg1.tr hg2).tr hg3).tr hg4⟩
    · rw [← HE.out.1]; exact HR.out.gr hg4
    · rw [← HE.out.2]; exact HR4.out
/-- (*Nat).Div. -/
theorem div_calls (x y : Value) (a b : Nat) (w : World) (hx : NatAt w x a) (hy : NatAt w y b) (k : Nat) (ha : a < B ^ k) (hb : b < B ^ k) (hk : k ≤ 1000000) :
    Calls Tryz.prog 66 #[x, y] w fun e w' =>
      ((b = 0 → e = .returned (.tuple #[.pointer none, .pointer none, .iface 187 (.int .i64 3)])) ∧ (0 < b → ∃ q r, e = .returned (.tuple #[q, r, .nilIface]) ∧ NatP w' q (a / b) ∧ NatP w' r (a % b))) ∧ Gr w w' := by
  rcases Nat.lt_or_ge b B with h | h
  · exact div1_calls x y a b w hx hy k ha h hk
  · refine (div2_calls x y a b w hx hy k ha hb hk h).mono ?_
    rintro e w' ⟨h1, hg⟩
    exact ⟨⟨fun h0 => absurd h0 (by have := B_pos; omega), fun _ => h1⟩, hg⟩
end Go.Proofs.YtglbdafcfcmffaaGreatDoor
