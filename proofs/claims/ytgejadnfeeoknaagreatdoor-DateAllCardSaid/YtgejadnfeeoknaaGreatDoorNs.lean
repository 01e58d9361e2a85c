/- Layer 2: Root by contract. -/
import Derived.Test.YtgejadnfeeoknaaGreatDoorNq
import Derived.Test.YtgejadnfeeoknaaGreatDoorNr
namespace Go.Proofs.YtgejadnfeeoknaaGreatDoor
open Go.RowKit Go.Extern.Stop Go.Stop Go.Extern
set_option linter.unusedVariables false
set_option linter.unusedSimpArgs false

theorem cmpN_le {a b : Nat} : (cmpN a b ≤ 0) ↔ a ≤ b := by
  unfold cmpN
  split
  · exact iff_of_true (by omega) (by omega)
  · split
    · exact iff_of_false (by omega) (by omega)
    · exact iff_of_true (by omega) (by omega)
theorem root_bd (m n out j wn k : Nat) (hn : n < B ^ m) (ho : out ^ k ≤ n) (hk : k ≠ 0) (hw : wn ≤ 64 * m) (hj : j < wn) : out + 2 ^ j < B ^ (m + 1) ∧ out < B ^ (m + 1) ∧ 2 ^ j < B ^ (m + 1) := by
  have h1 := root_le out n k ho hk
  have h2 : 2 ^ j < B ^ m := by rw [B_pow64]; exact Nat.pow_lt_pow_right (by decide) (by omega)
  have h3 : B ^ (m + 1) = B ^ m * B := Nat.pow_succ _ _
  have h4 : B ^ m * 2 ≤ B ^ m * B := Nat.mul_le_mul_left _ (by decide)
  omega

set_option maxRecDepth 100000 in
set_option maxHeartbeats 4000000 in
/-- (*Nat).Root. -/
theorem root_calls (x : Value) (n k : Nat) (w : World) (hx : NatAt w x n) (m : Nat) (hn : n < B ^ m) (hm1 : 1 ≤ m) (hm : m ≤ 10000) (hk2 : 2 ≤ k) (hk3 : k ≤ 1000) :
    Calls Tryz.prog 105 #[x, .int .i64 (k : Int)] w fun e w' => (∃ v r, e = .returned v ∧ NatAt w' v r ∧ r ^ k ≤ n ∧ n < (r + 1) ^ k) ∧ Gr w w' := by
  have HX := Lib.hid hx
  have HZ := Lib.hid (zero_calls x n w hx)
  have HWn : ∀ w', Gr w w' → Calls Tryz.prog 150 #[x] w' fun e w2 => e = .returned (.int .i64 (wdN n : Int)) ∧ w' = w2 := fun w' hg => width_calls x n w' (hx.gr hg) m hn (by omega)
  have bk : decide ((k : Int) ≤ 1) = false := decide_eq_false (by omega)
  by_cases h0 : n = 0
  · have b0 : (n == 0) = true := beq_iff_eq.2 h0
    rw [b0] at HZ
    obtain ⟨sa, p, sc, hl, hnm, hv, hcl⟩ := limbs_ex x n w hx
    have HMD := Lib.hid (made_calls _ p w hl (by have := norm_length p hnm m (by rw [hv]; exact hn); omega))
    rw [hv] at HMD
    have HL := Lib.hid hcl
    have H0 := Lib.hid h0
    clear hl hnm hv hcl hx HX HWn h0 b0 hn
    go_enter Tryz.func105, Tryz.ntmps105
    go_wp2_with (go_at_call 140; (with_reducible refine HZ.out.mono ?_); rintro ev w1 ⟨rfl, rfl⟩)
    go_wp2_with (go_at_call 129; (with_reducible refine HL.out.mono ?_); rintro ev w1 ⟨rfl, rfl⟩)
    go_wp2_with (go_at_call 128; (with_reducible refine HMD.out.mono ?_); rintro ev w2 ⟨⟨r, rfl, hr⟩, hg⟩; have HR := Lib.hid hr; clear hr)
    go_ret
    refine ⟨⟨_, n, rfl, HR.out.at_, ?_, ?_⟩, hg⟩
    · rw [H0.out, Nat.zero_pow (by omega)]; exact Nat.le_refl _
    · rw [H0.out]; exact Nat.pow_pos (by decide)
  · have b0 : (n == 0) = false := beq_eq_false_iff_ne.2 h0
    rw [b0] at HZ
    obtain ⟨l1, l2⟩ := wdN_lo n h0
    have l3 := wdN_hi n
    have l4 := wdN_le n m hn
    generalize wdN n = wn at HWn l1 l2 l3 l4
    have HW := Lib.hid HWn
    have HN := Lib.hid hn
    have HL2 := Lib.hid l2
    have HL3 := Lib.hid l3
    have H0 := Lib.hid h0
    clear HWn hn hx l2 l3 b0 h0
    by_cases hkw : wn ≤ k
    · have b1 : decide (wn ≤ k) = true := decide_eq_true hkw
      go_enter Tryz.func105, Tryz.ntmps105
      go_wp2_with (go_at_call 140; (with_reducible refine HZ.out.mono ?_); rintro ev w1 ⟨rfl, rfl⟩)
      go_wp2_with (go_at_call 150; (with_reducible refine (HW.out _ (Gr.rf _)).mono ?_); rintro ev w1 ⟨rfl, rfl⟩)
      go_wp2_with (go_at_call 92; (with_reducible refine (of1_calls _).mono ?_); rintro ev w1 ⟨⟨r1, rfl, hr1⟩, hg1⟩; have HR1 := Lib.hid hr1; clear hr1)
      go_ret
      refine ⟨⟨_, 1, rfl, HR1.out.at_, by rw [Nat.one_pow]; have := H0.out; omega, Nat.lt_of_lt_of_le HL3.out (Nat.pow_le_pow_right (by decide) hkw)⟩, hg1⟩
    · have b1 : decide (wn ≤ k) = false := decide_eq_false hkw
      obtain ⟨j0, hj0⟩ : ∃ j0 : Nat, j0 = (wn + k - 1) / k := ⟨_, rfl⟩
      have ej : ((wn : Int) + (k : Int) - 1) / (k : Int) = (j0 : Int) := by
        rw [hj0, Int.natCast_ediv]; congr 1; omega
      have hj1 : wn ≤ j0 * k := by
        have h1 := Nat.div_add_mod (wn + k - 1) k
        have h2 := Nat.mod_lt (wn + k - 1) (show 0 < k by omega)
        rw [← hj0] at h1
        rw [Nat.mul_comm]; omega
      have hj2 : j0 ≤ wn := by
        rw [hj0]
        have : (wn + k - 1) / k < wn + 1 := by
          rw [Nat.div_lt_iff_lt_mul (by omega)]
          have : wn * 1 ≤ wn * k := Nat.mul_le_mul_left _ (by omega)
          rw [Nat.add_mul]; omega
        omega
      have hkz : ¬ (k : Int) = 0 := by omega
      have hkz2 : ¬ k = 0 := by omega
      have HJ := Lib.hid hj1
      clear hj0 hj1
      go_enter Tryz.func105, Tryz.ntmps105
      go_wp2_with (go_at_call 140; (with_reducible refine HZ.out.mono ?_); rintro ev w1 ⟨rfl, rfl⟩)
      go_wp2_with (go_at_call 150; (with_reducible refine (HW.out _ (Gr.rf _)).mono ?_); rintro ev w1 ⟨rfl, rfl⟩)
      go_wp2_with (go_at_call 92; (with_reducible refine (of0_calls _).mono ?_); rintro ev w1 ⟨⟨r1, rfl, hr1⟩, hg1⟩; have HR1 := Lib.hid hr1; clear hr1)
      go_wp2_with (go_at_call 150; (with_reducible refine (HW.out _ hg1).mono ?_); rintro ev w2 ⟨rfl, rfl⟩)
      go_loopg [5, 6] j0 (fun j o i wr => ∃ out : Nat, j ≤ j0 ∧ NatAt wr o out ∧ i = .int .i64 ((j : Int) - 1) ∧ out ^ k ≤ n ∧ n < (out + 2 ^ j) ^ k ∧ Gr w wr)
      case atStart => exact ⟨0, Nat.le_refl _, HR1.out, rfl, by rw [Nat.zero_pow (by omega)]; exact Nat.zero_le _, root_first n wn k j0 HL3.out HJ.out, hg1⟩
      case round =>
        obtain ⟨out, hjj, ho, rfl, hlo, hhi, hgr⟩ := hrel
        clear ej
        have HO := Lib.hid ho
        have HLO := Lib.hid hlo
        have HHI := Lib.hid hhi
        clear ho hlo hhi
        by_cases hj : 0 < gk
        · obtain ⟨j, rfl⟩ : ∃ j, gk = j + 1 := ⟨gk - 1, by omega⟩
          have hji : ((j + 1 : Nat) : Int) - 1 = (j : Int) := by omega
          rw [hji]
          obtain ⟨d1, d2, d3⟩ := root_bd m n out j wn k HN.out HLO.out (by omega) l4 (by omega)
          have D1 := Lib.hid d1
          have D2 := Lib.hid d2
          have D3 := Lib.hid d3
          clear d1 d2 d3 hji
          go_wp2_with (go_at_call 151; (with_reducible refine (bit_calls j (by omega) _).mono ?_); rintro ev w2 ⟨⟨r2, rfl, hr2⟩, hg2⟩; have HR2 := Lib.hid hr2; clear hr2)
          have HA := Lib.hid (add_calls _ _ out (2 ^ j) w2 (HO.out.gr hg2) HR2.out.at_ (m + 1) D2.out D3.out (by omega))
          have hne : out + 2 ^ j ≠ 0 := by have := Nat.two_pow_pos j; omega
          have hst : ∀ q, n < (out + 2 ^ (j + 1)) ^ k → out + 2 ^ j = q → n < (q + 2 ^ j) ^ k := by rintro q h rfl; rw [Nat.add_assoc, ← Nat.two_mul, ← Nat.pow_succ']; exact h
          have hst := hst _ HHI.out rfl
          generalize hnx : out + 2 ^ j = nx at HA D1 hne hst
          have HNX := Lib.hid hnx
          have HST := Lib.hid hst
          have HNE := Lib.hid hne
          clear hnx hst hne
          go_wp2_with (go_at_call 99; (with_reducible refine HA.out.mono ?_); rintro ev w3 ⟨⟨r3, rfl, hr3⟩, hg3⟩; have HR3 := Lib.hid hr3; clear hr3)
          have HW3 := Lib.hid (width_calls _ nx w3 HR3.out.at_ (m + 1) D1.out (by omega))
          obtain ⟨x1, x2⟩ := wdN_lo nx HNE.out
          have x3 := wdN_hi nx
          have x4 := wdN_le nx (m + 1) D1.out
          generalize wdN nx = wx at HW3 x1 x2 x3 x4
          obtain ⟨z, hz⟩ : ∃ z : Nat, (wx - 1) * k = z := ⟨_, rfl⟩
          have hz1 : ((wx : Int) - 1) * (k : Int) = (z : Int) := by
            rw [← hz, Int.natCast_mul]; congr 1; omega
          have hz2 : z ≤ 1000000000 := by
            rw [← hz]
            have : (wx - 1) * k ≤ 1000000 * 1000 := Nat.mul_le_mul (by omega) hk3
            omega
          have HX2 := Lib.hid x2
          have HX3 := Lib.hid x3
          have HZE := Lib.hid hz
          clear x2 x3 hz
          by_cases hzw : z < wn
          · have b2 : decide (z < wn) = true := decide_eq_true hzw
            have hpb : nx ^ k < B ^ (2 * m + 1) := by
              have h1 := root_fits nx wn wx k HX3.out (by rw [HZE.out]; exact hzw) (by omega)
              rw [B_pow64]
              exact Nat.lt_of_lt_of_le h1 (Nat.pow_le_pow_right (by decide) (by omega))
            have hnb : nx < B ^ (2 * m + 1) := Nat.lt_of_lt_of_le D1.out (Nat.pow_le_pow_right B_pos (by omega))
            have hnn : n < B ^ (2 * m + 1) := Nat.lt_of_lt_of_le HN.out (Nat.pow_le_pow_right B_pos (by omega))
            have HPW := Lib.hid (pow_calls _ nx k w3 HR3.out.at_ (2 * m + 1) hnb hpb (by omega) (by omega) (by omega))
            have HPB := Lib.hid hpb
            have HNN := Lib.hid hnn
            clear hpb hnb hnn
            go_wp2_with (go_at_call 150; (with_reducible refine HW3.out.mono ?_); rintro ev w4 ⟨rfl, rfl⟩)
            go_wp2_with (go_at_call 150; (with_reducible refine (HW.out _ ((hgr.tr hg2).tr hg3)).mono ?_); rintro ev w4 ⟨rfl, rfl⟩)
            go_wp2_with (go_at_call 104; (with_reducible refine HPW.out.mono ?_); rintro ev w4 ⟨⟨r4, rfl, hr4⟩, hg4⟩; have HR4 := Lib.hid hr4; clear hr4)
            have HC := Lib.hid (cmp_calls _ _ (nx ^ k) n w4 HR4.out (HX.out.gr (((hgr.tr hg2).tr hg3).tr hg4)) (2 * m + 1) HPB.out HNN.out (by omega))
            by_cases hle : nx ^ k ≤ n
            · have b3 : decide (cmpN (nx ^ k) n ≤ 0) = true := decide_eq_true (cmpN_le.2 hle)
              have HLE := Lib.hid hle
              generalize cmpN (nx ^ k) n = cc at HC b3
              clear hle
              go_wp2_with (go_at_call 100; (with_reducible refine HC.out.mono ?_); rintro ev w5 ⟨rfl, hg5⟩)
              go_roundg j
              case measure => omega
              case rel => exact ⟨nx, by omega, (HR3.out.gr hg4).gr hg5, by first | rfl | go_num, HLE.out, HST.out, (((hgr.tr hg2).tr hg3).tr hg4).tr hg5⟩
            · have b3 : decide (cmpN (nx ^ k) n ≤ 0) = false := decide_eq_false (fun h => hle (cmpN_le.1 h))
              have HLE := Lib.hid hle
              generalize cmpN (nx ^ k) n = cc at HC b3
              clear hle
              go_wp2_with (go_at_call 100; (with_reducible refine HC.out.mono ?_); rintro ev w5 ⟨rfl, hg5⟩)
              go_roundg j
              case measure => omega
              case rel => exact ⟨out, by omega, HO.out.gr ((((Gr.rf _).tr hg2).tr hg3).tr (hg4.tr hg5)), by first | rfl | go_num, HLO.out, by rw [HNX.out]; have := HLE.out; omega, (((hgr.tr hg2).tr hg3).tr hg4).tr hg5⟩
          · have b2 : decide (z < wn) = false := decide_eq_false hzw
            have HSK := Lib.hid (root_skip nx n wn wx k HX2.out HL3.out (by rw [HZE.out]; omega))
            go_wp2_with (go_at_call 150; (with_reducible refine HW3.out.mono ?_); rintro ev w4 ⟨rfl, rfl⟩)
            go_wp2_with (go_at_call 150; (with_reducible refine (HW.out _ ((hgr.tr hg2).tr hg3)).mono ?_); rintro ev w4 ⟨rfl, rfl⟩)
            go_roundg j
            case measure => omega
            case rel => exact ⟨out, by omega, HO.out.gr (hg2.tr hg3), by first | rfl | go_num, HLO.out, by rw [HNX.out]; exact HSK.out, (hgr.tr hg2).tr hg3⟩
        · obtain rfl : gk = 0 := by omega
          go_wp2
          go_ret
          exact ⟨⟨_, out, rfl, HO.out, HLO.out, by have := HHI.out; rw [Nat.pow_zero] at this; exact this⟩, hgr⟩
end Go.Proofs.YtgejadnfeeoknaaGreatDoor
