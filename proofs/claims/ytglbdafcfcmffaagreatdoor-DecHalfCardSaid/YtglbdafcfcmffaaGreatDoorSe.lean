/- Layer 2's reference: most, Div, Gcd, Pow by contract. -/
import Derived.Test.YtglbdafcfcmffaaGreatDoorSb
import Derived.Test.YtglbdafcfcmffaaGreatDoorSd
namespace Go.Proofs.YtglbdafcfcmffaaGreatDoor
open Go.RowKit Go.Extern.Stop Go.Stop Go.Extern Go.Sort
set_option linter.unusedVariables false
set_option linter.unusedSimpArgs false

theorem digs_len_iff (a b : Nat) (h : (Dg.digs a).length < (Dg.digs b).length) : a < b := by
  have := Dg.val_lt_of_length _ _ (Dg.digs_limbs a) (Dg.digs_norm b) h
  rwa [Dg.val_digs, Dg.val_digs] at this
/-- The bounds of the greatest digit. -/
theorem most_high (a c : Nat) (h : a < Dg.D * c) (hl : ¬ (Dg.digs a).length < (Dg.digs c).length) (he : (Dg.digs a).length = (Dg.digs c).length) (hc : 0 < c) :
    (Dg.digs c).getD ((Dg.digs c).length - 1) 0 ≠ 0 ∧ 0 < (Dg.digs c).length ∧ a < ((Dg.digs a).getD ((Dg.digs a).length - 1) 0 / (Dg.digs c).getD ((Dg.digs c).length - 1) 0 + 1) * c ∧
    (Dg.digs a).getD ((Dg.digs a).length - 1) 0 / (Dg.digs c).getD ((Dg.digs c).length - 1) 0 + 1 ≤ Dg.D := by
  have hn := Dg.digs_norm c
  have hv := Dg.val_digs c
  have hne : Dg.digs c ≠ [] := by intro e; rw [e] at hv; simp [Dg.val] at hv; omega
  have hpos := List.length_pos_iff.2 hne
  have ht : (Dg.digs c).getD ((Dg.digs c).length - 1) 0 ≠ 0 := by
    intro e
    apply hn
    rw [List.getLast?_eq_getElem?, List.getElem?_eq_getElem (by omega)]
    rw [List.getD_eq_getElem?_getD, List.getElem?_eq_getElem (by omega)] at e
    rw [← e]; rfl
  have h2 := Dg.most_top _ _ (Dg.digs_limbs a) (Dg.digs_limbs c) he (by omega) ht
  rw [Dg.val_digs, Dg.val_digs] at h2
  exact ⟨ht, hpos, h2.1, h2.2⟩

set_option maxRecDepth 100000 in
set_option maxHeartbeats 8000000 in
/-- most. -/
theorem rmost_calls (x y : Value) (a c : Nat) (w : World) (hx : RN w x a) (hy : RN w y c) (hc : 0 < c) (h : a < Dg.D * c) (k : Nat) (hka : a < Dg.D ^ k) (hkc : c < Dg.D ^ k) (hk : k ≤ 100000) (hk1 : 1 ≤ k) :
    Calls Tryz.prog 140 #[x, y] w fun e w' => e = .returned (.int .u64 ((a / c : Nat) : Int)) ∧ Gr w w' := by
  have hla := Dg.digs_len a k hka
  have hlc := Dg.digs_len c k hkc
  have HX := Lib.hid hx
  have HY := Lib.hid hy
  have HH := Lib.hid h
  have HCK := Lib.hid hkc
  have HAK := Lib.hid hka
  have HC := Lib.hid hc
  have hlim := hx
  have hlim2 := hy
  unfold RN at hlim hlim2
  obtain ⟨xa, xc, rfl⟩ := hlim.slice
  obtain ⟨ya, yc, rfl⟩ := hlim2.slice
  -- the loop, from any bounds
  have loop : ∀ (low high : Nat), low < high → high ≤ Dg.D → low * c ≤ a → a < high * c → True := fun _ _ _ _ _ _ => trivial
  clear loop
  by_cases hl : (Dg.digs a).length < (Dg.digs c).length
  · have b1 : decide (((Dg.digs a).length : Int) < ((Dg.digs c).length : Int)) = true := decide_eq_true (by omega)
    have b1n : decide ((Dg.digs a).length < (Dg.digs c).length) = true := decide_eq_true hl
    rw [Nat.div_eq_of_lt (digs_len_iff a c hl)]
    generalize Dg.digs a = p at *
    generalize Dg.digs c = q at *
    clear hx hy h hka hkc hc hlim hlim2
    go_enter Tryz.func140, Tryz.ntmps140
    go_wp2
    go_ret
    exact ⟨rfl, Gr.rf w⟩
  · have b1 : decide (((Dg.digs a).length : Int) < ((Dg.digs c).length : Int)) = false := decide_eq_false (by omega)
    have b1n : decide ((Dg.digs a).length < (Dg.digs c).length) = false := decide_eq_false hl
    by_cases he : (Dg.digs a).length = (Dg.digs c).length
    case' pos =>
      have b2 : (((Dg.digs a).length : Int) == ((Dg.digs c).length : Int)) = true := beq_iff_eq.2 (by omega)
      have b2n : ((Dg.digs a).length == (Dg.digs c).length) = true := beq_iff_eq.2 he
      obtain ⟨m1, m2, m3, m4⟩ := most_high a c h hl he hc
      obtain ⟨g1, o1, c1, e1, hcx⟩ := hlim.get (Gr.rf w) ((Dg.digs a).length - 1) (by omega)
      cases e1
      obtain ⟨g2, o2, c2, e2, hcy⟩ := hlim2.get (Gr.rf w) ((Dg.digs c).length - 1) (by omega)
      cases e2
      have i1 : (((Dg.digs a).length : Int) - 1).toNat = (Dg.digs a).length - 1 := by omega
      have i2 : (((Dg.digs c).length : Int) - 1).toNat = (Dg.digs c).length - 1 := by omega
      have hu9 := Dg.getD_lt (Dg.digs_limbs a) ((Dg.digs a).length - 1)
      generalize (Dg.digs a).getD ((Dg.digs a).length - 1) 0 = u at *
      generalize (Dg.digs c).getD ((Dg.digs c).length - 1) 0 = v at *
      have ev : (u : Int) / (v : Int) = ((u / v : Nat) : Int) := (Int.natCast_ediv u v).symm
      have hv0 : ((v : Int) == 0) = false := beq_eq_false_iff_ne.2 (by omega)
      have hv1 : ¬ (v : Int) = 0 := by omega
      have hv2 : ¬ v = 0 := by omega
      generalize u / v = t at *
      have hhigh : a < (t + 1) * c ∧ t + 1 ≤ Dg.D := ⟨m3, m4⟩
      have ht9 : t < 1000000000 := by rw [Dg.D_eq] at m4; omega
      obtain ⟨H, hH⟩ : ∃ H, t + 1 = H := ⟨_, rfl⟩
      rw [hH] at hhigh
      have hHi : (t : Int) + 1 = (H : Int) := by omega
      have htw : IntKind.u64.wrap (t : Int) = (t : Int) := wrapN t (by rw [B_eq]; omega)
      have hHw : IntKind.u64.wrap (H : Int) = (H : Int) := wrapN H (by rw [B_eq]; omega)
      have hp1 : (1 : Int) ≤ ((Dg.digs a).length : Int) := by omega
      have hp2 : (1 : Int) ≤ ((Dg.digs c).length : Int) := by omega
      clear m1 m3 m4 he
    case' neg =>
      have b2 : (((Dg.digs a).length : Int) == ((Dg.digs c).length : Int)) = false := beq_eq_false_iff_ne.2 (by omega)
      have b2n : ((Dg.digs a).length == (Dg.digs c).length) = false := beq_eq_false_iff_ne.2 he
      have hhigh : a < Dg.D * c ∧ Dg.D ≤ Dg.D := ⟨h, Nat.le_refl _⟩
      obtain ⟨H, hH⟩ : ∃ H, Dg.D = H := ⟨_, rfl⟩
      have hHi : (1000000000 : Int) = (H : Int) := by rw [← hH]; rfl
      have hhigh : a < H * c ∧ H ≤ Dg.D := by rw [← hH]; exact hhigh
    all_goals
      have HHI := Lib.hid hhigh
      generalize Dg.digs a = p at *
      generalize Dg.digs c = q at *
      clear hx hy h hka hkc hc hlim hlim2 hhigh
      go_enter Tryz.func140, Tryz.ntmps140
      go_wp2_with fail
      first
        | (go_quiet (fail)
           go_wp2_with fail)
        | skip
      go_loopg [5, 6] H (fun g slo shi wr => ∃ low high : Nat, g = high - low ∧ slo = .int .u64 (low : Int) ∧ shi = .int .u64 (high : Int) ∧ low < high ∧ high ≤ 1000000000 ∧ Hid (low * c ≤ a) ∧ Hid (a < high * c) ∧ Hid (Gr w wr))
      case atStart => exact ⟨0, H, by omega, rfl, by first | rfl | rw [hHi], by
        rcases Nat.eq_zero_or_pos H with h0 | h0
        · have := HHI.out.1
          rw [h0, Nat.zero_mul] at this
          omega
        · exact h0, by have := HHI.out.2; rw [Dg.D_eq] at this; exact this, Lib.hid (by rw [Nat.zero_mul]; exact Nat.zero_le _), Lib.hid HHI.out.1, Lib.hid (by first | exact Gr.rf w | exact Gr.drew (Gr.rf w) _)⟩
      case round =>
        obtain ⟨low, high, hg, rfl, rfl, hlh, hh9, HLO, HHG, HG⟩ := hrel
        have HGG := Lib.hid hg
        clear hg
        by_cases hgo : high ≤ low + 1
        · have b3 : decide ((1 : Int) < (high : Int) - (low : Int)) = false := decide_eq_false (by omega)
          have HD := Lib.hid (Dg.most_done a c low high HLO.out HHG.out hgo hlh)
          go_wp2
          go_ret
          exact ⟨ret_int (by rw [← HD.out]), HG.out⟩
        · have b3 : decide ((1 : Int) < (high : Int) - (low : Int)) = true := decide_eq_true (by omega)
          obtain ⟨mid, hmid⟩ : ∃ mid, (low + high) / 2 = mid := ⟨_, rfl⟩
          have em : ((low : Int) + (high : Int)) / 2 = (mid : Int) := by omega
          have hm1 : low < mid := by omega
          have hm2 : mid < high := by omega
          have hmB : mid < B := by rw [B_eq]; omega
          clear hmid
          have HOU := Lib.hid (fun w' => ofU_calls mid hmB w')
          have hmD : mid < Dg.D ^ k := Nat.lt_of_lt_of_le (show mid < Dg.D by rw [Dg.D_eq]; omega) (by
            calc Dg.D = Dg.D ^ 1 := (Nat.pow_one _).symm
              _ ≤ Dg.D ^ k := Nat.pow_le_pow_right Dg.D_pos hk1)
          have hcm : c * mid < Dg.D ^ (k + k) := by rw [Nat.pow_add]; exact Nat.mul_lt_mul'' HCK.out hmD
          have hak : a < Dg.D ^ (k + k) := Nat.lt_of_lt_of_le HAK.out (Nat.pow_le_pow_right Dg.D_pos (by omega))
          have HMD := Lib.hid hmD
          have HCM := Lib.hid hcm
          have HAK2 := Lib.hid hak
          clear hmD hcm hak
          go_wp2_with (go_at_call 39; (with_reducible refine (HOU.out _).mono ?_); rintro ev w2 ⟨⟨r2, rfl, hr2⟩, hg2⟩; have HR2 := Lib.hid hr2; clear hr2)
          have HMU := Lib.hid (rmul_calls _ _ c mid w2 (HY.out.gr (HG.out.tr hg2)) HR2.out k HCK.out HMD.out (by omega))
          go_wp2_with (go_at_call 44; (with_reducible refine HMU.out.mono ?_); rintro ev w3 ⟨⟨r3, rfl, hr3⟩, hg3⟩; have HR3 := Lib.hid hr3; clear hr3)
          have HCP := Lib.hid (rcmp_calls _ _ (c * mid) a w3 HR3.out (HX.out.gr (HG.out.tr (hg2.tr hg3))) (k + k) HCM.out HAK2.out (by omega))
          by_cases hle : c * mid ≤ a
          · have b4 : decide (cmpN (c * mid) a ≤ 0) = true := decide_eq_true (cmpN_le.2 hle)
            have HLE := Lib.hid hle
            generalize cmpN (c * mid) a = cc at *
            clear hle
            go_wp2_with (go_at_call 65; (with_reducible refine HCP.out.mono ?_); rintro ev w4 ⟨rfl, hg4⟩)
            go_roundg (high - mid)
            case measure => have := HGG.out; omega
            case rel => exact ⟨mid, high, rfl, rfl, rfl, hm2, hh9, Lib.hid (by rw [Nat.mul_comm]; exact HLE.out), HHG, Lib.hid (HG.out.tr (hg2.tr (hg3.tr hg4)))⟩
          · have b4 : decide (cmpN (c * mid) a ≤ 0) = false := decide_eq_false (fun h => hle (cmpN_le.1 h))
            have HLE := Lib.hid hle
            generalize cmpN (c * mid) a = cc at *
            clear hle
            go_wp2_with (go_at_call 65; (with_reducible refine HCP.out.mono ?_); rintro ev w4 ⟨rfl, hg4⟩)
            go_roundg (mid - low)
            case measure => have := HGG.out; omega
            case rel => exact ⟨low, mid, rfl, rfl, rfl, hm1, by omega, HLO, Lib.hid (by have := HLE.out; rw [Nat.mul_comm]; omega), Lib.hid (HG.out.tr (hg2.tr (hg3.tr hg4)))⟩

set_option maxRecDepth 100000 in
set_option maxHeartbeats 8000000 in
/-- The reference's Gcd, from its Div. -/
theorem rpow_calls (x : Value) (a K : Nat) (w : World) (hx : RN w x a) (k : Nat) (hp : a ^ (K + 1) < Dg.D ^ k) (ha : a < Dg.D ^ k) (h1 : 1 < Dg.D ^ k) (hk : k ≤ 100000) (hK : K ≤ 1000000) :
    Calls Tryz.prog 38 #[x, .int .i64 (K : Int)] w fun e w' => (∃ r, e = .returned r ∧ RN w' r (a ^ K)) ∧ Gr w w' := by
  have HX := Lib.hid hx
  have HP := Lib.hid hp
  have HA := Lib.hid ha
  have H1 := Lib.hid h1
  have HOU : Hid (∀ w', Calls Tryz.prog 39 #[.int .u64 1] w' fun e w2 => (∃ r, e = .returned r ∧ RN w2 r 1) ∧ Gr w' w2) := Lib.hid (fun w' => ofU_calls 1 (by decide) w')
  clear hx hp ha h1
  go_enter Tryz.func38, Tryz.ntmps38
  go_wp2_with (go_at_call 39; (with_reducible refine (HOU.out _).mono ?_); rintro ev w1 ⟨⟨r1, rfl, hr1⟩, hg1⟩; have HR1 := Lib.hid hr1; clear hr1)
  go_loopg [5, 6] K (fun g so si wr => ∃ i : Nat, g = K - i ∧ i ≤ K ∧ si = .int .i64 (i : Int) ∧ Hid (RN wr so (a ^ i)) ∧ Hid (Gr w wr))
  case atStart => exact ⟨0, rfl, Nat.zero_le _, rfl, Lib.hid (by rw [Nat.pow_zero]; exact HR1.out), Lib.hid hg1⟩
  case round =>
    obtain ⟨i, hg, hi, rfl, HO, HG⟩ := hrel
    have HGG := Lib.hid hg
    clear hg
    by_cases hlt : i < K
    · have b1 : decide ((i : Int) < (K : Int)) = true := decide_eq_true (by omega)
      have b1n : decide (i < K) = true := decide_eq_true hlt
      have hpi : a ^ i < Dg.D ^ k := by
        rcases Nat.eq_zero_or_pos a with h0 | h0
        · subst h0
          rcases Nat.eq_zero_or_pos i with h2 | h2
          · subst h2; rw [Nat.pow_zero]; exact H1.out
          · rw [Nat.zero_pow h2]; have := H1.out; omega
        · exact Nat.lt_of_le_of_lt (Nat.pow_le_pow_right h0 (by omega)) HP.out
      have HMU := Lib.hid (rmul_calls _ _ (a ^ i) a wr HO.out (HX.out.gr HG.out) k hpi HA.out (by omega))
      clear hpi
      go_wp2_with (go_at_call 44; (with_reducible refine HMU.out.mono ?_); rintro ev w2 ⟨⟨r2, rfl, hr2⟩, hg2⟩; have HR2 := Lib.hid hr2; clear hr2)
      go_roundg (K - (i + 1))
      case measure => have := HGG.out; omega
      case rel => exact ⟨i + 1, rfl, by omega, by first | rfl | go_num, Lib.hid (by rw [Nat.pow_succ]; exact HR2.out), Lib.hid (HG.out.tr hg2)⟩
    · have hie : i = K := by omega
      subst hie
      have b1 : decide ((i : Int) < (i : Int)) = false := decide_eq_false (by omega)
      have b1n : decide (i < i) = false := decide_eq_false (by omega)
      go_wp2
      go_ret
      exact ⟨⟨_, rfl, HO.out⟩, HG.out⟩
end Go.Proofs.YtglbdafcfcmffaaGreatDoor
