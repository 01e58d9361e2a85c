/- Layer 5's reference: Round; an integer's, a natural's Small, by contract. -/
import Derived.Test.YtcjjgdoafkdeaaaGreatDoorXa
import Derived.Test.YtcjjgdoafkdeaaaGreatDoorXf
namespace Go.Proofs.YtcjjgdoafkdeaaaGreatDoor
open Go.RowKit Go.Extern.Stop Go.Stop Go.Extern Go.Sort
set_option linter.unusedVariables false
set_option linter.unusedSimpArgs false

theorem roundN_nought (d : Nat) (m : Int) (hd : 0 < d) : roundN 0 d m = 0 := by
  rw [roundN_no 0 d m (by
    rw [Nat.zero_mod]
    rintro ⟨h | ⟨h, _⟩, _⟩ <;> omega), Nat.zero_div]
theorem roundN_le (a d : Nat) (m : Int) : roundN a d m ≤ a + 1 := by
  have := Nat.div_le_self a d
  unfold roundN
  split <;> omega
set_option maxRecDepth 100000 in
set_option maxHeartbeats 16000000 in
/-- rentierref2.Round. -/
theorem rRound_calls (sb : Bool) (vx vy : Value) (X Y p : Nat) (m : Int) (w : World) (hx : RN w vx X) (hy : RN w vy Y) (hX : X < Dg.D ^ 4) (hY : Y < Dg.D ^ 4) (hY0 : 0 < Y) (hp : p ≤ 20) (hm : m = 1 ∨ m = 2 ∨ m = 3) :
    Calls Tryz.prog 21 #[.agg #[.bool sb, vx, vy], .int .i64 (p : Int), .int .i64 m] w fun e w' => e = .returned (.string ⟨(placedL (sgn (sb && decide (0 < X * 10 ^ p)) (roundN (X * 10 ^ p) Y m)) p).toArray⟩) ∧ Gr w w' := by
  obtain ⟨ax, lx, cx, rfl⟩ := rn_sl hx
  obtain ⟨ay, ly, cy, rfl⟩ := rn_sl hy
  have hT : 10 ^ p < Dg.D ^ 4 := Nat.lt_of_le_of_lt (Nat.pow_le_pow_right (by decide) hp) (by decide)
  have hXT : X * 10 ^ p < Dg.D ^ 8 := b_mul hX hT rfl
  have hRb : roundN (X * 10 ^ p) Y m < Dg.D ^ 9 := Nat.lt_of_le_of_lt (roundN_le _ _ _) (b_add hXT (b_one (by decide)) rfl)
  have hY1 : Y * 1 = Y := Nat.mul_one Y
  have hb1 := heap_alloc_new w (.cells #[.bool sb, .slice ax lx cx, .slice ay ly cy] 29)
  have hga : Gr w (w.alloc (.cells #[.bool sb, .slice ax lx cx, .slice ay ly cy] 29)) := gr_al (Gr.rf w)
  have HGA := Lib.hid hga
  have HX1 := Lib.hid (hx.gr hga)
  have HY1 := Lib.hid (hy.gr hga)
  have HBK := Lib.hid hb1
  obtain ⟨F, hF⟩ : ∃ F : ByteArray, F = ⟨(placedL (sgn (sb && decide (0 < X * 10 ^ p)) (roundN (X * 10 ^ p) Y m)) p).toArray⟩ := ⟨_, rfl⟩
  rw [← hF]
  obtain ⟨s1, hs1⟩ : ∃ s1, s1 = ((sb != false) && decide (0 < X * 10 ^ p)) := ⟨_, rfl⟩
  obtain ⟨s2, hs2⟩ : ∃ s2, s2 = (s1 && decide (0 < roundN (X * 10 ^ p) Y m)) := ⟨_, rfl⟩
  have hF2 : F = ⟨(if s2 then 45 :: pointL (padL (Lib.decDigits (roundN (X * 10 ^ p) Y m)) p) p else pointL (padL (Lib.decDigits (roundN (X * 10 ^ p) Y m)) p) p).toArray⟩ := by
    rw [hF, placed_sgn, hs2, hs1]
    cases sb <;> rfl
  have HO10 : Hid (∀ w', Calls Tryz.prog 27 #[.int .u64 10] w' fun e w2 => (∃ r, e = .returned r ∧ RN w2 r 10) ∧ Gr w' w2) := Lib.hid (fun w' => r_ofU 10 (by decide) w')
  have HO1 : Hid (∀ w', Calls Tryz.prog 27 #[.int .u64 1] w' fun e w2 => (∃ a l c, e = .returned (.slice a l c) ∧ RN w2 (.slice a l c) 1) ∧ Gr w' w2) := Lib.hid (fun w' => sl_of (r_ofU 1 (by decide) w'))
  have HPW : Hid (∀ w' x, RN w' x 10 → Calls Tryz.prog 26 #[x, .int .i64 (p : Int)] w' fun e w2 => (∃ a l c, e = .returned (.slice a l c) ∧ RN w2 (.slice a l c) (10 ^ p)) ∧ Gr w' w2) := Lib.hid (fun w' x h => sl_of (r_pow h p (k := 4) (by decide) (Nat.lt_of_lt_of_le (Nat.pow_lt_pow_right (by decide) (show p + 1 < 22 by omega)) (by decide)) (by decide) (by decide) (by omega)))
  have HPR : Hid (∀ w' x z, Gr (w.alloc (.cells #[.bool sb, .slice ax lx cx, .slice ay ly cy] 29)) w' → RN w' x (10 ^ p) → RN w' z 1 → Calls Tryz.prog 25 #[.agg #[.bool sb, .slice ax lx cx, .slice ay ly cy], .agg #[.bool false, x, z]] w' fun ev w2 => (∃ v v2, ev = .returned (.agg #[.bool s1, v, v2]) ∧ RN w2 v (X * 10 ^ p) ∧ RN w2 v2 Y) ∧ Gr w' w2) := Lib.hid (fun w' x z hg h1 h2 => by
    have h := rProd_calls sb false _ _ _ _ X (10 ^ p) Y 1 w' (HX1.out.gr hg) h1 (HY1.out.gr hg) h2 4 hX hT hY (by decide) (by decide)
    rw [hY1, ← hs1] at h
    exact h)
  have HNE : Hid (∀ w' v v2, RN w' v (X * 10 ^ p) → RN w' v2 Y → Calls Tryz.prog 23 #[.agg #[.bool s1, v, v2], .int .i64 m] w' fun e w2 => (∃ v, e = .returned (.agg #[.bool s2, v]) ∧ RN w2 v (roundN (X * 10 ^ p) Y m)) ∧ Gr w' w2) := Lib.hid (fun w' v v2 h1 h2 => by
    have h := rNear_calls s1 v v2 (X * 10 ^ p) Y m w' h1 h2 8 hXT (b_up hY (by decide)) (by decide) hY0 hm
    rw [← hs2] at h
    exact h)
  have HDE : Hid (∀ w' v, RN w' v (roundN (X * 10 ^ p) Y m) → Calls Tryz.prog 38 #[.agg #[.bool s2, v], .int .i64 (p : Int)] w' fun e w2 => e = .returned (.string F) ∧ Gr w' w2) := Lib.hid (fun w' v h => by rw [hF2]; exact rDec_calls s2 v _ p w' h 9 hRb (by decide) hp)
  have HTX : Hid (∀ w', Gr (w.alloc (.cells #[.bool sb, .slice ax lx cx, .slice ay ly cy] 29)) w' → (Gr (w.alloc (.cells #[.bool sb, .slice ax lx cx, .slice ay ly cy] 29)) w' ∧ w'.cell? ⟨w.heap.size, 0, none⟩ = some (.bool sb) ∧ w'.cell? ⟨w.heap.size, 1, none⟩ = some (.slice ax lx cx) ∧ w'.cell? ⟨w.heap.size, 2, none⟩ = some (.slice ay ly cy))) := Lib.hid (fun w' hg => ⟨hg, heap_cell (hg.heap HBK.out) 0, heap_cell (hg.heap HBK.out) 1, heap_cell (hg.heap HBK.out) 2⟩)
  clear hx hy hX hY hY0 hp hT hXT hRb hY1 hb1 hga hF hs1 hs2 hF2
  go_enter Tryz.func21, Tryz.ntmps21
  go_wp2_with fail
  generalize w.alloc (.cells #[.bool sb, .slice ax lx cx, .slice ay ly cy] 29) = w1 at *
  have hgd : Gr w1 w1.drew := Gr.drew (Gr.rf w1) 1
  go_region_held3 (fun w' => Gr w1 w' ∧ w'.cell? ⟨w.heap.size, 0, none⟩ = some (.bool sb) ∧ w'.cell? ⟨w.heap.size, 1, none⟩ = some (.slice ax lx cx) ∧ w'.cell? ⟨w.heap.size, 2, none⟩ = some (.slice ay ly cy))
    (first | exact HTX.out _ hgd | exact HTX.out _ hs3 | exact HTX.out _ hs4 | exact HTX.out _ hs5 | exact HTX.out _ hs6 | exact HTX.out _ hs7 | exact HTX.out _ hs8 | fail)
    (first
      | (go_at_call 27; go_split_ands; first | ((with_reducible refine (HO10.out _).mono ?_); rintro ev w3 ⟨⟨r3, rfl, hr3⟩, hg3⟩; have hs3 : Gr w1 w3 := Gr.tr (by assumption) hg3) | ((with_reducible refine (HO1.out _).mono ?_); rintro ev w5 ⟨⟨a5, l5, c5, rfl, hr5⟩, hg5⟩; have hs5 : Gr w1 w5 := Gr.tr (by assumption) hg5))
      | (go_at_call 26; go_split_ands; refine (HPW.out _ _ (by first | exact hr3 | exact hr3.gr hg5)).mono ?_; rintro ev w4 ⟨⟨a4, l4, c4, rfl, hr4⟩, hg4⟩; have hs4 : Gr w1 w4 := Gr.tr (by assumption) hg4)
      | (go_at_call 25; go_split_ands; refine (HPR.out _ _ _ (by assumption) (by first | exact hr4 | exact hr4.gr hg5) (by first | exact hr5 | exact hr5.gr hg4 | exact hr5.gr (hg3.tr hg4))).mono ?_; rintro ev w6 ⟨⟨v6, u6, rfl, hv6, hu6⟩, hg6⟩; have hs6 : Gr w1 w6 := Gr.tr (by assumption) hg6)
      | (go_at_call 23; go_split_ands; refine (HNE.out _ _ _ hv6 hu6).mono ?_; rintro ev w7 ⟨⟨v7, rfl, hv7⟩, hg7⟩; have hs7 : Gr w1 w7 := Gr.tr (by assumption) hg7)
      | (go_at_call 38; go_split_ands; refine (HDE.out _ _ hv7).mono ?_; rintro ev w8 ⟨rfl, hg8⟩; have hs8 : Gr w1 w8 := Gr.tr (by assumption) hg8))
  all_goals
    go_wp2
    go_ret
    exact ⟨rfl, HGA.out.tr hs8⟩
set_option maxRecDepth 100000 in
set_option maxHeartbeats 8000000 in
/-- (N).Small. -/
theorem rSmallN_calls (v : Value) (n : Nat) (w : World) (h : RN w v n) (k : Nat) (hn : n < Dg.D ^ k) (hk : k ≤ 400) :
    Calls Tryz.prog 85 #[v] w fun e w' => ((n < 18446744073709551616 → e = .returned (.tuple #[.int .u64 (n : Int), .bool true])) ∧ (18446744073709551616 ≤ n → e = .returned (.tuple #[.int .u64 0, .bool false]))) ∧ Gr w w' := by
  have HOU : Hid (∀ w', Calls Tryz.prog 27 #[.int .u64 18446744073709551615] w' fun e w2 => (∃ r, e = .returned r ∧ RN w2 r 18446744073709551615) ∧ Gr w' w2) := Lib.hid (fun w' => r_ofU 18446744073709551615 (by decide) w')
  have HX := Lib.hid h
  have HK := Lib.hid (And.intro hn hk)
  obtain ⟨ax, lx, cx, rfl⟩ := rn_sl h
  by_cases hb : 18446744073709551616 ≤ n
  · have HB := Lib.hid hb
    have HCM : Hid (∀ w' x, Gr w w' → RN w' x 18446744073709551615 → Calls Tryz.prog 37 #[.slice ax lx cx, x] w' fun e w2 => e = .returned (.int .i64 1) ∧ Gr w' w2) := Lib.hid (fun w' x hg hx => r_cmp (k := k + 3) (HX.out.gr hg) hx (b_up hn (by omega)) (b_up (show 18446744073709551615 < Dg.D ^ 3 by decide) (by omega)) (by omega) (cmpN_gt (by omega)))
    clear h hn hk hb
    go_enter Tryz.func85, Tryz.ntmps85
    go_wp2_with fail
    refine (HOU.out _).mono ?_
    rintro ev w1 ⟨⟨r1, rfl, hr1⟩, hg1⟩
    have HC := Lib.hid (HCM.out _ _ hg1 hr1)
    have HG1 := Lib.hid hg1
    clear hr1 hg1
    go_wp2_with (go_at_call 37; (with_reducible refine HC.out.mono ?_); rintro ev w2 ⟨rfl, hg2⟩)
    go_ret2
    exact ⟨⟨fun h => absurd h (by have := HB.out; omega), fun _ => rfl⟩, HG1.out.tr hg2⟩
  · have HB := Lib.hid (show n < 18446744073709551616 by omega)
    obtain ⟨z, hz, hz0, hz1⟩ : ∃ z : Int, cmpN n 18446744073709551615 = z ∧ z ≤ 0 ∧ -1 ≤ z := by
      rcases Nat.lt_or_eq_of_le (show n ≤ 18446744073709551615 by omega) with h1 | h1
      · exact ⟨-1, cmpN_lt h1, by decide, by decide⟩
      · exact ⟨0, by rw [h1]; exact cmpN_eq _, by decide, by decide⟩
    have bz : decide (0 < z) = false := decide_eq_false (by omega)
    have HCM : Hid (∀ w' x, Gr w w' → RN w' x 18446744073709551615 → Calls Tryz.prog 37 #[.slice ax lx cx, x] w' fun e w2 => e = .returned (.int .i64 z) ∧ Gr w' w2) := Lib.hid (fun w' x hg hx => r_cmp (k := k + 3) (HX.out.gr hg) hx (b_up hn (by omega)) (b_up (show 18446744073709551615 < Dg.D ^ 3 by decide) (by omega)) (by omega) hz)
    have hlx : lx = (Dg.digs n).length := by
      obtain ⟨x, c, h2⟩ := rn_len h
      injection h2
    have HLX := Lib.hid hlx
    have hlz : n / Dg.D ^ lx = 0 := by
      rw [hlx]
      have h2 := Dg.val_lt (Dg.digs n) (Dg.digs_limbs n)
      rw [Dg.val_digs] at h2
      exact Nat.div_eq_of_lt h2
    have HLZ := Lib.hid hlz
    have hlen : lx ≤ 400 := by rw [hlx]; exact Nat.le_trans (Dg.digs_len n k hn) hk
    clear h hn hk hb hz hlx hlz
    go_enter Tryz.func85, Tryz.ntmps85
    go_wp2_with fail
    refine (HOU.out _).mono ?_
    rintro ev w1 ⟨⟨r1, rfl, hr1⟩, hg1⟩
    have HC := Lib.hid (HCM.out _ _ hg1 hr1)
    have HG1 := Lib.hid hg1
    clear hr1 hg1
    go_wp2_with (go_at_call 37; (with_reducible refine HC.out.mono ?_); rintro ev w2 ⟨rfl, hg2⟩)
    have HX2 := Lib.hid (HX.out.gr (HG1.out.tr hg2))
    have HG2 := Lib.hid (HG1.out.tr hg2)
    clear hg2
    go_loopg [4, 5] lx (fun g sx si wr => ∃ j : Nat, g = j ∧ j ≤ lx ∧ sx = .int .u64 ((n / Dg.D ^ j : Nat) : Int) ∧ si = .int .i64 ((j : Int) - 1) ∧ w2 = wr)
    case atStart => exact ⟨lx, rfl, Nat.le_refl _, by rw [HLZ.out]; rfl, by first | rfl | go_num, rfl⟩
    case round =>
      obtain ⟨j, hg, hj, rfl, rfl, rfl⟩ := hrel
      have HGG := Lib.hid hg
      clear hg
      rcases j with _ | j
      · have b1 : decide ((0 : Int) ≤ ((0 : Nat) : Int) - 1) = false := by decide
        go_wp2
        go_ret2
        exact ⟨⟨fun _ => by first | rfl | (simp; done) | (rw [Nat.pow_zero, Nat.div_one]; rfl), fun h => absurd h (by have := HB.out; omega)⟩, HG2.out⟩
      · rcases HX2.out.2 with ⟨hv, hd⟩ | ⟨g, o, c, hv, hc, hm, hl, hcell⟩
        · injection hv with _ e2 _
          omega
        · injection hv with e1 e2 e3
          have hcj := hcell j (by omega)
          have hdig : (Dg.digs n)[j]'(by omega) = n / Dg.D ^ j % Dg.D := by
            rw [← Dg.digs_get, List.getD_eq_getElem?_getD, List.getElem?_eq_getElem (by omega)]; rfl
          rw [hdig] at hcj
          change w2.cell? ⟨g, o + j, none⟩ = some (.int .u64 ((n / Dg.D ^ j % Dg.D : Nat) : Int)) at hcj
          have hsum : n / Dg.D ^ (j + 1) * Dg.D + n / Dg.D ^ j % Dg.D = n / Dg.D ^ j := by
            rw [Nat.pow_succ, ← Nat.div_div_eq_div_mul, Nat.mul_comm]
            exact Nat.div_add_mod _ _
          have hle : n / Dg.D ^ j ≤ n := Nat.div_le_self _ _
          have HSM := Lib.hid hsum
          subst e1
          have HCC := Lib.hid hc
          generalize hq : n / Dg.D ^ (j + 1) = q at hsum HSM ⊢
          generalize hdg : n / Dg.D ^ j % Dg.D = dg at *
          generalize hy : n / Dg.D ^ j = y at *
          have HY := Lib.hid hy
          have hB := HB.out
          have hsum2 : q * 1000000000 + dg = y := hsum
          have hw1 : IntKind.u64.wrap ((q : Int) * 1000000000) = (q : Int) * 1000000000 := by rw [IntKind.wrap_u64]; omega
          have hw2 : IntKind.u64.wrap ((q : Int) * 1000000000 + (dg : Int)) = (q : Int) * 1000000000 + (dg : Int) := by rw [IntKind.wrap_u64]; omega
          rw [show ((j + 1 : Nat) : Int) - 1 = (j : Int) by omega]
          have b1 : decide ((0 : Int) ≤ (j : Int)) = true := decide_eq_true (by omega)
          have hjl : (j : Int) < (lx : Int) := by omega
          have HSI := Lib.hid (show (q : Int) * 1000000000 + (dg : Int) = (y : Int) by omega)
          clear e2 e3 hcell hdig hle hq hdg hy hB hsum hsum2 hc hm hl
          go_wp2
          go_roundg j
          case measure => have := HGG.out; omega
          case rel => exact ⟨j, rfl, by omega, by rw [HY.out]; first | (rw [HSI.out]; done) | (congr 1; exact HSI.out), by first | rfl | go_num, rfl⟩
set_option maxRecDepth 100000 in
set_option maxHeartbeats 8000000 in
/-- (I).Small. -/
theorem rSmallI_calls (sb : Bool) (v : Value) (n : Nat) (w : World) (h : RN w v n) (k : Nat) (hn : n < Dg.D ^ k) (hk : k ≤ 400) (hz : sb = true → 0 < n) :
    Calls Tryz.prog 24 #[.agg #[.bool sb, v]] w fun e w' => ((-9223372036854775808 ≤ sgn sb n ∧ sgn sb n ≤ 9223372036854775807 → e = .returned (.tuple #[.int .i64 (sgn sb n), .bool true])) ∧ (¬ (-9223372036854775808 ≤ sgn sb n ∧ sgn sb n ≤ 9223372036854775807) → e = .returned (.tuple #[.int .i64 0, .bool false]))) ∧ Gr w w' := by
  obtain ⟨ax, lx, cx, rfl⟩ := rn_sl h
  have hga : Gr w (w.alloc (.cells #[.bool sb, .slice ax lx cx] 27)) := gr_al (Gr.rf w)
  have HSM := Lib.hid (rSmallN_calls (.slice ax lx cx) n _ (h.gr hga) k hn hk)
  have HBK := Lib.hid (heap_alloc_new w (.cells #[.bool sb, .slice ax lx cx] 27))
  have HGA := Lib.hid hga
  have HZ := Lib.hid hz
  clear h hn hk hz hga
  by_cases hb : n < 18446744073709551616
  case neg =>
    have HB := Lib.hid (show 18446744073709551616 ≤ n by omega)
    clear hb
    go_enter Tryz.func24, Tryz.ntmps24
    go_wp2_with fail
    generalize w.alloc (.cells #[.bool sb, .slice ax lx cx] 27) = w1 at *
    refine HSM.out.mono ?_
    rintro ev w2 ⟨⟨_, hr⟩, hg2⟩
    obtain rfl := hr HB.out
    have HG2 := Lib.hid (HGA.out.tr hg2)
    clear hr hg2
    go_wp2
    go_ret2
    refine ⟨⟨fun h => ?_, fun _ => rfl⟩, HG2.out⟩
    have hb := HB.out
    unfold sgn at h
    split at h <;> omega
  case pos =>
    have HB := Lib.hid hb
    clear hb
    cases sb
    · by_cases hr0 : 9223372036854775807 < n
      · have b1 : decide (9223372036854775807 < (n : Int)) = true := decide_eq_true (by omega)
        have b1n : decide (9223372036854775807 < n) = true := decide_eq_true hr0
        have HR0 := Lib.hid hr0
        clear hr0
        go_enter Tryz.func24, Tryz.ntmps24
        go_wp2_with fail
        generalize w.alloc (.cells #[.bool false, .slice ax lx cx] 27) = w1 at *
        refine HSM.out.mono ?_
        rintro ev w2 ⟨⟨hr, _⟩, hg2⟩
        obtain rfl := hr HB.out
        have c0 := heap_cell (hg2.heap HBK.out) 0
        have HG2 := Lib.hid (HGA.out.tr hg2)
        clear hr hg2
        go_wp2
        go_ret2
        exact ⟨⟨fun h => absurd h.2 (by have := HR0.out; show ¬ (n : Int) ≤ 9223372036854775807; omega), fun _ => rfl⟩, HG2.out⟩
      · have b1 : decide (9223372036854775807 < (n : Int)) = false := decide_eq_false (by omega)
        have b1n : decide (9223372036854775807 < n) = false := decide_eq_false hr0
        have hw1 : IntKind.i64.wrap (n : Int) = (n : Int) := by rw [IntKind.wrap_i64]; omega
        have HR0 := Lib.hid hr0
        clear hr0
        go_enter Tryz.func24, Tryz.ntmps24
        go_wp2_with fail
        generalize w.alloc (.cells #[.bool false, .slice ax lx cx] 27) = w1 at *
        refine HSM.out.mono ?_
        rintro ev w2 ⟨⟨hr, _⟩, hg2⟩
        obtain rfl := hr HB.out
        have c0 := heap_cell (hg2.heap HBK.out) 0
        have HG2 := Lib.hid (HGA.out.tr hg2)
        clear hr hg2
        go_wp2
        go_ret2
        exact ⟨⟨fun _ => rfl, fun h => absurd (show -9223372036854775808 ≤ sgn false n ∧ sgn false n ≤ 9223372036854775807 from by have := HR0.out; exact ⟨by show -9223372036854775808 ≤ (n : Int); omega, by show (n : Int) ≤ 9223372036854775807; omega⟩) h⟩, HG2.out⟩
    · have h1 := HZ.out rfl
      by_cases hr0 : 9223372036854775808 < n
      · have b1 : decide (9223372036854775808 < (n : Int)) = true := decide_eq_true (by omega)
        have b1n : decide (9223372036854775808 < n) = true := decide_eq_true hr0
        have HR0 := Lib.hid hr0
        clear hr0
        go_enter Tryz.func24, Tryz.ntmps24
        go_wp2_with fail
        generalize w.alloc (.cells #[.bool true, .slice ax lx cx] 27) = w1 at *
        refine HSM.out.mono ?_
        rintro ev w2 ⟨⟨hr, _⟩, hg2⟩
        obtain rfl := hr HB.out
        have c0 := heap_cell (hg2.heap HBK.out) 0
        have HG2 := Lib.hid (HGA.out.tr hg2)
        clear hr hg2
        go_wp2
        go_ret2
        exact ⟨⟨fun h => absurd h.1 (by have := HR0.out; show ¬ -9223372036854775808 ≤ -(n : Int); omega), fun _ => rfl⟩, HG2.out⟩
      · have b1 : decide (9223372036854775808 < (n : Int)) = false := decide_eq_false (by omega)
        have b1n : decide (9223372036854775808 < n) = false := decide_eq_false hr0
        obtain ⟨m, hm⟩ : ∃ m : Nat, (n : Int) - 1 = (m : Int) := ⟨n - 1, by omega⟩
        have hmb : (m : Int) ≤ 9223372036854775807 := by omega
        have HMN := Lib.hid hm
        have HR0 := Lib.hid hr0
        clear hr0 h1
        go_enter Tryz.func24, Tryz.ntmps24
        go_wp2_with fail
        generalize w.alloc (.cells #[.bool true, .slice ax lx cx] 27) = w1 at *
        refine HSM.out.mono ?_
        rintro ev w2 ⟨⟨hr, _⟩, hg2⟩
        obtain rfl := hr HB.out
        have c0 := heap_cell (hg2.heap HBK.out) 0
        have HG2 := Lib.hid (HGA.out.tr hg2)
        clear hr hg2
        go_wp2
        go_ret2
        have e1 : -(m : Int) - 1 = sgn true n := by have := HMN.out; show _ = -(n : Int); omega
        refine ⟨⟨fun _ => by rw [← e1]; rfl, fun h => absurd (show -9223372036854775808 ≤ sgn true n ∧ sgn true n ≤ 9223372036854775807 from by have := HR0.out; exact ⟨by show -9223372036854775808 ≤ -(n : Int); omega, by show -(n : Int) ≤ 9223372036854775807; omega⟩) h⟩, HG2.out⟩
end Go.Proofs.YtcjjgdoafkdeaaaGreatDoor
