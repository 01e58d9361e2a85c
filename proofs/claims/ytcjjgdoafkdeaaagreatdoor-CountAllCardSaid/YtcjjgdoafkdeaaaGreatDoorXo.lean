/- Layer 6: 'days and parts of years, by each count', walked. -/
import Derived.Test.YtcjjgdoafkdeaaaGreatDoorXn
import Derived.Test.YtcjjgdoafkdeaaaGreatDoorXj
import Derived.Test.YtcjjgdoafkdeaaaGreatDoorWh
import Derived.Test.YtcjjgdoafkdeaaaGreatDoorHi
namespace Go.Proofs.YtcjjgdoafkdeaaaGreatDoor
open Go.RowKit Go.Extern.Stop Go.Stop Go.Extern Go.Sort
set_option linter.unusedVariables false
set_option linter.unusedSimpArgs false

theorem csl_of {w : World} {v : Value} {n : Nat} (h : RN w v n) : ∃ x l c, v = .slice x l c := by
  obtain ⟨x, c, h⟩ := rn_len h
  exact ⟨x, _, c, h⟩
theorem part_text {w : World} {v : Value} {n z e : Int} {d : Nat} (h : RatAt w v n d) (hn : n.natAbs ≤ z.natAbs) (hd : d ≤ e.natAbs) (z0 : -200000 ≤ z) (z1 : z ≤ 200000) (e0 : 0 ≤ e) (e1 : e ≤ 200000000) (hT : PowTab w) {X : ByteArray} (hX : X = ⟨(ratText n d).toArray⟩) :
    Calls Tryz.prog 18 #[v] w fun e w' => e = .returned (.string X) ∧ Gr w w' := by
  subst hX
  exact textRat_calls v n d w h 1 (by rw [Nat.pow_one, B_eq]; omega) (by rw [Nat.pow_one, B_eq]; omega) (by decide) (by decide) hT
theorem pref_text {w : World} {va vb : Value} {sb : Bool} {n z e : Int} {d : Nat} (ha : RN w va z.natAbs) (hb : RN w vb e.natAbs) (hsb : sb = ((decide (z < 0) != decide (e < 0)) && decide (0 < z.natAbs))) (he : e ≠ 0) (z0 : -200000 ≤ z) (z1 : z ≤ 200000) (e0 : 0 ≤ e) (e1 : e ≤ 200000000) (h : n * e = z * (d : Int)) (hp : 0 < d) (hc : Nat.gcd n.natAbs d = 1) {X : ByteArray} (hX : X = ⟨(ratText n d).toArray⟩) :
    Calls Tryz.prog 19 #[.agg #[.bool sb, va, vb]] w fun e w' => e = .returned (.string X) ∧ Gr w w' := by
  refine rQText_calls sb va vb z.natAbs e.natAbs w ha hb (by omega) 1 (by show _ < 1000000000 ^ 1; omega) (by show _ < 1000000000 ^ 1; omega) (by decide) (by decide) X ?_
  obtain ⟨h1, h2⟩ := frac_low z e n d he h hp hc sb hsb
  rw [h1, h2, hX]
set_option maxRecDepth 100000 in
set_option maxHeartbeats 16000000 in
theorem countAll_e0 (k a b s t f c x : Int) (hgd7 : decide (0 < bits .and .i64 a 7) = false)  (r0 : -100 < f.tmod 100) (r1 : f.tmod 100 < 100) (hc : c = 1 ∨ c = 4 ∨ c = 2) (m1 m2 : Bool) (hm1 : decide (1 ≤ k) = m1) (hm2 : decide (k ≤ 4) = m2) (hP : PE k a b s t (f.tmod 100 - 3) c) (hD : DK k a b x) (w : World) (hM : Met2 w) :
    Calls Tryz.prog 10 #[.int .i64 k, .int .i64 a, .int .i64 b, .int .i64 s, .int .i64 t, .int .i64 f] w fun e w' => e = .returned (.bool true) ∧ Gr w w' := by
  have HM := Lib.hid hM
  have HBG := Lib.hid (begun6_calls w hM)
  have HP1 := Lib.hid hP.1
  have HP2 := Lib.hid hP.2
  have HD1 := Lib.hid hD.1
  have HD2 := Lib.hid hD.2
  have hmy := fun w => cmay_calls k w
  rw [show decide (1 ≤ k ∧ k ≤ 4) = (m1 && m2) by rw [← hm1, ← hm2, Bool.decide_and]] at hmy
  have HMY := Lib.hid hmy
  clear hM hP hD hmy
  unfold QZ at HP2
  rcases hc with rfl | rfl | rfl
  · cases m1 <;> cases m2
    all_goals
      go_enter Tryz.func10, Tryz.ntmps10
      go_wp2_with (first | (go_at_call 45; (with_reducible refine HBG.out.mono ?_); rintro ev w1 ⟨rfl, hg1⟩; have HG1 := Lib.hid hg1; clear hg1))
      refine (HP1.out _).mono ?_
      rintro ev w2 ⟨rfl, hg2⟩
      have HG2 := Lib.hid (HG1.out.tr hg2)
      clear hg2
      go_wp2_with fail
      refine (HP2.out _).mono ?_
      rintro ev w3 ⟨rfl, hg3⟩
      have hblk := heap_alloc_new w3 (.cells #[.bool false, .slice none 0 0, .slice none 0 0] 29)
      have hga : Gr w3 (w3.alloc (.cells #[.bool false, .slice none 0 0, .slice none 0 0] 29)) := (Gr.rf w3).alloc (Nat.le_refl _) _
      have HG4 := Lib.hid (HG2.out.tr (hg3.tr hga))
      clear hblk hga hg3
      go_wp2_with fail
      generalize w3.alloc (.cells #[.bool false, .slice none 0 0, .slice none 0 0] 29) = w4 at *
      refine (same6_calls (.iface 169 (.int .i64 1)) (.plain 1) 1 w4 (HM.out.gr HG4.out).1 (.plain 1)).mono ?_
      rintro ev wz ⟨rfl, hgz⟩
      have HGZ := Lib.hid hgz
      clear hgz
      go_wp2_with (first | (go_at_call 52; (with_reducible refine (HMY.out _).mono ?_); rintro ev wy ⟨rfl, rfl⟩) | (go_at_call 50; (with_reducible refine (HD1.out _).mono ?_); rintro ev wx ⟨rfl, hgx⟩; have HGX := Lib.hid hgx; clear hgx) | (go_at_call 51; (with_reducible refine (HD2.out _).mono ?_); rintro ev w5 ⟨rfl, hg5⟩; have HGV := Lib.hid hg5; clear hg5))
      go_quiet (fail)
      go_wp2
      go_ret
      exact ⟨by first | rfl | simp, Gr.drew (HG4.out.tr (HGZ.out.tr (HGX.out.tr HGV.out))) _⟩
  · cases m1 <;> cases m2
    all_goals
      go_enter Tryz.func10, Tryz.ntmps10
      go_wp2_with (first | (go_at_call 45; (with_reducible refine HBG.out.mono ?_); rintro ev w1 ⟨rfl, hg1⟩; have HG1 := Lib.hid hg1; clear hg1))
      refine (HP1.out _).mono ?_
      rintro ev w2 ⟨rfl, hg2⟩
      have HG2 := Lib.hid (HG1.out.tr hg2)
      clear hg2
      go_wp2_with fail
      refine (HP2.out _).mono ?_
      rintro ev w3 ⟨rfl, hg3⟩
      have hblk := heap_alloc_new w3 (.cells #[.bool false, .slice none 0 0, .slice none 0 0] 29)
      have hga : Gr w3 (w3.alloc (.cells #[.bool false, .slice none 0 0, .slice none 0 0] 29)) := (Gr.rf w3).alloc (Nat.le_refl _) _
      have HG4 := Lib.hid (HG2.out.tr (hg3.tr hga))
      clear hblk hga hg3
      go_wp2_with fail
      generalize w3.alloc (.cells #[.bool false, .slice none 0 0, .slice none 0 0] 29) = w4 at *
      refine (same6_calls (.iface 169 (.int .i64 4)) (.plain 4) 4 w4 (HM.out.gr HG4.out).1 (.plain 4)).mono ?_
      rintro ev wz ⟨rfl, hgz⟩
      have HGZ := Lib.hid hgz
      clear hgz
      go_wp2_with (first | (go_at_call 52; (with_reducible refine (HMY.out _).mono ?_); rintro ev wy ⟨rfl, rfl⟩) | (go_at_call 50; (with_reducible refine (HD1.out _).mono ?_); rintro ev wx ⟨rfl, hgx⟩; have HGX := Lib.hid hgx; clear hgx) | (go_at_call 51; (with_reducible refine (HD2.out _).mono ?_); rintro ev w5 ⟨rfl, hg5⟩; have HGV := Lib.hid hg5; clear hg5))
      go_quiet (fail)
      go_wp2
      go_ret
      exact ⟨by first | rfl | simp, Gr.drew (HG4.out.tr (HGZ.out.tr (HGX.out.tr HGV.out))) _⟩
  · cases m1 <;> cases m2
    all_goals
      go_enter Tryz.func10, Tryz.ntmps10
      go_wp2_with (first | (go_at_call 45; (with_reducible refine HBG.out.mono ?_); rintro ev w1 ⟨rfl, hg1⟩; have HG1 := Lib.hid hg1; clear hg1))
      refine (HP1.out _).mono ?_
      rintro ev w2 ⟨rfl, hg2⟩
      have HG2 := Lib.hid (HG1.out.tr hg2)
      clear hg2
      go_wp2_with fail
      refine (HP2.out _).mono ?_
      rintro ev w3 ⟨rfl, hg3⟩
      have hblk := heap_alloc_new w3 (.cells #[.bool false, .slice none 0 0, .slice none 0 0] 29)
      have hga : Gr w3 (w3.alloc (.cells #[.bool false, .slice none 0 0, .slice none 0 0] 29)) := (Gr.rf w3).alloc (Nat.le_refl _) _
      have HG4 := Lib.hid (HG2.out.tr (hg3.tr hga))
      clear hblk hga hg3
      go_wp2_with fail
      generalize w3.alloc (.cells #[.bool false, .slice none 0 0, .slice none 0 0] 29) = w4 at *
      refine (same6_calls (.iface 169 (.int .i64 2)) (.plain 2) 2 w4 (HM.out.gr HG4.out).1 (.plain 2)).mono ?_
      rintro ev wz ⟨rfl, hgz⟩
      have HGZ := Lib.hid hgz
      clear hgz
      go_wp2_with (first | (go_at_call 52; (with_reducible refine (HMY.out _).mono ?_); rintro ev wy ⟨rfl, rfl⟩) | (go_at_call 50; (with_reducible refine (HD1.out _).mono ?_); rintro ev wx ⟨rfl, hgx⟩; have HGX := Lib.hid hgx; clear hgx) | (go_at_call 51; (with_reducible refine (HD2.out _).mono ?_); rintro ev w5 ⟨rfl, hg5⟩; have HGV := Lib.hid hg5; clear hg5))
      go_quiet (fail)
      go_wp2
      go_ret
      exact ⟨by first | rfl | simp, Gr.drew (HG4.out.tr (HGZ.out.tr (HGX.out.tr HGV.out))) _⟩
set_option maxRecDepth 100000 in
set_option maxHeartbeats 16000000 in
theorem countAll_k0 (k a b s t f z e x : Int) (hgd7 : decide (0 < bits .and .i64 a 7) = false)  (r0 : -100 < f.tmod 100) (r1 : f.tmod 100 < 100) (hk : 1 ≤ k ∧ k ≤ 4) (hz : e ≠ 0 ∧ -200000 ≤ z ∧ z ≤ 200000 ∧ 0 ≤ e ∧ e ≤ 200000000) (hP : PK k a b s t (f.tmod 100 - 3) z e) (hD : DK k a b x) (w : World) (hM : Met2 w) :
    Calls Tryz.prog 10 #[.int .i64 k, .int .i64 a, .int .i64 b, .int .i64 s, .int .i64 t, .int .i64 f] w fun e w' => e = .returned (.bool true) ∧ Gr w w' := by
  have HM := Lib.hid hM
  have HBG := Lib.hid (begun6_calls w hM)
  have HP1 := Lib.hid hP.1
  have HP2 := Lib.hid hP.2
  have HD1 := Lib.hid hD.1
  have HD2 := Lib.hid hD.2
  have hmy := fun w => cmay_calls k w
  rw [decide_eq_true hk] at hmy
  have dm1 : decide (1 ≤ k) = true := decide_eq_true hk.1
  have dm2 : decide (k ≤ 4) = true := decide_eq_true hk.2
  have HZ := Lib.hid hz
  clear hz hk
  have HMY := Lib.hid hmy
  clear hM hP hD hmy
  go_enter Tryz.func10, Tryz.ntmps10
  go_wp2_with (first | (go_at_call 45; (with_reducible refine HBG.out.mono ?_); rintro ev w1 ⟨rfl, hg1⟩; have HG1 := Lib.hid hg1; clear hg1))
  have HC1 := Lib.hid (HP1.out w1 (HM.out.gr HG1.out).2.1)
  refine HC1.out.mono ?_
  rintro ev w2 ⟨⟨b2, n2, d2, rfl, hr2⟩, hg2⟩
  have HR2 := Lib.hid hr2
  have HG2 := Lib.hid (HG1.out.tr hg2)
  clear hr2 hg2
  go_wp2_with fail
  refine (HP2.out _).mono ?_
  rintro ev w3 ⟨⟨sb, va, vb, rfl, hsb, hva, hvb⟩, hg3⟩
  have HVV := Lib.hid (And.intro hva hvb)
  have HSB := Lib.hid hsb
  obtain ⟨aa, la, ca, rfl⟩ := csl_of hva
  obtain ⟨ab, lb, cb, rfl⟩ := csl_of hvb
  have hblk := heap_alloc_new w3 (.cells #[.bool sb, .slice aa la ca, .slice ab lb cb] 29)
  have hga : Gr w3 (w3.alloc (.cells #[.bool sb, .slice aa la ca, .slice ab lb cb] 29)) := (Gr.rf w3).alloc (Nat.le_refl _) _
  have HG4 := Lib.hid (HG2.out.tr (hg3.tr hga))
  have HR4 := Lib.hid (HR2.out.1.gr (hg3.tr hga))
  have HV4 := Lib.hid (And.intro (HVV.out.1.gr hga) (HVV.out.2.gr hga))
  have HBK := Lib.hid hblk
  clear hsb hva hvb hblk hga hg3
  go_wp2_with fail
  generalize w3.alloc (.cells #[.bool sb, .slice aa la ca, .slice ab lb cb] 29) = w4 at *
  refine (same6_calls .nilIface .nil 0 w4 (HM.out.gr HG4.out).1 .nil).mono ?_
  rintro ev wz ⟨rfl, hgz⟩
  have HGZ := Lib.hid hgz
  clear hgz
  go_wp2_with (first | (go_at_call 52; (with_reducible refine (HMY.out _).mono ?_); rintro ev wy ⟨rfl, rfl⟩) | (go_at_call 50; (with_reducible refine (HD1.out _).mono ?_); rintro ev wx ⟨rfl, hgx⟩; have HGX := Lib.hid hgx; clear hgx) | (go_at_call 51; (with_reducible refine (HD2.out _).mono ?_); rintro ev w5 ⟨rfl, hg5⟩; have HGV := Lib.hid hg5; clear hg5))
  have HGW := Lib.hid (HGZ.out.tr (HGX.out.tr HGV.out))
  have HG5 := Lib.hid (HG4.out.tr HGW.out)
  have HBK5 := Lib.hid (HGW.out.heap HBK.out)
  have HTX : Hid (∀ w', Gr w5 w' → (Gr w5 w' ∧ w'.cell? ⟨w3.heap.size, 0, none⟩ = some (.bool sb) ∧ w'.cell? ⟨w3.heap.size, 1, none⟩ = some (.slice aa la ca) ∧ w'.cell? ⟨w3.heap.size, 2, none⟩ = some (.slice ab lb cb))) := Lib.hid (fun w' hg => ⟨hg, heap_cell (hg.heap HBK5.out) 0, heap_cell (hg.heap HBK5.out) 1, heap_cell (hg.heap HBK5.out) 2⟩)
  have hgd : Gr w5 w5.drew := Gr.drew (Gr.rf w5) 1
  obtain ⟨Y, hY⟩ : ∃ Y : ByteArray, Y = ⟨(ratText n2 d2).toArray⟩ := ⟨_, rfl⟩
  have HT1 : Hid (∀ w', Gr w5 w' → Calls Tryz.prog 18 #[.pointer (some ⟨b2, 0, none⟩)] w' fun e w2 => e = .returned (.string Y) ∧ Gr w' w2) := Lib.hid (fun w' hg => part_text (HR4.out.gr (HGW.out.tr hg)) HR2.out.2.2.1 HR2.out.2.2.2 HZ.out.2.1 HZ.out.2.2.1 HZ.out.2.2.2.1 HZ.out.2.2.2.2 (HM.out.gr (HG5.out.tr hg)).2.2 hY)
  have HT2 : Hid (∀ w', Gr w5 w' → Calls Tryz.prog 19 #[.agg #[.bool sb, .slice aa la ca, .slice ab lb cb]] w' fun e w2 => e = .returned (.string Y) ∧ Gr w' w2) := Lib.hid (fun w' hg => pref_text (HV4.out.1.gr (HGW.out.tr hg)) (HV4.out.2.gr (HGW.out.tr hg)) HSB.out HZ.out.1 HZ.out.2.1 HZ.out.2.2.1 HZ.out.2.2.2.1 HZ.out.2.2.2.2 HR2.out.2.1 HR2.out.1.pos HR2.out.1.cop hY)
  clear hY
  refine wp_region_noPanic ?_
  refine wp_region_held_drew (S := (fun w' => Gr w5 w' ∧ w'.cell? ⟨w3.heap.size, 0, none⟩ = some (.bool sb) ∧ w'.cell? ⟨w3.heap.size, 1, none⟩ = some (.slice aa la ca) ∧ w'.cell? ⟨w3.heap.size, 2, none⟩ = some (.slice ab lb cb))) (by kernel_rfl) ?hS (fun hHeld => ?_)
  case hS => ((try dsimp only); (first | exact HTX.out _ hgd | exact HTX.out _ hs6 | exact HTX.out _ hs7))
  refine wpAnyH_take (i := 0) (v := ?vv1) rfl (by kernel_rfl) (by kernel_rfl) (by kernel_rfl) (fun _ _ _ h => h) (Or.inl ⟨by rfl, ?hy1⟩) (by assumption) ?_
  case hy1 => (intro w hSw; (try dsimp only at hSw); go_split_ands; go_simp; try with_reducible rfl)
  try simp only [List.getElem_toArray, List.getElem_cons_succ, List.getElem_cons_zero, Act.put, List.setIfInBounds_toArray, List.set_cons_zero, List.set_cons_succ]
  refine wpAnyH_take (i := 1) (v := ?vv2) rfl (by kernel_rfl) (by kernel_rfl) (by kernel_rfl) (fun _ _ _ h => h) (Or.inl ⟨by rfl, ?hy2⟩) (by assumption) ?_
  case hy2 => (intro w hSw; (try dsimp only at hSw); go_split_ands; go_simp; try with_reducible rfl)
  try simp only [List.getElem_toArray, List.getElem_cons_succ, List.getElem_cons_zero, Act.put, List.setIfInBounds_toArray, List.set_cons_zero, List.set_cons_succ]
  refine wpAnyH_take (i := 2) (v := ?vv3) rfl (by kernel_rfl) (by kernel_rfl) (by kernel_rfl) (fun _ _ _ h => h) (Or.inl ⟨by rfl, ?hy3⟩) (by assumption) ?_
  case hy3 => (intro w hSw; (try dsimp only at hSw); go_split_ands; go_simp; try with_reducible rfl)
  try simp only [List.getElem_toArray, List.getElem_cons_succ, List.getElem_cons_zero, Act.put, List.setIfInBounds_toArray, List.set_cons_zero, List.set_cons_succ]
  refine wpAnyH_take (i := 3) (v := undef) rfl (by kernel_rfl) (by kernel_rfl) (by kernel_rfl) (fun _ _ _ h => h) (Or.inr ⟨by rfl, rfl⟩) (by assumption) ?_
  try simp only [List.getElem_toArray, List.getElem_cons_succ, List.getElem_cons_zero, Act.put, List.setIfInBounds_toArray, List.set_cons_zero, List.set_cons_succ]
  refine wpAnyH_take (i := 4) (v := undef) rfl (by kernel_rfl) (by kernel_rfl) (by kernel_rfl) (fun _ _ _ h => h) (Or.inr ⟨by rfl, rfl⟩) (by assumption) ?_
  try simp only [List.getElem_toArray, List.getElem_cons_succ, List.getElem_cons_zero, Act.put, List.setIfInBounds_toArray, List.set_cons_zero, List.set_cons_succ]
  refine wpAnyH_take (i := 5) (v := ?vv4) rfl (by kernel_rfl) (by kernel_rfl) (by kernel_rfl) (fun _ _ _ h => h) (Or.inl ⟨by rfl, ?hy4⟩) (by assumption) ?_
  case hy4 => (intro w hSw; (try dsimp only at hSw); go_split_ands; go_simp; try with_reducible rfl)
  try simp only [List.getElem_toArray, List.getElem_cons_succ, List.getElem_cons_zero, Act.put, List.setIfInBounds_toArray, List.set_cons_zero, List.set_cons_succ]
  refine wpAnyH_take (i := 6) (v := ?vv5) rfl (by kernel_rfl) (by kernel_rfl) (by kernel_rfl) (fun _ _ _ h => h) (Or.inl ⟨by rfl, ?hy5⟩) (by assumption) ?_
  case hy5 => (intro w hSw; (try dsimp only at hSw); go_split_ands; go_simp; try with_reducible rfl)
  try simp only [List.getElem_toArray, List.getElem_cons_succ, List.getElem_cons_zero, Act.put, List.setIfInBounds_toArray, List.set_cons_zero, List.set_cons_succ]
  refine wpAnyH_take (i := 7) (v := ?vv6) rfl (by kernel_rfl) (by kernel_rfl) (by kernel_rfl) (fun _ _ _ h => h) (Or.inl ⟨by rfl, ?hy6⟩) (by assumption) ?_
  case hy6 => (intro w hSw; (try dsimp only at hSw); go_split_ands; go_simp; try with_reducible rfl)
  try simp only [List.getElem_toArray, List.getElem_cons_succ, List.getElem_cons_zero, Act.put, List.setIfInBounds_toArray, List.set_cons_zero, List.set_cons_succ]
  refine wpAnyH_take (i := 8) (v := ?vv7) rfl (by kernel_rfl) (by kernel_rfl) (by kernel_rfl) (fun _ _ _ h => h) (Or.inl ⟨by rfl, ?hy7⟩) (by assumption) ?_
  case hy7 => (intro w hSw; (try dsimp only at hSw); go_split_ands; go_simp; try with_reducible rfl)
  try simp only [List.getElem_toArray, List.getElem_cons_succ, List.getElem_cons_zero, Act.put, List.setIfInBounds_toArray, List.set_cons_zero, List.set_cons_succ]
  refine wpAnyH_take (i := 9) (v := ?vv8) rfl (by kernel_rfl) (by kernel_rfl) (by kernel_rfl) (fun _ _ _ h => h) (Or.inl ⟨by rfl, ?hy8⟩) (by assumption) ?_
  case hy8 => (intro w hSw; (try dsimp only at hSw); go_split_ands; go_simp; try with_reducible rfl)
  try simp only [List.getElem_toArray, List.getElem_cons_succ, List.getElem_cons_zero, Act.put, List.setIfInBounds_toArray, List.set_cons_zero, List.set_cons_succ]
  refine wpAnyH_take (i := 10) (v := ?vv9) rfl (by kernel_rfl) (by kernel_rfl) (by kernel_rfl) (fun _ _ _ h => h) (Or.inl ⟨by rfl, ?hy9⟩) (by assumption) ?_
  case hy9 => (intro w hSw; (try dsimp only at hSw); go_split_ands; go_simp; try with_reducible rfl)
  try simp only [List.getElem_toArray, List.getElem_cons_succ, List.getElem_cons_zero, Act.put, List.setIfInBounds_toArray, List.set_cons_zero, List.set_cons_succ]
  refine wpAnyH_take (i := 12) (v := ?vv10) rfl (by kernel_rfl) (by kernel_rfl) (by kernel_rfl) (fun _ _ _ h => h) (Or.inl ⟨by rfl, ?hy10⟩) (by assumption) ?_
  case hy10 => (intro w hSw; (try dsimp only at hSw); go_split_ands; go_simp; try with_reducible rfl)
  try simp only [List.getElem_toArray, List.getElem_cons_succ, List.getElem_cons_zero, Act.put, List.setIfInBounds_toArray, List.set_cons_zero, List.set_cons_succ]
  refine wpAnyH_ready (rs := [11]) (by kernel_rfl) (by simp) ?_
  refine AllReadyH.cons rfl (fun K hK => ?_) AllReadyH.nil
  go_simp
  go_at_call 18; go_split_ands; refine (HT1.out _ (by assumption)).mono ?_; rintro ev wa ⟨rfl, hga6⟩; have hs6 : Gr w5 wa := Gr.tr (by assumption) hga6
  try (go_wp2_with fail)
  try clear hHeld
  refine hK.out _ _ ?hS (fun hHeld => ?_)
  case hS => ((try dsimp only); (first | exact HTX.out _ hgd | exact HTX.out _ hs6 | exact HTX.out _ hs7))
  clear hK K
  try simp only [List.getElem_toArray, List.getElem_cons_succ, List.getElem_cons_zero, Act.put, List.setIfInBounds_toArray, List.set_cons_zero, List.set_cons_succ]
  refine wpAnyH_ready (rs := [13]) (by kernel_rfl) (by simp) ?_
  refine AllReadyH.cons rfl (fun K hK => ?_) AllReadyH.nil
  go_simp
  go_at_call 19; go_split_ands; refine (HT2.out _ (by assumption)).mono ?_; rintro ev wb ⟨rfl, hgb7⟩; have hs7 : Gr w5 wb := Gr.tr (by assumption) hgb7
  try (go_wp2_with fail)
  try clear hHeld
  refine hK.out _ _ ?hS (fun hHeld => ?_)
  case hS => ((try dsimp only); (first | exact HTX.out _ hgd | exact HTX.out _ hs6 | exact HTX.out _ hs7))
  clear hK K
  try simp only [List.getElem_toArray, List.getElem_cons_succ, List.getElem_cons_zero, Act.put, List.setIfInBounds_toArray, List.set_cons_zero, List.set_cons_succ]
  refine wpAnyH_take (i := 14) (v := ?vv11) rfl (by kernel_rfl) (by kernel_rfl) (by kernel_rfl) (fun _ _ _ h => h) (Or.inl ⟨by rfl, ?hy11⟩) (by assumption) ?_
  case hy11 => (intro w hSw; (try dsimp only at hSw); go_split_ands; go_simp; try with_reducible rfl)
  try simp only [List.getElem_toArray, List.getElem_cons_succ, List.getElem_cons_zero, Act.put, List.setIfInBounds_toArray, List.set_cons_zero, List.set_cons_succ]
  refine wpAnyH_take (i := 15) (v := ?vv12) rfl (by kernel_rfl) (by kernel_rfl) (by kernel_rfl) (fun _ _ _ h => h) (Or.inl ⟨by rfl, ?hy12⟩) (by assumption) ?_
  case hy12 => (intro w hSw; (try dsimp only at hSw); go_split_ands; go_simp; try with_reducible rfl)
  try simp only [List.getElem_toArray, List.getElem_cons_succ, List.getElem_cons_zero, Act.put, List.setIfInBounds_toArray, List.set_cons_zero, List.set_cons_succ]
  refine wpAnyH_take (i := 16) (v := ?vv13) rfl (by kernel_rfl) (by kernel_rfl) (by kernel_rfl) (fun _ _ _ h => h) (Or.inl ⟨by rfl, ?hy13⟩) (by assumption) ?_
  case hy13 => (intro w hSw; (try dsimp only at hSw); go_split_ands; go_simp; try with_reducible rfl)
  try simp only [List.getElem_toArray, List.getElem_cons_succ, List.getElem_cons_zero, Act.put, List.setIfInBounds_toArray, List.set_cons_zero, List.set_cons_succ]
  refine wpAnyH_take (i := 17) (v := ?vv14) rfl (by kernel_rfl) (by kernel_rfl) (by kernel_rfl) (fun _ _ _ h => h) (Or.inl ⟨by rfl, ?hy14⟩) (by assumption) ?_
  case hy14 => (intro w hSw; (try dsimp only at hSw); go_split_ands; go_simp; try with_reducible rfl)
  try simp only [List.getElem_toArray, List.getElem_cons_succ, List.getElem_cons_zero, Act.put, List.setIfInBounds_toArray, List.set_cons_zero, List.set_cons_succ]
  refine wpAnyH_done (by kernel_rfl) ?_ _
  refine NoPanic.normal ?_
  go_wp2
  go_ret
  exact ⟨by first | rfl | simp, HG5.out.tr hs7⟩
set_option maxRecDepth 100000 in
set_option maxHeartbeats 16000000 in
theorem countAll_e1 (k a b s t f A B S T c x : Int) (hgd7 : decide (0 < bits .and .i64 a 7) = true) (hA : a % 109573 = A) (hB : b % 109573 = B) (hS : s % 109573 = S) (hT : t % 109573 = T) (r0 : -100 < f.tmod 100) (r1 : f.tmod 100 < 100) (hc : c = 1 ∨ c = 4 ∨ c = 2) (m1 m2 : Bool) (hm1 : decide (1 ≤ k) = m1) (hm2 : decide (k ≤ 4) = m2) (hP : PE k A B S T (f.tmod 100 - 3) c) (hD : DK k A B x) (w : World) (hM : Met2 w) :
    Calls Tryz.prog 10 #[.int .i64 k, .int .i64 a, .int .i64 b, .int .i64 s, .int .i64 t, .int .i64 f] w fun e w' => e = .returned (.bool true) ∧ Gr w w' := by
  have HM := Lib.hid hM
  have HBG := Lib.hid (begun6_calls w hM)
  have HP1 := Lib.hid hP.1
  have HP2 := Lib.hid hP.2
  have HD1 := Lib.hid hD.1
  have HD2 := Lib.hid hD.2
  have hmy := fun w => cmay_calls k w
  rw [show decide (1 ≤ k ∧ k ≤ 4) = (m1 && m2) by rw [← hm1, ← hm2, Bool.decide_and]] at hmy
  have HMY := Lib.hid hmy
  clear hM hP hD hmy
  have hdyA := fun w => day6_calls a w
  rw [hA] at hdyA
  have HDYA := Lib.hid hdyA
  clear hdyA hA
  have hdyB := fun w => day6_calls b w
  rw [hB] at hdyB
  have HDYB := Lib.hid hdyB
  clear hdyB hB
  have hdyS := fun w => day6_calls s w
  rw [hS] at hdyS
  have HDYS := Lib.hid hdyS
  clear hdyS hS
  have hdyT := fun w => day6_calls t w
  rw [hT] at hdyT
  have HDYT := Lib.hid hdyT
  clear hdyT hT
  unfold QZ at HP2
  rcases hc with rfl | rfl | rfl
  · cases m1 <;> cases m2
    all_goals
      go_enter Tryz.func10, Tryz.ntmps10
      go_wp2_with (first | (go_at_call 45; (with_reducible refine HBG.out.mono ?_); rintro ev w1 ⟨rfl, hg1⟩; have HG1 := Lib.hid hg1; clear hg1) | (go_at_call 46; first | ((with_reducible refine (HDYA.out _).mono ?_); rintro ev wd ⟨rfl, rfl⟩) | ((with_reducible refine (HDYB.out _).mono ?_); rintro ev wd ⟨rfl, rfl⟩) | ((with_reducible refine (HDYS.out _).mono ?_); rintro ev wd ⟨rfl, rfl⟩) | ((with_reducible refine (HDYT.out _).mono ?_); rintro ev wd ⟨rfl, rfl⟩)))
      refine (HP1.out _).mono ?_
      rintro ev w2 ⟨rfl, hg2⟩
      have HG2 := Lib.hid (HG1.out.tr hg2)
      clear hg2
      go_wp2_with fail
      refine (HP2.out _).mono ?_
      rintro ev w3 ⟨rfl, hg3⟩
      have hblk := heap_alloc_new w3 (.cells #[.bool false, .slice none 0 0, .slice none 0 0] 29)
      have hga : Gr w3 (w3.alloc (.cells #[.bool false, .slice none 0 0, .slice none 0 0] 29)) := (Gr.rf w3).alloc (Nat.le_refl _) _
      have HG4 := Lib.hid (HG2.out.tr (hg3.tr hga))
      clear hblk hga hg3
      go_wp2_with fail
      generalize w3.alloc (.cells #[.bool false, .slice none 0 0, .slice none 0 0] 29) = w4 at *
      refine (same6_calls (.iface 169 (.int .i64 1)) (.plain 1) 1 w4 (HM.out.gr HG4.out).1 (.plain 1)).mono ?_
      rintro ev wz ⟨rfl, hgz⟩
      have HGZ := Lib.hid hgz
      clear hgz
      go_wp2_with (first | (go_at_call 52; (with_reducible refine (HMY.out _).mono ?_); rintro ev wy ⟨rfl, rfl⟩) | (go_at_call 50; (with_reducible refine (HD1.out _).mono ?_); rintro ev wx ⟨rfl, hgx⟩; have HGX := Lib.hid hgx; clear hgx) | (go_at_call 51; (with_reducible refine (HD2.out _).mono ?_); rintro ev w5 ⟨rfl, hg5⟩; have HGV := Lib.hid hg5; clear hg5))
      go_quiet (fail)
      go_wp2
      go_ret
      exact ⟨by first | rfl | simp, Gr.drew (HG4.out.tr (HGZ.out.tr (HGX.out.tr HGV.out))) _⟩
  · cases m1 <;> cases m2
    all_goals
      go_enter Tryz.func10, Tryz.ntmps10
      go_wp2_with (first | (go_at_call 45; (with_reducible refine HBG.out.mono ?_); rintro ev w1 ⟨rfl, hg1⟩; have HG1 := Lib.hid hg1; clear hg1) | (go_at_call 46; first | ((with_reducible refine (HDYA.out _).mono ?_); rintro ev wd ⟨rfl, rfl⟩) | ((with_reducible refine (HDYB.out _).mono ?_); rintro ev wd ⟨rfl, rfl⟩) | ((with_reducible refine (HDYS.out _).mono ?_); rintro ev wd ⟨rfl, rfl⟩) | ((with_reducible refine (HDYT.out _).mono ?_); rintro ev wd ⟨rfl, rfl⟩)))
      refine (HP1.out _).mono ?_
      rintro ev w2 ⟨rfl, hg2⟩
      have HG2 := Lib.hid (HG1.out.tr hg2)
      clear hg2
      go_wp2_with fail
      refine (HP2.out _).mono ?_
      rintro ev w3 ⟨rfl, hg3⟩
      have hblk := heap_alloc_new w3 (.cells #[.bool false, .slice none 0 0, .slice none 0 0] 29)
      have hga : Gr w3 (w3.alloc (.cells #[.bool false, .slice none 0 0, .slice none 0 0] 29)) := (Gr.rf w3).alloc (Nat.le_refl _) _
      have HG4 := Lib.hid (HG2.out.tr (hg3.tr hga))
      clear hblk hga hg3
      go_wp2_with fail
      generalize w3.alloc (.cells #[.bool false, .slice none 0 0, .slice none 0 0] 29) = w4 at *
      refine (same6_calls (.iface 169 (.int .i64 4)) (.plain 4) 4 w4 (HM.out.gr HG4.out).1 (.plain 4)).mono ?_
      rintro ev wz ⟨rfl, hgz⟩
      have HGZ := Lib.hid hgz
      clear hgz
      go_wp2_with (first | (go_at_call 52; (with_reducible refine (HMY.out _).mono ?_); rintro ev wy ⟨rfl, rfl⟩) | (go_at_call 50; (with_reducible refine (HD1.out _).mono ?_); rintro ev wx ⟨rfl, hgx⟩; have HGX := Lib.hid hgx; clear hgx) | (go_at_call 51; (with_reducible refine (HD2.out _).mono ?_); rintro ev w5 ⟨rfl, hg5⟩; have HGV := Lib.hid hg5; clear hg5))
      go_quiet (fail)
      go_wp2
      go_ret
      exact ⟨by first | rfl | simp, Gr.drew (HG4.out.tr (HGZ.out.tr (HGX.out.tr HGV.out))) _⟩
  · cases m1 <;> cases m2
    all_goals
      go_enter Tryz.func10, Tryz.ntmps10
      go_wp2_with (first | (go_at_call 45; (with_reducible refine HBG.out.mono ?_); rintro ev w1 ⟨rfl, hg1⟩; have HG1 := Lib.hid hg1; clear hg1) | (go_at_call 46; first | ((with_reducible refine (HDYA.out _).mono ?_); rintro ev wd ⟨rfl, rfl⟩) | ((with_reducible refine (HDYB.out _).mono ?_); rintro ev wd ⟨rfl, rfl⟩) | ((with_reducible refine (HDYS.out _).mono ?_); rintro ev wd ⟨rfl, rfl⟩) | ((with_reducible refine (HDYT.out _).mono ?_); rintro ev wd ⟨rfl, rfl⟩)))
      refine (HP1.out _).mono ?_
      rintro ev w2 ⟨rfl, hg2⟩
      have HG2 := Lib.hid (HG1.out.tr hg2)
      clear hg2
      go_wp2_with fail
      refine (HP2.out _).mono ?_
      rintro ev w3 ⟨rfl, hg3⟩
      have hblk := heap_alloc_new w3 (.cells #[.bool false, .slice none 0 0, .slice none 0 0] 29)
      have hga : Gr w3 (w3.alloc (.cells #[.bool false, .slice none 0 0, .slice none 0 0] 29)) := (Gr.rf w3).alloc (Nat.le_refl _) _
      have HG4 := Lib.hid (HG2.out.tr (hg3.tr hga))
      clear hblk hga hg3
      go_wp2_with fail
      generalize w3.alloc (.cells #[.bool false, .slice none 0 0, .slice none 0 0] 29) = w4 at *
      refine (same6_calls (.iface 169 (.int .i64 2)) (.plain 2) 2 w4 (HM.out.gr HG4.out).1 (.plain 2)).mono ?_
      rintro ev wz ⟨rfl, hgz⟩
      have HGZ := Lib.hid hgz
      clear hgz
      go_wp2_with (first | (go_at_call 52; (with_reducible refine (HMY.out _).mono ?_); rintro ev wy ⟨rfl, rfl⟩) | (go_at_call 50; (with_reducible refine (HD1.out _).mono ?_); rintro ev wx ⟨rfl, hgx⟩; have HGX := Lib.hid hgx; clear hgx) | (go_at_call 51; (with_reducible refine (HD2.out _).mono ?_); rintro ev w5 ⟨rfl, hg5⟩; have HGV := Lib.hid hg5; clear hg5))
      go_quiet (fail)
      go_wp2
      go_ret
      exact ⟨by first | rfl | simp, Gr.drew (HG4.out.tr (HGZ.out.tr (HGX.out.tr HGV.out))) _⟩
set_option maxRecDepth 100000 in
set_option maxHeartbeats 16000000 in
theorem countAll_k1 (k a b s t f A B S T z e x : Int) (hgd7 : decide (0 < bits .and .i64 a 7) = true) (hA : a % 109573 = A) (hB : b % 109573 = B) (hS : s % 109573 = S) (hT : t % 109573 = T) (r0 : -100 < f.tmod 100) (r1 : f.tmod 100 < 100) (hk : 1 ≤ k ∧ k ≤ 4) (hz : e ≠ 0 ∧ -200000 ≤ z ∧ z ≤ 200000 ∧ 0 ≤ e ∧ e ≤ 200000000) (hP : PK k A B S T (f.tmod 100 - 3) z e) (hD : DK k A B x) (w : World) (hM : Met2 w) :
    Calls Tryz.prog 10 #[.int .i64 k, .int .i64 a, .int .i64 b, .int .i64 s, .int .i64 t, .int .i64 f] w fun e w' => e = .returned (.bool true) ∧ Gr w w' := by
  have HM := Lib.hid hM
  have HBG := Lib.hid (begun6_calls w hM)
  have HP1 := Lib.hid hP.1
  have HP2 := Lib.hid hP.2
  have HD1 := Lib.hid hD.1
  have HD2 := Lib.hid hD.2
  have hmy := fun w => cmay_calls k w
  rw [decide_eq_true hk] at hmy
  have dm1 : decide (1 ≤ k) = true := decide_eq_true hk.1
  have dm2 : decide (k ≤ 4) = true := decide_eq_true hk.2
  have HZ := Lib.hid hz
  clear hz hk
  have HMY := Lib.hid hmy
  clear hM hP hD hmy
  have hdyA := fun w => day6_calls a w
  rw [hA] at hdyA
  have HDYA := Lib.hid hdyA
  clear hdyA hA
  have hdyB := fun w => day6_calls b w
  rw [hB] at hdyB
  have HDYB := Lib.hid hdyB
  clear hdyB hB
  have hdyS := fun w => day6_calls s w
  rw [hS] at hdyS
  have HDYS := Lib.hid hdyS
  clear hdyS hS
  have hdyT := fun w => day6_calls t w
  rw [hT] at hdyT
  have HDYT := Lib.hid hdyT
  clear hdyT hT
  go_enter Tryz.func10, Tryz.ntmps10
  go_wp2_with (first | (go_at_call 45; (with_reducible refine HBG.out.mono ?_); rintro ev w1 ⟨rfl, hg1⟩; have HG1 := Lib.hid hg1; clear hg1) | (go_at_call 46; first | ((with_reducible refine (HDYA.out _).mono ?_); rintro ev wd ⟨rfl, rfl⟩) | ((with_reducible refine (HDYB.out _).mono ?_); rintro ev wd ⟨rfl, rfl⟩) | ((with_reducible refine (HDYS.out _).mono ?_); rintro ev wd ⟨rfl, rfl⟩) | ((with_reducible refine (HDYT.out _).mono ?_); rintro ev wd ⟨rfl, rfl⟩)))
  have HC1 := Lib.hid (HP1.out w1 (HM.out.gr HG1.out).2.1)
  refine HC1.out.mono ?_
  rintro ev w2 ⟨⟨b2, n2, d2, rfl, hr2⟩, hg2⟩
  have HR2 := Lib.hid hr2
  have HG2 := Lib.hid (HG1.out.tr hg2)
  clear hr2 hg2
  go_wp2_with fail
  refine (HP2.out _).mono ?_
  rintro ev w3 ⟨⟨sb, va, vb, rfl, hsb, hva, hvb⟩, hg3⟩
  have HVV := Lib.hid (And.intro hva hvb)
  have HSB := Lib.hid hsb
  obtain ⟨aa, la, ca, rfl⟩ := csl_of hva
  obtain ⟨ab, lb, cb, rfl⟩ := csl_of hvb
  have hblk := heap_alloc_new w3 (.cells #[.bool sb, .slice aa la ca, .slice ab lb cb] 29)
  have hga : Gr w3 (w3.alloc (.cells #[.bool sb, .slice aa la ca, .slice ab lb cb] 29)) := (Gr.rf w3).alloc (Nat.le_refl _) _
  have HG4 := Lib.hid (HG2.out.tr (hg3.tr hga))
  have HR4 := Lib.hid (HR2.out.1.gr (hg3.tr hga))
  have HV4 := Lib.hid (And.intro (HVV.out.1.gr hga) (HVV.out.2.gr hga))
  have HBK := Lib.hid hblk
  clear hsb hva hvb hblk hga hg3
  go_wp2_with fail
  generalize w3.alloc (.cells #[.bool sb, .slice aa la ca, .slice ab lb cb] 29) = w4 at *
  refine (same6_calls .nilIface .nil 0 w4 (HM.out.gr HG4.out).1 .nil).mono ?_
  rintro ev wz ⟨rfl, hgz⟩
  have HGZ := Lib.hid hgz
  clear hgz
  go_wp2_with (first | (go_at_call 52; (with_reducible refine (HMY.out _).mono ?_); rintro ev wy ⟨rfl, rfl⟩) | (go_at_call 50; (with_reducible refine (HD1.out _).mono ?_); rintro ev wx ⟨rfl, hgx⟩; have HGX := Lib.hid hgx; clear hgx) | (go_at_call 51; (with_reducible refine (HD2.out _).mono ?_); rintro ev w5 ⟨rfl, hg5⟩; have HGV := Lib.hid hg5; clear hg5))
  have HGW := Lib.hid (HGZ.out.tr (HGX.out.tr HGV.out))
  have HG5 := Lib.hid (HG4.out.tr HGW.out)
  have HBK5 := Lib.hid (HGW.out.heap HBK.out)
  have HTX : Hid (∀ w', Gr w5 w' → (Gr w5 w' ∧ w'.cell? ⟨w3.heap.size, 0, none⟩ = some (.bool sb) ∧ w'.cell? ⟨w3.heap.size, 1, none⟩ = some (.slice aa la ca) ∧ w'.cell? ⟨w3.heap.size, 2, none⟩ = some (.slice ab lb cb))) := Lib.hid (fun w' hg => ⟨hg, heap_cell (hg.heap HBK5.out) 0, heap_cell (hg.heap HBK5.out) 1, heap_cell (hg.heap HBK5.out) 2⟩)
  have hgd : Gr w5 w5.drew := Gr.drew (Gr.rf w5) 1
  obtain ⟨Y, hY⟩ : ∃ Y : ByteArray, Y = ⟨(ratText n2 d2).toArray⟩ := ⟨_, rfl⟩
  have HT1 : Hid (∀ w', Gr w5 w' → Calls Tryz.prog 18 #[.pointer (some ⟨b2, 0, none⟩)] w' fun e w2 => e = .returned (.string Y) ∧ Gr w' w2) := Lib.hid (fun w' hg => part_text (HR4.out.gr (HGW.out.tr hg)) HR2.out.2.2.1 HR2.out.2.2.2 HZ.out.2.1 HZ.out.2.2.1 HZ.out.2.2.2.1 HZ.out.2.2.2.2 (HM.out.gr (HG5.out.tr hg)).2.2 hY)
  have HT2 : Hid (∀ w', Gr w5 w' → Calls Tryz.prog 19 #[.agg #[.bool sb, .slice aa la ca, .slice ab lb cb]] w' fun e w2 => e = .returned (.string Y) ∧ Gr w' w2) := Lib.hid (fun w' hg => pref_text (HV4.out.1.gr (HGW.out.tr hg)) (HV4.out.2.gr (HGW.out.tr hg)) HSB.out HZ.out.1 HZ.out.2.1 HZ.out.2.2.1 HZ.out.2.2.2.1 HZ.out.2.2.2.2 HR2.out.2.1 HR2.out.1.pos HR2.out.1.cop hY)
  clear hY
  refine wp_region_noPanic ?_
  refine wp_region_held_drew (S := (fun w' => Gr w5 w' ∧ w'.cell? ⟨w3.heap.size, 0, none⟩ = some (.bool sb) ∧ w'.cell? ⟨w3.heap.size, 1, none⟩ = some (.slice aa la ca) ∧ w'.cell? ⟨w3.heap.size, 2, none⟩ = some (.slice ab lb cb))) (by kernel_rfl) ?hS (fun hHeld => ?_)
  case hS => ((try dsimp only); (first | exact HTX.out _ hgd | exact HTX.out _ hs6 | exact HTX.out _ hs7))
  refine wpAnyH_take (i := 0) (v := ?vv1) rfl (by kernel_rfl) (by kernel_rfl) (by kernel_rfl) (fun _ _ _ h => h) (Or.inl ⟨by rfl, ?hy1⟩) (by assumption) ?_
  case hy1 => (intro w hSw; (try dsimp only at hSw); go_split_ands; go_simp; try with_reducible rfl)
  try simp only [List.getElem_toArray, List.getElem_cons_succ, List.getElem_cons_zero, Act.put, List.setIfInBounds_toArray, List.set_cons_zero, List.set_cons_succ]
  refine wpAnyH_take (i := 1) (v := ?vv2) rfl (by kernel_rfl) (by kernel_rfl) (by kernel_rfl) (fun _ _ _ h => h) (Or.inl ⟨by rfl, ?hy2⟩) (by assumption) ?_
  case hy2 => (intro w hSw; (try dsimp only at hSw); go_split_ands; go_simp; try with_reducible rfl)
  try simp only [List.getElem_toArray, List.getElem_cons_succ, List.getElem_cons_zero, Act.put, List.setIfInBounds_toArray, List.set_cons_zero, List.set_cons_succ]
  refine wpAnyH_take (i := 2) (v := ?vv3) rfl (by kernel_rfl) (by kernel_rfl) (by kernel_rfl) (fun _ _ _ h => h) (Or.inl ⟨by rfl, ?hy3⟩) (by assumption) ?_
  case hy3 => (intro w hSw; (try dsimp only at hSw); go_split_ands; go_simp; try with_reducible rfl)
  try simp only [List.getElem_toArray, List.getElem_cons_succ, List.getElem_cons_zero, Act.put, List.setIfInBounds_toArray, List.set_cons_zero, List.set_cons_succ]
  refine wpAnyH_take (i := 3) (v := undef) rfl (by kernel_rfl) (by kernel_rfl) (by kernel_rfl) (fun _ _ _ h => h) (Or.inr ⟨by rfl, rfl⟩) (by assumption) ?_
  try simp only [List.getElem_toArray, List.getElem_cons_succ, List.getElem_cons_zero, Act.put, List.setIfInBounds_toArray, List.set_cons_zero, List.set_cons_succ]
  refine wpAnyH_take (i := 4) (v := undef) rfl (by kernel_rfl) (by kernel_rfl) (by kernel_rfl) (fun _ _ _ h => h) (Or.inr ⟨by rfl, rfl⟩) (by assumption) ?_
  try simp only [List.getElem_toArray, List.getElem_cons_succ, List.getElem_cons_zero, Act.put, List.setIfInBounds_toArray, List.set_cons_zero, List.set_cons_succ]
  refine wpAnyH_take (i := 5) (v := ?vv4) rfl (by kernel_rfl) (by kernel_rfl) (by kernel_rfl) (fun _ _ _ h => h) (Or.inl ⟨by rfl, ?hy4⟩) (by assumption) ?_
  case hy4 => (intro w hSw; (try dsimp only at hSw); go_split_ands; go_simp; try with_reducible rfl)
  try simp only [List.getElem_toArray, List.getElem_cons_succ, List.getElem_cons_zero, Act.put, List.setIfInBounds_toArray, List.set_cons_zero, List.set_cons_succ]
  refine wpAnyH_take (i := 6) (v := ?vv5) rfl (by kernel_rfl) (by kernel_rfl) (by kernel_rfl) (fun _ _ _ h => h) (Or.inl ⟨by rfl, ?hy5⟩) (by assumption) ?_
  case hy5 => (intro w hSw; (try dsimp only at hSw); go_split_ands; go_simp; try with_reducible rfl)
  try simp only [List.getElem_toArray, List.getElem_cons_succ, List.getElem_cons_zero, Act.put, List.setIfInBounds_toArray, List.set_cons_zero, List.set_cons_succ]
  refine wpAnyH_take (i := 7) (v := ?vv6) rfl (by kernel_rfl) (by kernel_rfl) (by kernel_rfl) (fun _ _ _ h => h) (Or.inl ⟨by rfl, ?hy6⟩) (by assumption) ?_
  case hy6 => (intro w hSw; (try dsimp only at hSw); go_split_ands; go_simp; try with_reducible rfl)
  try simp only [List.getElem_toArray, List.getElem_cons_succ, List.getElem_cons_zero, Act.put, List.setIfInBounds_toArray, List.set_cons_zero, List.set_cons_succ]
  refine wpAnyH_take (i := 8) (v := ?vv7) rfl (by kernel_rfl) (by kernel_rfl) (by kernel_rfl) (fun _ _ _ h => h) (Or.inl ⟨by rfl, ?hy7⟩) (by assumption) ?_
  case hy7 => (intro w hSw; (try dsimp only at hSw); go_split_ands; go_simp; try with_reducible rfl)
  try simp only [List.getElem_toArray, List.getElem_cons_succ, List.getElem_cons_zero, Act.put, List.setIfInBounds_toArray, List.set_cons_zero, List.set_cons_succ]
  refine wpAnyH_take (i := 9) (v := ?vv8) rfl (by kernel_rfl) (by kernel_rfl) (by kernel_rfl) (fun _ _ _ h => h) (Or.inl ⟨by rfl, ?hy8⟩) (by assumption) ?_
  case hy8 => (intro w hSw; (try dsimp only at hSw); go_split_ands; go_simp; try with_reducible rfl)
  try simp only [List.getElem_toArray, List.getElem_cons_succ, List.getElem_cons_zero, Act.put, List.setIfInBounds_toArray, List.set_cons_zero, List.set_cons_succ]
  refine wpAnyH_take (i := 10) (v := ?vv9) rfl (by kernel_rfl) (by kernel_rfl) (by kernel_rfl) (fun _ _ _ h => h) (Or.inl ⟨by rfl, ?hy9⟩) (by assumption) ?_
  case hy9 => (intro w hSw; (try dsimp only at hSw); go_split_ands; go_simp; try with_reducible rfl)
  try simp only [List.getElem_toArray, List.getElem_cons_succ, List.getElem_cons_zero, Act.put, List.setIfInBounds_toArray, List.set_cons_zero, List.set_cons_succ]
  refine wpAnyH_take (i := 12) (v := ?vv10) rfl (by kernel_rfl) (by kernel_rfl) (by kernel_rfl) (fun _ _ _ h => h) (Or.inl ⟨by rfl, ?hy10⟩) (by assumption) ?_
  case hy10 => (intro w hSw; (try dsimp only at hSw); go_split_ands; go_simp; try with_reducible rfl)
  try simp only [List.getElem_toArray, List.getElem_cons_succ, List.getElem_cons_zero, Act.put, List.setIfInBounds_toArray, List.set_cons_zero, List.set_cons_succ]
  refine wpAnyH_ready (rs := [11]) (by kernel_rfl) (by simp) ?_
  refine AllReadyH.cons rfl (fun K hK => ?_) AllReadyH.nil
  go_simp
  go_at_call 18; go_split_ands; refine (HT1.out _ (by assumption)).mono ?_; rintro ev wa ⟨rfl, hga6⟩; have hs6 : Gr w5 wa := Gr.tr (by assumption) hga6
  try (go_wp2_with fail)
  try clear hHeld
  refine hK.out _ _ ?hS (fun hHeld => ?_)
  case hS => ((try dsimp only); (first | exact HTX.out _ hgd | exact HTX.out _ hs6 | exact HTX.out _ hs7))
  clear hK K
  try simp only [List.getElem_toArray, List.getElem_cons_succ, List.getElem_cons_zero, Act.put, List.setIfInBounds_toArray, List.set_cons_zero, List.set_cons_succ]
  refine wpAnyH_ready (rs := [13]) (by kernel_rfl) (by simp) ?_
  refine AllReadyH.cons rfl (fun K hK => ?_) AllReadyH.nil
  go_simp
  go_at_call 19; go_split_ands; refine (HT2.out _ (by assumption)).mono ?_; rintro ev wb ⟨rfl, hgb7⟩; have hs7 : Gr w5 wb := Gr.tr (by assumption) hgb7
  try (go_wp2_with fail)
  try clear hHeld
  refine hK.out _ _ ?hS (fun hHeld => ?_)
  case hS => ((try dsimp only); (first | exact HTX.out _ hgd | exact HTX.out _ hs6 | exact HTX.out _ hs7))
  clear hK K
  try simp only [List.getElem_toArray, List.getElem_cons_succ, List.getElem_cons_zero, Act.put, List.setIfInBounds_toArray, List.set_cons_zero, List.set_cons_succ]
  refine wpAnyH_take (i := 14) (v := ?vv11) rfl (by kernel_rfl) (by kernel_rfl) (by kernel_rfl) (fun _ _ _ h => h) (Or.inl ⟨by rfl, ?hy11⟩) (by assumption) ?_
  case hy11 => (intro w hSw; (try dsimp only at hSw); go_split_ands; go_simp; try with_reducible rfl)
  try simp only [List.getElem_toArray, List.getElem_cons_succ, List.getElem_cons_zero, Act.put, List.setIfInBounds_toArray, List.set_cons_zero, List.set_cons_succ]
  refine wpAnyH_take (i := 15) (v := ?vv12) rfl (by kernel_rfl) (by kernel_rfl) (by kernel_rfl) (fun _ _ _ h => h) (Or.inl ⟨by rfl, ?hy12⟩) (by assumption) ?_
  case hy12 => (intro w hSw; (try dsimp only at hSw); go_split_ands; go_simp; try with_reducible rfl)
  try simp only [List.getElem_toArray, List.getElem_cons_succ, List.getElem_cons_zero, Act.put, List.setIfInBounds_toArray, List.set_cons_zero, List.set_cons_succ]
  refine wpAnyH_take (i := 16) (v := ?vv13) rfl (by kernel_rfl) (by kernel_rfl) (by kernel_rfl) (fun _ _ _ h => h) (Or.inl ⟨by rfl, ?hy13⟩) (by assumption) ?_
  case hy13 => (intro w hSw; (try dsimp only at hSw); go_split_ands; go_simp; try with_reducible rfl)
  try simp only [List.getElem_toArray, List.getElem_cons_succ, List.getElem_cons_zero, Act.put, List.setIfInBounds_toArray, List.set_cons_zero, List.set_cons_succ]
  refine wpAnyH_take (i := 17) (v := ?vv14) rfl (by kernel_rfl) (by kernel_rfl) (by kernel_rfl) (fun _ _ _ h => h) (Or.inl ⟨by rfl, ?hy14⟩) (by assumption) ?_
  case hy14 => (intro w hSw; (try dsimp only at hSw); go_split_ands; go_simp; try with_reducible rfl)
  try simp only [List.getElem_toArray, List.getElem_cons_succ, List.getElem_cons_zero, Act.put, List.setIfInBounds_toArray, List.set_cons_zero, List.set_cons_succ]
  refine wpAnyH_done (by kernel_rfl) ?_ _
  refine NoPanic.normal ?_
  go_wp2
  go_ret
  exact ⟨by first | rfl | simp, HG5.out.tr hs7⟩
theorem countAll_calls (k a b s t f : Int) (k0 : -9223372036854775808 ≤ k) (k1 : k ≤ 9223372036854775807) (a0 : -9223372036854775808 ≤ a) (a1 : a ≤ 9223372036854775807) (b0 : -9223372036854775808 ≤ b) (b1 : b ≤ 9223372036854775807) (s0 : -9223372036854775808 ≤ s) (s1 : s ≤ 9223372036854775807) (t0 : -9223372036854775808 ≤ t) (t1 : t ≤ 9223372036854775807) (f0 : -9223372036854775808 ≤ f) (f1 : f ≤ 9223372036854775807) (w : World) (hM : Met2 w) :
    Calls Tryz.prog 10 #[.int .i64 k, .int .i64 a, .int .i64 b, .int .i64 s, .int .i64 t, .int .i64 f] w fun e w' => e = .returned (.bool true) ∧ Gr w w' := by
  have hr := tmod_bd f 100 (by decide)
  cases hg : decide (0 < bits .and .i64 a 7)
  · obtain ⟨x, hD⟩ := cdays_ex k a b
    rcases cparts_ex k a b s t (f.tmod 100 - 3) (by omega) with ⟨c, hc, hP⟩ | ⟨z, e, hk, hz, hP⟩
    · exact countAll_e0 k a b s t f c x hg hr.1 hr.2 hc _ _ rfl rfl hP hD w hM
    · exact countAll_k0 k a b s t f z e x hg hr.1 hr.2 hk hz hP hD w hM
  · obtain ⟨x, hD⟩ := cdays_ex k (a % 109573) (b % 109573)
    rcases cparts_ex k (a % 109573) (b % 109573) (s % 109573) (t % 109573) (f.tmod 100 - 3) (by omega) with ⟨c, hc, hP⟩ | ⟨z, e, hk, hz, hP⟩
    · exact countAll_e1 k a b s t f _ _ _ _ c x hg rfl rfl rfl rfl hr.1 hr.2 hc _ _ rfl rfl hP hD w hM
    · exact countAll_k1 k a b s t f _ _ _ _ z e x hg rfl rfl rfl rfl hr.1 hr.2 hk hz hP hD w hM
end Go.Proofs.YtcjjgdoafkdeaaaGreatDoor
