/- Layer 4's reference: fractions: Low, (Q).Text by contract. -/
import Derived.Test.YtcjjgdoafkdeaaaGreatDoorWg
namespace Go.Proofs.YtcjjgdoafkdeaaaGreatDoor
open Go.RowKit Go.Extern.Stop Go.Stop Go.Extern Go.Sort
set_option linter.unusedVariables false
set_option linter.unusedSimpArgs false

theorem ret_low {W : World} {bb : Nat} (x y z : Value) (hW : W.rangeAt bb 0 [x, y, z]) (tmps : Array Value) (h2 : tmps.getD 2 undef = .pointer (some ⟨bb, 0, none⟩)) :
    (results Tryz.f36 tmps).run Tryz.prog W = .ok (.agg #[x, y, z]) W := by
  have hl := run_loadVar_mid (P := Tryz.prog) W bb 0 29 [x, y, z] _ hW Tryz.underlying29 rfl (by kernel_rfl)
  unfold results
  rw [show Tryz.f36.results = #[.cell 2 29] from rfl]
  have k2 : tmps[2]?.getD undef = .pointer (some ⟨bb, 0, none⟩) := by simpa using h2
  simp [k2, asAddr, hl, Sem.run_bind, Sem.run_pure]
set_option maxRecDepth 100000 in
set_option maxHeartbeats 8000000 in
/-- (rentierref2.Q).Low. -/
theorem rLow_calls (neg : Bool) (va vb : Value) (a b : Nat) (w : World) (ha : RN w va a) (hb : RN w vb b) (hb0 : 0 < b) (k : Nat) (hka : a < Dg.D ^ k) (hkb : b < Dg.D ^ k) (hk : k ≤ 1000) :
    Calls Tryz.prog 36 #[.agg #[.bool neg, va, vb]] w fun e w' => (∃ xa xb, e = .returned (.agg #[.bool (neg && decide (0 < a / Nat.gcd a b)), xa, xb]) ∧ (RN w' xa (a / Nat.gcd a b) ∧ RN w' xb (b / Nat.gcd a b))) ∧ Gr w w' := by
  have hg0 : 0 < Nat.gcd a b := Nat.gcd_pos_of_pos_right _ hb0
  have hgk : Nat.gcd a b < Dg.D ^ k := Nat.lt_of_le_of_lt (Nat.gcd_le_right _ hb0) hkb
  have HGCD := Lib.hid (fun w' (hg : Gr w w') => r_gcd (ha.gr hg) (hb.gr hg) hka hkb hk)
  obtain ⟨g, hgg⟩ : ∃ g, g = Nat.gcd a b := ⟨_, rfl⟩
  rw [← hgg] at HGCD hg0 hgk ⊢
  have HB := Lib.hid (And.intro (And.intro ha hb) (And.intro hg0 hgk))
  have HK := Lib.hid (And.intro hka hkb)
  obtain ⟨dz, hdz⟩ : ∃ dz, dz = decide (0 < a / g) := ⟨_, rfl⟩
  have HDZ := Lib.hid hdz
  rw [← hdz]
  have hbk1 := heap_alloc_new w (.cells #[.bool neg, va, vb] 29)
  have hbk2 := heap_alloc_new (w.alloc (.cells #[.bool neg, va, vb] 29)) (.cells #[.bool false, .slice none 0 0, .slice none 0 0] 29)
  have hga : Gr w (w.alloc (.cells #[.bool neg, va, vb] 29)) := (Gr.rf w).alloc (Nat.le_refl _) _
  have hgb : Gr (w.alloc (.cells #[.bool neg, va, vb] 29)) ((w.alloc (.cells #[.bool neg, va, vb] 29)).alloc (.cells #[.bool false, .slice none 0 0, .slice none 0 0] 29)) := (Gr.rf _).alloc (Nat.le_refl _) _
  have hbk1 := hgb.heap hbk1
  rw [size_al w _] at hbk2
  have HG0 := Lib.hid (hga.tr hgb)
  have c0 := heap_cell hbk1 0
  have c1 := heap_cell hbk1 1
  have c2 := heap_cell hbk1 2
  have HBK := Lib.hid (And.intro hbk1 hbk2)
  rw [show (#[Value.bool neg, va, vb] : Array Value)[0]? = some (.bool neg) from rfl] at c0
  rw [show (#[Value.bool neg, va, vb] : Array Value)[1]? = some va from rfl] at c1
  rw [show (#[Value.bool neg, va, vb] : Array Value)[2]? = some vb from rfl] at c2
  clear hbk1 hbk2 hga hgb ha hb hb0 hg0 hgk hgg hdz hka hkb
  have HC1 := Lib.hid (HGCD.out _ HG0.out)
  go_enter Tryz.func36, Tryz.ntmps36
  go_wp2_with fail
  generalize (w.alloc (.cells #[.bool neg, va, vb] 29)).alloc (.cells #[.bool false, .slice none 0 0, .slice none 0 0] 29) = w0 at *
  refine HC1.out.mono ?_
  rintro ev w1 ⟨⟨r1, rfl, hr1⟩, hg1⟩
  have HR1 := Lib.hid hr1
  have HG1 := Lib.hid hg1
  have c0 := heap_cell (hg1.heap HBK.out.1) 0
  have c1 := heap_cell (hg1.heap HBK.out.1) 1
  have c2 := heap_cell (hg1.heap HBK.out.1) 2
  rw [show (#[Value.bool neg, va, vb] : Array Value)[0]? = some (.bool neg) from rfl] at c0
  rw [show (#[Value.bool neg, va, vb] : Array Value)[1]? = some va from rfl] at c1
  rw [show (#[Value.bool neg, va, vb] : Array Value)[2]? = some vb from rfl] at c2
  clear hr1 hg1
  have HC2 := Lib.hid (r_div (HB.out.1.1.gr (HG0.out.tr HG1.out)) HR1.out HK.out.1 HB.out.2.2 hk HB.out.2.1)
  go_wp2_with fail
  refine HC2.out.mono ?_
  rintro ev w2 ⟨⟨q2, r2, rfl, hq2, hr2⟩, hg2⟩
  have HQ2 := Lib.hid hq2
  have HG2 := Lib.hid (HG1.out.tr hg2)
  have c0 := heap_cell (HG2.out.heap HBK.out.1) 0
  have c1 := heap_cell (HG2.out.heap HBK.out.1) 1
  have c2 := heap_cell (HG2.out.heap HBK.out.1) 2
  rw [show (#[Value.bool neg, va, vb] : Array Value)[0]? = some (.bool neg) from rfl] at c0
  rw [show (#[Value.bool neg, va, vb] : Array Value)[1]? = some va from rfl] at c1
  rw [show (#[Value.bool neg, va, vb] : Array Value)[2]? = some vb from rfl] at c2
  have HR2 := Lib.hid (HR1.out.gr hg2)
  clear hq2 hr2 hg2
  have HC3 := Lib.hid (r_div (HB.out.1.2.gr (HG0.out.tr HG2.out)) HR2.out HK.out.2 HB.out.2.2 hk HB.out.2.1)
  go_wp2_with fail
  refine HC3.out.mono ?_
  rintro ev w3 ⟨⟨q3, r3, rfl, hq3, hr3⟩, hg3⟩
  have HQ3 := Lib.hid hq3
  have HG3 := Lib.hid (HG2.out.tr hg3)
  have c0 := heap_cell (HG3.out.heap HBK.out.1) 0
  rw [show (#[Value.bool neg, va, vb] : Array Value)[0]? = some (.bool neg) from rfl] at c0
  have HQ2b := Lib.hid (HQ2.out.gr hg3)
  clear hq3 hr3 hg3
  have hin := rInt_calls neg q2 (a / g) w3 HQ2b.out
  rw [← HDZ.out] at hin
  have HIN := Lib.hid hin
  clear hin
  obtain ⟨xa, la, ca, rfl⟩ : ∃ x l c, q2 = .slice x l c := by
    obtain ⟨x, c, h⟩ := rn_len HQ2b.out
    exact ⟨x, _, c, h⟩
  obtain ⟨xb, lb, cb, rfl⟩ : ∃ x l c, q3 = .slice x l c := by
    obtain ⟨x, c, h⟩ := rn_len HQ3.out
    exact ⟨x, _, c, h⟩
  go_wp2_with fail
  refine HIN.out.mono ?_
  rintro ev w4 ⟨rfl, hg4⟩
  have HG4 := Lib.hid (HG3.out.tr hg4)
  have HQ4 := Lib.hid (And.intro (HQ2b.out.gr hg4) (HQ3.out.gr hg4))
  have d0 := heap_cell (HG4.out.heap HBK.out.2) 0
  have d1 := heap_cell (HG4.out.heap HBK.out.2) 1
  have d2 := heap_cell (HG4.out.heap HBK.out.2) 2
  have f0 := heap_frz (HG4.out.heap HBK.out.2) 0
  have f1 := heap_frz (HG4.out.heap HBK.out.2) 1
  have f2 := heap_frz (HG4.out.heap HBK.out.2) 2
  clear hg4
  go_wp2
  (try simp only [Exit.inBlock, Exit.then])
  have HE := Lib.hid (three_set w4 (w.heap.size + 1) (.bool (neg && dz)) (.slice xa la ca) (.slice xb lb cb) _ _ _ d0 d1 d2 (fun n h => by cases h) (fun n h => by cases h) (fun n h => by cases h))
  refine bodyPost_ret (ret_low _ _ _ HE.out.1 _ rfl) rfl ?_
  exact ⟨⟨_, _, rfl, show RN _ _ _ from HE.out.2.1 _ _ HQ4.out.1, show RN _ _ _ from HE.out.2.1 _ _ HQ4.out.2⟩, HE.out.2.2 w (HG0.out.tr HG4.out) (by omega)⟩

theorem text_sgn (sb : Bool) (A : Nat) (h : sb = true → 0 < A) : (if sb then 45 :: Lib.decDigits A else Lib.decDigits A) = Lib.itoa (sgn sb A) := by
  cases sb
  · exact (itoa_nat A).symm
  · have hA := h rfl
    unfold Lib.itoa sgn
    rw [if_pos rfl, if_pos rfl, if_pos (by omega)]
    rw [show (-(A : Int)).natAbs = A by omega]
theorem frac_text (T1 T2 X : ByteArray) (l1 l2 l3 : List UInt8) (h1 : T1 = ⟨l1.toArray⟩) (h2 : T2 = ⟨l2.toArray⟩) (h3 : X = ⟨l3.toArray⟩) (h : l3 = l1 ++ 47 :: l2) : T1 ++ ⟨#[47]⟩ ++ T2 = X := by
  subst h1 h2 h3 h
  apply ba_ext
  simp [ByteArray.data_append]
set_option maxRecDepth 100000 in
set_option maxHeartbeats 8000000 in
/-- (rentierref2.Q).Text. -/
theorem rQText_calls (neg : Bool) (va vb : Value) (a b : Nat) (w : World) (ha : RN w va a) (hb : RN w vb b) (hb0 : 0 < b) (k : Nat) (hka : a < Dg.D ^ k) (hkb : b < Dg.D ^ k) (hk1 : 1 ≤ k) (hk : k ≤ 250) (X : ByteArray) (hX : X = ⟨(ratText (sgn (neg && decide (0 < a / Nat.gcd a b)) (a / Nat.gcd a b)) (b / Nat.gcd a b)).toArray⟩) :
    Calls Tryz.prog 19 #[.agg #[.bool neg, va, vb]] w fun e w' => e = .returned (.string X) ∧ Gr w w' := by
  obtain ⟨xa1, xa2, xa3, rfl⟩ : ∃ x l c, va = .slice x l c := by
    obtain ⟨x, c, h⟩ := rn_len ha
    exact ⟨x, _, c, h⟩
  obtain ⟨xb1, xb2, xb3, rfl⟩ : ∃ x l c, vb = .slice x l c := by
    obtain ⟨x, c, h⟩ := rn_len hb
    exact ⟨x, _, c, h⟩
  have hga : Gr w (w.alloc (.cells #[.bool neg, .slice xa1 xa2 xa3, .slice xb1 xb2 xb3] 29)) := (Gr.rf w).alloc (Nat.le_refl _) _
  have HLW := Lib.hid (rLow_calls neg _ _ a b _ (ha.gr hga) (hb.gr hga) hb0 k hka hkb (by omega))
  have hA := Nat.lt_of_le_of_lt (Nat.div_le_self a (Nat.gcd a b)) hka
  have hD := Nat.lt_of_le_of_lt (Nat.div_le_self b (Nat.gcd a b)) hkb
  have hsb : (neg && decide (0 < a / Nat.gcd a b)) = true → 0 < a / Nat.gcd a b := fun h => of_decide_eq_true (Bool.and_eq_true_iff.1 h).2
  have hD0 : 0 < b / Nat.gcd a b := Nat.div_pos (Nat.gcd_le_right _ hb0) (Nat.gcd_pos_of_pos_right _ hb0)
  generalize (neg && decide (0 < a / Nat.gcd a b)) = sb at *
  generalize a / Nat.gcd a b = A at *
  generalize b / Nat.gcd a b = E at *
  obtain ⟨T1, hT1⟩ : ∃ T : ByteArray, T = ⟨(if sb then 45 :: Lib.decDigits A else Lib.decDigits A).toArray⟩ := ⟨_, rfl⟩
  obtain ⟨T2, hT2⟩ : ∃ T : ByteArray, T = ⟨(Lib.decDigits E).toArray⟩ := ⟨_, rfl⟩
  have hs2 : T2.size ≤ 9 * 250 := by
    rw [hT2, Lib.size_eq]
    exact nd_le (9 * 250) _ (by omega) (Nat.lt_of_lt_of_le (b_up hD hk) (Nat.le_of_eq (D_pow 250)))
  have hs1 : T1.size ≤ 9 * 250 + 1 := by
    have h9 := nd_le (9 * 250) A (by omega) (Nat.lt_of_lt_of_le (b_up hA hk) (Nat.le_of_eq (D_pow 250)))
    rw [hT1, Lib.size_eq]
    cases sb
    · show (Lib.decDigits A).length ≤ _; omega
    · show (Lib.decDigits A).length + 1 ≤ _; omega
  have HS := Lib.hid (And.intro hT1 (And.intro hT2 (And.intro hX (text_sgn sb A hsb))))
  have hblk := heap_alloc_new w (.cells #[.bool neg, .slice xa1 xa2 xa3, .slice xb1 xb2 xb3] 29)
  have HBK := Lib.hid hblk
  have HG0 := Lib.hid hga
  have HK := Lib.hid (And.intro hA hD)
  have c0 := heap_cell hblk 0
  have c1 := heap_cell hblk 1
  have c2 := heap_cell hblk 2
  rw [show (#[Value.bool neg, .slice xa1 xa2 xa3, .slice xb1 xb2 xb3] : Array Value)[0]? = some (.bool neg) from rfl] at c0
  rw [show (#[Value.bool neg, .slice xa1 xa2 xa3, .slice xb1 xb2 xb3] : Array Value)[1]? = some (.slice xa1 xa2 xa3) from rfl] at c1
  rw [show (#[Value.bool neg, .slice xa1 xa2 xa3, .slice xb1 xb2 xb3] : Array Value)[2]? = some (.slice xb1 xb2 xb3) from rfl] at c2
  clear hblk hga hA hD hsb hT1 hT2 hX
  have HNU := Lib.hid (And.intro ha hb)
  clear ha hb hb0 hka hkb
  go_enter Tryz.func19, Tryz.ntmps19
  go_wp2_with fail
  refine HLW.out.mono ?_
  rintro ev w1 ⟨⟨xa, xb, rfl, hxa, hxb⟩, hg1⟩
  obtain ⟨aa, la, ca, rfl⟩ : ∃ x l c, xa = .slice x l c := by
    obtain ⟨x, c, h⟩ := rn_len hxa
    exact ⟨x, _, c, h⟩
  obtain ⟨ab, lb, cb, rfl⟩ : ∃ x l c, xb = .slice x l c := by
    obtain ⟨x, c, h⟩ := rn_len hxb
    exact ⟨x, _, c, h⟩
  have HG1 := Lib.hid hg1
  have HX1 := Lib.hid (And.intro hxa hxb)
  have d0 := heap_cell (hg1.heap HBK.out) 0
  have d1 := heap_cell (hg1.heap HBK.out) 1
  have d2 := heap_cell (hg1.heap HBK.out) 2
  have f0 := heap_frz (hg1.heap HBK.out) 0
  have f1 := heap_frz (hg1.heap HBK.out) 1
  have f2 := heap_frz (hg1.heap HBK.out) 2
  clear hg1 hxa hxb
  go_wp2_with fail
  have ht := three_set w1 w.heap.size (.bool sb) (.slice aa la ca) (.slice ab lb cb) _ _ _ d0 d1 d2 (fun n h => by cases h) (fun n h => by cases h) (fun n h => by cases h)
  have hsz : w.heap.size < ((((w1.setCell ⟨w.heap.size, 0, none⟩ (.bool sb)).setCell ⟨w.heap.size, 1, none⟩ (.slice aa la ca)).setCell ⟨w.heap.size, 2, none⟩ (.slice ab lb cb))).heap.size := by
    rw [World.size_setCell, World.size_setCell, World.size_setCell]
    have a1 := HG1.out.size
    rw [size_al] at a1
    omega
  generalize (((w1.setCell ⟨w.heap.size, 0, none⟩ (.bool sb)).setCell ⟨w.heap.size, 1, none⟩ (.slice aa la ca)).setCell ⟨w.heap.size, 2, none⟩ (.slice ab lb cb)) = wz at *
  have HA := Lib.hid (show RN wz (.slice aa la ca) A from ht.2.1 _ _ HX1.out.1)
  have HE := Lib.hid (show RN wz (.slice ab lb cb) E from ht.2.1 _ _ HX1.out.2)
  have HGZ := Lib.hid (ht.2.2 w (HG0.out.tr HG1.out) (Nat.le_refl _))
  have e0 := ht.1 0 (.bool sb) rfl
  have e1 := ht.1 1 (.slice aa la ca) rfl
  have e2 := ht.1 2 (.slice ab lb cb) rfl
  have HTX : Hid (∀ w', Gr wz w' → (Gr wz w' ∧ w'.cell? ⟨w.heap.size, 0, none⟩ = some (.bool sb) ∧ w'.cell? ⟨w.heap.size, 1, none⟩ = some (.slice aa la ca) ∧ w'.cell? ⟨w.heap.size, 2, none⟩ = some (.slice ab lb cb))) := Lib.hid (fun w' hg => ⟨hg, by rw [Below.cell hg (p := ⟨w.heap.size, 0, none⟩) hsz]; exact e0, by rw [Below.cell hg (p := ⟨w.heap.size, 1, none⟩) hsz]; exact e1, by rw [Below.cell hg (p := ⟨w.heap.size, 2, none⟩) hsz]; exact e2⟩)
  clear ht hsz e0 e1 e2 d0 d1 d2 f0 f1 f2
  have HOU : Hid (∀ w', Calls Tryz.prog 27 #[.int .u64 1] w' fun e w2 => (∃ r, e = .returned r ∧ RN w2 r 1) ∧ Gr w' w2) := Lib.hid (fun w' => r_ofU 1 (by decide) w')
  have HIT := Lib.hid (fun w' (hg : Gr wz w') => rIText_calls sb (.slice aa la ca) A w' (HA.out.gr hg) k HK.out.1 hk T1 HS.out.1)
  have HNT := Lib.hid (fun w' (hg : Gr wz w') => r_text (w := w') (HE.out.gr hg) HK.out.2 hk HS.out.2.1)
  have hgz : Gr wz wz.drew := Gr.drew (Gr.rf wz) 1
  by_cases hE : E = 1
  · have HCM := Lib.hid (fun (r : Value) w' (hg : Gr wz w') (hr : RN w' r 1) => r_cmp (HE.out.gr hg) hr HK.out.2 (b_one hk1) (by omega : k ≤ 1000) (z := 0) (by rw [hE]; rfl))
    have HEQ := Lib.hid hE
    clear hE
    go_region_held3 (fun w' => Gr wz w' ∧ w'.cell? ⟨w.heap.size, 0, none⟩ = some (.bool sb) ∧ w'.cell? ⟨w.heap.size, 1, none⟩ = some (.slice aa la ca) ∧ w'.cell? ⟨w.heap.size, 2, none⟩ = some (.slice ab lb cb))
      (first | exact HTX.out _ hgz | exact HTX.out _ hg5 | exact HTX.out _ hg4 | fail)
      (first
        | (go_at_call 27; go_split_ands; refine (HOU.out _).mono ?_; rintro ev w4 ⟨⟨r4, rfl, hr4⟩, hg4'⟩; have hg4 : Gr wz w4 := Gr.tr (by assumption) hg4'; have HR4 := Lib.hid hr4; clear hr4)
        | (go_at_call 37; go_split_ands; refine (HCM.out _ _ (by assumption) HR4.out).mono ?_; rintro ev w5 ⟨rfl, hg5'⟩; have hg5 : Gr wz w5 := Gr.tr (by assumption) hg5'))
    have HG5 := Lib.hid hg5
    obtain ⟨_, s0, s1, s2⟩ := HTX.out _ hg5
    have HT5 := Lib.hid (HIT.out _ hg5)
    clear hg5 hgz
    go_wp2_with (go_at_call 28; (with_reducible refine HT5.out.mono ?_); rintro ev w6 ⟨rfl, hg6⟩; have HG6 := Lib.hid hg6; clear hg6)
    go_ret
    refine ⟨ret_str ?_, HGZ.out.tr (HG5.out.tr HG6.out)⟩
    rw [HS.out.1, HS.out.2.2.1, HS.out.2.2.2, HEQ.out]
    unfold ratText
    rw [if_pos rfl]
  · have hz : ∃ z : Int, cmpN E 1 = z ∧ (z == 0) = false ∧ -1 ≤ z ∧ z ≤ 1 := by
      refine ⟨_, rfl, ?_⟩
      unfold cmpN
      rw [if_neg (by omega), if_pos (by omega)]
      decide
    obtain ⟨z, hz1, hz2, hz3, hz4⟩ := hz
    have HCM := Lib.hid (fun (r : Value) w' (hg : Gr wz w') (hr : RN w' r 1) => r_cmp (HE.out.gr hg) hr HK.out.2 (b_one hk1) (by omega : k ≤ 1000) (z := z) hz1)
    have HEQ := Lib.hid hE
    clear hE hz1
    go_region_held3 (fun w' => Gr wz w' ∧ w'.cell? ⟨w.heap.size, 0, none⟩ = some (.bool sb) ∧ w'.cell? ⟨w.heap.size, 1, none⟩ = some (.slice aa la ca) ∧ w'.cell? ⟨w.heap.size, 2, none⟩ = some (.slice ab lb cb))
      (first | exact HTX.out _ hgz | exact HTX.out _ hg5 | exact HTX.out _ hg4 | fail)
      (first
        | (go_at_call 27; go_split_ands; refine (HOU.out _).mono ?_; rintro ev w4 ⟨⟨r4, rfl, hr4⟩, hg4'⟩; have hg4 : Gr wz w4 := Gr.tr (by assumption) hg4'; have HR4 := Lib.hid hr4; clear hr4)
        | (go_at_call 37; go_split_ands; refine (HCM.out _ _ (by assumption) HR4.out).mono ?_; rintro ev w5 ⟨rfl, hg5'⟩; have hg5 : Gr wz w5 := Gr.tr (by assumption) hg5'))
    have HG5 := Lib.hid hg5
    clear hgz hg5
    go_wp2_with fail
    have hgy : Gr wz w5.drew := Gr.drew HG5.out 1
    have e47 : (⟨#[47]⟩ : ByteArray).size = 1 := rfl
    have z1 : ¬ (9223372036854775807 < T1.size + (⟨#[47]⟩ : ByteArray).size) := by rw [e47]; omega
    have z2 : ¬ (9223372036854775807 < T1.size + 1) := by omega
    have z3 : ¬ (9223372036854775807 < (T1 ++ ⟨#[47]⟩).size + T2.size) := by rw [ByteArray.size_append, e47]; omega
    have z4 : ¬ (9223372036854775807 < T1.size + 1 + T2.size) := by omega
    have z5 : ¬ (9223372036854775807 < T1.size + (⟨#[47]⟩ : ByteArray).size + T2.size) := by rw [e47]; omega
    clear e47
    go_region_held3 (fun w' => Gr wz w' ∧ w'.cell? ⟨w.heap.size, 0, none⟩ = some (.bool sb) ∧ w'.cell? ⟨w.heap.size, 1, none⟩ = some (.slice aa la ca) ∧ w'.cell? ⟨w.heap.size, 2, none⟩ = some (.slice ab lb cb))
      (first | exact HTX.out _ hgy | exact HTX.out _ hg7 | exact HTX.out _ hg6 | fail)
      (first
        | (go_at_call 28; go_split_ands; refine (HIT.out _ (by assumption)).mono ?_; rintro ev w6 ⟨rfl, hg6'⟩; have hg6 : Gr wz w6 := Gr.tr (by assumption) hg6')
        | (go_at_call 81; go_split_ands; refine (HNT.out _ (by assumption)).mono ?_; rintro ev w7 ⟨rfl, hg7'⟩; have hg7 : Gr wz w7 := Gr.tr (by assumption) hg7'))
    all_goals
      (try go_wp2)
      go_ret
      refine ⟨ret_str ?_, HGZ.out.tr hg7⟩
      exact frac_text _ _ _ _ _ _ HS.out.1 HS.out.2.1 HS.out.2.2.1 (by rw [HS.out.2.2.2]; unfold ratText; rw [if_neg HEQ.out])
end Go.Proofs.YtcjjgdoafkdeaaaGreatDoor
