/- Layer 6: the reference's Weekday, Easter, nth by contract. -/
import Derived.Test.YtglbdafcfcmffaaGreatDoorKf
import Derived.Test.YtglbdafcfcmffaaGreatDoorHj
import Derived.Test.YtglbdafcfcmffaaGreatDoorHd
namespace Go.Proofs.YtglbdafcfcmffaaGreatDoor
open Go.RowKit Go.Extern.Stop Go.Stop Go.Extern
set_option linter.unusedVariables false
set_option linter.unusedSimpArgs false

set_option maxRecDepth 100000 in
theorem rweekday_calls (d : Int) (w : World) (h0 : 0 ≤ d) (h1 : d ≤ 109572) : Calls Tryz.prog 95 #[.int .i64 d] w fun e w' => e = .returned (.int .i64 ((d + 1) % 7)) ∧ w = w' := by
  go_enter Tryz.func95, Tryz.ntmps95
  go_wp2
  go_ret
  exact ⟨rfl, rfl⟩
set_option maxRecDepth 100000 in
set_option maxHeartbeats 1000000 in
theorem easterR_calls (y : Int) (h0 : 1900 ≤ y) (h1 : y ≤ 2199) (w : World) :
    Calls Tryz.prog 194 #[.int .i64 y] w fun e w' => e = .returned (.int .i64 (eastN y)) ∧ Gr w w' := by
  have hO := fun w => refOf_calls y (eastAt y / 31) (eastAt y % 31 + 1) w
  simp only [ofD_day (eastN_day y h0 h1), decide_eq_true (day_okC (eastN_day y h0 h1)).1] at hO
  generalize eastN y = D at hO ⊢
  simp only [eastAt, eastM, eastL, eastH, show y % 100 % 4 = y % 4 by omega] at hO
  have HO := Lib.hid hO
  clear hO
  go_enter Tryz.func194, Tryz.ntmps194
  go_wp2_with (go_at_call 193; (with_reducible refine (HO.out _).mono ?_); rintro ev w1 ⟨rfl, hg1⟩)
  go_ret
  exact ⟨rfl, hg1⟩
/-- One weekday's days of a month. -/
def wkL (f : Int) (c : Nat) : List Int := (List.range c).map fun i : Nat => f + 7 * (i : Int)
theorem wkL_len (f : Int) (c : Nat) : (wkL f c).length = c := by unfold wkL; rw [List.length_map, List.length_range]
theorem wkL_next (f : Int) (c : Nat) : wkL f (c + 1) = wkL f c ++ [f + 7 * (c : Int)] := by unfold wkL; rw [List.range_succ, List.map_append]; rfl
theorem wkL_at (f : Int) (c j : Nat) (h : j < c) : ((wkL f c).map (Value.int .i64))[j]? = some (.int .i64 (f + 7 * (j : Int))) := by
  unfold wkL
  rw [List.getElem?_map, List.getElem?_map, List.getElem?_range h]
  rfl
set_option maxRecDepth 100000 in
set_option maxHeartbeats 8000000 in
/-- The reference's nth. -/
theorem rnth_calls (m d n wd y : Int) (kd : Int) (sh : Bool) (h0 : 1900 ≤ y) (h1 : y ≤ 2199) (hm0 : 1 ≤ m) (hm1 : m ≤ 12) (hw0 : 0 ≤ wd) (hw1 : wd ≤ 6) (hn : (1 ≤ n ∧ n ≤ 5) ∨ n = -1) (w : World) :
    Calls Tryz.prog 195 #[ruV ⟨kd, m, d, n, wd, sh⟩, .int .i64 y] w fun e w' => e = .returned (.tuple #[.int .i64 (if nthB y m n wd then nthV y m n wd else 0), .bool (nthB y m n wd)]) ∧ Gr w w' := by
  obtain ⟨i0, hi, hz0, hz1, hz2⟩ := info_parts infoI64
  have hga := boxGr w ⟨kd, m, d, n, wd, sh⟩
  have hbx := boxAt_new w ⟨kd, m, d, n, wd, sh⟩
  have HL := Lib.hid (fun w => lengthR_calls y m (by omega) (by omega) w)
  have hl28 := lenM_pos y m hm0 hm1
  have hl31 := (lenM_bd y m).2
  have hfb := isDay_range (firstN_day y m h0 h1 hm0 hm1)
  have heb := endN_bd y m h0 h1 hm0 hm1
  have hfe := endN_first y m
  have hof := fun (t : Int) (ht : 0 ≤ t) (ht2 : t < lenM y m) w => show Calls Tryz.prog 193 #[.agg #[.int .i64 y, .int .i64 m, .int .i64 (t + 1)]] w fun e w' => e = .returned (.tuple #[.int .i64 (dayN y m 1 + t), .bool true]) ∧ Gr w w' by
    have h := refOf_calls y m (t + 1) w
    have hok : OkC y m (t + 1) := ⟨h0, h1, by omega, by omega⟩
    rw [ofD_ok hok, decide_eq_true hok, show dayN y m (t + 1) = dayN y m 1 + t by unfold dayN; omega] at h
    exact h
  have hnb : ∀ c : Nat, c = ((lenM y m - (wd - (dayN y m 1 + 1) % 7) % 7 + 6) / 7).toNat → (n = -1 → nthB y m n wd = true ∧ nthV y m n wd = dayN y m 1 + (wd - (dayN y m 1 + 1) % 7) % 7 + 7 * ((c : Int) - 1)) ∧ (n ≠ -1 → n ≤ c → nthB y m n wd = true ∧ nthV y m n wd = dayN y m 1 + (wd - (dayN y m 1 + 1) % 7) % 7 + 7 * (n - 1)) ∧ (n ≠ -1 → (c : Int) < n → nthB y m n wd = false) := by
    intro c hc
    unfold nthB nthV
    refine ⟨fun e => ?_, fun e h => ?_, fun e h => ?_⟩
    · rw [if_pos e, if_pos e]
      refine ⟨rfl, ?_⟩
      unfold lastWd
      omega
    · rw [if_neg e, if_neg e]
      refine ⟨decide_eq_true ?_, rfl⟩
      unfold nthWd
      omega
    · rw [if_neg e]
      refine decide_eq_false ?_
      unfold nthWd
      omega
  unfold ruV
  generalize nthB y m n wd = NB at hnb ⊢
  generalize nthV y m n wd = NV at hnb ⊢
  generalize endN y m = E at heb hfe
  generalize dayN y m 1 = F at hfb hfe hof hnb
  generalize lenM y m = L at HL hl28 hl31 hfe hof hnb
  obtain ⟨x, hx⟩ : ∃ x, (wd - (F + 1) % 7) % 7 = x := ⟨_, rfl⟩
  have hx0 : 0 ≤ x := by omega
  have hx1 : x ≤ 6 := by omega
  have HX := Lib.hid hx
  rw [hx] at hnb
  have HOF := Lib.hid hof
  have HNB := Lib.hid hnb
  have hWK := fun (t : Int) (ht : 0 ≤ t) (ht2 : t < L) w => rweekday_calls (F + t) w (by omega) (by omega)
  have HWK := Lib.hid hWK
  have HBX := Lib.hid hbx
  have HGA := Lib.hid hga
  clear hof hnb hbx hga heb hfe hWK hx
  go_enter Tryz.func195, Tryz.ntmps195
  go_wp2
  obtain ⟨W0, hW0⟩ : ∃ W0, w.alloc (.cells #[.int .i64 kd, .int .i64 m, .int .i64 d, .int .i64 n, .int .i64 wd, .bool sh] 118) = W0 := ⟨_, rfl⟩
  have HBX0 : Hid (BoxAt W0 w.heap.size ⟨kd, m, d, n, wd, sh⟩) := Lib.hid (by rw [← hW0]; exact HBX.out)
  have HGA0 : Hid (Gr w W0) := Lib.hid (by rw [← hW0]; exact HGA.out)
  rw [hW0]
  clear hW0 HBX HGA
  go_loopg [6, 7] L.toNat (fun g s6 s7 wr => ∃ t : Int, 0 ≤ t ∧ t ≤ L ∧ g = (L - t).toNat ∧ s7 = .int .i64 (t + 1) ∧ Hid (wr.ownsRow w.heap.size 3 1 s6 (wkL (F + x) ((t - x + 6) / 7).toNat).length ((wkL (F + x) ((t - x + 6) / 7).toNat).map (Value.int .i64))) ∧ Hid (BoxAt wr w.heap.size ⟨kd, m, d, n, wd, sh⟩) ∧ Hid (Gr w wr))
  case atStart =>
    refine ⟨0, Int.le_refl _, by omega, by omega, rfl, Lib.hid ?_, HBX0, HGA0⟩
    rw [show ((0 - x + 6) / 7).toNat = 0 by omega]
    exact World.ownsRow_nil _ _ _ _
  case round =>
    clear HBX0 HGA0
    obtain ⟨t, ht0, ht1, hgg, rfl, HOW, HBX, HG⟩ := hrel
    have HGG := Lib.hid hgg
    clear hgg
    obtain ⟨c0, c1, c2, c3, c4, c5⟩ := HBX.out.cells
    by_cases hlt : t < L
    · have bl : decide (t + 1 ≤ L) = true := decide_eq_true (by omega)
      have HOT := Lib.hid (HOF.out t ht0 hlt)
      have hwk := HWK.out t ht0 hlt
      by_cases hq : (F + t + 1) % 7 = wd
      · rw [hq] at hwk
        have hc1 : ((t + 1 - x + 6) / 7).toNat = ((t - x + 6) / 7).toNat + 1 := by have := HX.out; omega
        have hc2 : F + x + 7 * ((((t - x + 6) / 7).toNat : Nat) : Int) = F + t := by have := HX.out; omega
        have HW1 := Lib.hid hwk
        have HC := Lib.hid (And.intro hc1 hc2)
        have hcl : ((t - x + 6) / 7).toNat ≤ 6 := by omega
        clear hwk hq hc1 hc2
        generalize ((t - x + 6) / 7).toNat = c at HOW HC hcl
        go_wp2_with (go_at_call 152; (with_reducible refine (HL.out _).mono ?_); rintro ev w1 ⟨rfl, rfl⟩)
        refine (HOT.out _).mono ?_
        rintro ev w1 ⟨rfl, hg1⟩
        have HBX1 := Lib.hid (HBX.out.gr hg1)
        have HOW1 := Lib.hid (owns_gr HOW.out hg1)
        have HG1 := Lib.hid (HG.out.tr hg1)
        clear c0 c1 c2 c3 c4 c5 hg1
        obtain ⟨c0, c1, c2, c3, c4, c5⟩ := HBX1.out.cells
        go_wp2_with fail
        go_quiet ((go_at_call 95; exact qsame HW1.out))
        have HBX2 := Lib.hid (HBX1.out.gr (grDrew (Gr.rf w1) nq))
        have HOW2 := Lib.hid (owns_gr HOW1.out (grDrew (Gr.rf w1) nq))
        have HG2 := Lib.hid (HG1.out.tr (grDrew (Gr.rf w1) nq))
        clear c0 c1 c2 c3 c4 c5
        generalize w1.drewN nq = w2 at HBX2 HOW2 HG2 ⊢
        have hsz := HG2.out.size
        have hln := wkL_len (F + x) c
        have hnb2 := cells_lt HBX2.out
        go_wp2_with (at_builtin; refine wpList_append_own _ rfl _ _ 23 rfl w.heap.size 3 i0 (.int .i64 0) 1 8 Tryz.underlying23 hi hz0 hz1 hz2 rfl (by decide) _ _ _ rfl (HOW2.out.alloc _) ⟨w2.heap.size, 0, none⟩ 1 1 [.int .i64 (F + t)] rfl rfl (cell_one_new _ _ _) (fun x hx => by simp at hx; subst hx; rfl) (by simp only [maxLen]; omega) (by omega) (by simp; omega) ?_; intro v' w3 hown1 hgrow _)
        have HOW3 := Lib.hid hown1
        have HG3 := Lib.hid (show Gr w w3 from Below.grown (HG2.out.tr ((Gr.rf w2).alloc (Nat.le_refl _) _)) hgrow (by simp; omega) (fun j hj => (HOW2.out.lt j hj).1))
        have HBX3 := Lib.hid (show BoxAt w3 w.heap.size ⟨kd, m, d, n, wd, sh⟩ by
          have hb4 := HBX2.out.gr ((Gr.rf w2).alloc (Nat.le_refl _) (.cells #[.int .i64 (F + t)] 3))
          unfold BoxAt at hb4 ⊢
          rw [hgrow.block _ (cells_lt hb4) ?_]
          · exact hb4
          · intro he
            rcases HOW2.out.2 with ⟨rfl, _⟩ | ⟨g', cap, cur, rfl, _, hg', _⟩
            · cases he
            · injection he with he
              have hb2 := HBX2.out
              unfold BoxAt at hb2
              rw [he, hg'] at hb2
              injection hb2 with hb2
              injection hb2 with _ ht
              exact absurd ht (by decide))
        clear hown1 hgrow hln hsz hnb2
        go_wp2
        go_roundg (L - (t + 1)).toNat
        case measure => have := HGG.out; omega
        case rel => exact ⟨t + 1, by omega, by omega, rfl, by congr 1, Lib.hid (by rw [HC.out.1, wkL_next, HC.out.2, List.map_append, List.length_append]; exact HOW3.out), HBX3, HG3⟩
      · have bq : ((F + t + 1) % 7 == wd) = false := beq_eq_false_iff_ne.2 hq
        have HC := Lib.hid (show ((t + 1 - x + 6) / 7).toNat = ((t - x + 6) / 7).toNat by have := HX.out; omega)
        generalize (F + t + 1) % 7 = q at hwk bq
        have HW1 := Lib.hid hwk
        clear hwk hq
        generalize ((t - x + 6) / 7).toNat = c at HOW HC
        go_wp2_with (go_at_call 152; (with_reducible refine (HL.out _).mono ?_); rintro ev w1 ⟨rfl, rfl⟩)
        refine (HOT.out _).mono ?_
        rintro ev w1 ⟨rfl, hg1⟩
        have HBX1 := Lib.hid (HBX.out.gr hg1)
        have HOW1 := Lib.hid (owns_gr HOW.out hg1)
        have HG1 := Lib.hid (HG.out.tr hg1)
        clear c0 c1 c2 c3 c4 c5 hg1
        obtain ⟨c0, c1, c2, c3, c4, c5⟩ := HBX1.out.cells
        go_wp2_with fail
        go_quiet ((go_at_call 95; exact qsame HW1.out))
        have HBX2 := Lib.hid (HBX1.out.gr (grDrew (Gr.rf w1) nq))
        have HOW2 := Lib.hid (owns_gr HOW1.out (grDrew (Gr.rf w1) nq))
        have HG2 := Lib.hid (HG1.out.tr (grDrew (Gr.rf w1) nq))
        clear c0 c1 c2 c3 c4 c5
        generalize w1.drewN nq = w2 at HBX2 HOW2 HG2 ⊢
        go_wp2
        go_roundg (L - (t + 1)).toNat
        case measure => have := HGG.out; omega
        case rel => exact ⟨t + 1, by omega, by omega, rfl, by congr 1, Lib.hid (by rw [HC.out]; exact HOW2.out), HBX2, HG2⟩
    · have bl : decide (t + 1 ≤ L) = false := decide_eq_false (by omega)
      have hte : t = L := by omega
      subst hte
      have hc45 : ((t - x + 6) / 7).toNat = 4 ∨ ((t - x + 6) / 7).toNat = 5 := by omega
      have HNC := Lib.hid (HNB.out ((t - x + 6) / 7).toNat rfl)
      generalize ((t - x + 6) / 7).toNat = c at HOW HNC hc45
      obtain ⟨g, cap, hu⟩ : ∃ g cap, u6 = .slice (some ⟨g, 0, none⟩) c cap := by
        rcases HOW.out.2 with ⟨_, h2⟩ | ⟨g', cap, cur, rfl, _⟩
        · rw [wkL_len] at h2; omega
        · exact ⟨g', cap, by rw [wkL_len]⟩
      subst hu
      have hcell : ∀ j : Nat, j < c → wr.cell? ⟨g, j, none⟩ = some (.int .i64 (F + x + 7 * (j : Int))) := fun j hj => by
        have h := HOW.out
        rw [wkL_len] at h
        rw [h.cellAt j (by omega), wkL_at _ _ _ hj]
      have e0 := hcell 0 (by omega)
      have e1 := hcell 1 (by omega)
      have e2 := hcell 2 (by omega)
      have e3 := hcell 3 (by omega)
      have HE4 := Lib.hid (hcell 4)
      clear hcell hlt HOW
      rcases hc45 with rfl | rfl
      · rcases (by omega : n = 1 ∨ n = 2 ∨ n = 3 ∨ n = 4 ∨ n = 5 ∨ n = -1) with rfl | rfl | rfl | rfl | rfl | rfl
        · have hv := HNC.out.2.1 (by decide) (by decide)
          obtain ⟨hv1, hv2⟩ := hv
          subst hv1 hv2
          go_wp2_with (go_at_call 152; (with_reducible refine (HL.out _).mono ?_); rintro ev w1 ⟨rfl, rfl⟩)
          go_ret2
          exact ⟨by first | rfl | (congr 3 <;> simp <;> omega) | (simp; omega), HG.out⟩
        · have hv := HNC.out.2.1 (by decide) (by decide)
          obtain ⟨hv1, hv2⟩ := hv
          subst hv1 hv2
          go_wp2_with (go_at_call 152; (with_reducible refine (HL.out _).mono ?_); rintro ev w1 ⟨rfl, rfl⟩)
          go_ret2
          exact ⟨by first | rfl | (congr 3 <;> simp <;> omega) | (simp; omega), HG.out⟩
        · have hv := HNC.out.2.1 (by decide) (by decide)
          obtain ⟨hv1, hv2⟩ := hv
          subst hv1 hv2
          go_wp2_with (go_at_call 152; (with_reducible refine (HL.out _).mono ?_); rintro ev w1 ⟨rfl, rfl⟩)
          go_ret2
          exact ⟨by first | rfl | (congr 3 <;> simp <;> omega) | (simp; omega), HG.out⟩
        · have hv := HNC.out.2.1 (by decide) (by decide)
          obtain ⟨hv1, hv2⟩ := hv
          subst hv1 hv2
          go_wp2_with (go_at_call 152; (with_reducible refine (HL.out _).mono ?_); rintro ev w1 ⟨rfl, rfl⟩)
          go_ret2
          exact ⟨by first | rfl | (congr 3 <;> simp <;> omega) | (simp; omega), HG.out⟩
        · have hv1 := HNC.out.2.2 (by decide) (by decide)
          subst hv1
          go_wp2_with (go_at_call 152; (with_reducible refine (HL.out _).mono ?_); rintro ev w1 ⟨rfl, rfl⟩)
          go_ret2
          exact ⟨by first | rfl | (congr 3 <;> simp <;> omega) | (simp; omega), HG.out⟩
        · have hv := HNC.out.1 rfl
          obtain ⟨hv1, hv2⟩ := hv
          subst hv1 hv2
          go_wp2_with (go_at_call 152; (with_reducible refine (HL.out _).mono ?_); rintro ev w1 ⟨rfl, rfl⟩)
          go_ret2
          exact ⟨by first | rfl | (congr 3 <;> simp <;> omega) | (simp; omega), HG.out⟩
      · have e4 := HE4.out (by decide)
        rcases (by omega : n = 1 ∨ n = 2 ∨ n = 3 ∨ n = 4 ∨ n = 5 ∨ n = -1) with rfl | rfl | rfl | rfl | rfl | rfl
        · have hv := HNC.out.2.1 (by decide) (by decide)
          obtain ⟨hv1, hv2⟩ := hv
          subst hv1 hv2
          go_wp2_with (go_at_call 152; (with_reducible refine (HL.out _).mono ?_); rintro ev w1 ⟨rfl, rfl⟩)
          go_ret2
          exact ⟨by first | rfl | (congr 3 <;> simp <;> omega) | (simp; omega), HG.out⟩
        · have hv := HNC.out.2.1 (by decide) (by decide)
          obtain ⟨hv1, hv2⟩ := hv
          subst hv1 hv2
          go_wp2_with (go_at_call 152; (with_reducible refine (HL.out _).mono ?_); rintro ev w1 ⟨rfl, rfl⟩)
          go_ret2
          exact ⟨by first | rfl | (congr 3 <;> simp <;> omega) | (simp; omega), HG.out⟩
        · have hv := HNC.out.2.1 (by decide) (by decide)
          obtain ⟨hv1, hv2⟩ := hv
          subst hv1 hv2
          go_wp2_with (go_at_call 152; (with_reducible refine (HL.out _).mono ?_); rintro ev w1 ⟨rfl, rfl⟩)
          go_ret2
          exact ⟨by first | rfl | (congr 3 <;> simp <;> omega) | (simp; omega), HG.out⟩
        · have hv := HNC.out.2.1 (by decide) (by decide)
          obtain ⟨hv1, hv2⟩ := hv
          subst hv1 hv2
          go_wp2_with (go_at_call 152; (with_reducible refine (HL.out _).mono ?_); rintro ev w1 ⟨rfl, rfl⟩)
          go_ret2
          exact ⟨by first | rfl | (congr 3 <;> simp <;> omega) | (simp; omega), HG.out⟩
        · have hv := HNC.out.2.1 (by decide) (by decide)
          obtain ⟨hv1, hv2⟩ := hv
          subst hv1 hv2
          go_wp2_with (go_at_call 152; (with_reducible refine (HL.out _).mono ?_); rintro ev w1 ⟨rfl, rfl⟩)
          go_ret2
          exact ⟨by first | rfl | (congr 3 <;> simp <;> omega) | (simp; omega), HG.out⟩
        · have hv := HNC.out.1 rfl
          obtain ⟨hv1, hv2⟩ := hv
          subst hv1 hv2
          go_wp2_with (go_at_call 152; (with_reducible refine (HL.out _).mono ?_); rintro ev w1 ⟨rfl, rfl⟩)
          go_ret2
          exact ⟨by first | rfl | (congr 3 <;> simp <;> omega) | (simp; omega), HG.out⟩
end Go.Proofs.YtglbdafcfcmffaaGreatDoor
