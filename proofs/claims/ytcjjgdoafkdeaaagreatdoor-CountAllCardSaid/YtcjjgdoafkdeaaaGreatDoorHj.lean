/- Layer 6: the reference's year by contract; Layer 6: the reference's Civil, Last, Is, Weekday by contract. -/
import Derived.Test.YtcjjgdoafkdeaaaGreatDoorHi
namespace Go.Proofs.YtcjjgdoafkdeaaaGreatDoor
section
open Go.RowKit Go.Extern.Stop Go.Stop Go.Extern
set_option linter.unusedVariables false
set_option linter.unusedSimpArgs false

set_option maxRecDepth 100000 in
theorem yearR_calls (y : Int) (h0 : 0 ≤ y) (h1 : y ≤ 1000000) (w : World) : Calls Tryz.prog 162 #[.int .i64 y] w fun e w' => e = .returned (.int .i64 (365 + lp y)) ∧ w = w' := by
  have hl := fun w => leapR_calls y h0 h1 w
  unfold lp
  cases hb : leapB y
  all_goals
    simp only [hb] at hl
    have HL := Lib.hid hl
    clear hl hb
    go_enter Tryz.func162, Tryz.ntmps162
    go_wp2_with (go_at_call 202; (with_reducible refine (HL.out _).mono ?_); rintro ev w1 ⟨rfl, rfl⟩)
    go_ret
    exact ⟨rfl, rfl⟩
end
section
open Go.RowKit Go.Extern.Stop Go.Stop Go.Extern
set_option linter.unusedVariables false
set_option linter.unusedSimpArgs false

theorem results_cell1 {fn : Func} {p : Tmp} {ty : TypeId} (h : fn.results = #[.cell p ty]) (tmps : Array Value) (P : Program) (w : World) :
    (results fn tmps).run P w = ((asAddr (tmps.getD p undef)).run P w).andThen fun a w₁ => (loadVar ty a).run P w₁ := by
  simp only [results, h]
  simp [Sem.run_bind, Result.andThen]
set_option maxRecDepth 100000 in
set_option maxHeartbeats 4000000 in
/-- The reference's Civil. -/
theorem refCivil_calls (d y m k : Int) (h : IsDay d y m k) (w : World) : Calls Tryz.prog 114 #[.int .i64 d] w fun e w' => e = .returned (.agg #[.int .i64 y, .int .i64 m, .int .i64 k]) ∧ Gr w w' := by
  have hr := isDay_range h
  have hyr := isDay_in_year h
  have hd0 := hr.1
  have hd1 := hr.2
  have hy0 := h.1
  have hy1 := h.2.1
  have HY := Lib.hid hyr
  have hm1 := h.2.2.1
  have hm2 := h.2.2.2.1
  have hk1 := h.2.2.2.2.1
  have hkl := h.2.2.2.2.2.1
  have hdd : d - befY y = cumM y m + k - 1 := by have := h.2.2.2.2.2.2; omega
  have HDD := Lib.hid (And.intro hdd (And.intro hkl (And.intro hm2 hk1)))
  have hz : (w.alloc (.cells #[.int .i64 0, .int .i64 0, .int .i64 0] 131)).heap.size = w.heap.size + 1 := by simp
  clear hyr h hkl hdd
  have HYR := Lib.hid (fun (j : Int) (h0 : 0 ≤ j) (h1 : j ≤ 1000000) w => yearR_calls j h0 h1 w)
  go_enter Tryz.func114, Tryz.ntmps114
  go_wp2
  have hk0 : ((w.alloc (.cells #[.int .i64 0, .int .i64 0, .int .i64 0] 131)).alloc (.cells #[.int .i64 1900, .int .i64 1, .int .i64 0] 131)).heap[w.heap.size + 1]? = some (.cells #[.int .i64 1900, .int .i64 1, .int .i64 0] 131 (0, 0)) := by
    have := heap_alloc_new (w.alloc (.cells #[.int .i64 0, .int .i64 0, .int .i64 0] 131)) (.cells #[.int .i64 1900, .int .i64 1, .int .i64 0] 131)
    rw [hz] at this
    exact this
  go_loopg [0] (y - 1900).toNat (fun g s0 wr => ∃ yy : Int, yy = y - (g : Int) ∧ 1900 ≤ yy ∧ yy ≤ y ∧ s0 = .int .i64 (d - befY yy) ∧ Hid (wr.heap[w.heap.size]? = some (.cells #[.int .i64 0, .int .i64 0, .int .i64 0] 131 (0, 0))) ∧ Hid (wr.heap[w.heap.size + 1]? = some (.cells #[.int .i64 yy, .int .i64 1, .int .i64 0] 131 (0, 0))) ∧ Hid (Gr w wr))
  case atStart =>
    refine ⟨1900, by omega, by omega, hy0, by rw [befY_first, Int.sub_zero], Lib.hid ?_, Lib.hid hk0, Lib.hid (((Gr.rf w).alloc (Nat.le_refl _) _).alloc (by simp) _)⟩
    rw [Below.heap_alloc _ _ _ (by simp)]
    exact heap_alloc_new w _
  case round =>
    obtain ⟨yy, hj, hj0, hj1, rfl, HB0, HB1, HG⟩ := hrel
    have HJ := Lib.hid hj
    have c0 := heap_cell HB1.out 0
    have c1 := heap_cell HB1.out 1
    have f0 := heap_free HB1.out 0
    clear hj hk0 hz
    have hys := befY_succ yy
    have hlp := lp_01 yy
    have hyb := befY_bd yy hj0 (by omega)
    by_cases hlt : yy < y
    · have hle : befY (yy + 1) ≤ d := by have := befY_mono (yy + 1) y (by omega); have := HY.out; omega
      have hyr := fun w => HYR.out yy (by omega) (by omega) w
      have hnn : 0 ≤ d - befY yy := by omega
      generalize lp yy = lj at hyr hlp hys
      have HYY := Lib.hid hyr
      have bj : decide (365 + lj ≤ d - befY yy) = true := decide_eq_true (by omega)
      have HS := Lib.hid hys
      clear hyr hys hle
      generalize befY yy = be at hyb HS bj hnn ⊢
      go_wp2_with (go_at_call 162; (with_reducible refine (HYY.out _).mono ?_); rintro ev w1 ⟨rfl, rfl⟩)
      go_roundg (gk - 1)
      case measure => have := HJ.out; omega
      case rel =>
        refine ⟨yy + 1, by have := HJ.out; omega, by omega, by omega, by rw [HS.out]; congr 1; omega, Lib.hid ?_, Lib.hid ?_, Lib.hid (grSet HG.out (by simp) _)⟩
        · rw [heap_setCell_other _ _ _ _ (by simp)]; exact HB0.out
        · rw [heap_setCell_same _ _ _ _ _ _ HB1.out]; rfl
    · have hjy : yy = y := by omega
      subst hjy
      have hyr := fun w => HYR.out yy (by omega) (by omega) w
      have hlt2 : d - befY yy < 365 + lp yy := by have := HY.out; omega
      generalize lp yy = lj at hyr hlp hlt2
      have HYY := Lib.hid hyr
      have bj : decide (365 + lj ≤ d - befY yy) = false := decide_eq_false (by omega)
      have hbf0 : befY yy ≤ d := HY.out.1
      clear hyr hys
      generalize befY yy = bf at hyb bj HDD hbf0 hlt2 ⊢
      go_wp2_with (go_at_call 162; (with_reducible refine (HYY.out _).mono ?_); rintro ev w1 ⟨rfl, rfl⟩)
      clear bj
      go_loopg [0] (m - 1).toNat (fun g s0 wq => ∃ j : Int, j = m - (g : Int) ∧ 1 ≤ j ∧ j ≤ m ∧ s0 = .int .i64 (d - bf - cumM yy j) ∧ Hid (wq.heap[w.heap.size]? = some (.cells #[.int .i64 0, .int .i64 0, .int .i64 0] 131 (0, 0))) ∧ Hid (wq.heap[w.heap.size + 1]? = some (.cells #[.int .i64 yy, .int .i64 j, .int .i64 0] 131 (0, 0))) ∧ Hid (Gr w wq))
      case atStart => exact ⟨1, by omega, by omega, by omega, by rw [cumM_one, Int.sub_zero], HB0, HB1, HG⟩
      case round =>
        clear c0 c1 f0 HB0 HB1 HG
        obtain ⟨j, hj, hj0, hj2, rfl, HB0, HB1, HG⟩ := hrel
        have HJ2 := Lib.hid hj
        have c0 := heap_cell HB1.out 0
        have c1 := heap_cell HB1.out 1
        have f1 := heap_free HB1.out 1
        have f2 := heap_free HB1.out 2
        clear hj
        have HL := Lib.hid (fun w => lengthR_calls yy j (by omega) (by omega) w)
        have hcb := cumM_bd yy j hj0 (by omega)
        have hlb := lenM_bd yy j
        by_cases hjm : j < m
        · have hle : lenM yy j ≤ d - bf - cumM yy j := by
            have a := cumM_succ yy j hj0
            have b := cumM_le yy (j + 1) m (by omega) (by omega)
            have := HDD.out.1; have := HDD.out.2.2.2
            omega
          have HC := Lib.hid (cumM_succ yy j hj0)
          generalize lenM yy j = x at HL hlb hle HC
          generalize cumM yy j = cj at hcb hle HC
          have bj : decide (x ≤ d - bf - cj) = true := decide_eq_true hle
          go_wp2_with (go_at_call 163; (with_reducible refine (HL.out _).mono ?_); rintro ev w1 ⟨rfl, rfl⟩)
          go_roundg (gk - 1)
          case measure => have := HJ2.out; omega
          case rel =>
            refine ⟨j + 1, by have := HJ2.out; omega, by omega, by omega, ?_, Lib.hid ?_, Lib.hid ?_, Lib.hid (grSet HG.out (by simp) _)⟩
            · rw [HC.out]; congr 1; omega
            · rw [heap_setCell_other _ _ _ _ (by simp)]; exact HB0.out
            · rw [heap_setCell_same _ _ _ _ _ _ HB1.out]; rfl
        · have hjm2 : j = m := by omega
          subst hjm2
          have hle : ¬ lenM yy j ≤ d - bf - cumM yy j := by have := HDD.out; omega
          have hkr : d - bf - cumM yy j + 1 = k := by have := HDD.out; omega
          have HKR := Lib.hid hkr
          generalize lenM yy j = x at HL hlb hle
          generalize cumM yy j = cj at hcb hle HKR
          have bj : decide (x ≤ d - bf - cj) = false := decide_eq_false hle
          have c2 := heap_cell HB1.out 2
          have e0 := heap_cell HB0.out 0
          have e1 := heap_cell HB0.out 1
          have e2 := heap_cell HB0.out 2
          have q0 := heap_free HB0.out 0
          have q1 := heap_free HB0.out 1
          have q2 := heap_free HB0.out 2
          go_wp2_with (go_at_call 163; (with_reducible refine (HL.out _).mono ?_); rintro ev w1 ⟨rfl, rfl⟩)
          (try simp only [Exit.inBlock, Exit.then])
          refine bodyPost_ret (v := .agg #[.int .i64 yy, .int .i64 j, .int .i64 (d - bf - cj + 1)]) ?_ rfl ⟨by rw [HKR.out], ?_⟩
          · rw [results_cell1 rfl]; go_simp
          · have hgo := HG.out
            repeat' (first | exact hgo | (refine grSet ?_ (by simp) _))
set_option maxRecDepth 100000 in
theorem refIs_calls (d : Int) (w : World) : Calls Tryz.prog 113 #[.int .i64 d] w fun e w' => e = .returned (.bool (decide (0 ≤ d ∧ d ≤ 109572))) ∧ w = w' := by
  by_cases h : 0 ≤ d
  · by_cases h2 : d ≤ 109572
    · rw [decide_eq_true (And.intro h h2)]
      go_enter Tryz.func113, Tryz.ntmps113
      go_wp2
      go_ret
      exact ⟨rfl, rfl⟩
    · rw [decide_eq_false (fun e : 0 ≤ d ∧ d ≤ 109572 => h2 e.2)]
      go_enter Tryz.func113, Tryz.ntmps113
      go_wp2
      go_ret
      exact ⟨rfl, rfl⟩
  · rw [decide_eq_false (fun e : 0 ≤ d ∧ d ≤ 109572 => h e.1)]
    go_enter Tryz.func113, Tryz.ntmps113
    go_wp2
    go_ret
    exact ⟨rfl, rfl⟩
end
end Go.Proofs.YtcjjgdoafkdeaaaGreatDoor
