/- Layer 6: the reference's Of, Easter by contract. -/
import Derived.Test.YtgejadnfeeoknaaGreatDoorHi
namespace Go.Proofs.YtgejadnfeeoknaaGreatDoor
open Go.RowKit Go.Extern.Stop Go.Stop Go.Extern
set_option linter.unusedVariables false
set_option linter.unusedSimpArgs false

set_option maxRecDepth 100000 in
theorem yearR_calls (y : Int) (h0 : 0 ≤ y) (h1 : y ≤ 1000000) (w : World) : Calls Tryz.prog 63 #[.int .i64 y] w fun e w' => e = .returned (.int .i64 (365 + lp y)) ∧ w = w' := by
  have hl := fun w => leapR_calls y h0 h1 w
  unfold lp
  cases hb : leapB y
  all_goals
    simp only [hb] at hl
    have HL := Lib.hid hl
    clear hl hb
    go_enter Tryz.func63, Tryz.ntmps63
    go_wp2_with (go_at_call 22; (with_reducible refine (HL.out _).mono ?_); rintro ev w1 ⟨rfl, rfl⟩)
    go_ret
    exact ⟨rfl, rfl⟩
set_option maxRecDepth 100000 in
set_option maxHeartbeats 2000000 in
/-- The reference's Of. -/
theorem refOf_calls (y m k : Int) (w : World) : Calls Tryz.prog 34 #[.agg #[.int .i64 y, .int .i64 m, .int .i64 k]] w fun e w' => e = .returned (.tuple #[.int .i64 (ofD y m k), .bool (decide (OkC y m k))]) ∧ Gr w w' := by
  have hga : Gr w (w.alloc (.cells #[.int .i64 y, .int .i64 m, .int .i64 k] 24)) := (Gr.rf w).alloc (Nat.le_refl _) _
  by_cases h1 : y < 1900
  · have hno : ¬ OkC y m k := fun h => by have := h.1; omega
    rw [ofD_no hno, decide_eq_false hno]
    clear hno
    go_enter Tryz.func34, Tryz.ntmps34
    go_wp2_with fail
    go_quiet (fail)
    go_wp2
    go_ret2
    exact ⟨rfl, grDrew hga _⟩
  have b1 : decide (y < 1900) = false := decide_eq_false h1
  by_cases h2 : 2199 < y
  · have hno : ¬ OkC y m k := fun h => by have := h.2.1; omega
    rw [ofD_no hno, decide_eq_false hno]
    clear hno
    go_enter Tryz.func34, Tryz.ntmps34
    go_wp2_with fail
    go_quiet (fail)
    go_wp2
    go_ret2
    exact ⟨rfl, grDrew hga _⟩
  have b2 : decide (2199 < y) = false := decide_eq_false h2
  by_cases h3 : k < 1
  · have hno : ¬ OkC y m k := fun h => by have := h.2.2.1; omega
    rw [ofD_no hno, decide_eq_false hno]
    clear hno
    go_enter Tryz.func34, Tryz.ntmps34
    go_wp2_with fail
    go_quiet (fail)
    go_wp2
    go_ret2
    exact ⟨rfl, grDrew hga _⟩
  have b3 : decide (k < 1) = false := decide_eq_false h3
  have HL := Lib.hid (fun (n : Int) w => lengthR_calls y n (by omega) (by omega) w)
  by_cases h4 : lenM y m < k
  · have hno : ¬ OkC y m k := fun h => by have := h.2.2.2; omega
    rw [ofD_no hno, decide_eq_false hno]
    clear hno
    have HLm := Lib.hid (fun w => HL.out m w)
    generalize lenM y m = L at h4 HLm
    go_enter Tryz.func34, Tryz.ntmps34
    go_wp2_with fail
    go_quiet ((go_at_call 24; exact qsame HLm.out))
    go_wp2
    go_ret2
    exact ⟨rfl, grDrew hga _⟩
  have hok : OkC y m k := ⟨by omega, by omega, by omega, by omega⟩
  have hm := okC_month hok
  have hk31 := (lenM_bd y m).2
  have hbd := befY_bd y (by omega) (by omega)
  rw [ofD_ok hok, decide_eq_true hok]
  unfold dayN
  have HLm := Lib.hid (fun w => HL.out m w)
  have b4 : decide (lenM y m < k) = false := decide_eq_false h4
  have hkk : k ≤ 31 := by omega
  clear hok
  generalize lenM y m = L at h4 HLm b4 hk31
  have HYR := Lib.hid (fun (j : Int) (h0 : 0 ≤ j) (h1 : j ≤ 1000000) w => yearR_calls j h0 h1 w)
  go_enter Tryz.func34, Tryz.ntmps34
  go_wp2_with fail
  go_quiet ((go_at_call 24; exact qsame HLm.out))
  have hbk : (w.alloc (.cells #[.int .i64 y, .int .i64 m, .int .i64 k] 24)).heap[w.heap.size]? = some (.cells #[.int .i64 y, .int .i64 m, .int .i64 k] 24 (0, 0)) := heap_alloc_new w _
  go_wp2
  go_loopg [4, 5] (y - 1900).toNat (fun g s4 s5 wr => ∃ j : Int, j = y - (g : Int) ∧ 1900 ≤ j ∧ j ≤ y ∧ s5 = .int .i64 j ∧ s4 = .int .i64 (befY j) ∧ Hid (wr.heap[w.heap.size]? = some (.cells #[.int .i64 y, .int .i64 m, .int .i64 k] 24 (0, 0))) ∧ Hid (Gr w wr))
  case atStart => exact ⟨1900, by omega, by omega, by omega, rfl, by rw [befY_first], Lib.hid hbk, Lib.hid (grDrew hga _)⟩
  case round =>
    obtain ⟨j, hj, hj0, hj1, rfl, rfl, HBK, HG⟩ := hrel
    have HJ := Lib.hid hj
    have c0 := heap_cell HBK.out 0
    have c1 := heap_cell HBK.out 1
    have c2 := heap_cell HBK.out 2
    clear hj hbk hga
    by_cases hlt : j < y
    · have bj : decide (j < y) = true := decide_eq_true hlt
      have hjb := befY_bd j (by omega) (by omega)
      have hlp := lp_01 j
      have hys := befY_succ j
      have hyr := fun w => HYR.out j (by omega) (by omega) w
      generalize lp j = lj at hyr hlp hys
      have HY := Lib.hid hyr
      have HS := Lib.hid hys
      clear hyr hys
      generalize befY j = bj2 at hjb HS
      go_wp2_with (go_at_call 63; (with_reducible refine (HY.out _).mono ?_); rintro ev w1 ⟨rfl, rfl⟩)
      go_roundg (gk - 1)
      case measure => have := HJ.out; omega
      case rel => exact ⟨j + 1, by have := HJ.out; omega, by omega, by omega, rfl, by rw [HS.out]; congr 1; omega, HBK, HG⟩
    · have bj : decide (j < y) = false := decide_eq_false hlt
      have hje : j = y := by omega
      subst hje
      generalize hbe : befY j = be at hbd ⊢
      have HBE := Lib.hid hbe
      clear hbe
      go_wp2
      go_loopg [4, 6] (m - 1).toNat (fun g s4 s6 wq => ∃ i : Int, i = m - (g : Int) ∧ 1 ≤ i ∧ i ≤ m ∧ s6 = .int .i64 i ∧ s4 = .int .i64 (be + cumM j i) ∧ Hid (wq.heap[w.heap.size]? = some (.cells #[.int .i64 j, .int .i64 m, .int .i64 k] 24 (0, 0))) ∧ Hid (Gr w wq))
      case atStart => exact ⟨1, by omega, by omega, by omega, rfl, by rw [cumM_one, Int.add_zero], HBK, HG⟩
      case round =>
        clear c0 c1 c2 HBK HG
        obtain ⟨i, hi, hi0, hi1, rfl, rfl, HBK, HG⟩ := hrel
        have HI := Lib.hid hi
        have c0 := heap_cell HBK.out 0
        have c1 := heap_cell HBK.out 1
        have c2 := heap_cell HBK.out 2
        clear hi
        have hc0 := cumM_bd j i hi0 (by omega)
        by_cases hlt2 : i < m
        · have bi : decide (i < m) = true := decide_eq_true hlt2
          have hls := cumM_succ j i hi0
          have hlb := lenM_bd j i
          have HLj := Lib.hid (fun w => HL.out i w)
          generalize lenM j i = x at hls hlb HLj
          have HS := Lib.hid hls
          clear hls
          generalize cumM j i = cj at hc0 HS
          go_wp2_with (go_at_call 24; (with_reducible refine (HLj.out _).mono ?_); rintro ev w1 ⟨rfl, rfl⟩)
          go_roundg (gk - 1)
          case measure => have := HI.out; omega
          case rel => exact ⟨i + 1, by have := HI.out; omega, by omega, by omega, rfl, by rw [HS.out]; congr 1; omega, HBK, HG⟩
        · have bi : decide (i < m) = false := decide_eq_false hlt2
          have hie : i = m := by omega
          subst hie
          go_wp2
          go_ret2
          exact ⟨by first | rfl | (rw [HBE.out]; rfl) | exact ret2 (by omega) rfl, HG.out⟩
end Go.Proofs.YtgejadnfeeoknaaGreatDoor
