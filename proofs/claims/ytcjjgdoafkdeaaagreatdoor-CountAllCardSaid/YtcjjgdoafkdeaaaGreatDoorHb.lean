/- Layer 6: date: Leap, Length, before, Of, is, Civil, Weekday by contract; Layer 6: date: Of by contract; Layer 6: date: Civil by contract. -/
import Derived.Test.YtcjjgdoafkdeaaaGreatDoorHa
import Derived.Test.YtcjjgdoafkdeaaaGreatDoorGa
import Derived.WalkSpells
import Derived.Deep.QuietTactic
import Derived.BigQuiet
import Derived.Laws.ResultCell
namespace Go.Proofs.YtcjjgdoafkdeaaaGreatDoor
section
open Go.RowKit Go.Extern.Stop Go.Stop Go.Extern
set_option linter.unusedVariables false
set_option linter.unusedSimpArgs false

theorem retInt {k : IntKind} {a b : Int} (h : a = b) : Ending.returned (.int k a) = .returned (.int k b) := by rw [h]
set_option maxRecDepth 100000 in
theorem leap_calls (y : Int) (h0 : 0 ≤ y) (h1 : y ≤ 1000000) (w : World) : Calls Tryz.prog 195 #[.int .i64 y] w fun e w' => e = .returned (.bool (leapB y)) ∧ w = w' := by
  by_cases h4 : y % 4 = 0
  · have b4 : (y % 4 == 0) = true := beq_iff_eq.2 h4
    by_cases h100 : y % 100 = 0
    · have b100 : (y % 100 != 0) = false := by simp [h100]
      by_cases h400 : y % 400 = 0
      · have b400 : (y % 400 == 0) = true := beq_iff_eq.2 h400
        have hr : leapB y = true := (leapB_iff y).2 ⟨h4, .inr h400⟩
        rw [hr]
        clear hr h4 h100 h400
        go_enter Tryz.func195, Tryz.ntmps195
        go_wp2
        go_ret
        exact ⟨rfl, rfl⟩
      · have b400 : (y % 400 == 0) = false := beq_eq_false_iff_ne.2 h400
        have hr : leapB y = false := by
          rw [← Bool.not_eq_true]; exact fun e => by have := (leapB_iff y).1 e; omega
        rw [hr]
        clear hr h4 h100 h400
        go_enter Tryz.func195, Tryz.ntmps195
        go_wp2
        go_ret
        exact ⟨rfl, rfl⟩
    · have b100 : (y % 100 != 0) = true := bne_iff_ne.2 h100
      have hr : leapB y = true := (leapB_iff y).2 ⟨h4, .inl h100⟩
      rw [hr]
      clear hr h4 h100
      go_enter Tryz.func195, Tryz.ntmps195
      go_wp2
      go_ret
      exact ⟨rfl, rfl⟩
  · have b4 : (y % 4 == 0) = false := beq_eq_false_iff_ne.2 h4
    have hr : leapB y = false := by
      rw [← Bool.not_eq_true]; exact fun e => by have := (leapB_iff y).1 e; omega
    rw [hr]
    clear hr h4
    go_enter Tryz.func195, Tryz.ntmps195
    go_wp2
    go_ret
    exact ⟨rfl, rfl⟩

set_option maxRecDepth 100000 in
set_option maxHeartbeats 1000000 in
theorem length_calls (y m : Int) (h0 : 0 ≤ y) (h1 : y ≤ 1000000) (w : World) : Calls Tryz.prog 149 #[.int .i64 y, .int .i64 m] w fun e w' => e = .returned (.int .i64 (lenM y m)) ∧ w = w' := by
  have HL := Lib.hid (leap_calls y h0 h1 w)
  by_cases h2 : m = 2
  · subst h2
    cases hl : leapB y
    all_goals
      rw [hl] at HL
      have hr : lenM y 2 = 28 + lp y := by simp [lenM]
      have hr2 : lp y = if leapB y then 1 else 0 := rfl
      rw [hl] at hr2
      simp at hr2
      rw [hr, hr2]
      clear hr hr2 hl
      go_enter Tryz.func149, Tryz.ntmps149
      go_wp2_with (go_at_call 195; (with_reducible refine HL.out.mono ?_); rintro ev w1 ⟨rfl, rfl⟩)
      go_ret
      exact ⟨rfl, rfl⟩
  · clear HL
    rcases (by omega : (m < 1 ∨ 12 < m) ∨ m = 1 ∨ m = 3 ∨ m = 4 ∨ m = 5 ∨ m = 6 ∨ m = 7 ∨ m = 8 ∨ m = 9 ∨ m = 10 ∨ m = 11 ∨ m = 12) with h | h | h | h | h | h | h | h | h | h | h | h
    · rw [lenM_out y m h]
      have e : ∀ k : Int, 1 ≤ k → k ≤ 12 → (m == k) = false := fun k a b => beq_eq_false_iff_ne.2 (by omega)
      have e1 := e 1 (by omega) (by omega)
      have e2 := e 2 (by omega) (by omega)
      have e3 := e 3 (by omega) (by omega)
      have e4 := e 4 (by omega) (by omega)
      have e5 := e 5 (by omega) (by omega)
      have e6 := e 6 (by omega) (by omega)
      have e7 := e 7 (by omega) (by omega)
      have e8 := e 8 (by omega) (by omega)
      have e9 := e 9 (by omega) (by omega)
      have e10 := e 10 (by omega) (by omega)
      have e11 := e 11 (by omega) (by omega)
      have e12 := e 12 (by omega) (by omega)
      clear e
      go_enter Tryz.func149, Tryz.ntmps149
      go_wp2
      go_ret
      exact ⟨rfl, rfl⟩
    all_goals
      subst h
      go_enter Tryz.func149, Tryz.ntmps149
      go_wp2
      go_ret
      exact ⟨rfl, rfl⟩

set_option maxRecDepth 100000 in
theorem before_calls (y : Int) (h0 : 1900 ≤ y) (h1 : y ≤ 2300) (w : World) : Calls Tryz.prog 150 #[.int .i64 y] w fun e w' => e = .returned (.int .i64 (befY y)) ∧ w = w' := by
  go_enter Tryz.func150, Tryz.ntmps150
  go_wp2
  go_ret
  exact ⟨retInt (by unfold befY; omega), rfl⟩
set_option maxRecDepth 100000 in
theorem isd_calls (d : Int) (w : World) : Calls Tryz.prog 151 #[.int .i64 d] w fun e w' => e = .returned (.bool (decide (0 ≤ d ∧ d ≤ 109572))) ∧ w = w' := by
  by_cases h : 0 ≤ d
  · by_cases h2 : d ≤ 109572
    · rw [decide_eq_true (And.intro h h2)]
      go_enter Tryz.func151, Tryz.ntmps151
      go_wp2
      go_ret
      exact ⟨rfl, rfl⟩
    · rw [decide_eq_false (fun e : 0 ≤ d ∧ d ≤ 109572 => h2 e.2)]
      go_enter Tryz.func151, Tryz.ntmps151
      go_wp2
      go_ret
      exact ⟨rfl, rfl⟩
  · rw [decide_eq_false (fun e : 0 ≤ d ∧ d ≤ 109572 => h e.1)]
    go_enter Tryz.func151, Tryz.ntmps151
    go_wp2
    go_ret
    exact ⟨rfl, rfl⟩
set_option maxRecDepth 100000 in
theorem weekday_calls (d : Int) (w : World) (h0 : 0 ≤ d) (h1 : d ≤ 109572) : Calls Tryz.prog 108 #[.int .i64 d] w fun e w' => e = .returned (.int .i64 ((d + 1) % 7)) ∧ w = w' := by
  have hi := isd_calls d w
  rw [decide_eq_true (And.intro h0 h1)] at hi
  have HI := Lib.hid hi
  clear hi
  go_enter Tryz.func108, Tryz.ntmps108
  go_wp2_with (go_at_call 151; (with_reducible refine HI.out.mono ?_); rintro ev w1 ⟨rfl, rfl⟩)
  go_ret
  exact ⟨rfl, rfl⟩
set_option maxRecDepth 100000 in
theorem weekday_no (d : Int) (w : World) (h : d < 0 ∨ 109572 < d) : Calls Tryz.prog 108 #[.int .i64 d] w fun e w' => e = .returned (.int .i64 (-1)) ∧ w = w' := by
  have hi := isd_calls d w
  rw [decide_eq_false (fun e : 0 ≤ d ∧ d ≤ 109572 => by omega)] at hi
  have HI := Lib.hid hi
  clear hi
  go_enter Tryz.func108, Tryz.ntmps108
  go_wp2_with (go_at_call 151; (with_reducible refine HI.out.mono ?_); rintro ev w1 ⟨rfl, rfl⟩)
  go_ret
  exact ⟨rfl, rfl⟩
end
section
open Go.RowKit Go.Extern.Stop Go.Stop Go.Extern
set_option linter.unusedVariables false
set_option linter.unusedSimpArgs false

/-- What date.Of answers: the day's number, or none. -/
def OkC (y m k : Int) : Prop := 1900 ≤ y ∧ y ≤ 2199 ∧ 1 ≤ k ∧ k ≤ lenM y m
instance (y m k : Int) : Decidable (OkC y m k) := by unfold OkC; infer_instance
def dayN (y m k : Int) : Int := befY y + cumM y m + k - 1
def ofD (y m k : Int) : Int := if OkC y m k then dayN y m k else 0
def ofE (y m k : Int) : Value := if OkC y m k then .nilIface else .iface 169 (.int .i64 4)
theorem okC_month {y m k : Int} (h : OkC y m k) : 1 ≤ m ∧ m ≤ 12 := by
  obtain ⟨_, _, h1, h2⟩ := h
  by_cases hm : m < 1 ∨ 12 < m
  · rw [lenM_out y m hm] at h2; omega
  · omega
theorem okC_day {y m k : Int} (h : OkC y m k) : IsDay (dayN y m k) y m k := ⟨h.1, h.2.1, (okC_month h).1, (okC_month h).2, h.2.2.1, h.2.2.2, rfl⟩
theorem day_okC {d y m k : Int} (h : IsDay d y m k) : OkC y m k ∧ d = dayN y m k := ⟨⟨h.1, h.2.1, h.2.2.2.2.1, h.2.2.2.2.2.1⟩, h.2.2.2.2.2.2⟩
theorem ofD_ok {y m k : Int} (h : OkC y m k) : ofD y m k = dayN y m k := if_pos h
theorem ofE_ok {y m k : Int} (h : OkC y m k) : ofE y m k = .nilIface := if_pos h
theorem ofD_day {d y m k : Int} (h : IsDay d y m k) : ofD y m k = d := by rw [ofD_ok (day_okC h).1, ← (day_okC h).2]
theorem ofE_day {d y m k : Int} (h : IsDay d y m k) : ofE y m k = .nilIface := if_pos (day_okC h).1
theorem ofD_no {y m k : Int} (h : ¬ OkC y m k) : ofD y m k = 0 := if_neg h
theorem ofE_no {y m k : Int} (h : ¬ OkC y m k) : ofE y m k = .iface 169 (.int .i64 4) := if_neg h

theorem befY_bd (y : Int) (h0 : 1900 ≤ y) (h1 : y ≤ 2300) : 0 ≤ befY y ∧ befY y ≤ 146400 := by
  have := befY_upper y h0
  have := befY_mono 1900 y h0
  rw [befY_first] at this
  omega

theorem errDate_calls (w : World) : Calls Tryz.prog 68 #[.int .i64 4] w fun e w' => e = .returned (.iface 169 (.int .i64 4)) ∧ w = w' := of_calls 4 (by decide) w

theorem qsame {f : FuncId} {args : Array Value} {w : World} {n : Nat} {v : Value} (h : ∀ w, Calls Tryz.prog f args w fun e w' => e = .returned v ∧ w = w') :
    Calls Tryz.prog f args (w.drewN n) fun e w'' => e = .returned v ∧ ∃ m, w'' = w.drewN m := Calls.quiet_of_same ((h _).mono fun _ _ ⟨a, b⟩ => ⟨a, b.symm⟩)
theorem qadd {f : FuncId} {args : Array Value} {w : World} {a n : Nat} {v : Value} (h : ∀ w, Calls Tryz.prog f args w fun e w' => e = .returned v ∧ w = w') :
    Calls Tryz.prog f args (w.drewN (a + n)) fun e w'' => e = .returned v ∧ ∃ m, w'' = w.drewN (a + m) := (h _).mono fun _ _ ⟨he, hm⟩ => ⟨he, n, hm.symm⟩
theorem grDrew {w w' : World} (h : Gr w w') (n : Nat) : Gr w (w'.drewN n) := ⟨h.os, h.tape, h.output, h.size, h.block⟩
theorem ret2 {a b : Int} {u v : Value} (h : a = b) (h' : u = v) : Ending.returned (.tuple #[.int .i64 a, u]) = .returned (.tuple #[.int .i64 b, v]) := by rw [h, h']
theorem cumM_bd (y m : Int) (h1 : 1 ≤ m) (h2 : m ≤ 13) : 0 ≤ cumM y m ∧ cumM y m ≤ 366 := by
  have a := cumM_nonneg y m h1
  have b := cumM_le y m 13 h1 h2
  rw [cumM_year] at b
  have := lp_01 y
  omega

set_option maxRecDepth 100000 in
set_option maxHeartbeats 2000000 in
/-- date.Of. -/
theorem day_of_calls (y m k : Int) (w : World) : Calls Tryz.prog 98 #[.agg #[.int .i64 y, .int .i64 m, .int .i64 k]] w fun e w' => e = .returned (.tuple #[.int .i64 (ofD y m k), ofE y m k]) ∧ Gr w w' := by
  have hga : Gr w (w.alloc (.cells #[.int .i64 y, .int .i64 m, .int .i64 k] 131)) := (Gr.rf w).alloc (Nat.le_refl _) _
  by_cases h1 : y < 1900
  · have hno : ¬ OkC y m k := fun h => by have := h.1; omega
    rw [ofD_no hno, ofE_no hno]
    clear hno
    go_enter Tryz.func98, Tryz.ntmps98
    go_wp2_with fail
    go_quiet (fail)
    go_wp2_with (go_at_call 68; (with_reducible refine (errDate_calls _).mono ?_); rintro ev w1 ⟨rfl, rfl⟩)
    go_ret2
    exact ⟨rfl, grDrew hga _⟩
  have b1 : decide (y < 1900) = false := decide_eq_false h1
  by_cases h2 : 2199 < y
  · have hno : ¬ OkC y m k := fun h => by have := h.2.1; omega
    rw [ofD_no hno, ofE_no hno]
    clear hno
    go_enter Tryz.func98, Tryz.ntmps98
    go_wp2_with fail
    go_quiet (fail)
    go_wp2_with (go_at_call 68; (with_reducible refine (errDate_calls _).mono ?_); rintro ev w1 ⟨rfl, rfl⟩)
    go_ret2
    exact ⟨rfl, grDrew hga _⟩
  have b2 : decide (2199 < y) = false := decide_eq_false h2
  by_cases h3 : k < 1
  · have hno : ¬ OkC y m k := fun h => by have := h.2.2.1; omega
    rw [ofD_no hno, ofE_no hno]
    clear hno
    go_enter Tryz.func98, Tryz.ntmps98
    go_wp2_with fail
    go_quiet (fail)
    go_wp2_with (go_at_call 68; (with_reducible refine (errDate_calls _).mono ?_); rintro ev w1 ⟨rfl, rfl⟩)
    go_ret2
    exact ⟨rfl, grDrew hga _⟩
  have b3 : decide (k < 1) = false := decide_eq_false h3
  have HL := Lib.hid (fun (n : Int) w => length_calls y n (by omega) (by omega) w)
  by_cases h4 : lenM y m < k
  · have hno : ¬ OkC y m k := fun h => by have := h.2.2.2; omega
    rw [ofD_no hno, ofE_no hno]
    clear hno
    have HLm := Lib.hid (fun w => HL.out m w)
    generalize lenM y m = L at h4 HLm
    go_enter Tryz.func98, Tryz.ntmps98
    go_wp2_with fail
    go_quiet ((go_at_call 149; exact qsame HLm.out))
    go_wp2_with (go_at_call 68; (with_reducible refine (errDate_calls _).mono ?_); rintro ev w1 ⟨rfl, rfl⟩)
    go_ret2
    exact ⟨rfl, grDrew hga _⟩
  have hok : OkC y m k := ⟨by omega, by omega, by omega, by omega⟩
  have HB := Lib.hid (fun w => before_calls y (by omega) (by omega) w)
  have hm := okC_month hok
  have hk31 := (lenM_bd y m).2
  have hbd := befY_bd y (by omega) (by omega)
  rw [ofD_ok hok, ofE_ok hok]
  unfold dayN
  have HLm := Lib.hid (fun w => HL.out m w)
  have b4 : decide (lenM y m < k) = false := decide_eq_false h4
  have hkk : k ≤ 31 := by omega
  clear hok
  generalize lenM y m = L at h4 HLm b4 hk31
  generalize hbe : befY y = be at HB hbd ⊢
  have HBE := Lib.hid hbe
  clear hbe
  go_enter Tryz.func98, Tryz.ntmps98
  go_wp2_with fail
  go_quiet ((go_at_call 149; exact qsame HLm.out))
  go_wp2_with fail
  go_quiet ((go_at_call 150; exact qadd HB.out))
  have hbk : (w.alloc (.cells #[.int .i64 y, .int .i64 m, .int .i64 k] 131)).heap[w.heap.size]? = some (.cells #[.int .i64 y, .int .i64 m, .int .i64 k] 131 (0, 0)) := heap_alloc_new w _
  go_wp2
  go_loopg [4, 5] (m - 1).toNat (fun g dy mm wr => ∃ j : Int, j = m - (g : Int) ∧ 1 ≤ j ∧ mm = .int .i64 j ∧ dy = .int .i64 (be + k - 1 + cumM y j) ∧ wr.heap[w.heap.size]? = some (.cells #[.int .i64 y, .int .i64 m, .int .i64 k] 131 (0, 0)) ∧ Gr w wr)
  case atStart =>
    refine ⟨1, by omega, by omega, rfl, ?_, hbk, grDrew (grDrew hga _) _⟩
    rw [cumM_one, Int.add_zero]
  case round =>
    obtain ⟨j, hj, hj1, rfl, rfl, hb, hgr⟩ := hrel
    have hc0 := cumM_bd y j hj1 (by omega)
    have c0 := heap_cell hb 0
    have c1 := heap_cell hb 1
    have HBK := Lib.hid hb
    have HJ := Lib.hid hj
    have hjm : 0 ≤ m - j := by omega
    clear hb hj
    by_cases hlt : j < m
    · have bj : decide (j < m) = true := decide_eq_true hlt
      have hls := cumM_succ y j hj1
      have hlb := lenM_bd y j
      have HLj := Lib.hid (fun w => HL.out j w)
      generalize lenM y j = x at hls hlb HLj
      have HS := Lib.hid hls
      clear hls
      generalize cumM y j = cj at hc0 HS
      go_wp2_with (go_at_call 149; (with_reducible refine (HLj.out _).mono ?_); rintro ev w1 ⟨rfl, rfl⟩)
      go_roundg (gk - 1)
      case measure => have := HJ.out; omega
      case rel => exact ⟨j + 1, by have := HJ.out; omega, by omega, rfl, by rw [HS.out]; congr 1; omega, HBK.out, hgr⟩
    · have bj : decide (j < m) = false := decide_eq_false hlt
      have hjm2 : j = m := by omega
      subst hjm2
      go_wp2
      go_ret2
      refine ⟨?_, hgr⟩

      exact ret2 (by omega) rfl
end
section
open Go.RowKit Go.Extern.Stop Go.Stop Go.Extern
set_option linter.unusedVariables false
set_option linter.unusedSimpArgs false

theorem heap_free {w : World} {b : Nat} {cs : Array Value} {t : TypeId} (h : w.heap[b]? = some (.cells cs t (0, 0))) (i : Nat) : w.frozen? ⟨b, i, none⟩ = false := frozen_of_row w b i cs t h
theorem grSet {w w' : World} (h : Gr w w') {a : Addr} (ha : w.heap.size ≤ a.block) (v : Value) : Gr w (w'.setCell a v) :=
  ⟨h.os, h.tape, h.output, by rw [World.size_setCell]; exact h.size, fun b hb => by rw [heap_setCell_other _ _ _ _ (by omega)]; exact h.block b hb⟩

set_option maxRecDepth 100000 in
set_option maxHeartbeats 2000000 in
theorem civil_no (d : Int) (w : World) (h : d < 0 ∨ 109572 < d) : Calls Tryz.prog 99 #[.int .i64 d] w fun e w' => e = .returned (.tuple #[.agg #[.int .i64 0, .int .i64 0, .int .i64 0], .iface 169 (.int .i64 4)]) ∧ Gr w w' := by
  have hi := fun w => isd_calls d w
  rw [decide_eq_false (fun e : 0 ≤ d ∧ d ≤ 109572 => by omega)] at hi
  have HI := Lib.hid hi
  clear hi h
  have hga : Gr w (w.alloc (.cells #[.int .i64 0, .int .i64 0, .int .i64 0] 131)) := (Gr.rf w).alloc (Nat.le_refl _) _
  go_enter Tryz.func99, Tryz.ntmps99
  go_wp2_with (first | (go_at_call 151; (with_reducible refine (HI.out _).mono ?_); rintro ev w1 ⟨rfl, rfl⟩) | (go_at_call 68; (with_reducible refine (errDate_calls _).mono ?_); rintro ev w1 ⟨rfl, rfl⟩))
  (try simp only [Exit.inBlock, Exit.then])
  refine bodyPost_ret (v := .tuple #[.agg #[.int .i64 0, .int .i64 0, .int .i64 0], .iface 169 (.int .i64 4)]) ?_ rfl ⟨rfl, ?_⟩
  · rw [results_cell_tmp rfl]; go_simp
  · first | exact hga | go_grown

set_option maxRecDepth 100000 in
set_option maxHeartbeats 4000000 in
/-- date.Civil. -/
theorem civil_calls (d y m k : Int) (h : IsDay d y m k) (w : World) : Calls Tryz.prog 99 #[.int .i64 d] w fun e w' => e = .returned (.tuple #[.agg #[.int .i64 y, .int .i64 m, .int .i64 k], .nilIface]) ∧ Gr w w' := by
  have hr := isDay_range h
  have hi := fun w => isd_calls d w
  rw [decide_eq_true (show 0 ≤ d ∧ d ≤ 109572 from hr)] at hi
  have HI := Lib.hid hi
  clear hi
  have hyr := isDay_in_year h
  have H := Lib.hid h
  have hd0 := hr.1
  have hy0 := h.1
  have hy1 := h.2.1
  have hq : d.tdiv 366 = d / 366 := Int.tdiv_eq_ediv_of_nonneg hd0
  have hst : 1900 + d / 366 ≤ y := by
    by_cases hc : y + 1 ≤ 1900 + d / 366
    · have a := befY_mono (y + 1) (1900 + d / 366) hc
      have b := befY_upper (1900 + d / 366) (by omega)
      omega
    · omega
  have hz : (w.alloc (.cells #[.int .i64 0, .int .i64 0, .int .i64 0] 131)).heap.size = w.heap.size + 1 := by simp
  have HY := Lib.hid hyr
  clear hyr h
  go_enter Tryz.func99, Tryz.ntmps99
  go_wp2_with (go_at_call 151; (with_reducible refine (HI.out _).mono ?_); rintro ev w1 ⟨rfl, rfl⟩)
  have hk0 : ((w.alloc (.cells #[.int .i64 0, .int .i64 0, .int .i64 0] 131)).alloc (.cells #[.int .i64 (1900 + d / 366), .int .i64 1, .int .i64 0] 131)).heap[w.heap.size + 1]? = some (.cells #[.int .i64 (1900 + d / 366), .int .i64 1, .int .i64 0] 131 (0, 0)) := by
    have := heap_alloc_new (w.alloc (.cells #[.int .i64 0, .int .i64 0, .int .i64 0] 131)) (.cells #[.int .i64 (1900 + d / 366), .int .i64 1, .int .i64 0] 131)
    rw [hz] at this
    exact this
  go_loopg [] (y - (1900 + d / 366)).toNat (fun g wr => ∃ yy : Int, yy = y - (g : Int) ∧ 1900 ≤ yy ∧ yy ≤ y ∧ wr.heap[w.heap.size]? = some (.cells #[.int .i64 0, .int .i64 0, .int .i64 0] 131 (0, 0)) ∧ wr.heap[w.heap.size + 1]? = some (.cells #[.int .i64 yy, .int .i64 1, .int .i64 0] 131 (0, 0)) ∧ Gr w wr)
  case atStart =>
    refine ⟨1900 + d / 366, by omega, by omega, hst, ?_, hk0, ((Gr.rf w).alloc (Nat.le_refl _) _).alloc (by simp) _⟩
    rw [Below.heap_alloc _ _ _ (by simp)]
    exact heap_alloc_new w _
  case round =>
    obtain ⟨yy, hj, hj0, hj1, hb0, hb1, hgr⟩ := hrel
    have HJ := Lib.hid hj
    have c0 := heap_cell hb1 0
    have c1 := heap_cell hb1 1
    have f0 := heap_free hb1 0
    have HB0 := Lib.hid hb0
    have HB1 := Lib.hid hb1
    clear hj hb0 hb1 hst hk0 hz
    by_cases hlt : yy < y
    · have hle : befY (yy + 1) ≤ d := by have := befY_mono (yy + 1) y (by omega); have := HY.out; omega
      have bj : decide (befY (yy + 1) ≤ d) = true := decide_eq_true hle
      have HBe := Lib.hid (fun w => before_calls (yy + 1) (by omega) (by omega) w)
      generalize befY (yy + 1) = be at hle bj HBe
      clear hle
      go_wp2_with (go_at_call 150; (with_reducible refine (HBe.out _).mono ?_); rintro ev w1 ⟨rfl, rfl⟩)
      go_roundg (gk - 1)
      case measure => have := HJ.out; omega
      case rel =>
        refine ⟨yy + 1, by have := HJ.out; omega, by omega, by omega, ?_, ?_, grSet hgr (by simp) _⟩
        · rw [heap_setCell_other _ _ _ _ (by simp)]; exact HB0.out
        · rw [heap_setCell_same _ _ _ _ _ _ HB1.out]; rfl
    · have hjy : yy = y := by omega
      subst hjy
      have hle : ¬ befY (yy + 1) ≤ d := by have := HY.out; omega
      have bj : decide (befY (yy + 1) ≤ d) = false := decide_eq_false hle
      have HBe := Lib.hid (fun w => before_calls (yy + 1) (by omega) (by omega) w)
      have HBf := Lib.hid (fun w => before_calls yy (by omega) (by omega) w)
      generalize befY (yy + 1) = be at hle bj HBe
      have hbb := befY_bd yy (by omega) (by omega)
      obtain ⟨bf, hbf⟩ : ∃ bf, befY yy = bf := ⟨_, rfl⟩
      rw [hbf] at HBf hbb
      have HF := Lib.hid hbf
      clear hle hbf
      go_wp2_with (first | (go_at_call 150; (with_reducible refine (HBe.out _).mono ?_); rintro ev w1 ⟨rfl, rfl⟩) | (go_at_call 150; (with_reducible refine (HBf.out _).mono ?_); rintro ev w1 ⟨rfl, rfl⟩))
      have hm1 := H.out.2.2.1
      have hm2 := H.out.2.2.2.1
      have hk1 := H.out.2.2.2.2.1
      have hdd : d - bf = cumM yy m + k - 1 := by have := H.out.2.2.2.2.2.2; rw [HF.out] at this; omega
      have hkl := H.out.2.2.2.2.2.1
      have HDD := Lib.hid (And.intro hdd (And.intro hkl (And.intro hm2 hk1)))
      clear hdd hkl bj HBe
      go_loopg [5] (m - 1).toNat (fun g rs wq => ∃ j : Int, j = m - (g : Int) ∧ 1 ≤ j ∧ j ≤ m ∧ rs = .int .i64 (d - bf - cumM yy j) ∧ wq.heap[w.heap.size]? = some (.cells #[.int .i64 0, .int .i64 0, .int .i64 0] 131 (0, 0)) ∧ wq.heap[w.heap.size + 1]? = some (.cells #[.int .i64 yy, .int .i64 j, .int .i64 0] 131 (0, 0)) ∧ Gr w wq)
      case atStart =>
        refine ⟨1, by omega, by omega, by omega, ?_, HB0.out, HB1.out, hgr⟩
        rw [cumM_one, Int.sub_zero]
      case round =>
        obtain ⟨j, hj, hj0, hj2, rfl, hb0, hb1, hgr2⟩ := hrel
        have HJ2 := Lib.hid hj
        clear c0 c1 f0 HB0 HB1
        have c0 := heap_cell hb1 0
        have c1 := heap_cell hb1 1
        have f1 := heap_free hb1 1
        have f2 := heap_free hb1 2
        have HB0 := Lib.hid hb0
        have HB1 := Lib.hid hb1
        clear hj hb0 hb1
        have HL := Lib.hid (fun w => length_calls yy j (by omega) (by omega) w)
        have hcb := cumM_bd yy j hj0 (by omega)
        have hlb := lenM_bd yy j
        by_cases hjm : j < m
        · have hle : lenM yy j ≤ d - bf - cumM yy j := by
            have a := cumM_succ yy j hj0
            have b := cumM_le yy (j + 1) m (by omega) (by omega)
            have := HDD.out.1; have := HDD.out.2.2.2
            omega
          have HC := Lib.hid (cumM_succ yy j hj0)
          generalize lenM yy j = x at HL hlb hle HC
          generalize cumM yy j = cj at hcb hle HC
          have bj : decide (x ≤ d - bf - cj) = true := decide_eq_true hle
          go_wp2_with (go_at_call 149; (with_reducible refine (HL.out _).mono ?_); rintro ev w1 ⟨rfl, rfl⟩)
          go_roundg (gk - 1)
          case measure => have := HJ2.out; omega
          case rel =>
            refine ⟨j + 1, by have := HJ2.out; omega, by omega, by omega, ?_, ?_, ?_, grSet hgr2 (by simp) _⟩
            · rw [HC.out]; congr 1; omega
            · rw [heap_setCell_other _ _ _ _ (by simp)]; exact HB0.out
            · rw [heap_setCell_same _ _ _ _ _ _ HB1.out]; rfl
        · have hjm2 : j = m := by omega
          subst hjm2
          have hle : ¬ lenM yy j ≤ d - bf - cumM yy j := by have := HDD.out; omega
          have hkr : d - bf - cumM yy j + 1 = k := by have := HDD.out; omega
          have HKR := Lib.hid hkr
          generalize lenM yy j = x at HL hlb hle
          generalize cumM yy j = cj at hcb hle HKR
          have bj : decide (x ≤ d - bf - cj) = false := decide_eq_false hle
          have c2 := heap_cell HB1.out 2
          have e0 := heap_cell HB0.out 0
          have e1 := heap_cell HB0.out 1
          have e2 := heap_cell HB0.out 2
          have q0 := heap_free HB0.out 0
          have q1 := heap_free HB0.out 1
          have q2 := heap_free HB0.out 2
          go_wp2_with (go_at_call 149; (with_reducible refine (HL.out _).mono ?_); rintro ev w1 ⟨rfl, rfl⟩)
          (try simp only [Exit.inBlock, Exit.then])
          refine bodyPost_ret (v := .tuple #[.agg #[.int .i64 yy, .int .i64 j, .int .i64 (d - bf - cj + 1)], .nilIface]) ?_ rfl ⟨by rw [HKR.out], ?_⟩
          · rw [results_cell_tmp rfl]; go_simp
          · repeat' (first | exact hgr2 | (refine grSet ?_ (by simp) _))
end
end Go.Proofs.YtcjjgdoafkdeaaaGreatDoor
