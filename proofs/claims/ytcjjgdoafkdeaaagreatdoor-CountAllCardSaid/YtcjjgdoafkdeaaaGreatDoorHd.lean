/- Layer 6, plain: Easter's day; rules of holidays and their days. No walk here; Layer 6: easter by contract; Layer 6: holi: within, May, nth, shifted by contract; Layer 6: holi: nth, Day by contract. -/
import Derived.Test.YtcjjgdoafkdeaaaGreatDoorHb
import Derived.Test.YtcjjgdoafkdeaaaGreatDoorDe
namespace Go.Proofs.YtcjjgdoafkdeaaaGreatDoor
section

/-- Easter Sunday's number. -/
def eastN (y : Int) : Int := dayN y (eastAt y / 31) (eastAt y % 31 + 1)
theorem eastN_day (y : Int) (h0 : 1900 ≤ y) (h1 : y ≤ 2199) : IsDay (eastN y) y (eastAt y / 31) (eastAt y % 31 + 1) := east_day y h0 h1
theorem eastN_sunday (y : Int) (h0 : 1900 ≤ y) (h1 : y ≤ 2199) : (eastN y + 1) % 7 = 0 := (east_ok y h0 h1).2
/-- A rule of a holiday. -/
structure Ru where
  kind : Int
  month : Int
  day : Int
  n : Int
  wd : Int
  sh : Bool
deriving Inhabited
def mayR (r : Ru) : Bool :=
  if r.kind = 1 then decide (1 ≤ r.day ∧ r.day ≤ lenM 2000 r.month) && (r.n == 0) && (r.wd == 0)
  else if r.kind = 2 then decide (1 ≤ r.month ∧ r.month ≤ 12) && (decide (1 ≤ r.n ∧ r.n ≤ 5) || (r.n == -1)) && decide (0 ≤ r.wd ∧ r.wd ≤ 6) && (r.day == 0) && !r.sh
  else if r.kind = 3 then decide (-100 ≤ r.n ∧ r.n ≤ 100) && (r.month == 0) && (r.day == 0) && (r.wd == 0) && !r.sh
  else false
/-- A month's last day; its first one. -/
def endN (y m : Int) : Int := dayN y m (lenM y m)
def lastWd (y m w : Int) : Int := endN y m - ((endN y m + 1) % 7 - w) % 7
def nthWd (y m n w : Int) : Int := dayN y m 1 + (w - (dayN y m 1 + 1) % 7) % 7 + 7 * (n - 1)
def shiftD (d : Int) : Int := if (d + 1) % 7 = 6 then d - 1 else if (d + 1) % 7 = 0 then d + 1 else d
/-- The day of a rule in a year, before it is held against the first and the last day. -/
def rawD (r : Ru) (y : Int) : Option Int :=
  if r.kind = 1 then (if OkC y r.month r.day then some (if r.sh then shiftD (dayN y r.month r.day) else dayN y r.month r.day) else none)
  else if r.kind = 2 then (if 1900 ≤ y ∧ y ≤ 2199 then (if r.n = -1 then some (lastWd y r.month r.wd) else if nthWd y r.month r.n r.wd ≤ endN y r.month then some (nthWd y r.month r.n r.wd) else none) else none)
  else (if 1900 ≤ y ∧ y ≤ 2199 then some (eastN y + r.n) else none)
def holD (r : Ru) (y : Int) : Option Int := if mayR r then (rawD r y).bind fun d => if 0 ≤ d ∧ d ≤ 109572 then some d else none else none
def holV (r : Ru) (y : Int) : Int := (holD r y).getD 0
def holB (r : Ru) (y : Int) : Bool := (holD r y).isSome
theorem holD_some {r : Ru} {y d : Int} (h : holD r y = some d) : holV r y = d ∧ holB r y = true := by unfold holV holB; rw [h]; exact ⟨rfl, rfl⟩
theorem holD_none {r : Ru} {y : Int} (h : holD r y = none) : holV r y = 0 ∧ holB r y = false := by unfold holV holB; rw [h]; exact ⟨rfl, rfl⟩
theorem holD_range {r : Ru} {y d : Int} (h : holD r y = some d) : 0 ≤ d ∧ d ≤ 109572 := by
  unfold holD at h
  split at h
  · cases hr : rawD r y with
    | none => rw [hr] at h; cases h
    | some x =>
      rw [hr] at h
      simp only [Option.bind_some] at h
      split at h
      · cases h; assumption
      · cases h
  · cases h
end
section
open Go.RowKit Go.Extern.Stop Go.Stop Go.Extern
set_option linter.unusedVariables false
set_option linter.unusedSimpArgs false

set_option maxRecDepth 100000 in
set_option maxHeartbeats 1000000 in
/-- easter.Sunday. -/
theorem sunday_calls (y : Int) (h0 : 1900 ≤ y) (h1 : y ≤ 2199) (w : World) :
    Calls Tryz.prog 101 #[.int .i64 y] w fun e w' => e = .returned (.tuple #[.int .i64 (eastN y), .nilIface]) ∧ Gr w w' := by
  have hO := fun w => day_of_calls y (eastAt y / 31) (eastAt y % 31 + 1) w
  simp only [ofD_day (eastN_day y h0 h1), ofE_day (eastN_day y h0 h1)] at hO
  generalize eastN y = D at hO ⊢
  simp only [eastAt, eastM, eastL, eastH, show y % 100 % 4 = y % 4 by omega] at hO
  have HO := Lib.hid hO
  clear hO
  go_enter Tryz.func101, Tryz.ntmps101
  go_wp2_with (go_at_call 98; (with_reducible refine (HO.out _).mono ?_); rintro ev w1 ⟨rfl, hg1⟩)
  go_ret2
  exact ⟨rfl, hg1⟩
set_option maxRecDepth 100000 in
theorem sunday_no (y : Int) (h : y < 1900 ∨ 2199 < y) (w : World) :
    Calls Tryz.prog 101 #[.int .i64 y] w fun e w' => e = .returned (.tuple #[.int .i64 0, .iface 169 (.int .i64 4)]) ∧ w = w' := by
  rcases h with h | h
  · go_enter Tryz.func101, Tryz.ntmps101
    go_wp2_with (go_at_call 68; (with_reducible refine (errDate_calls _).mono ?_); rintro ev w1 ⟨rfl, rfl⟩)
    go_ret2
    exact ⟨rfl, rfl⟩
  · have h2 : decide (y < 1900) = false := decide_eq_false (by omega)
    go_enter Tryz.func101, Tryz.ntmps101
    go_wp2_with (go_at_call 68; (with_reducible refine (errDate_calls _).mono ?_); rintro ev w1 ⟨rfl, rfl⟩)
    go_ret2
    exact ⟨rfl, rfl⟩
end
section
open Go.RowKit Go.Extern.Stop Go.Stop Go.Extern
set_option linter.unusedVariables false
set_option linter.unusedSimpArgs false

/-- A rule as a value. -/
def ruV (r : Ru) : Value := .agg #[.int .i64 r.kind, .int .i64 r.month, .int .i64 r.day, .int .i64 r.n, .int .i64 r.wd, .bool r.sh]
set_option maxRecDepth 100000 in
theorem within_calls (n a b : Int) (w : World) : Calls Tryz.prog 197 #[.int .i64 n, .int .i64 a, .int .i64 b] w fun e w' => e = .returned (.bool (decide (a ≤ n ∧ n ≤ b))) ∧ w = w' := by
  by_cases h1 : a ≤ n
  · by_cases h2 : n ≤ b
    · rw [decide_eq_true (And.intro h1 h2)]
      go_enter Tryz.func197, Tryz.ntmps197
      go_wp2
      go_ret
      exact ⟨rfl, rfl⟩
    · rw [decide_eq_false (fun h : a ≤ n ∧ n ≤ b => h2 h.2)]
      have h3 : decide (n ≤ b) = false := decide_eq_false h2
      go_enter Tryz.func197, Tryz.ntmps197
      go_wp2
      go_ret
      exact ⟨rfl, rfl⟩
  · rw [decide_eq_false (fun h : a ≤ n ∧ n ≤ b => h1 h.1)]
    have h3 : decide (a ≤ n) = false := decide_eq_false h1
    go_enter Tryz.func197, Tryz.ntmps197
    go_wp2
    go_ret
    exact ⟨rfl, rfl⟩

theorem boxGr (w : World) (r : Ru) : Gr w (w.alloc (.cells #[.int .i64 r.kind, .int .i64 r.month, .int .i64 r.day, .int .i64 r.n, .int .i64 r.wd, .bool r.sh] 137)) := (Gr.rf w).alloc (Nat.le_refl _) _
set_option maxRecDepth 100000 in
set_option maxHeartbeats 1000000 in
theorem may1_calls (m d n wd : Int) (sh : Bool) (w : World) :
    Calls Tryz.prog 155 #[.agg #[.int .i64 1, .int .i64 m, .int .i64 d, .int .i64 n, .int .i64 wd, .bool sh]] w fun e w' => e = .returned (.bool (decide (1 ≤ d ∧ d ≤ lenM 2000 m) && (n == 0) && (wd == 0))) ∧ Gr w w' := by
  have hga := Lib.hid (boxGr w ⟨1, m, d, n, wd, sh⟩)
  have HL := Lib.hid (fun w => length_calls 2000 m (by decide) (by decide) w)
  generalize lenM 2000 m = L at HL ⊢
  have hW := fun w => within_calls d 1 L w
  generalize decide (1 ≤ d ∧ d ≤ L) = bw at hW ⊢
  have HW := Lib.hid hW
  clear hW
  cases bw
  · go_enter Tryz.func155, Tryz.ntmps155
    go_wp2_with fail
    go_quiet ((first | (go_at_call 149; exact qsame HL.out) | (go_at_call 197; exact qsame HW.out)))
    go_wp2
    go_ret
    exact ⟨rfl, grDrew hga.out _⟩
  · by_cases hn : n = 0
    · subst hn
      go_enter Tryz.func155, Tryz.ntmps155
      go_wp2_with fail
      go_quiet ((first | (go_at_call 149; exact qsame HL.out) | (go_at_call 197; exact qsame HW.out)))
      go_wp2
      go_ret
      exact ⟨by simp, grDrew hga.out _⟩
    · have hb : (n == 0) = false := beq_eq_false_iff_ne.2 hn
      rw [hb]
      go_enter Tryz.func155, Tryz.ntmps155
      go_wp2_with fail
      go_quiet ((first | (go_at_call 149; exact qsame HL.out) | (go_at_call 197; exact qsame HW.out)))
      go_wp2
      go_ret
      exact ⟨by simp, grDrew hga.out _⟩
set_option maxRecDepth 100000 in
set_option maxHeartbeats 1000000 in
theorem may2_calls (m d n wd : Int) (sh : Bool) (w : World) :
    Calls Tryz.prog 155 #[.agg #[.int .i64 2, .int .i64 m, .int .i64 d, .int .i64 n, .int .i64 wd, .bool sh]] w fun e w' => e = .returned (.bool (decide (1 ≤ m ∧ m ≤ 12) && (decide (1 ≤ n ∧ n ≤ 5) || (n == -1)) && decide (0 ≤ wd ∧ wd ≤ 6) && (d == 0) && !sh)) ∧ Gr w w' := by
  have hga := Lib.hid (boxGr w ⟨2, m, d, n, wd, sh⟩)
  have hN := fun w => within_calls n 1 5 w
  have hM := fun w => within_calls m 1 12 w
  have hD := fun w => within_calls wd 0 6 w
  generalize decide (1 ≤ n ∧ n ≤ 5) = bn at hN ⊢
  generalize decide (1 ≤ m ∧ m ≤ 12) = bm at hM ⊢
  generalize decide (0 ≤ wd ∧ wd ≤ 6) = bd at hD ⊢
  have HN := Lib.hid hN
  have HM := Lib.hid hM
  have HD := Lib.hid hD
  clear hN hM hD
  go_enter Tryz.func155, Tryz.ntmps155
  go_wp2_with (first | (go_at_call 197; (with_reducible refine (HN.out _).mono ?_); rintro ev w1 ⟨rfl, rfl⟩) | (go_at_call 197; (with_reducible refine (HM.out _).mono ?_); rintro ev w1 ⟨rfl, rfl⟩) | (go_at_call 197; (with_reducible refine (HD.out _).mono ?_); rintro ev w1 ⟨rfl, rfl⟩))
  all_goals
    go_ret
    exact ⟨by simp_all, (Gr.rf w).alloc (Nat.le_refl _) _⟩
set_option maxRecDepth 100000 in
set_option maxHeartbeats 1000000 in
theorem may3_calls (m d n wd : Int) (sh : Bool) (w : World) :
    Calls Tryz.prog 155 #[.agg #[.int .i64 3, .int .i64 m, .int .i64 d, .int .i64 n, .int .i64 wd, .bool sh]] w fun e w' => e = .returned (.bool (decide (-100 ≤ n ∧ n ≤ 100) && (m == 0) && (d == 0) && (wd == 0) && !sh)) ∧ Gr w w' := by
  have hga := Lib.hid (boxGr w ⟨3, m, d, n, wd, sh⟩)
  have hN := fun w => within_calls n (-100) 100 w
  generalize decide (-100 ≤ n ∧ n ≤ 100) = bn at hN ⊢
  have HN := Lib.hid hN
  clear hN
  go_enter Tryz.func155, Tryz.ntmps155
  go_wp2_with (go_at_call 197; (with_reducible refine (HN.out _).mono ?_); rintro ev w1 ⟨rfl, rfl⟩)
  all_goals
    go_ret
    exact ⟨by simp_all, (Gr.rf w).alloc (Nat.le_refl _) _⟩
set_option maxRecDepth 100000 in
/-- holi.May. -/
theorem may_calls (r : Ru) (w : World) : Calls Tryz.prog 155 #[ruV r] w fun e w' => e = .returned (.bool (mayR r)) ∧ Gr w w' := by
  obtain ⟨k, m, d, n, wd, sh⟩ := r
  unfold mayR ruV
  by_cases h1 : k = 1
  · subst h1
    exact may1_calls m d n wd sh w
  · by_cases h2 : k = 2
    · subst h2
      exact may2_calls m d n wd sh w
    · by_cases h3 : k = 3
      · subst h3
        exact may3_calls m d n wd sh w
      · have hga := Lib.hid (boxGr w ⟨k, m, d, n, wd, sh⟩)
        simp only [if_neg h1, if_neg h2, if_neg h3]
        have b1 : (k == 1) = false := beq_eq_false_iff_ne.2 h1
        have b2 : (k == 2) = false := beq_eq_false_iff_ne.2 h2
        have b3 : (k == 3) = false := beq_eq_false_iff_ne.2 h3
        clear h1 h2 h3
        go_enter Tryz.func155, Tryz.ntmps155
        go_wp2
        go_ret
        exact ⟨rfl, hga.out⟩
set_option maxRecDepth 100000 in
theorem shifted_calls (d : Int) (h0 : 0 ≤ d) (h1 : d ≤ 109572) (w : World) : Calls Tryz.prog 200 #[.int .i64 d] w fun e w' => e = .returned (.int .i64 (shiftD d)) ∧ w = w' := by
  have hw := fun w => weekday_calls d w h0 h1
  unfold shiftD
  generalize (d + 1) % 7 = x at hw ⊢
  have HW := Lib.hid hw
  clear hw
  by_cases a : x = 6
  · subst a
    simp only [if_true]
    go_enter Tryz.func200, Tryz.ntmps200
    go_wp2_with (go_at_call 108; (with_reducible refine (HW.out _).mono ?_); rintro ev w1 ⟨rfl, rfl⟩)
    go_ret
    exact ⟨rfl, rfl⟩
  · by_cases b : x = 0
    · subst b
      simp only [if_true, if_neg a]
      go_enter Tryz.func200, Tryz.ntmps200
      go_wp2_with (go_at_call 108; (with_reducible refine (HW.out _).mono ?_); rintro ev w1 ⟨rfl, rfl⟩)
      go_ret
      exact ⟨rfl, rfl⟩
    · simp only [if_neg a, if_neg b]
      have b1 : (x == 6) = false := beq_eq_false_iff_ne.2 a
      have b2 : (x == 0) = false := beq_eq_false_iff_ne.2 b
      go_enter Tryz.func200, Tryz.ntmps200
      go_wp2_with (go_at_call 108; (with_reducible refine (HW.out _).mono ?_); rintro ev w1 ⟨rfl, rfl⟩)
      go_ret
      exact ⟨rfl, rfl⟩
end
section
open Go.RowKit Go.Extern.Stop Go.Stop Go.Extern
set_option linter.unusedVariables false
set_option linter.unusedSimpArgs false

theorem endN_day (y m : Int) (h0 : 1900 ≤ y) (h1 : y ≤ 2199) (h2 : 1 ≤ m) (h3 : m ≤ 12) : IsDay (endN y m) y m (lenM y m) :=
  ⟨h0, h1, h2, h3, by have := lenM_pos y m h2 h3; omega, Int.le_refl _, rfl⟩
theorem firstN_day (y m : Int) (h0 : 1900 ≤ y) (h1 : y ≤ 2199) (h2 : 1 ≤ m) (h3 : m ≤ 12) : IsDay (dayN y m 1) y m 1 :=
  ⟨h0, h1, h2, h3, Int.le_refl _, by have := lenM_pos y m h2 h3; omega, rfl⟩
theorem endN_first (y m : Int) : dayN y m 1 = endN y m - lenM y m + 1 := by unfold endN dayN; omega
/-- What nth answers. -/
def nthV (y m n wd : Int) : Int := if n = -1 then lastWd y m wd else nthWd y m n wd
def nthB (y m n wd : Int) : Bool := if n = -1 then true else decide (nthWd y m n wd ≤ endN y m)
set_option maxRecDepth 100000 in
theorem nth_no (m d n wd y : Int) (k : Int) (sh : Bool) (h0 : 0 ≤ y) (h1 : y ≤ 1000000) (h : y < 1900 ∨ 2199 < y) (w : World) :
    Calls Tryz.prog 199 #[.agg #[.int .i64 k, .int .i64 m, .int .i64 d, .int .i64 n, .int .i64 wd, .bool sh], .int .i64 y] w fun e w' => e = .returned (.tuple #[.int .i64 0, .bool false]) ∧ Gr w w' := by
  have he := fun w => end_calls y m h0 h1 w
  simp only [ofD_no (fun h2 : OkC y m (lenM y m) => by have := h2.1; have := h2.2.1; omega), ofE_no (fun h2 : OkC y m (lenM y m) => by have := h2.1; have := h2.2.1; omega)] at he
  have HE := Lib.hid he
  have hga := Lib.hid (boxGr w ⟨k, m, d, n, wd, sh⟩)
  clear he h
  go_enter Tryz.func199, Tryz.ntmps199
  go_wp2_with (go_at_call 152; (with_reducible refine (HE.out _).mono ?_); rintro ev w1 ⟨rfl, hg1⟩)
  go_ret2
  exact ⟨rfl, hga.out.tr hg1⟩
theorem endN_bd (y m : Int) (h0 : 1900 ≤ y) (h1 : y ≤ 2199) (h2 : 1 ≤ m) (h3 : m ≤ 12) : 0 ≤ endN y m ∧ endN y m ≤ 109572 := isDay_range (endN_day y m h0 h1 h2 h3)
set_option maxRecDepth 100000 in
set_option maxHeartbeats 1000000 in
theorem nth_calls (m d n wd y : Int) (k : Int) (sh : Bool) (h0 : 1900 ≤ y) (h1 : y ≤ 2199) (hm0 : 1 ≤ m) (hm1 : m ≤ 12) (hw0 : 0 ≤ wd) (hw1 : wd ≤ 6) (hn : (1 ≤ n ∧ n ≤ 5) ∨ n = -1) (w : World) :
    Calls Tryz.prog 199 #[.agg #[.int .i64 k, .int .i64 m, .int .i64 d, .int .i64 n, .int .i64 wd, .bool sh], .int .i64 y] w fun e w' => e = .returned (.tuple #[.int .i64 (nthV y m n wd), .bool (nthB y m n wd)]) ∧ Gr w w' := by
  have he := fun w => end_calls y m (by omega) (by omega) w
  have hE := endN_day y m h0 h1 hm0 hm1
  simp only [ofD_day hE, ofE_day hE] at he
  have HE := Lib.hid he
  have HL := Lib.hid (fun w => length_calls y m (by omega) (by omega) w)
  have hEb := endN_bd y m h0 h1 hm0 hm1
  have hFb := isDay_range (firstN_day y m h0 h1 hm0 hm1)
  rw [endN_first] at hFb
  have hLb := lenM_pos y m hm0 hm1
  have hLc := (lenM_bd y m).2
  unfold nthV nthB lastWd nthWd
  rw [endN_first]
  clear he hE
  generalize endN y m = E at HE hEb hFb ⊢
  generalize lenM y m = L at HL hFb hLb hLc ⊢
  have hbk : (w.alloc (.cells #[.int .i64 k, .int .i64 m, .int .i64 d, .int .i64 n, .int .i64 wd, .bool sh] 137)).heap[w.heap.size]? = some (.cells #[.int .i64 k, .int .i64 m, .int .i64 d, .int .i64 n, .int .i64 wd, .bool sh] 137 (0, 0)) := heap_alloc_new w _
  have hga := Lib.hid (boxGr w ⟨k, m, d, n, wd, sh⟩)
  have HBK := Lib.hid hbk
  clear hbk
  by_cases hn1 : n = -1
  · subst hn1
    simp only [if_true]
    have hw := fun w => weekday_calls E w (by omega) (by omega)
    have hx0 := Int.emod_nonneg (E + 1) (show (7 : Int) ≠ 0 by decide)
    have hx1 := Int.emod_lt_of_pos (E + 1) (show (0 : Int) < 7 by decide)
    generalize (E + 1) % 7 = X at hw hx0 hx1 ⊢
    have HW := Lib.hid hw
    clear hw hn
    go_enter Tryz.func199, Tryz.ntmps199
    go_wp2_with fail
    refine (HE.out _).mono ?_
    rintro ev w1 ⟨rfl, hg1⟩
    have hb1 := hg1.heap HBK.out
    have c1 := heap_cell hb1 1
    have c3 := heap_cell hb1 3
    have c4 := heap_cell hb1 4
    have HG := Lib.hid hg1
    clear hb1 hg1
    go_wp2_with (go_at_call 149; (with_reducible refine (HL.out _).mono ?_); rintro ev w2 ⟨rfl, rfl⟩)
    go_quiet ((go_at_call 108; exact qsame HW.out))
    go_wp2
    go_ret2
    exact ⟨rfl, grDrew (hga.out.tr HG.out) _⟩
  · have hnb : (n == -1) = false := beq_eq_false_iff_ne.2 hn1
    simp only [if_neg hn1]
    have hn0 : 1 ≤ n := by omega
    have hn5 : n ≤ 5 := by omega
    have hw := fun w => weekday_calls (E - L + 1) w (by omega) (by omega)
    have hx0 := Int.emod_nonneg (E - L + 1 + 1) (show (7 : Int) ≠ 0 by decide)
    have hx1 := Int.emod_lt_of_pos (E - L + 1 + 1) (show (0 : Int) < 7 by decide)
    generalize (E - L + 1 + 1) % 7 = X at hw hx0 hx1 ⊢
    have HW := Lib.hid hw
    clear hw hn hn1
    go_enter Tryz.func199, Tryz.ntmps199
    go_wp2_with fail
    refine (HE.out _).mono ?_
    rintro ev w1 ⟨rfl, hg1⟩
    have hb1 := hg1.heap HBK.out
    have c1 := heap_cell hb1 1
    have c3 := heap_cell hb1 3
    have c4 := heap_cell hb1 4
    have HG := Lib.hid hg1
    clear hb1 hg1
    go_wp2_with (go_at_call 149; (with_reducible refine (HL.out _).mono ?_); rintro ev w2 ⟨rfl, rfl⟩)
    go_quiet ((go_at_call 108; exact qsame HW.out))
    go_wp2
    go_ret2
    exact ⟨rfl, grDrew (hga.out.tr HG.out) _⟩
end
end Go.Proofs.YtcjjgdoafkdeaaaGreatDoor
