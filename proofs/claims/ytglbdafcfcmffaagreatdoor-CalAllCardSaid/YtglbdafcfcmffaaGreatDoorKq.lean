/- Layer 6: the reference's MayRule by contract. -/
import Derived.Test.YtglbdafcfcmffaaGreatDoorHi
namespace Go.Proofs.YtglbdafcfcmffaaGreatDoor
open Go.RowKit Go.Extern.Stop Go.Stop Go.Extern
set_option linter.unusedVariables false
set_option linter.unusedSimpArgs false

theorem retB {a b : Bool} (h : a = b) : Ending.returned (.bool a) = .returned (.bool b) := by rw [h]
set_option maxRecDepth 100000 in
set_option maxHeartbeats 4000000 in
theorem rmay1_calls (m d n wd : Int) (sh : Bool) (w : World) :
    Calls Tryz.prog 86 #[.agg #[.int .i64 1, .int .i64 m, .int .i64 d, .int .i64 n, .int .i64 wd, .bool sh]] w fun e w' => e = .returned (.bool (decide (1 ≤ d ∧ d ≤ lenM 2000 m) && (n == 0) && (wd == 0))) ∧ Gr w w' := by
  have hga := Lib.hid (boxGr w ⟨1, m, d, n, wd, sh⟩)
  have HL := Lib.hid (fun w => lengthR_calls 2000 m (by decide) (by decide) w)
  have hlo := lenM_out 2000 m
  generalize lenM 2000 m = L at HL hlo ⊢
  by_cases h0 : 1 ≤ m
  case neg =>
    have b1 : decide (1 ≤ m) = false := decide_eq_false h0
    rw [decide_eq_false (show ¬ (1 ≤ d ∧ d ≤ L) by omega), Bool.false_and, Bool.false_and]
    go_enter Tryz.func86, Tryz.ntmps86
    go_wp2_with fail
    go_quiet ((go_at_call 152; exact qsame HL.out))
    go_wp2
    go_ret
    exact ⟨by first | rfl | simp, grDrew hga.out _⟩
  have b1 : decide (1 ≤ m) = true := decide_eq_true h0
  by_cases h1 : m ≤ 12
  case neg =>
    have b2 : decide (m ≤ 12) = false := decide_eq_false h1
    rw [decide_eq_false (show ¬ (1 ≤ d ∧ d ≤ L) by omega), Bool.false_and, Bool.false_and]
    go_enter Tryz.func86, Tryz.ntmps86
    go_wp2_with fail
    go_quiet ((go_at_call 152; exact qsame HL.out))
    go_wp2
    go_ret
    exact ⟨by first | rfl | simp, grDrew hga.out _⟩
  have b2 : decide (m ≤ 12) = true := decide_eq_true h1
  by_cases h2 : 1 ≤ d
  case neg =>
    have b3 : decide (1 ≤ d) = false := decide_eq_false h2
    rw [decide_eq_false (show ¬ (1 ≤ d ∧ d ≤ L) by omega), Bool.false_and, Bool.false_and]
    go_enter Tryz.func86, Tryz.ntmps86
    go_wp2_with fail
    go_quiet ((go_at_call 152; exact qsame HL.out))
    go_wp2
    go_ret
    exact ⟨by first | rfl | simp, grDrew hga.out _⟩
  have b3 : decide (1 ≤ d) = true := decide_eq_true h2
  by_cases h3 : d ≤ L
  case neg =>
    have b4 : decide (d ≤ L) = false := decide_eq_false h3
    rw [decide_eq_false (show ¬ (1 ≤ d ∧ d ≤ L) by omega), Bool.false_and, Bool.false_and]
    go_enter Tryz.func86, Tryz.ntmps86
    go_wp2_with fail
    go_quiet ((go_at_call 152; exact qsame HL.out))
    go_wp2
    go_ret
    exact ⟨by first | rfl | simp, grDrew hga.out _⟩
  have b4 : decide (d ≤ L) = true := decide_eq_true h3
  by_cases h4 : n = 0
  case neg =>
    have b5 : (n == 0) = false := beq_eq_false_iff_ne.2 h4
    rw [b5]
    rw [show (decide (1 ≤ d ∧ d ≤ L) && false && (wd == 0)) = false by simp]
    go_enter Tryz.func86, Tryz.ntmps86
    go_wp2_with fail
    go_quiet ((go_at_call 152; exact qsame HL.out))
    go_wp2
    go_ret
    exact ⟨by first | rfl | simp, grDrew hga.out _⟩
  subst h4
  by_cases h5 : wd = 0
  case neg =>
    have b6 : (wd == 0) = false := beq_eq_false_iff_ne.2 h5
    rw [b6]
    rw [show (decide (1 ≤ d ∧ d ≤ L) && ((0 : Int) == 0) && false) = false by simp]
    go_enter Tryz.func86, Tryz.ntmps86
    go_wp2_with fail
    go_quiet ((go_at_call 152; exact qsame HL.out))
    go_wp2
    go_ret
    exact ⟨by first | rfl | simp, grDrew hga.out _⟩
  subst h5
  rw [decide_eq_true (And.intro h2 h3)]
  go_enter Tryz.func86, Tryz.ntmps86
  go_wp2_with fail
  go_quiet ((go_at_call 152; exact qsame HL.out))
  go_wp2
  go_ret
  exact ⟨by first | rfl | simp, grDrew hga.out _⟩
set_option maxRecDepth 100000 in
set_option maxHeartbeats 4000000 in
theorem rmay2_calls (m d n wd : Int) (sh : Bool) (w : World) :
    Calls Tryz.prog 86 #[.agg #[.int .i64 2, .int .i64 m, .int .i64 d, .int .i64 n, .int .i64 wd, .bool sh]] w fun e w' => e = .returned (.bool (decide (1 ≤ m ∧ m ≤ 12) && (decide (1 ≤ n ∧ n ≤ 5) || (n == -1)) && decide (0 ≤ wd ∧ wd ≤ 6) && (d == 0) && !sh)) ∧ Gr w w' := by
  have hga := Lib.hid (boxGr w ⟨2, m, d, n, wd, sh⟩)
  go_enter Tryz.func86, Tryz.ntmps86
  go_wp2
  all_goals
    go_ret
    exact ⟨by first | rfl | (refine retB ?_; rw [Bool.eq_iff_iff]; simp; done) | (refine retB ?_; rw [Bool.eq_iff_iff]; simp; omega) | (refine retB ?_; cases sh <;> rw [Bool.eq_iff_iff] <;> simp <;> omega) | (refine retB ?_; cases sh <;> simp_all), (Gr.rf w).alloc (Nat.le_refl _) _⟩
set_option maxRecDepth 100000 in
set_option maxHeartbeats 4000000 in
theorem rmay3_calls (m d n wd : Int) (sh : Bool) (w : World) :
    Calls Tryz.prog 86 #[.agg #[.int .i64 3, .int .i64 m, .int .i64 d, .int .i64 n, .int .i64 wd, .bool sh]] w fun e w' => e = .returned (.bool (decide (-100 ≤ n ∧ n ≤ 100) && (m == 0) && (d == 0) && (wd == 0) && !sh)) ∧ Gr w w' := by
  have hga := Lib.hid (boxGr w ⟨3, m, d, n, wd, sh⟩)
  go_enter Tryz.func86, Tryz.ntmps86
  go_wp2
  all_goals
    go_ret
    exact ⟨by first | rfl | (refine retB ?_; rw [Bool.eq_iff_iff]; simp; done) | (refine retB ?_; rw [Bool.eq_iff_iff]; simp; omega) | (refine retB ?_; cases sh <;> rw [Bool.eq_iff_iff] <;> simp <;> omega) | (refine retB ?_; cases sh <;> simp_all), (Gr.rf w).alloc (Nat.le_refl _) _⟩
set_option maxRecDepth 100000 in
/-- The reference's MayRule. -/
theorem rmay_calls (r : Ru) (w : World) : Calls Tryz.prog 86 #[ruV r] w fun e w' => e = .returned (.bool (mayR r)) ∧ Gr w w' := by
  obtain ⟨k, m, d, n, wd, sh⟩ := r
  unfold mayR ruV
  by_cases h1 : k = 1
  · subst h1
    exact rmay1_calls m d n wd sh w
  · by_cases h2 : k = 2
    · subst h2
      exact rmay2_calls m d n wd sh w
    · by_cases h3 : k = 3
      · subst h3
        exact rmay3_calls m d n wd sh w
      · have hga := Lib.hid (boxGr w ⟨k, m, d, n, wd, sh⟩)
        simp only [if_neg h1, if_neg h2, if_neg h3]
        have b1 : (k == 1) = false := beq_eq_false_iff_ne.2 h1
        have b2 : (k == 2) = false := beq_eq_false_iff_ne.2 h2
        have b3 : (k == 3) = false := beq_eq_false_iff_ne.2 h3
        clear h1 h2 h3
        go_enter Tryz.func86, Tryz.ntmps86
        go_wp2
        go_ret
        exact ⟨rfl, hga.out⟩
end Go.Proofs.YtglbdafcfcmffaaGreatDoor
