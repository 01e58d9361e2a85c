/- Layer 6: the reference's AddMonths, Between by contract; month.Between beyond the last day. -/
import Derived.Test.YtgejadnfeeoknaaGreatDoorMb
namespace Go.Proofs.YtgejadnfeeoknaaGreatDoor
open Go.RowKit Go.Extern.Stop Go.Stop Go.Extern
set_option linter.unusedVariables false
set_option linter.unusedSimpArgs false

theorem monS (y m i : Int) : (monM y m i = 12 ∧ monY y m (i + 1) = monY y m i + 1 ∧ monM y m (i + 1) = 1) ∨ (monM y m i < 12 ∧ monY y m (i + 1) = monY y m i ∧ monM y m (i + 1) = monM y m i + 1) := by
  unfold monM monY; omega
theorem monP (y m i : Int) : (monM y m i = 1 ∧ monY y m (i - 1) = monY y m i - 1 ∧ monM y m (i - 1) = 12) ∨ (1 < monM y m i ∧ monY y m (i - 1) = monY y m i ∧ monM y m (i - 1) = monM y m i - 1) := by
  unfold monM monY; omega
theorem mon_zero2 (y m : Int) (h1 : 1 ≤ m) (h2 : m ≤ 12) : monY y m 0 = y ∧ monM y m 0 = m := mon_zero y m h1 h2
def blkC (y m q : Int) : Obj := .cells #[.int .i64 y, .int .i64 m, .int .i64 q] 24 (0, 0)
set_option maxRecDepth 100000 in
/-- month.Between beyond the last day. -/
theorem between_far (a b y m q : Int) (h : IsDay a y m q) (hb : b < 0 ∨ 109572 < b) (w : World) :
    Calls Tryz.prog 37 #[.int .i64 a, .int .i64 b] w fun e w' => e = .returned (.int .i64 0) ∧ Gr w w' := by
  have HC := Lib.hid (fun w => civil_calls a y m q h w)
  have HD := Lib.hid (fun w => civil_no b w hb)
  clear h hb
  go_enter Tryz.func37, Tryz.ntmps37
  go_wp2_with ((go_at_call 17; (with_reducible refine (HC.out _).mono ?_); rintro ev w1 ⟨rfl, hg1⟩))
  have hga : Gr w (w1.alloc (.cells #[.int .i64 y, .int .i64 m, .int .i64 q] 24)) := hg1.tr ((Gr.rf w1).alloc (Nat.le_refl _) _)
  generalize w1.alloc (.cells #[.int .i64 y, .int .i64 m, .int .i64 q] 24) = W1 at hga ⊢
  have HGA := Lib.hid hga
  clear hga hg1
  go_wp2_with fail
  refine (HD.out _).mono ?_
  rintro ev w2 ⟨rfl, hg2⟩
  go_wp2
  go_ret
  exact ⟨rfl, (HGA.out.tr hg2).tr ((Gr.rf w2).alloc (Nat.le_refl _) _)⟩
set_option maxRecDepth 100000 in
set_option maxHeartbeats 1000000 in
/-- The reference's Between. -/
theorem refBetween_calls (a b y m q y' m' q' : Int) (h : IsDay a y m q) (h' : IsDay b y' m' q') (w : World) :
    Calls Tryz.prog 38 #[.int .i64 a, .int .i64 b] w fun e w' => e = .returned (.int .i64 ((y' - y) * 12 + m' - m)) ∧ Gr w w' := by
  have hr := isDay_range h
  have hr' := isDay_range h'
  have hi1 := fun w => refIs_calls a w
  simp only [decide_eq_true (And.intro hr.1 hr.2)] at hi1
  have hi2 := fun w => refIs_calls b w
  simp only [decide_eq_true (And.intro hr'.1 hr'.2)] at hi2
  have HI1 := Lib.hid hi1
  have HI2 := Lib.hid hi2
  have HC := Lib.hid (fun w => refCivil_calls a y m q h w)
  have HD := Lib.hid (fun w => refCivil_calls b y' m' q' h' w)
  have a0 := h.1
  have a1 := h.2.1
  have a2 := h.2.2.1
  have a3 := h.2.2.2.1
  have b0 := h'.1
  have b1 := h'.2.1
  have b2 := h'.2.2.1
  have b3 := h'.2.2.2.1
  clear h h' hi1 hi2 hr hr'
  go_enter Tryz.func38, Tryz.ntmps38
  go_wp2_with (first | (go_at_call 62; (with_reducible refine (HI1.out _).mono ?_); rintro ev w1 ⟨rfl, rfl⟩) | (go_at_call 62; (with_reducible refine (HI2.out _).mono ?_); rintro ev w1 ⟨rfl, rfl⟩))
  refine (HC.out _).mono ?_
  rintro ev w1 ⟨rfl, hg1⟩
  go_wp2_with fail
  refine (HD.out _).mono ?_
  rintro ev w2 ⟨rfl, hg2⟩
  go_wp2
  go_ret
  exact ⟨retInt (by omega), (hg1.tr hg2).tr (((Gr.rf w2).alloc (Nat.le_refl _) _).alloc (by simp) _)⟩
set_option maxRecDepth 100000 in
theorem refBetween_far (a b : Int) (ha : 0 ≤ a ∧ a ≤ 109572) (hb : b < 0 ∨ 109572 < b) (w : World) :
    Calls Tryz.prog 38 #[.int .i64 a, .int .i64 b] w fun e w' => e = .returned (.int .i64 0) ∧ w = w' := by
  have hi1 := fun w => refIs_calls a w
  simp only [decide_eq_true ha] at hi1
  have hi2 := fun w => refIs_calls b w
  simp only [decide_eq_false (fun e : 0 ≤ b ∧ b ≤ 109572 => by omega)] at hi2
  have HI1 := Lib.hid hi1
  have HI2 := Lib.hid hi2
  clear hi1 hi2 ha hb
  go_enter Tryz.func38, Tryz.ntmps38
  go_wp2_with (first | (go_at_call 62; (with_reducible refine (HI1.out _).mono ?_); rintro ev w1 ⟨rfl, rfl⟩) | (go_at_call 62; (with_reducible refine (HI2.out _).mono ?_); rintro ev w1 ⟨rfl, rfl⟩))
  go_ret
  exact ⟨rfl, rfl⟩
set_option maxRecDepth 100000 in
theorem refAdd_far (d k : Int) (en : Bool) (hd : 0 ≤ d ∧ d ≤ 109572) (hk : k < -3600 ∨ 3600 < k) (w : World) :
    Calls Tryz.prog 32 #[.int .i64 d, .int .i64 k, .bool en] w fun e w' => e = .returned (.tuple #[.int .i64 0, .bool false]) ∧ w = w' := by
  have hi1 := fun w => refIs_calls d w
  simp only [decide_eq_true hd] at hi1
  have HI1 := Lib.hid hi1
  clear hi1 hd
  rcases hk with hk | hk
  · have b1 : decide (k < -3600) = true := decide_eq_true hk
    go_enter Tryz.func32, Tryz.ntmps32
    go_wp2_with (first | (go_at_call 62; (with_reducible refine (HI1.out _).mono ?_); rintro ev w1 ⟨rfl, rfl⟩))
    go_ret2
    exact ⟨rfl, rfl⟩
  · have b1 : decide (k < -3600) = false := decide_eq_false (by omega)
    have b2 : decide (3600 < k) = true := decide_eq_true hk
    go_enter Tryz.func32, Tryz.ntmps32
    go_wp2_with (first | (go_at_call 62; (with_reducible refine (HI1.out _).mono ?_); rintro ev w1 ⟨rfl, rfl⟩))
    go_ret2
    exact ⟨rfl, rfl⟩
end Go.Proofs.YtgejadnfeeoknaaGreatDoor
