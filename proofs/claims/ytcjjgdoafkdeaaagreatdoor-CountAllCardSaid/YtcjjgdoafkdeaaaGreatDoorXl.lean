/- Layer 6: the reference's Days by contract. -/
import Derived.Test.YtcjjgdoafkdeaaaGreatDoorXk
namespace Go.Proofs.YtcjjgdoafkdeaaaGreatDoor
open Go.RowKit Go.Extern.Stop Go.Stop Go.Extern
set_option linter.unusedVariables false
set_option linter.unusedSimpArgs false

set_option maxRecDepth 100000 in
set_option maxHeartbeats 8000000 in
theorem rdays_a (k a b : Int) (ha : okD a = false) (w : World) : Calls Tryz.prog 51 #[.int .i64 k, .int .i64 a, .int .i64 b] w fun e w' => e = .returned (.int .i64 0) ∧ Gr w w' := by
  have hra := fun w => refIs_calls a w
  rw [show decide (0 ≤ a ∧ a ≤ 109572) = false from ha] at hra
  have HRa := Lib.hid hra
  clear hra ha
  go_enter Tryz.func51, Tryz.ntmps51
  go_wp2_with (go_at_call 113; first | ((with_reducible refine (HRa.out _).mono ?_); rintro ev w1 ⟨rfl, rfl⟩))
  go_ret
  exact ⟨rfl, Gr.rf _⟩
set_option maxRecDepth 100000 in
set_option maxHeartbeats 8000000 in
theorem rdays_b (k a b : Int) (ha : okD a = true) (hb : okD b = false) (w : World) : Calls Tryz.prog 51 #[.int .i64 k, .int .i64 a, .int .i64 b] w fun e w' => e = .returned (.int .i64 0) ∧ Gr w w' := by
  have hra := fun w => refIs_calls a w
  rw [show decide (0 ≤ a ∧ a ≤ 109572) = true from ha] at hra
  have HRa := Lib.hid hra
  clear hra ha
  have hrb := fun w => refIs_calls b w
  rw [show decide (0 ≤ b ∧ b ≤ 109572) = false from hb] at hrb
  have HRb := Lib.hid hrb
  clear hrb hb
  go_enter Tryz.func51, Tryz.ntmps51
  go_wp2_with (go_at_call 113; first | ((with_reducible refine (HRa.out _).mono ?_); rintro ev w1 ⟨rfl, rfl⟩) | ((with_reducible refine (HRb.out _).mono ?_); rintro ev w1 ⟨rfl, rfl⟩))
  go_ret
  exact ⟨rfl, Gr.rf _⟩
set_option maxRecDepth 100000 in
set_option maxHeartbeats 8000000 in
theorem rdays_lo (k a b : Int) (ha : okD a = true) (hb : okD b = true) (hk : k < 1) (w : World) : Calls Tryz.prog 51 #[.int .i64 k, .int .i64 a, .int .i64 b] w fun e w' => e = .returned (.int .i64 0) ∧ Gr w w' := by
  have hra := fun w => refIs_calls a w
  rw [show decide (0 ≤ a ∧ a ≤ 109572) = true from ha] at hra
  have HRa := Lib.hid hra
  clear hra ha
  have hrb := fun w => refIs_calls b w
  rw [show decide (0 ≤ b ∧ b ≤ 109572) = true from hb] at hrb
  have HRb := Lib.hid hrb
  clear hrb hb
  have b1 : decide (k < 1) = true := decide_eq_true hk
  clear hk
  go_enter Tryz.func51, Tryz.ntmps51
  go_wp2_with (go_at_call 113; first | ((with_reducible refine (HRa.out _).mono ?_); rintro ev w1 ⟨rfl, rfl⟩) | ((with_reducible refine (HRb.out _).mono ?_); rintro ev w1 ⟨rfl, rfl⟩))
  go_ret
  exact ⟨rfl, Gr.rf _⟩
set_option maxRecDepth 100000 in
set_option maxHeartbeats 8000000 in
theorem rdays_hi (k a b : Int) (ha : okD a = true) (hb : okD b = true) (hk : 4 < k) (w : World) : Calls Tryz.prog 51 #[.int .i64 k, .int .i64 a, .int .i64 b] w fun e w' => e = .returned (.int .i64 0) ∧ Gr w w' := by
  have hra := fun w => refIs_calls a w
  rw [show decide (0 ≤ a ∧ a ≤ 109572) = true from ha] at hra
  have HRa := Lib.hid hra
  clear hra ha
  have hrb := fun w => refIs_calls b w
  rw [show decide (0 ≤ b ∧ b ≤ 109572) = true from hb] at hrb
  have HRb := Lib.hid hrb
  clear hrb hb
  have b1 : decide (k < 1) = false := decide_eq_false (by omega)
  have b2 : decide (4 < k) = true := decide_eq_true hk
  clear hk
  go_enter Tryz.func51, Tryz.ntmps51
  go_wp2_with (go_at_call 113; first | ((with_reducible refine (HRa.out _).mono ?_); rintro ev w1 ⟨rfl, rfl⟩) | ((with_reducible refine (HRb.out _).mono ?_); rintro ev w1 ⟨rfl, rfl⟩))
  go_ret
  exact ⟨rfl, Gr.rf _⟩
set_option maxRecDepth 100000 in
set_option maxHeartbeats 8000000 in
theorem rdays_k (k a b : Int) (hk : k = 2 ∨ k = 3 ∨ k = 4) (ha : okD a = true) (hb : okD b = true) (w : World) : Calls Tryz.prog 51 #[.int .i64 k, .int .i64 a, .int .i64 b] w fun e w' => e = .returned (.int .i64 (b - a)) ∧ Gr w w' := by
  have a0 := (okD_t ha).1
  have a1 := (okD_t ha).2
  have b0 := (okD_t hb).1
  have b1 := (okD_t hb).2
  have hra := fun w => refIs_calls a w
  rw [show decide (0 ≤ a ∧ a ≤ 109572) = true from ha] at hra
  have HRa := Lib.hid hra
  clear hra ha
  have hrb := fun w => refIs_calls b w
  rw [show decide (0 ≤ b ∧ b ≤ 109572) = true from hb] at hrb
  have HRb := Lib.hid hrb
  clear hrb hb
  rcases hk with rfl | rfl | rfl
  all_goals
    go_enter Tryz.func51, Tryz.ntmps51
    go_wp2_with (go_at_call 113; first | ((with_reducible refine (HRa.out _).mono ?_); rintro ev w1 ⟨rfl, rfl⟩) | ((with_reducible refine (HRb.out _).mono ?_); rintro ev w1 ⟨rfl, rfl⟩))
    go_ret
    exact ⟨rfl, Gr.rf _⟩
set_option maxRecDepth 100000 in
set_option maxHeartbeats 8000000 in
theorem rdays_30 (a b y m k y' m' k' : Int) (h : IsDay a y m k) (h' : IsDay b y' m' k') (ha : okD a = true) (hb : okD b = true) (w : World) : Calls Tryz.prog 51 #[.int .i64 1, .int .i64 a, .int .i64 b] w fun e w' => e = .returned (.int .i64 (days30 y m k y' m' k')) ∧ Gr w w' := by
  have hra := fun w => refIs_calls a w
  rw [show decide (0 ≤ a ∧ a ≤ 109572) = true from ha] at hra
  have HRa := Lib.hid hra
  clear hra ha
  have hrb := fun w => refIs_calls b w
  rw [show decide (0 ≤ b ∧ b ≤ 109572) = true from hb] at hrb
  have HRb := Lib.hid hrb
  clear hrb hb
  have HC := Lib.hid (fun w => refCivil_calls a y m k h w)
  have HD := Lib.hid (fun w => refCivil_calls b y' m' k' h' w)
  have a0 := h.1
  have a1 := h.2.1
  have a2 := h.2.2.1
  have a3 := h.2.2.2.1
  have a4 := h.2.2.2.2.1
  have a5 := h.2.2.2.2.2.1
  have b0 := h'.1
  have b1 := h'.2.1
  have b2 := h'.2.2.1
  have b3 := h'.2.2.2.1
  have b4 := h'.2.2.2.2.1
  have b5 := h'.2.2.2.2.2.1
  have a6 := (lenM_bd y m).2
  have b6 := (lenM_bd y' m').2
  have a7 : k ≤ 31 := by omega
  have b7 : k' ≤ 31 := by omega
  clear h h' a5 b5 a6 b6
  unfold days30
  go_enter Tryz.func51, Tryz.ntmps51
  go_wp2_with (first | (go_at_call 113; first | ((with_reducible refine (HRa.out _).mono ?_); rintro ev w1 ⟨rfl, rfl⟩) | ((with_reducible refine (HRb.out _).mono ?_); rintro ev w1 ⟨rfl, rfl⟩)) | (go_at_call 114; first | ((with_reducible refine (HC.out _).mono ?_); rintro ev w1 ⟨rfl, hg1⟩; have HG1 := Lib.hid hg1; clear hg1) | ((with_reducible refine (HD.out _).mono ?_); rintro ev w2 ⟨rfl, hg2⟩; have HG2 := Lib.hid hg2; clear hg2)))
  go_ret
  exact ⟨rfl, ((HG1.out.tr HG2.out).tr ((Gr.rf w2).alloc (Nat.le_refl _) _)).tr ((Gr.rf _).alloc (Nat.le_refl _) _)⟩
end Go.Proofs.YtcjjgdoafkdeaaaGreatDoor
