/- Layer 6: count: refusals by contract; the reference's Days. -/
import Derived.Test.YtcjjgdoafkdeaaaGreatDoorKp
import Derived.Test.YtcjjgdoafkdeaaaGreatDoorHj
namespace Go.Proofs.YtcjjgdoafkdeaaaGreatDoor
open Go.RowKit Go.Extern.Stop Go.Stop Go.Extern
set_option linter.unusedVariables false
set_option linter.unusedSimpArgs false

def okD (d : Int) : Bool := decide (0 ≤ d ∧ d ≤ 109572)
theorem okD_t {d : Int} (h : okD d = true) : 0 ≤ d ∧ d ≤ 109572 := of_decide_eq_true h
theorem okD_f {d : Int} (h : okD d = false) : d < 0 ∨ 109572 < d := by have := of_decide_eq_false h; omega
set_option maxRecDepth 100000 in
theorem part1_any (d : Int) (w : World) : Calls Tryz.prog 112 #[.int .i64 d] w fun e w' => e = .returned (.bool (okD d)) ∧ w = w' := by
  cases h : okD d
  · have hd := okD_f h
    have HW := Lib.hid (weekday_no d w hd)
    clear hd h
    go_enter Tryz.func112, Tryz.ntmps112
    go_wp2_with (go_at_call 108; (with_reducible refine HW.out.mono ?_); rintro ev w1 ⟨rfl, rfl⟩)
    go_ret
    exact ⟨rfl, rfl⟩
  · have hd := okD_t h
    exact part1_calls d w hd.1 hd.2
set_option maxRecDepth 100000 in
set_option maxHeartbeats 8000000 in
theorem part_kind (k a b s t f : Int) (hk : k < 1 ∨ 4 < k) (w : World) : Calls Tryz.prog 47 #[.int .i64 k, .int .i64 a, .int .i64 b, .int .i64 s, .int .i64 t, .int .i64 f] w fun e w' => e = .returned (.tuple #[.pointer none, .iface 169 (.int .i64 1)]) ∧ Gr w w' := by
  have HO := Lib.hid (of_calls 1 rfl)
  have hmy := fun w => cmay_calls k w
  rw [show decide ((1 : Int) ≤ k ∧ k ≤ (4 : Int)) = false from decide_eq_false (by omega)] at hmy
  have HMY := Lib.hid hmy
  clear hmy
  clear hk
  go_enter Tryz.func47, Tryz.ntmps47
  go_wp2_with (first | (go_at_call 52; (with_reducible refine (HMY.out _).mono ?_); rintro ev w1 ⟨rfl, rfl⟩) | (go_at_call 68; (with_reducible refine (HO.out _).mono ?_); rintro ev w1 ⟨rfl, rfl⟩))
  go_ret2
  exact ⟨rfl, Gr.rf _⟩
set_option maxRecDepth 100000 in
set_option maxHeartbeats 8000000 in
theorem part_a (k a b s t f : Int) (hk0 : 1 ≤ k) (hk1 : k ≤ 4) (ha : okD a = false) (w : World) : Calls Tryz.prog 47 #[.int .i64 k, .int .i64 a, .int .i64 b, .int .i64 s, .int .i64 t, .int .i64 f] w fun e w' => e = .returned (.tuple #[.pointer none, .iface 169 (.int .i64 4)]) ∧ Gr w w' := by
  have HO := Lib.hid (of_calls 4 rfl)
  have hmy := fun w => cmay_calls k w
  rw [show decide ((1 : Int) ≤ k ∧ k ≤ (4 : Int)) = true from decide_eq_true (by omega)] at hmy
  have HMY := Lib.hid hmy
  clear hmy
  have hpa := fun w => part1_any a w
  rw [ha] at hpa
  have HPa := Lib.hid hpa
  clear hpa ha
  clear hk0 hk1
  go_enter Tryz.func47, Tryz.ntmps47
  go_wp2_with (first | (go_at_call 52; (with_reducible refine (HMY.out _).mono ?_); rintro ev w1 ⟨rfl, rfl⟩) | (go_at_call 112; first | ((with_reducible refine (HPa.out _).mono ?_); rintro ev w1 ⟨rfl, rfl⟩)) | (go_at_call 68; (with_reducible refine (HO.out _).mono ?_); rintro ev w1 ⟨rfl, rfl⟩))
  go_ret2
  exact ⟨rfl, Gr.rf _⟩
set_option maxRecDepth 100000 in
set_option maxHeartbeats 8000000 in
theorem part_b (k a b s t f : Int) (hk0 : 1 ≤ k) (hk1 : k ≤ 4) (ha : okD a = true) (hb : okD b = false) (w : World) : Calls Tryz.prog 47 #[.int .i64 k, .int .i64 a, .int .i64 b, .int .i64 s, .int .i64 t, .int .i64 f] w fun e w' => e = .returned (.tuple #[.pointer none, .iface 169 (.int .i64 4)]) ∧ Gr w w' := by
  have HO := Lib.hid (of_calls 4 rfl)
  have hmy := fun w => cmay_calls k w
  rw [show decide ((1 : Int) ≤ k ∧ k ≤ (4 : Int)) = true from decide_eq_true (by omega)] at hmy
  have HMY := Lib.hid hmy
  clear hmy
  have hpa := fun w => part1_any a w
  rw [ha] at hpa
  have HPa := Lib.hid hpa
  clear hpa ha
  have hpb := fun w => part1_any b w
  rw [hb] at hpb
  have HPb := Lib.hid hpb
  clear hpb hb
  clear hk0 hk1
  go_enter Tryz.func47, Tryz.ntmps47
  go_wp2_with (first | (go_at_call 52; (with_reducible refine (HMY.out _).mono ?_); rintro ev w1 ⟨rfl, rfl⟩) | (go_at_call 112; first | ((with_reducible refine (HPa.out _).mono ?_); rintro ev w1 ⟨rfl, rfl⟩) | ((with_reducible refine (HPb.out _).mono ?_); rintro ev w1 ⟨rfl, rfl⟩)) | (go_at_call 68; (with_reducible refine (HO.out _).mono ?_); rintro ev w1 ⟨rfl, rfl⟩))
  go_ret2
  exact ⟨rfl, Gr.rf _⟩
set_option maxRecDepth 100000 in
set_option maxHeartbeats 8000000 in
theorem part_ab (k a b s t f : Int) (hk0 : 1 ≤ k) (hk1 : k ≤ 4) (ha : okD a = true) (hb : okD b = true) (hab : b < a) (w : World) : Calls Tryz.prog 47 #[.int .i64 k, .int .i64 a, .int .i64 b, .int .i64 s, .int .i64 t, .int .i64 f] w fun e w' => e = .returned (.tuple #[.pointer none, .iface 169 (.int .i64 4)]) ∧ Gr w w' := by
  have HO := Lib.hid (of_calls 4 rfl)
  have hmy := fun w => cmay_calls k w
  rw [show decide ((1 : Int) ≤ k ∧ k ≤ (4 : Int)) = true from decide_eq_true (by omega)] at hmy
  have HMY := Lib.hid hmy
  clear hmy
  have hpa := fun w => part1_any a w
  rw [ha] at hpa
  have HPa := Lib.hid hpa
  clear hpa ha
  have hpb := fun w => part1_any b w
  rw [hb] at hpb
  have HPb := Lib.hid hpb
  clear hpb hb
  have b1 : decide (b < a) = true := decide_eq_true hab
  clear hk0 hk1 hab
  go_enter Tryz.func47, Tryz.ntmps47
  go_wp2_with (first | (go_at_call 52; (with_reducible refine (HMY.out _).mono ?_); rintro ev w1 ⟨rfl, rfl⟩) | (go_at_call 112; first | ((with_reducible refine (HPa.out _).mono ?_); rintro ev w1 ⟨rfl, rfl⟩) | ((with_reducible refine (HPb.out _).mono ?_); rintro ev w1 ⟨rfl, rfl⟩)) | (go_at_call 68; (with_reducible refine (HO.out _).mono ?_); rintro ev w1 ⟨rfl, rfl⟩))
  go_ret2
  exact ⟨rfl, Gr.rf _⟩
set_option maxRecDepth 100000 in
set_option maxHeartbeats 8000000 in
theorem part_s (k a b s t f : Int) (ha : okD a = true) (hb : okD b = true) (hab : a ≤ b) (hs : okD s = false) (w : World) : Calls Tryz.prog 47 #[.int .i64 4, .int .i64 a, .int .i64 b, .int .i64 s, .int .i64 t, .int .i64 f] w fun e w' => e = .returned (.tuple #[.pointer none, .iface 169 (.int .i64 4)]) ∧ Gr w w' := by
  have HO := Lib.hid (of_calls 4 rfl)
  have hmy := fun w => cmay_calls 4 w
  rw [show decide ((1 : Int) ≤ 4 ∧ 4 ≤ (4 : Int)) = true from decide_eq_true (by omega)] at hmy
  have HMY := Lib.hid hmy
  clear hmy
  have hpa := fun w => part1_any a w
  rw [ha] at hpa
  have HPa := Lib.hid hpa
  clear hpa ha
  have hpb := fun w => part1_any b w
  rw [hb] at hpb
  have HPb := Lib.hid hpb
  clear hpb hb
  have hps := fun w => part1_any s w
  rw [hs] at hps
  have HPs := Lib.hid hps
  clear hps hs
  have b1 : decide (b < a) = false := decide_eq_false (by omega)
  clear hab
  go_enter Tryz.func47, Tryz.ntmps47
  go_wp2_with (first | (go_at_call 52; (with_reducible refine (HMY.out _).mono ?_); rintro ev w1 ⟨rfl, rfl⟩) | (go_at_call 112; first | ((with_reducible refine (HPa.out _).mono ?_); rintro ev w1 ⟨rfl, rfl⟩) | ((with_reducible refine (HPb.out _).mono ?_); rintro ev w1 ⟨rfl, rfl⟩) | ((with_reducible refine (HPs.out _).mono ?_); rintro ev w1 ⟨rfl, rfl⟩)) | (go_at_call 68; (with_reducible refine (HO.out _).mono ?_); rintro ev w1 ⟨rfl, rfl⟩))
  go_ret2
  exact ⟨rfl, Gr.rf _⟩
set_option maxRecDepth 100000 in
set_option maxHeartbeats 8000000 in
theorem part_t (k a b s t f : Int) (ha : okD a = true) (hb : okD b = true) (hab : a ≤ b) (hs : okD s = true) (ht : okD t = false) (w : World) : Calls Tryz.prog 47 #[.int .i64 4, .int .i64 a, .int .i64 b, .int .i64 s, .int .i64 t, .int .i64 f] w fun e w' => e = .returned (.tuple #[.pointer none, .iface 169 (.int .i64 4)]) ∧ Gr w w' := by
  have HO := Lib.hid (of_calls 4 rfl)
  have hmy := fun w => cmay_calls 4 w
  rw [show decide ((1 : Int) ≤ 4 ∧ 4 ≤ (4 : Int)) = true from decide_eq_true (by omega)] at hmy
  have HMY := Lib.hid hmy
  clear hmy
  have hpa := fun w => part1_any a w
  rw [ha] at hpa
  have HPa := Lib.hid hpa
  clear hpa ha
  have hpb := fun w => part1_any b w
  rw [hb] at hpb
  have HPb := Lib.hid hpb
  clear hpb hb
  have hps := fun w => part1_any s w
  rw [hs] at hps
  have HPs := Lib.hid hps
  clear hps hs
  have hpt := fun w => part1_any t w
  rw [ht] at hpt
  have HPt := Lib.hid hpt
  clear hpt ht
  have b1 : decide (b < a) = false := decide_eq_false (by omega)
  clear hab
  go_enter Tryz.func47, Tryz.ntmps47
  go_wp2_with (first | (go_at_call 52; (with_reducible refine (HMY.out _).mono ?_); rintro ev w1 ⟨rfl, rfl⟩) | (go_at_call 112; first | ((with_reducible refine (HPa.out _).mono ?_); rintro ev w1 ⟨rfl, rfl⟩) | ((with_reducible refine (HPb.out _).mono ?_); rintro ev w1 ⟨rfl, rfl⟩) | ((with_reducible refine (HPs.out _).mono ?_); rintro ev w1 ⟨rfl, rfl⟩) | ((with_reducible refine (HPt.out _).mono ?_); rintro ev w1 ⟨rfl, rfl⟩)) | (go_at_call 68; (with_reducible refine (HO.out _).mono ?_); rintro ev w1 ⟨rfl, rfl⟩))
  go_ret2
  exact ⟨rfl, Gr.rf _⟩
set_option maxRecDepth 100000 in
set_option maxHeartbeats 8000000 in
theorem part_st (k a b s t f : Int) (ha : okD a = true) (hb : okD b = true) (hab : a ≤ b) (hs : okD s = true) (ht : okD t = true) (hst : t ≤ s) (w : World) : Calls Tryz.prog 47 #[.int .i64 4, .int .i64 a, .int .i64 b, .int .i64 s, .int .i64 t, .int .i64 f] w fun e w' => e = .returned (.tuple #[.pointer none, .iface 169 (.int .i64 2)]) ∧ Gr w w' := by
  have HO := Lib.hid (of_calls 2 rfl)
  have hmy := fun w => cmay_calls 4 w
  rw [show decide ((1 : Int) ≤ 4 ∧ 4 ≤ (4 : Int)) = true from decide_eq_true (by omega)] at hmy
  have HMY := Lib.hid hmy
  clear hmy
  have hpa := fun w => part1_any a w
  rw [ha] at hpa
  have HPa := Lib.hid hpa
  clear hpa ha
  have hpb := fun w => part1_any b w
  rw [hb] at hpb
  have HPb := Lib.hid hpb
  clear hpb hb
  have hps := fun w => part1_any s w
  rw [hs] at hps
  have HPs := Lib.hid hps
  clear hps hs
  have hpt := fun w => part1_any t w
  rw [ht] at hpt
  have HPt := Lib.hid hpt
  clear hpt ht
  have b1 : decide (b < a) = false := decide_eq_false (by omega)
  clear hab
  have b2 : decide (t ≤ s) = true := decide_eq_true hst
  clear hst
  go_enter Tryz.func47, Tryz.ntmps47
  go_wp2_with (first | (go_at_call 52; (with_reducible refine (HMY.out _).mono ?_); rintro ev w1 ⟨rfl, rfl⟩) | (go_at_call 112; first | ((with_reducible refine (HPa.out _).mono ?_); rintro ev w1 ⟨rfl, rfl⟩) | ((with_reducible refine (HPb.out _).mono ?_); rintro ev w1 ⟨rfl, rfl⟩) | ((with_reducible refine (HPs.out _).mono ?_); rintro ev w1 ⟨rfl, rfl⟩) | ((with_reducible refine (HPt.out _).mono ?_); rintro ev w1 ⟨rfl, rfl⟩)) | (go_at_call 68; (with_reducible refine (HO.out _).mono ?_); rintro ev w1 ⟨rfl, rfl⟩))
  go_ret2
  exact ⟨rfl, Gr.rf _⟩
set_option maxRecDepth 100000 in
set_option maxHeartbeats 8000000 in
theorem part_f (k a b s t f : Int) (ha : okD a = true) (hb : okD b = true) (hab : a ≤ b) (hs : okD s = true) (ht : okD t = true) (hst : s < t) (hf : f < 1) (w : World) : Calls Tryz.prog 47 #[.int .i64 4, .int .i64 a, .int .i64 b, .int .i64 s, .int .i64 t, .int .i64 f] w fun e w' => e = .returned (.tuple #[.pointer none, .iface 169 (.int .i64 2)]) ∧ Gr w w' := by
  have HO := Lib.hid (of_calls 2 rfl)
  have hmy := fun w => cmay_calls 4 w
  rw [show decide ((1 : Int) ≤ 4 ∧ 4 ≤ (4 : Int)) = true from decide_eq_true (by omega)] at hmy
  have HMY := Lib.hid hmy
  clear hmy
  have hpa := fun w => part1_any a w
  rw [ha] at hpa
  have HPa := Lib.hid hpa
  clear hpa ha
  have hpb := fun w => part1_any b w
  rw [hb] at hpb
  have HPb := Lib.hid hpb
  clear hpb hb
  have hps := fun w => part1_any s w
  rw [hs] at hps
  have HPs := Lib.hid hps
  clear hps hs
  have hpt := fun w => part1_any t w
  rw [ht] at hpt
  have HPt := Lib.hid hpt
  clear hpt ht
  have b1 : decide (b < a) = false := decide_eq_false (by omega)
  clear hab
  have b2 : decide (t ≤ s) = false := decide_eq_false (by omega)
  have b3 : decide (f < 1) = true := decide_eq_true hf
  clear hst hf
  go_enter Tryz.func47, Tryz.ntmps47
  go_wp2_with (first | (go_at_call 52; (with_reducible refine (HMY.out _).mono ?_); rintro ev w1 ⟨rfl, rfl⟩) | (go_at_call 112; first | ((with_reducible refine (HPa.out _).mono ?_); rintro ev w1 ⟨rfl, rfl⟩) | ((with_reducible refine (HPb.out _).mono ?_); rintro ev w1 ⟨rfl, rfl⟩) | ((with_reducible refine (HPs.out _).mono ?_); rintro ev w1 ⟨rfl, rfl⟩) | ((with_reducible refine (HPt.out _).mono ?_); rintro ev w1 ⟨rfl, rfl⟩)) | (go_at_call 68; (with_reducible refine (HO.out _).mono ?_); rintro ev w1 ⟨rfl, rfl⟩))
  go_ret2
  exact ⟨rfl, Gr.rf _⟩
end Go.Proofs.YtcjjgdoafkdeaaaGreatDoor
