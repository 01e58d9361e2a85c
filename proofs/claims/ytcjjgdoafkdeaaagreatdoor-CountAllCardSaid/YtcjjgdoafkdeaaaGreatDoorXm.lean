/- Layer 6: the reference's Part by contract. -/
import Derived.Test.YtcjjgdoafkdeaaaGreatDoorXl
import Derived.Test.YtcjjgdoafkdeaaaGreatDoorWg
namespace Go.Proofs.YtcjjgdoafkdeaaaGreatDoor
open Go.RowKit Go.Extern.Stop Go.Stop Go.Extern
set_option linter.unusedVariables false
set_option linter.unusedSimpArgs false

theorem ret_part {W : World} {bb : Nat} (x y z o : Value) (hW : W.rangeAt bb 0 [x, y, z]) (tmps : Array Value) (h2 : tmps.getD 12 undef = .pointer (some ⟨bb, 0, none⟩)) (h3 : tmps.getD 13 undef = o) :
    (results Tryz.f48 tmps).run Tryz.prog W = .ok (.tuple #[.agg #[x, y, z], o]) W := by
  have hl := run_loadVar_mid (P := Tryz.prog) W bb 0 29 [x, y, z] _ hW Tryz.underlying29 rfl (by kernel_rfl)
  unfold results
  rw [show Tryz.f48.results = #[.cell 12 29, .tmp 13] from rfl]
  have k2 : tmps[12]?.getD undef = .pointer (some ⟨bb, 0, none⟩) := by simpa using h2
  have k3 : tmps[13]?.getD undef = o := by simpa using h3
  simp [k2, k3, asAddr, hl, Sem.run_bind, Sem.run_pure]
theorem rng3 {W : World} {q : Nat} {x y z : Value} (c0 : W.cell? ⟨q, 0, none⟩ = some x) (c1 : W.cell? ⟨q, 1, none⟩ = some y) (c2 : W.cell? ⟨q, 2, none⟩ = some z) : W.rangeAt q 0 [x, y, z] := by
  intro j v hj
  rcases j with _ | _ | _ | j
  · rw [← hj]; exact c0
  · rw [← hj]; exact c1
  · rw [← hj]; exact c2
  · simp at hj
def QZ : Value := .agg #[.bool false, .slice none 0 0, .slice none 0 0]
/-- A fraction of the reference and no fault. -/
def QIs (z e : Int) (w : World) (ev : Ending) (w' : World) : Prop := (∃ sb va vb, ev = .returned (.tuple #[.agg #[.bool sb, va, vb], .int .i64 0]) ∧ (sb = ((decide (z < 0) != decide (e < 0)) && decide (0 < z.natAbs)) ∧ RN w' va z.natAbs ∧ RN w' vb e.natAbs)) ∧ Gr w w'
set_option maxRecDepth 100000 in
set_option maxHeartbeats 8000000 in
theorem rpart_lo (k a b s t f : Int) (hk : k < 1) (w : World) : Calls Tryz.prog 48 #[.int .i64 k, .int .i64 a, .int .i64 b, .int .i64 s, .int .i64 t, .int .i64 f] w fun e w' => e = .returned (.tuple #[QZ, .int .i64 1]) ∧ Gr w w' := by
  unfold QZ
  have b1 : decide (k < 1) = true := decide_eq_true hk
  clear hk
  have hblk := heap_alloc_new w (.cells #[.bool false, .slice none 0 0, .slice none 0 0] 29)
  have hga : Gr w (w.alloc (.cells #[.bool false, .slice none 0 0, .slice none 0 0] 29)) := (Gr.rf w).alloc (Nat.le_refl _) _
  go_enter Tryz.func48, Tryz.ntmps48
  go_wp2_with fail
  generalize w.alloc (.cells #[.bool false, .slice none 0 0, .slice none 0 0] 29) = W at hblk hga ⊢
  have c0 := heap_cell hblk 0
  have c1 := heap_cell hblk 1
  have c2 := heap_cell hblk 2
  have f0 := heap_free hblk 0
  have f1 := heap_free hblk 1
  have f2 := heap_free hblk 2
  have HGA := Lib.hid hga
  clear hga hblk
  go_wp2
  (try simp only [Exit.inBlock, Exit.then])
  refine bodyPost_ret (ret_part _ _ _ _ (rng3 c0 c1 c2) _ rfl rfl) rfl ?_
  exact ⟨rfl, HGA.out⟩
set_option maxRecDepth 100000 in
set_option maxHeartbeats 8000000 in
theorem rpart_hi (k a b s t f : Int) (hk : 4 < k) (w : World) : Calls Tryz.prog 48 #[.int .i64 k, .int .i64 a, .int .i64 b, .int .i64 s, .int .i64 t, .int .i64 f] w fun e w' => e = .returned (.tuple #[QZ, .int .i64 1]) ∧ Gr w w' := by
  unfold QZ
  have b1 : decide (k < 1) = false := decide_eq_false (by omega)
  have b2 : decide (4 < k) = true := decide_eq_true hk
  clear hk
  have hblk := heap_alloc_new w (.cells #[.bool false, .slice none 0 0, .slice none 0 0] 29)
  have hga : Gr w (w.alloc (.cells #[.bool false, .slice none 0 0, .slice none 0 0] 29)) := (Gr.rf w).alloc (Nat.le_refl _) _
  go_enter Tryz.func48, Tryz.ntmps48
  go_wp2_with fail
  generalize w.alloc (.cells #[.bool false, .slice none 0 0, .slice none 0 0] 29) = W at hblk hga ⊢
  have c0 := heap_cell hblk 0
  have c1 := heap_cell hblk 1
  have c2 := heap_cell hblk 2
  have f0 := heap_free hblk 0
  have f1 := heap_free hblk 1
  have f2 := heap_free hblk 2
  have HGA := Lib.hid hga
  clear hga hblk
  go_wp2
  (try simp only [Exit.inBlock, Exit.then])
  refine bodyPost_ret (ret_part _ _ _ _ (rng3 c0 c1 c2) _ rfl rfl) rfl ?_
  exact ⟨rfl, HGA.out⟩
set_option maxRecDepth 100000 in
set_option maxHeartbeats 8000000 in
theorem rpart_a (k a b s t f : Int) (hk0 : 1 ≤ k) (hk1 : k ≤ 4) (ha : okD a = false) (w : World) : Calls Tryz.prog 48 #[.int .i64 k, .int .i64 a, .int .i64 b, .int .i64 s, .int .i64 t, .int .i64 f] w fun e w' => e = .returned (.tuple #[QZ, .int .i64 4]) ∧ Gr w w' := by
  unfold QZ
  have hra := fun w => refIs_calls a w
  rw [show decide (0 ≤ a ∧ a ≤ 109572) = false from ha] at hra
  have HRa := Lib.hid hra
  clear hra ha
  have b01 : decide (k < 1) = false := decide_eq_false (by omega)
  have b02 : decide (4 < k) = false := decide_eq_false (by omega)
  clear hk0 hk1
  have hblk := heap_alloc_new w (.cells #[.bool false, .slice none 0 0, .slice none 0 0] 29)
  have hga : Gr w (w.alloc (.cells #[.bool false, .slice none 0 0, .slice none 0 0] 29)) := (Gr.rf w).alloc (Nat.le_refl _) _
  go_enter Tryz.func48, Tryz.ntmps48
  go_wp2_with fail
  generalize w.alloc (.cells #[.bool false, .slice none 0 0, .slice none 0 0] 29) = W at hblk hga ⊢
  have c0 := heap_cell hblk 0
  have c1 := heap_cell hblk 1
  have c2 := heap_cell hblk 2
  have f0 := heap_free hblk 0
  have f1 := heap_free hblk 1
  have f2 := heap_free hblk 2
  have HGA := Lib.hid hga
  clear hga hblk
  go_wp2_with (go_at_call 113; first | ((with_reducible refine (HRa.out _).mono ?_); rintro ev w1 ⟨rfl, rfl⟩))
  (try simp only [Exit.inBlock, Exit.then])
  have HE := Lib.hid (three_set W w.heap.size (.bool false) (.slice none 0 0) (.slice none 0 0) _ _ _ c0 c1 c2 (fun n h => by cases h) (fun n h => by cases h) (fun n h => by cases h))
  refine bodyPost_ret (ret_part _ _ _ _ HE.out.1 _ rfl rfl) rfl ?_
  exact ⟨rfl, HE.out.2.2 w HGA.out (Nat.le_refl _)⟩
set_option maxRecDepth 100000 in
set_option maxHeartbeats 8000000 in
theorem rpart_b (k a b s t f : Int) (hk0 : 1 ≤ k) (hk1 : k ≤ 4) (ha : okD a = true) (hb : okD b = false) (w : World) : Calls Tryz.prog 48 #[.int .i64 k, .int .i64 a, .int .i64 b, .int .i64 s, .int .i64 t, .int .i64 f] w fun e w' => e = .returned (.tuple #[QZ, .int .i64 4]) ∧ Gr w w' := by
  unfold QZ
  have hra := fun w => refIs_calls a w
  rw [show decide (0 ≤ a ∧ a ≤ 109572) = true from ha] at hra
  have HRa := Lib.hid hra
  clear hra ha
  have hrb := fun w => refIs_calls b w
  rw [show decide (0 ≤ b ∧ b ≤ 109572) = false from hb] at hrb
  have HRb := Lib.hid hrb
  clear hrb hb
  have b01 : decide (k < 1) = false := decide_eq_false (by omega)
  have b02 : decide (4 < k) = false := decide_eq_false (by omega)
  clear hk0 hk1
  have hblk := heap_alloc_new w (.cells #[.bool false, .slice none 0 0, .slice none 0 0] 29)
  have hga : Gr w (w.alloc (.cells #[.bool false, .slice none 0 0, .slice none 0 0] 29)) := (Gr.rf w).alloc (Nat.le_refl _) _
  go_enter Tryz.func48, Tryz.ntmps48
  go_wp2_with fail
  generalize w.alloc (.cells #[.bool false, .slice none 0 0, .slice none 0 0] 29) = W at hblk hga ⊢
  have c0 := heap_cell hblk 0
  have c1 := heap_cell hblk 1
  have c2 := heap_cell hblk 2
  have f0 := heap_free hblk 0
  have f1 := heap_free hblk 1
  have f2 := heap_free hblk 2
  have HGA := Lib.hid hga
  clear hga hblk
  go_wp2_with (go_at_call 113; first | ((with_reducible refine (HRa.out _).mono ?_); rintro ev w1 ⟨rfl, rfl⟩) | ((with_reducible refine (HRb.out _).mono ?_); rintro ev w1 ⟨rfl, rfl⟩))
  (try simp only [Exit.inBlock, Exit.then])
  have HE := Lib.hid (three_set W w.heap.size (.bool false) (.slice none 0 0) (.slice none 0 0) _ _ _ c0 c1 c2 (fun n h => by cases h) (fun n h => by cases h) (fun n h => by cases h))
  refine bodyPost_ret (ret_part _ _ _ _ HE.out.1 _ rfl rfl) rfl ?_
  exact ⟨rfl, HE.out.2.2 w HGA.out (Nat.le_refl _)⟩
set_option maxRecDepth 100000 in
set_option maxHeartbeats 8000000 in
theorem rpart_ab (k a b s t f : Int) (hk0 : 1 ≤ k) (hk1 : k ≤ 3) (ha : okD a = true) (hb : okD b = true) (hab : b < a) (w : World) : Calls Tryz.prog 48 #[.int .i64 k, .int .i64 a, .int .i64 b, .int .i64 s, .int .i64 t, .int .i64 f] w fun e w' => e = .returned (.tuple #[QZ, .int .i64 4]) ∧ Gr w w' := by
  unfold QZ
  have hra := fun w => refIs_calls a w
  rw [show decide (0 ≤ a ∧ a ≤ 109572) = true from ha] at hra
  have HRa := Lib.hid hra
  clear hra ha
  have hrb := fun w => refIs_calls b w
  rw [show decide (0 ≤ b ∧ b ≤ 109572) = true from hb] at hrb
  have HRb := Lib.hid hrb
  clear hrb hb
  have b01 : decide (k < 1) = false := decide_eq_false (by omega)
  have b02 : decide (4 < k) = false := decide_eq_false (by omega)
  have e4 : (k == 4) = false := by
    rw [beq_eq_false_iff_ne]; omega
  have bab : decide (b < a) = true := decide_eq_true hab
  clear hk0 hk1 hab
  have hblk := heap_alloc_new w (.cells #[.bool false, .slice none 0 0, .slice none 0 0] 29)
  have hga : Gr w (w.alloc (.cells #[.bool false, .slice none 0 0, .slice none 0 0] 29)) := (Gr.rf w).alloc (Nat.le_refl _) _
  go_enter Tryz.func48, Tryz.ntmps48
  go_wp2_with fail
  generalize w.alloc (.cells #[.bool false, .slice none 0 0, .slice none 0 0] 29) = W at hblk hga ⊢
  have c0 := heap_cell hblk 0
  have c1 := heap_cell hblk 1
  have c2 := heap_cell hblk 2
  have f0 := heap_free hblk 0
  have f1 := heap_free hblk 1
  have f2 := heap_free hblk 2
  have HGA := Lib.hid hga
  clear hga hblk
  go_wp2_with (go_at_call 113; first | ((with_reducible refine (HRa.out _).mono ?_); rintro ev w1 ⟨rfl, rfl⟩) | ((with_reducible refine (HRb.out _).mono ?_); rintro ev w1 ⟨rfl, rfl⟩))
  (try simp only [Exit.inBlock, Exit.then])
  have HE := Lib.hid (three_set W w.heap.size (.bool false) (.slice none 0 0) (.slice none 0 0) _ _ _ c0 c1 c2 (fun n h => by cases h) (fun n h => by cases h) (fun n h => by cases h))
  refine bodyPost_ret (ret_part _ _ _ _ HE.out.1 _ rfl rfl) rfl ?_
  exact ⟨rfl, HE.out.2.2 w HGA.out (Nat.le_refl _)⟩
set_option maxRecDepth 100000 in
set_option maxHeartbeats 8000000 in
theorem rpart_s (k a b s t f : Int) (ha : okD a = true) (hb : okD b = true) (hs : okD s = false) (w : World) : Calls Tryz.prog 48 #[.int .i64 4, .int .i64 a, .int .i64 b, .int .i64 s, .int .i64 t, .int .i64 f] w fun e w' => e = .returned (.tuple #[QZ, .int .i64 4]) ∧ Gr w w' := by
  unfold QZ
  have hra := fun w => refIs_calls a w
  rw [show decide (0 ≤ a ∧ a ≤ 109572) = true from ha] at hra
  have HRa := Lib.hid hra
  clear hra ha
  have hrb := fun w => refIs_calls b w
  rw [show decide (0 ≤ b ∧ b ≤ 109572) = true from hb] at hrb
  have HRb := Lib.hid hrb
  clear hrb hb
  have hrs := fun w => refIs_calls s w
  rw [show decide (0 ≤ s ∧ s ≤ 109572) = false from hs] at hrs
  have HRs := Lib.hid hrs
  clear hrs hs
  have hblk := heap_alloc_new w (.cells #[.bool false, .slice none 0 0, .slice none 0 0] 29)
  have hga : Gr w (w.alloc (.cells #[.bool false, .slice none 0 0, .slice none 0 0] 29)) := (Gr.rf w).alloc (Nat.le_refl _) _
  go_enter Tryz.func48, Tryz.ntmps48
  go_wp2_with fail
  generalize w.alloc (.cells #[.bool false, .slice none 0 0, .slice none 0 0] 29) = W at hblk hga ⊢
  have c0 := heap_cell hblk 0
  have c1 := heap_cell hblk 1
  have c2 := heap_cell hblk 2
  have f0 := heap_free hblk 0
  have f1 := heap_free hblk 1
  have f2 := heap_free hblk 2
  have HGA := Lib.hid hga
  clear hga hblk
  go_wp2_with (go_at_call 113; first | ((with_reducible refine (HRa.out _).mono ?_); rintro ev w1 ⟨rfl, rfl⟩) | ((with_reducible refine (HRb.out _).mono ?_); rintro ev w1 ⟨rfl, rfl⟩) | ((with_reducible refine (HRs.out _).mono ?_); rintro ev w1 ⟨rfl, rfl⟩))
  (try simp only [Exit.inBlock, Exit.then])
  have HE := Lib.hid (three_set W w.heap.size (.bool false) (.slice none 0 0) (.slice none 0 0) _ _ _ c0 c1 c2 (fun n h => by cases h) (fun n h => by cases h) (fun n h => by cases h))
  refine bodyPost_ret (ret_part _ _ _ _ HE.out.1 _ rfl rfl) rfl ?_
  exact ⟨rfl, HE.out.2.2 w HGA.out (Nat.le_refl _)⟩
set_option maxRecDepth 100000 in
set_option maxHeartbeats 8000000 in
theorem rpart_t (k a b s t f : Int) (ha : okD a = true) (hb : okD b = true) (hs : okD s = true) (ht : okD t = false) (w : World) : Calls Tryz.prog 48 #[.int .i64 4, .int .i64 a, .int .i64 b, .int .i64 s, .int .i64 t, .int .i64 f] w fun e w' => e = .returned (.tuple #[QZ, .int .i64 4]) ∧ Gr w w' := by
  unfold QZ
  have hra := fun w => refIs_calls a w
  rw [show decide (0 ≤ a ∧ a ≤ 109572) = true from ha] at hra
  have HRa := Lib.hid hra
  clear hra ha
  have hrb := fun w => refIs_calls b w
  rw [show decide (0 ≤ b ∧ b ≤ 109572) = true from hb] at hrb
  have HRb := Lib.hid hrb
  clear hrb hb
  have hrs := fun w => refIs_calls s w
  rw [show decide (0 ≤ s ∧ s ≤ 109572) = true from hs] at hrs
  have HRs := Lib.hid hrs
  clear hrs hs
  have hrt := fun w => refIs_calls t w
  rw [show decide (0 ≤ t ∧ t ≤ 109572) = false from ht] at hrt
  have HRt := Lib.hid hrt
  clear hrt ht
  have hblk := heap_alloc_new w (.cells #[.bool false, .slice none 0 0, .slice none 0 0] 29)
  have hga : Gr w (w.alloc (.cells #[.bool false, .slice none 0 0, .slice none 0 0] 29)) := (Gr.rf w).alloc (Nat.le_refl _) _
  go_enter Tryz.func48, Tryz.ntmps48
  go_wp2_with fail
  generalize w.alloc (.cells #[.bool false, .slice none 0 0, .slice none 0 0] 29) = W at hblk hga ⊢
  have c0 := heap_cell hblk 0
  have c1 := heap_cell hblk 1
  have c2 := heap_cell hblk 2
  have f0 := heap_free hblk 0
  have f1 := heap_free hblk 1
  have f2 := heap_free hblk 2
  have HGA := Lib.hid hga
  clear hga hblk
  go_wp2_with (go_at_call 113; first | ((with_reducible refine (HRa.out _).mono ?_); rintro ev w1 ⟨rfl, rfl⟩) | ((with_reducible refine (HRb.out _).mono ?_); rintro ev w1 ⟨rfl, rfl⟩) | ((with_reducible refine (HRs.out _).mono ?_); rintro ev w1 ⟨rfl, rfl⟩) | ((with_reducible refine (HRt.out _).mono ?_); rintro ev w1 ⟨rfl, rfl⟩))
  (try simp only [Exit.inBlock, Exit.then])
  have HE := Lib.hid (three_set W w.heap.size (.bool false) (.slice none 0 0) (.slice none 0 0) _ _ _ c0 c1 c2 (fun n h => by cases h) (fun n h => by cases h) (fun n h => by cases h))
  refine bodyPost_ret (ret_part _ _ _ _ HE.out.1 _ rfl rfl) rfl ?_
  exact ⟨rfl, HE.out.2.2 w HGA.out (Nat.le_refl _)⟩
set_option maxRecDepth 100000 in
set_option maxHeartbeats 8000000 in
theorem rpart_4ab (k a b s t f : Int) (ha : okD a = true) (hb : okD b = true) (hs : okD s = true) (ht : okD t = true) (hab : b < a) (w : World) : Calls Tryz.prog 48 #[.int .i64 4, .int .i64 a, .int .i64 b, .int .i64 s, .int .i64 t, .int .i64 f] w fun e w' => e = .returned (.tuple #[QZ, .int .i64 4]) ∧ Gr w w' := by
  unfold QZ
  have hra := fun w => refIs_calls a w
  rw [show decide (0 ≤ a ∧ a ≤ 109572) = true from ha] at hra
  have HRa := Lib.hid hra
  clear hra ha
  have hrb := fun w => refIs_calls b w
  rw [show decide (0 ≤ b ∧ b ≤ 109572) = true from hb] at hrb
  have HRb := Lib.hid hrb
  clear hrb hb
  have hrs := fun w => refIs_calls s w
  rw [show decide (0 ≤ s ∧ s ≤ 109572) = true from hs] at hrs
  have HRs := Lib.hid hrs
  clear hrs hs
  have hrt := fun w => refIs_calls t w
  rw [show decide (0 ≤ t ∧ t ≤ 109572) = true from ht] at hrt
  have HRt := Lib.hid hrt
  clear hrt ht
  have bab : decide (b < a) = true := decide_eq_true hab
  clear hab
  have hblk := heap_alloc_new w (.cells #[.bool false, .slice none 0 0, .slice none 0 0] 29)
  have hga : Gr w (w.alloc (.cells #[.bool false, .slice none 0 0, .slice none 0 0] 29)) := (Gr.rf w).alloc (Nat.le_refl _) _
  go_enter Tryz.func48, Tryz.ntmps48
  go_wp2_with fail
  generalize w.alloc (.cells #[.bool false, .slice none 0 0, .slice none 0 0] 29) = W at hblk hga ⊢
  have c0 := heap_cell hblk 0
  have c1 := heap_cell hblk 1
  have c2 := heap_cell hblk 2
  have f0 := heap_free hblk 0
  have f1 := heap_free hblk 1
  have f2 := heap_free hblk 2
  have HGA := Lib.hid hga
  clear hga hblk
  go_wp2_with (go_at_call 113; first | ((with_reducible refine (HRa.out _).mono ?_); rintro ev w1 ⟨rfl, rfl⟩) | ((with_reducible refine (HRb.out _).mono ?_); rintro ev w1 ⟨rfl, rfl⟩) | ((with_reducible refine (HRs.out _).mono ?_); rintro ev w1 ⟨rfl, rfl⟩) | ((with_reducible refine (HRt.out _).mono ?_); rintro ev w1 ⟨rfl, rfl⟩))
  (try simp only [Exit.inBlock, Exit.then])
  have HE := Lib.hid (three_set W w.heap.size (.bool false) (.slice none 0 0) (.slice none 0 0) _ _ _ c0 c1 c2 (fun n h => by cases h) (fun n h => by cases h) (fun n h => by cases h))
  refine bodyPost_ret (ret_part _ _ _ _ HE.out.1 _ rfl rfl) rfl ?_
  exact ⟨rfl, HE.out.2.2 w HGA.out (Nat.le_refl _)⟩
set_option maxRecDepth 100000 in
set_option maxHeartbeats 8000000 in
theorem rpart_st (k a b s t f : Int) (ha : okD a = true) (hb : okD b = true) (hs : okD s = true) (ht : okD t = true) (hab : a ≤ b) (hst : t ≤ s) (w : World) : Calls Tryz.prog 48 #[.int .i64 4, .int .i64 a, .int .i64 b, .int .i64 s, .int .i64 t, .int .i64 f] w fun e w' => e = .returned (.tuple #[QZ, .int .i64 2]) ∧ Gr w w' := by
  unfold QZ
  have hra := fun w => refIs_calls a w
  rw [show decide (0 ≤ a ∧ a ≤ 109572) = true from ha] at hra
  have HRa := Lib.hid hra
  clear hra ha
  have hrb := fun w => refIs_calls b w
  rw [show decide (0 ≤ b ∧ b ≤ 109572) = true from hb] at hrb
  have HRb := Lib.hid hrb
  clear hrb hb
  have hrs := fun w => refIs_calls s w
  rw [show decide (0 ≤ s ∧ s ≤ 109572) = true from hs] at hrs
  have HRs := Lib.hid hrs
  clear hrs hs
  have hrt := fun w => refIs_calls t w
  rw [show decide (0 ≤ t ∧ t ≤ 109572) = true from ht] at hrt
  have HRt := Lib.hid hrt
  clear hrt ht
  have bab : decide (b < a) = false := decide_eq_false (by omega)
  clear hab
  have bst : decide (t ≤ s) = true := decide_eq_true hst
  clear hst
  have hblk := heap_alloc_new w (.cells #[.bool false, .slice none 0 0, .slice none 0 0] 29)
  have hga : Gr w (w.alloc (.cells #[.bool false, .slice none 0 0, .slice none 0 0] 29)) := (Gr.rf w).alloc (Nat.le_refl _) _
  go_enter Tryz.func48, Tryz.ntmps48
  go_wp2_with fail
  generalize w.alloc (.cells #[.bool false, .slice none 0 0, .slice none 0 0] 29) = W at hblk hga ⊢
  have c0 := heap_cell hblk 0
  have c1 := heap_cell hblk 1
  have c2 := heap_cell hblk 2
  have f0 := heap_free hblk 0
  have f1 := heap_free hblk 1
  have f2 := heap_free hblk 2
  have HGA := Lib.hid hga
  clear hga hblk
  go_wp2_with (go_at_call 113; first | ((with_reducible refine (HRa.out _).mono ?_); rintro ev w1 ⟨rfl, rfl⟩) | ((with_reducible refine (HRb.out _).mono ?_); rintro ev w1 ⟨rfl, rfl⟩) | ((with_reducible refine (HRs.out _).mono ?_); rintro ev w1 ⟨rfl, rfl⟩) | ((with_reducible refine (HRt.out _).mono ?_); rintro ev w1 ⟨rfl, rfl⟩))
  (try simp only [Exit.inBlock, Exit.then])
  have HE := Lib.hid (three_set W w.heap.size (.bool false) (.slice none 0 0) (.slice none 0 0) _ _ _ c0 c1 c2 (fun n h => by cases h) (fun n h => by cases h) (fun n h => by cases h))
  refine bodyPost_ret (ret_part _ _ _ _ HE.out.1 _ rfl rfl) rfl ?_
  exact ⟨rfl, HE.out.2.2 w HGA.out (Nat.le_refl _)⟩
set_option maxRecDepth 100000 in
set_option maxHeartbeats 8000000 in
theorem rpart_f (k a b s t f : Int) (ha : okD a = true) (hb : okD b = true) (hs : okD s = true) (ht : okD t = true) (hab : a ≤ b) (hst : s < t) (hf : f < 1) (w : World) : Calls Tryz.prog 48 #[.int .i64 4, .int .i64 a, .int .i64 b, .int .i64 s, .int .i64 t, .int .i64 f] w fun e w' => e = .returned (.tuple #[QZ, .int .i64 2]) ∧ Gr w w' := by
  unfold QZ
  have hra := fun w => refIs_calls a w
  rw [show decide (0 ≤ a ∧ a ≤ 109572) = true from ha] at hra
  have HRa := Lib.hid hra
  clear hra ha
  have hrb := fun w => refIs_calls b w
  rw [show decide (0 ≤ b ∧ b ≤ 109572) = true from hb] at hrb
  have HRb := Lib.hid hrb
  clear hrb hb
  have hrs := fun w => refIs_calls s w
  rw [show decide (0 ≤ s ∧ s ≤ 109572) = true from hs] at hrs
  have HRs := Lib.hid hrs
  clear hrs hs
  have hrt := fun w => refIs_calls t w
  rw [show decide (0 ≤ t ∧ t ≤ 109572) = true from ht] at hrt
  have HRt := Lib.hid hrt
  clear hrt ht
  have bab : decide (b < a) = false := decide_eq_false (by omega)
  clear hab
  have bst : decide (t ≤ s) = false := decide_eq_false (by omega)
  have bf : decide (f < 1) = true := decide_eq_true hf
  clear hst hf
  have hblk := heap_alloc_new w (.cells #[.bool false, .slice none 0 0, .slice none 0 0] 29)
  have hga : Gr w (w.alloc (.cells #[.bool false, .slice none 0 0, .slice none 0 0] 29)) := (Gr.rf w).alloc (Nat.le_refl _) _
  go_enter Tryz.func48, Tryz.ntmps48
  go_wp2_with fail
  generalize w.alloc (.cells #[.bool false, .slice none 0 0, .slice none 0 0] 29) = W at hblk hga ⊢
  have c0 := heap_cell hblk 0
  have c1 := heap_cell hblk 1
  have c2 := heap_cell hblk 2
  have f0 := heap_free hblk 0
  have f1 := heap_free hblk 1
  have f2 := heap_free hblk 2
  have HGA := Lib.hid hga
  clear hga hblk
  go_wp2_with (go_at_call 113; first | ((with_reducible refine (HRa.out _).mono ?_); rintro ev w1 ⟨rfl, rfl⟩) | ((with_reducible refine (HRb.out _).mono ?_); rintro ev w1 ⟨rfl, rfl⟩) | ((with_reducible refine (HRs.out _).mono ?_); rintro ev w1 ⟨rfl, rfl⟩) | ((with_reducible refine (HRt.out _).mono ?_); rintro ev w1 ⟨rfl, rfl⟩))
  (try simp only [Exit.inBlock, Exit.then])
  have HE := Lib.hid (three_set W w.heap.size (.bool false) (.slice none 0 0) (.slice none 0 0) _ _ _ c0 c1 c2 (fun n h => by cases h) (fun n h => by cases h) (fun n h => by cases h))
  refine bodyPost_ret (ret_part _ _ _ _ HE.out.1 _ rfl rfl) rfl ?_
  exact ⟨rfl, HE.out.2.2 w HGA.out (Nat.le_refl _)⟩
set_option maxRecDepth 100000 in
set_option maxHeartbeats 8000000 in
theorem rpart_k3 (a b s t f : Int) (ha : okD a = true) (hb : okD b = true) (hab : a ≤ b) (w : World) : Calls Tryz.prog 48 #[.int .i64 3, .int .i64 a, .int .i64 b, .int .i64 s, .int .i64 t, .int .i64 f] w (QIs (b - a) (365) w) := by
  have a0 := (okD_t ha).1
  have a1 := (okD_t ha).2
  have b0 := (okD_t hb).1
  have b1 := (okD_t hb).2
  have hra := fun w => refIs_calls a w
  rw [show decide (0 ≤ a ∧ a ≤ 109572) = true from ha] at hra
  have HRa := Lib.hid hra
  clear hra ha
  have hrb := fun w => refIs_calls b w
  rw [show decide (0 ≤ b ∧ b ≤ 109572) = true from hb] at hrb
  have HRb := Lib.hid hrb
  clear hrb hb
  have HFR := Lib.hid (fun w => rFrac_calls (b - a) (365) (by omega) (by omega) (by omega) (by omega) w)
  have bab : decide (b < a) = false := decide_eq_false (by omega)
  clear hab
  have hblk := heap_alloc_new w (.cells #[.bool false, .slice none 0 0, .slice none 0 0] 29)
  have hga : Gr w (w.alloc (.cells #[.bool false, .slice none 0 0, .slice none 0 0] 29)) := (Gr.rf w).alloc (Nat.le_refl _) _
  go_enter Tryz.func48, Tryz.ntmps48
  go_wp2_with fail
  generalize w.alloc (.cells #[.bool false, .slice none 0 0, .slice none 0 0] 29) = W at hblk hga ⊢
  have HBK := Lib.hid hblk
  have HGA := Lib.hid hga
  clear hga hblk
  go_wp2_with (go_at_call 113; first | ((with_reducible refine (HRa.out _).mono ?_); rintro ev w1 ⟨rfl, rfl⟩) | ((with_reducible refine (HRb.out _).mono ?_); rintro ev w1 ⟨rfl, rfl⟩))
  refine (HFR.out _).mono ?_
  rintro ev w1 ⟨⟨sb, va, vb, rfl, hsb, hva, hvb⟩, hg1⟩
  have hblk := (hg1).heap HBK.out
  have HG1 := Lib.hid hg1
  have HSB := Lib.hid hsb
  have HVA := Lib.hid hva
  have HVB := Lib.hid hvb
  obtain ⟨xa, ca, rfl⟩ := rn_len hva
  obtain ⟨xb, cb, rfl⟩ := rn_len hvb
  generalize (Dg.digs (Int.natAbs (b - a))).length = la at *
  generalize (Dg.digs (Int.natAbs (365))).length = lb at *
  have c0 := heap_cell hblk 0
  have c1 := heap_cell hblk 1
  have c2 := heap_cell hblk 2
  have f0 := heap_free hblk 0
  have f1 := heap_free hblk 1
  have f2 := heap_free hblk 2
  clear hg1 hsb hva hvb hblk
  go_wp2
  (try simp only [Exit.inBlock, Exit.then])
  have HE := Lib.hid (three_set w1 w.heap.size (.bool sb) (.slice xa la ca) (.slice xb lb cb) _ _ _ c0 c1 c2 (fun n h => by cases h) (fun n h => by cases h) (fun n h => by cases h))
  refine bodyPost_ret (ret_part _ _ _ _ HE.out.1 _ rfl rfl) rfl ?_
  exact ⟨⟨_, _, _, rfl, HSB.out, show RN _ _ _ from HE.out.2.1 _ _ HVA.out, show RN _ _ _ from HE.out.2.1 _ _ HVB.out⟩, HE.out.2.2 w (HGA.out.tr (HG1.out)) (Nat.le_refl _)⟩
set_option maxRecDepth 100000 in
set_option maxHeartbeats 8000000 in
theorem rpart_k4 (a b s t f : Int) (ha : okD a = true) (hb : okD b = true) (hs : okD s = true) (ht : okD t = true) (hab : a ≤ b) (hst : s < t) (hf : 1 ≤ f) (hf1 : f ≤ 1000) (w : World) : Calls Tryz.prog 48 #[.int .i64 4, .int .i64 a, .int .i64 b, .int .i64 s, .int .i64 t, .int .i64 f] w (QIs (b - a) (f * (t - s)) w) := by
  have a0 := (okD_t ha).1
  have a1 := (okD_t ha).2
  have b0 := (okD_t hb).1
  have b1 := (okD_t hb).2
  have s0 := (okD_t hs).1
  have s1 := (okD_t hs).2
  have t0 := (okD_t ht).1
  have t1 := (okD_t ht).2
  have hra := fun w => refIs_calls a w
  rw [show decide (0 ≤ a ∧ a ≤ 109572) = true from ha] at hra
  have HRa := Lib.hid hra
  clear hra ha
  have hrb := fun w => refIs_calls b w
  rw [show decide (0 ≤ b ∧ b ≤ 109572) = true from hb] at hrb
  have HRb := Lib.hid hrb
  clear hrb hb
  have hrs := fun w => refIs_calls s w
  rw [show decide (0 ≤ s ∧ s ≤ 109572) = true from hs] at hrs
  have HRs := Lib.hid hrs
  clear hrs hs
  have hrt := fun w => refIs_calls t w
  rw [show decide (0 ≤ t ∧ t ≤ 109572) = true from ht] at hrt
  have HRt := Lib.hid hrt
  clear hrt ht
  have hm : 0 ≤ f * (t - s) ∧ f * (t - s) ≤ 1000 * 109572 := ⟨Int.mul_nonneg (by omega) (by omega), Int.mul_le_mul hf1 (by omega) (by omega) (by omega)⟩
  have HFR := Lib.hid (fun w => rFrac_calls (b - a) (f * (t - s)) (by omega) (by omega) (by omega) (by omega) w)
  have bab : decide (b < a) = false := decide_eq_false (by omega)
  clear hab
  have bst : decide (t ≤ s) = false := decide_eq_false (by omega)
  have bf : decide (f < 1) = false := decide_eq_false (by omega)
  have hm0 := hm.1
  have hm1 := hm.2
  clear hm
  have hblk := heap_alloc_new w (.cells #[.bool false, .slice none 0 0, .slice none 0 0] 29)
  have hga : Gr w (w.alloc (.cells #[.bool false, .slice none 0 0, .slice none 0 0] 29)) := (Gr.rf w).alloc (Nat.le_refl _) _
  go_enter Tryz.func48, Tryz.ntmps48
  go_wp2_with fail
  generalize w.alloc (.cells #[.bool false, .slice none 0 0, .slice none 0 0] 29) = W at hblk hga ⊢
  have HBK := Lib.hid hblk
  have HGA := Lib.hid hga
  clear hga hblk
  go_wp2_with (go_at_call 113; first | ((with_reducible refine (HRa.out _).mono ?_); rintro ev w1 ⟨rfl, rfl⟩) | ((with_reducible refine (HRb.out _).mono ?_); rintro ev w1 ⟨rfl, rfl⟩) | ((with_reducible refine (HRs.out _).mono ?_); rintro ev w1 ⟨rfl, rfl⟩) | ((with_reducible refine (HRt.out _).mono ?_); rintro ev w1 ⟨rfl, rfl⟩))
  refine (HFR.out _).mono ?_
  rintro ev w1 ⟨⟨sb, va, vb, rfl, hsb, hva, hvb⟩, hg1⟩
  have hblk := (hg1).heap HBK.out
  have HG1 := Lib.hid hg1
  have HSB := Lib.hid hsb
  have HVA := Lib.hid hva
  have HVB := Lib.hid hvb
  obtain ⟨xa, ca, rfl⟩ := rn_len hva
  obtain ⟨xb, cb, rfl⟩ := rn_len hvb
  generalize (Dg.digs (Int.natAbs (b - a))).length = la at *
  generalize (Dg.digs (Int.natAbs (f * (t - s)))).length = lb at *
  have c0 := heap_cell hblk 0
  have c1 := heap_cell hblk 1
  have c2 := heap_cell hblk 2
  have f0 := heap_free hblk 0
  have f1 := heap_free hblk 1
  have f2 := heap_free hblk 2
  clear hg1 hsb hva hvb hblk
  go_wp2
  (try simp only [Exit.inBlock, Exit.then])
  have HE := Lib.hid (three_set w1 w.heap.size (.bool sb) (.slice xa la ca) (.slice xb lb cb) _ _ _ c0 c1 c2 (fun n h => by cases h) (fun n h => by cases h) (fun n h => by cases h))
  refine bodyPost_ret (ret_part _ _ _ _ HE.out.1 _ rfl rfl) rfl ?_
  exact ⟨⟨_, _, _, rfl, HSB.out, show RN _ _ _ from HE.out.2.1 _ _ HVA.out, show RN _ _ _ from HE.out.2.1 _ _ HVB.out⟩, HE.out.2.2 w (HGA.out.tr (HG1.out)) (Nat.le_refl _)⟩
set_option maxRecDepth 100000 in
set_option maxHeartbeats 8000000 in
theorem rpart_k12 (a b s t f D : Int) (k : Int) (hk : k = 1 ∨ k = 2) (ha : okD a = true) (hb : okD b = true) (hab : a ≤ b) (hd0 : -200000 ≤ D) (hd1 : D ≤ 200000) (hD : ∀ w, Calls Tryz.prog 51 #[.int .i64 k, .int .i64 a, .int .i64 b] w fun e w' => e = .returned (.int .i64 D) ∧ Gr w w') (w : World) : Calls Tryz.prog 48 #[.int .i64 k, .int .i64 a, .int .i64 b, .int .i64 s, .int .i64 t, .int .i64 f] w (QIs (D) (360) w) := by
  have a0 := (okD_t ha).1
  have a1 := (okD_t ha).2
  have b0 := (okD_t hb).1
  have b1 := (okD_t hb).2
  have hra := fun w => refIs_calls a w
  rw [show decide (0 ≤ a ∧ a ≤ 109572) = true from ha] at hra
  have HRa := Lib.hid hra
  clear hra ha
  have hrb := fun w => refIs_calls b w
  rw [show decide (0 ≤ b ∧ b ≤ 109572) = true from hb] at hrb
  have HRb := Lib.hid hrb
  clear hrb hb
  have HFR := Lib.hid (fun w => rFrac_calls (D) (360) (by omega) (by omega) (by omega) (by omega) w)
  have bab : decide (b < a) = false := decide_eq_false (by omega)
  clear hab
  have HDY := Lib.hid hD
  have e4 : (k == 4) = false := by
    rw [beq_eq_false_iff_ne]; omega
  have e3 : (k == 3) = false := by
    rw [beq_eq_false_iff_ne]; omega
  have b01 : decide (k < 1) = false := decide_eq_false (by omega)
  have b02 : decide (4 < k) = false := decide_eq_false (by omega)
  clear hk hD
  have hblk := heap_alloc_new w (.cells #[.bool false, .slice none 0 0, .slice none 0 0] 29)
  have hga : Gr w (w.alloc (.cells #[.bool false, .slice none 0 0, .slice none 0 0] 29)) := (Gr.rf w).alloc (Nat.le_refl _) _
  go_enter Tryz.func48, Tryz.ntmps48
  go_wp2_with fail
  generalize w.alloc (.cells #[.bool false, .slice none 0 0, .slice none 0 0] 29) = W at hblk hga ⊢
  have HBK := Lib.hid hblk
  have HGA := Lib.hid hga
  clear hga hblk
  go_wp2_with (go_at_call 113; first | ((with_reducible refine (HRa.out _).mono ?_); rintro ev w1 ⟨rfl, rfl⟩) | ((with_reducible refine (HRb.out _).mono ?_); rintro ev w1 ⟨rfl, rfl⟩))
  refine (HDY.out _).mono ?_
  rintro ev wd ⟨rfl, hgd⟩
  have HGD := Lib.hid hgd
  clear hgd
  go_wp2_with fail
  refine (HFR.out _).mono ?_
  rintro ev w1 ⟨⟨sb, va, vb, rfl, hsb, hva, hvb⟩, hg1⟩
  have hblk := (HGD.out.tr hg1).heap HBK.out
  have HG1 := Lib.hid hg1
  have HSB := Lib.hid hsb
  have HVA := Lib.hid hva
  have HVB := Lib.hid hvb
  obtain ⟨xa, ca, rfl⟩ := rn_len hva
  obtain ⟨xb, cb, rfl⟩ := rn_len hvb
  generalize (Dg.digs (Int.natAbs (D))).length = la at *
  generalize (Dg.digs (Int.natAbs (360))).length = lb at *
  have c0 := heap_cell hblk 0
  have c1 := heap_cell hblk 1
  have c2 := heap_cell hblk 2
  have f0 := heap_free hblk 0
  have f1 := heap_free hblk 1
  have f2 := heap_free hblk 2
  clear hg1 hsb hva hvb hblk
  go_wp2
  (try simp only [Exit.inBlock, Exit.then])
  have HE := Lib.hid (three_set w1 w.heap.size (.bool sb) (.slice xa la ca) (.slice xb lb cb) _ _ _ c0 c1 c2 (fun n h => by cases h) (fun n h => by cases h) (fun n h => by cases h))
  refine bodyPost_ret (ret_part _ _ _ _ HE.out.1 _ rfl rfl) rfl ?_
  exact ⟨⟨_, _, _, rfl, HSB.out, show RN _ _ _ from HE.out.2.1 _ _ HVA.out, show RN _ _ _ from HE.out.2.1 _ _ HVB.out⟩, HE.out.2.2 w (HGA.out.tr (HGD.out.tr HG1.out)) (Nat.le_refl _)⟩
end Go.Proofs.YtcjjgdoafkdeaaaGreatDoor
