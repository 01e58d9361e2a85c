/- Layer 6: month by contract. -/
import Derived.Test.YtcjjgdoafkdeaaaGreatDoorHb
import Derived.Test.YtcjjgdoafkdeaaaGreatDoorHa
import Derived.Deep.RegionHeld3
namespace Go.Proofs.YtcjjgdoafkdeaaaGreatDoor
open Go.RowKit Go.Extern.Stop Go.Stop Go.Extern
set_option linter.unusedVariables false
set_option linter.unusedSimpArgs false

set_option maxRecDepth 100000 in
/-- month.End. -/
theorem end_calls (y m : Int) (h0 : 0 ≤ y) (h1 : y ≤ 1000000) (w : World) :
    Calls Tryz.prog 152 #[.int .i64 y, .int .i64 m] w fun e w' => e = .returned (.tuple #[.int .i64 (ofD y m (lenM y m)), ofE y m (lenM y m)]) ∧ Gr w w' := by
  have HL := Lib.hid (fun w => length_calls y m h0 h1 w)
  have HO := Lib.hid (fun w => day_of_calls y m (lenM y m) w)
  have hb := lenM_bd y m
  generalize ofD y m (lenM y m) = D at HO ⊢
  generalize ofE y m (lenM y m) = E at HO ⊢
  generalize lenM y m = L at HL HO hb
  go_enter Tryz.func152, Tryz.ntmps152
  go_wp2_with (first | (go_at_call 149; (with_reducible refine (HL.out _).mono ?_); rintro ev w1 ⟨rfl, rfl⟩) | (go_at_call 98; (refine (HO.out _).mono ?_); rintro ev w2 ⟨rfl, hg2⟩))
  go_ret2
  exact ⟨rfl, hg2⟩

set_option maxRecDepth 100000 in
/-- month.Last. -/
theorem last_calls (d y m k : Int) (h : IsDay d y m k) (w : World) : Calls Tryz.prog 110 #[.int .i64 d] w fun e w' => e = .returned (.bool (decide (k = lenM y m))) ∧ Gr w w' := by
  have HC := Lib.hid (fun w => civil_calls d y m k h w)
  have HL := Lib.hid (fun w => length_calls y m (by have := h.1; omega) (by have := h.2.1; omega) w)
  clear h
  generalize lenM y m = L at HL ⊢
  by_cases hk : k = L
  · rw [decide_eq_true hk]
    have b : (k == L) = true := beq_iff_eq.2 hk
    clear hk
    go_enter Tryz.func110, Tryz.ntmps110
    go_wp2_with (go_at_call 99; (refine (HC.out _).mono ?_); rintro ev w1 ⟨rfl, hg1⟩)
    have hga := Lib.hid (hg1.tr ((Gr.rf w1).alloc (Nat.le_refl _) (.cells #[.int .i64 y, .int .i64 m, .int .i64 k] 131)))
    go_quiet ((go_at_call 149; exact qsame HL.out))
    go_wp2
    go_ret
    exact ⟨rfl, grDrew hga.out _⟩
  · rw [decide_eq_false hk]
    have b : (k == L) = false := beq_eq_false_iff_ne.2 hk
    clear hk
    go_enter Tryz.func110, Tryz.ntmps110
    go_wp2_with (go_at_call 99; (refine (HC.out _).mono ?_); rintro ev w1 ⟨rfl, hg1⟩)
    have hga := Lib.hid (hg1.tr ((Gr.rf w1).alloc (Nat.le_refl _) (.cells #[.int .i64 y, .int .i64 m, .int .i64 k] 131)))
    go_quiet ((go_at_call 149; exact qsame HL.out))
    go_wp2
    go_ret
    exact ⟨rfl, grDrew hga.out _⟩

theorem minI (a b : Int) : min a b = if b < a then b else a := by
  by_cases h : b < a
  · rw [if_pos h]; omega
  · rw [if_neg h]; omega
theorem cells_lt {w : World} {b : Nat} {cs : Array Value} {t : TypeId} {f : Nat × Nat} (h : w.heap[b]? = some (.cells cs t f)) : b < w.heap.size := by
  rcases Nat.lt_or_ge b w.heap.size with h1 | h1
  · exact h1
  · rw [Array.getElem?_eq_none h1] at h; cases h
theorem grOneL {w w' : World} (h : Gr w.drew w') : Gr w w' := ⟨h.os, h.tape, h.output, h.size, h.block⟩
theorem monY_eq (y m k : Int) : monY y m k = (y * 12 + m - 1 + k) / 12 := by unfold monY; congr 1; omega
theorem monM_eq (y m k : Int) : monM y m k = (y * 12 + m - 1 + k) % 12 + 1 := by unfold monM; congr 2; omega
theorem monY_bd (y m k : Int) (h0 : 1900 ≤ y) (h1 : y ≤ 2199) (h2 : 1 ≤ m) (h3 : m ≤ 12) (h4 : -3600 ≤ k) (h5 : k ≤ 3600) : 1500 ≤ monY y m k ∧ monY y m k ≤ 2600 := by unfold monY; omega
set_option maxRecDepth 100000 in
set_option maxHeartbeats 1000000 in
/-- month.Add, the day kept at its month's end. -/
theorem madd_end (d y m q k : Int) (h : IsDay d y m q) (hk : -3600 ≤ k) (hk' : k ≤ 3600) (hq : q = lenM y m) (w : World) :
    Calls Tryz.prog 100 #[.int .i64 d, .int .i64 k, .bool true] w fun e w' => e = .returned (.tuple #[.int .i64 (ofD (monY y m k) (monM y m k) (monD y m q k true)), ofE (monY y m k) (monM y m k) (monD y m q k true)]) ∧ Gr w w' := by
  have hyb := monY_bd y m k h.1 h.2.1 h.2.2.1 h.2.2.2.1 hk hk'
  have HC := Lib.hid (fun w => civil_calls d y m q h w)
  have hl := fun w => last_calls d y m q h w
  rw [decide_eq_true hq] at hl
  have HLA := Lib.hid hl
  have he := fun w => end_calls (monY y m k) (monM y m k) (by omega) (by omega) w
  rw [show monD y m q k true = lenM (monY y m k) (monM y m k) from if_pos ⟨rfl, hq⟩]
  generalize ofD (monY y m k) (monM y m k) (lenM (monY y m k) (monM y m k)) = D at he ⊢
  generalize ofE (monY y m k) (monM y m k) (lenM (monY y m k) (monM y m k)) = E at he ⊢
  rw [monY_eq, monM_eq] at he
  have HE := Lib.hid he
  have h0 := h.1
  have h1 := h.2.1
  have h2 := h.2.2.1
  have h3 := h.2.2.2.1
  clear he hl hyb h hq
  go_enter Tryz.func100, Tryz.ntmps100
  go_wp2_with (go_at_call 99; (refine (HC.out _).mono ?_); rintro ev w1 ⟨rfl, hg1⟩)
  go_wp2_with (go_at_call 110; (refine (HLA.out _).mono ?_); rintro ev w2 ⟨rfl, hg2⟩)
  go_wp2_with (go_at_call 152; (refine (HE.out _).mono ?_); rintro ev w3 ⟨rfl, hg3⟩)
  go_ret2
  exact ⟨rfl, (hg1.tr ((Gr.rf w1).alloc (Nat.le_refl _) _)).tr (hg2.tr hg3)⟩

set_option maxRecDepth 100000 in
set_option maxHeartbeats 2000000 in
/-- month.Add, else. -/
theorem madd_no (d y m q k : Int) (en : Bool) (h : IsDay d y m q) (hk : -3600 ≤ k) (hk' : k ≤ 3600) (hq : ¬ (en = true ∧ q = lenM y m)) (w : World) :
    Calls Tryz.prog 100 #[.int .i64 d, .int .i64 k, .bool en] w fun e w' => e = .returned (.tuple #[.int .i64 (ofD (monY y m k) (monM y m k) (monD y m q k en)), ofE (monY y m k) (monM y m k) (monD y m q k en)]) ∧ Gr w w' := by
  have hyb := monY_bd y m k h.1 h.2.1 h.2.2.1 h.2.2.2.1 hk hk'
  have HC := Lib.hid (fun w => civil_calls d y m q h w)
  have hL := fun w => length_calls (monY y m k) (monM y m k) (by omega) (by omega) w
  rw [show monD y m q k en = min q (lenM (monY y m k) (monM y m k)) from if_neg hq, minI]
  have hlb := lenM_bd (monY y m k) (monM y m k)
  have hO := fun w => day_of_calls (monY y m k) (monM y m k) (if lenM (monY y m k) (monM y m k) < q then lenM (monY y m k) (monM y m k) else q) w
  generalize ofD (monY y m k) (monM y m k) (if lenM (monY y m k) (monM y m k) < q then lenM (monY y m k) (monM y m k) else q) = D at hO ⊢
  generalize ofE (monY y m k) (monM y m k) (if lenM (monY y m k) (monM y m k) < q then lenM (monY y m k) (monM y m k) else q) = E at hO ⊢
  generalize lenM (monY y m k) (monM y m k) = L at hL hO hlb
  rw [monY_eq, monM_eq] at hO hL
  by_cases hLq : L < q
  all_goals
    first | (rw [if_pos hLq] at hO; have hLp : (L < q) = True := eq_true hLq) | (rw [if_neg hLq] at hO; have hLp : (L < q) = False := eq_false hLq)
    have HO := Lib.hid hO
    have HL := Lib.hid hL
    have h0 := h.1
    have h1 := h.2.1
    have h2 := h.2.2.1
    have h3 := h.2.2.2.1
    have hlast := fun w => last_calls d y m q h w
    clear hO hL hyb h
    cases en with
    | false =>
      clear hlast hq
      go_enter Tryz.func100, Tryz.ntmps100
      go_wp2_with (go_at_call 99; (refine (HC.out _).mono ?_); rintro ev w1 ⟨rfl, hg1⟩)
      have hblk : (w1.alloc (.cells #[.int .i64 y, .int .i64 m, .int .i64 q] 131)).heap[w1.heap.size]? = some (.cells #[.int .i64 y, .int .i64 m, .int .i64 q] 131 (0, 0)) := heap_alloc_new w1 _
      have hga : Gr w (w1.alloc (.cells #[.int .i64 y, .int .i64 m, .int .i64 q] 131)) := hg1.tr ((Gr.rf w1).alloc (Nat.le_refl _) _)
      generalize w1.alloc (.cells #[.int .i64 y, .int .i64 m, .int .i64 q] 131) = W1 at hblk hga ⊢
      generalize w1.heap.size = bb at hblk ⊢
      have hcell := heap_cell hblk 2
      have HK := Lib.hid (fun w' (hg : Gr W1.drew w') => heap_cell ((grOneL hg).heap hblk) 2)
      have HGA := Lib.hid hga
      clear hga
      go_region_held3 (fun w' => w'.cell? ⟨bb, 2, none⟩ = some (.int .i64 q)) (first | go_keep | exact HK.out _ (by assumption))
        (first
          | (go_at_call 149; (with_reducible refine (HL.out _).mono ?_); rintro ev w2 ⟨rfl, rfl⟩)
          | (go_at_call 98; (with_reducible refine (HO.out _).mono ?_); rintro ev w2 ⟨rfl, hgn⟩))
      go_wp2
      go_ret2
      exact ⟨rfl, HGA.out.tr (grOneL hgn)⟩
    | true =>
      have hq2 : q ≠ lenM y m := fun e => hq ⟨rfl, e⟩
      have hl2 := fun w => hlast w
      simp only [decide_eq_false hq2] at hl2
      have HLA := Lib.hid hl2
      clear hl2 hlast hq hq2
      go_enter Tryz.func100, Tryz.ntmps100
      go_wp2_with (go_at_call 99; (refine (HC.out _).mono ?_); rintro ev w1 ⟨rfl, hg1⟩)
      have hblk : (w1.alloc (.cells #[.int .i64 y, .int .i64 m, .int .i64 q] 131)).heap[w1.heap.size]? = some (.cells #[.int .i64 y, .int .i64 m, .int .i64 q] 131 (0, 0)) := heap_alloc_new w1 _
      have hga : Gr w (w1.alloc (.cells #[.int .i64 y, .int .i64 m, .int .i64 q] 131)) := hg1.tr ((Gr.rf w1).alloc (Nat.le_refl _) _)
      generalize w1.alloc (.cells #[.int .i64 y, .int .i64 m, .int .i64 q] 131) = W1 at hblk hga ⊢
      generalize w1.heap.size = bb at hblk ⊢
      have HBK := Lib.hid hblk
      have HGA := Lib.hid hga
      clear hga hblk
      go_wp2_with (go_at_call 110; (refine (HLA.out _).mono ?_); rintro ev w2 ⟨rfl, hg2⟩)
      have hcell := heap_cell (hg2.heap HBK.out) 2
      have HK := Lib.hid (fun w' (hg : Gr w2.drew w') => heap_cell ((grOneL hg).heap (hg2.heap HBK.out)) 2)
      have HG2 := Lib.hid hg2
      clear hg2
      go_region_held3 (fun w' => w'.cell? ⟨bb, 2, none⟩ = some (.int .i64 q)) (first | go_keep | exact HK.out _ (by assumption))
        (first
          | (go_at_call 149; (with_reducible refine (HL.out _).mono ?_); rintro ev w2 ⟨rfl, rfl⟩)
          | (go_at_call 98; (with_reducible refine (HO.out _).mono ?_); rintro ev w3 ⟨rfl, hgn⟩))
      go_wp2
      go_ret2
      exact ⟨rfl, (HGA.out.tr HG2.out).tr (grOneL hgn)⟩

theorem madd_calls (d y m q k : Int) (en : Bool) (h : IsDay d y m q) (hk : -3600 ≤ k) (hk' : k ≤ 3600) (w : World) :
    Calls Tryz.prog 100 #[.int .i64 d, .int .i64 k, .bool en] w fun e w' => e = .returned (.tuple #[.int .i64 (ofD (monY y m k) (monM y m k) (monD y m q k en)), ofE (monY y m k) (monM y m k) (monD y m q k en)]) ∧ Gr w w' := by
  by_cases hq : en = true ∧ q = lenM y m
  · obtain ⟨rfl, h2⟩ := hq
    exact madd_end d y m q k h hk hk' h2 w
  · exact madd_no d y m q k en h hk hk' hq w
set_option maxRecDepth 100000 in
/-- month.Add, too far. -/
theorem madd_far (d y m q k : Int) (en : Bool) (h : IsDay d y m q) (hk : k < -3600 ∨ 3600 < k) (w : World) :
    Calls Tryz.prog 100 #[.int .i64 d, .int .i64 k, .bool en] w fun e w' => e = .returned (.tuple #[.int .i64 0, .iface 169 (.int .i64 4)]) ∧ Gr w w' := by
  have HC := Lib.hid (fun w => civil_calls d y m q h w)
  clear h
  rcases hk with hk | hk
  · go_enter Tryz.func100, Tryz.ntmps100
    go_wp2_with (first | (go_at_call 99; (refine (HC.out _).mono ?_); rintro ev w1 ⟨rfl, hg1⟩) | (go_at_call 68; (with_reducible refine (errDate_calls _).mono ?_); rintro ev w1 ⟨rfl, rfl⟩))
    go_ret2
    exact ⟨rfl, hg1.tr ((Gr.rf w1).alloc (Nat.le_refl _) _)⟩
  · have hk2 : decide (k < -3600) = false := decide_eq_false (by omega)
    go_enter Tryz.func100, Tryz.ntmps100
    go_wp2_with (first | (go_at_call 99; (refine (HC.out _).mono ?_); rintro ev w1 ⟨rfl, hg1⟩) | (go_at_call 68; (with_reducible refine (errDate_calls _).mono ?_); rintro ev w1 ⟨rfl, rfl⟩))
    go_ret2
    exact ⟨rfl, hg1.tr ((Gr.rf w1).alloc (Nat.le_refl _) _)⟩
end Go.Proofs.YtcjjgdoafkdeaaaGreatDoor
