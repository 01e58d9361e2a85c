/- Layer 6: 'the day behind a day is the next one, of the month, or of the next month; the next weekday', walked. -/
import Derived.Test.YtgejadnfeeoknaaGreatDoorHi
namespace Go.Proofs.YtgejadnfeeoknaaGreatDoor
open Go.RowKit Go.Extern.Stop Go.Stop Go.Extern
set_option linter.unusedVariables false
set_option linter.unusedSimpArgs false

open Go.Op (bytesLess)
theorem bytesLess_toList (a b : List UInt8) : bytesLess (⟨a.toArray⟩ : ByteArray).toList (⟨b.toArray⟩ : ByteArray).toList = bytesLess a b := by
  rw [ByteArray.toList_eq, ByteArray.toList_eq]
theorem dayL_next {d y m k y' m' k' : Int} (h : IsDay d y m k) (h' : IsDay (d + 1) y' m' k') : bytesLess (dayL y.toNat m.toNat k.toNat) (dayL y'.toNat m'.toNat k'.toNat) = true := by
  obtain ⟨a, b, c, rfl, rfl, rfl, ha, ha', hb, hb', hc, hc'⟩ := isDay_nat h
  obtain ⟨a2, b2, c2, rfl, rfl, rfl, ga, ga', gb, gb', gc, gc'⟩ := isDay_nat h'
  have hr := isDay_range h'
  show bytesLess (dayL a b c) (dayL a2 b2 c2) = true
  refine dayL_lt a b c a2 b2 c2 (by omega) (by omega) (by omega) (by omega) ?_
  rcases isDay_next h (by omega) with ⟨_, hn⟩ | ⟨_, ⟨_, hn⟩ | ⟨_, hn⟩⟩
  · obtain ⟨e1, e2, e3⟩ := isDay_unique hn h'
    omega
  · obtain ⟨e1, e2, e3⟩ := isDay_unique hn h'
    omega
  · obtain ⟨e1, e2, e3⟩ := isDay_unique hn h'
    omega
/-- The two days' texts. -/
theorem texts_next {d y m k y' m' k' : Int} (h : IsDay d y m k) (h' : IsDay (d + 1) y' m' k') : ∃ A B : ByteArray, bytesLess A.toList B.toList = true ∧
    (∀ w, PowTab w → Calls Tryz.prog 20 #[.int .i64 d] w fun e w' => e = .returned (.string A) ∧ Gr w w') ∧ (∀ w, PowTab w → Calls Tryz.prog 20 #[.int .i64 (d + 1)] w fun e w' => e = .returned (.string B) ∧ Gr w w') :=
  ⟨_, _, by rw [bytesLess_toList]; exact dayL_next h h', fun w hT => dtext_calls d y m k h w hT, fun w hT => dtext_calls (d + 1) y' m' k' h' w hT⟩
set_option maxRecDepth 100000 in
set_option maxHeartbeats 8000000 in
theorem dateNext_core (n d y m k y2 m2 k2 : Int) (w : World) (hM : Met2 w) (hd : (n % 109573 = 109572 ∧ d = 109571) ∨ (n % 109573 ≠ 109572 ∧ d = n % 109573)) (h : IsDay d y m k) (h2 : IsDay (d + 1) y2 m2 k2) (h1 : d ≤ 109571)
    (hn : (k < lenM y m ∧ y = y2 ∧ m = m2 ∧ k2 = k + 1) ∨ (k = lenM y m ∧ k2 = 1 ∧ ((m < 12 ∧ y = y2 ∧ m2 = m + 1) ∨ (m = 12 ∧ y2 = y + 1 ∧ m2 = 1)))) :
    Calls Tryz.prog 4 #[.int .i64 n] w fun e w' => e = .returned (.bool true) ∧ Gr w w' := by
  have HB := Lib.hid (begun6_calls w hM)
  have HM := Lib.hid hM
  have HDY := Lib.hid (fun w => day6_calls n w)
  have hr := isDay_range h
  have HC1 := Lib.hid (fun w => civil_calls d y m k h w)
  have HC2 := Lib.hid (fun w => civil_calls (d + 1) y2 m2 k2 h2 w)
  have hw1 := fun w => weekday_calls d w hr.1 hr.2
  have hw2 := fun w => weekday_calls (d + 1) w (by omega) (by omega)
  have hx0 : 0 ≤ (d + 1) % 7 := by omega
  have hx1 : (d + 1) % 7 ≤ 6 := by omega
  have hx2 : (d + 1 + 1) % 7 = ((d + 1) % 7 + 1) % 7 := by omega
  generalize (d + 1) % 7 = X at hw1 hx0 hx1 hx2
  generalize (d + 1 + 1) % 7 = X2 at hw2 hx2
  have bx : (X2 != (X + 1) % 7) = false := by rw [hx2]; simp
  have HW1 := Lib.hid hw1
  have HW2 := Lib.hid hw2
  have HL := Lib.hid (fun w => length_calls y m (by have := h.1; omega) (by have := h.2.1; omega) w)
  obtain ⟨A, B, hAB, hTA, hTB⟩ := texts_next h h2
  have HTA := Lib.hid hTA
  have HTB := Lib.hid hTB
  have hy0 := h.1
  have hy1 := h.2.1
  have hm0 := h.2.2.1
  have hm1 := h.2.2.2.1
  have hk0 := h.2.2.2.2.1
  have hlb := (lenM_bd y m).2
  have hkl := h.2.2.2.2.2.1
  have hd0 := hr.1
  clear hM hw1 hw2 hx2 hTA hTB h h2 hr
  generalize lenM y m = L at HL hn hlb hkl
  rcases hd with ⟨e, rfl⟩ | ⟨e, e2⟩
  · have be : (n % 109573 == 109572) = true := beq_iff_eq.2 e
    generalize n % 109573 = D at HDY be e
    subst e
    have z1 := HC2.out
    have z2 := HW2.out
    have z3 := HTB.out
    simp only [show (109571 : Int) + 1 = 109572 from rfl] at z1 z2 z3
    clear HC2 HW2 HTB
    have HC2 := Lib.hid z1
    have HW2 := Lib.hid z2
    have HTB := Lib.hid z3
    clear z1 z2 z3
    rcases hn with ⟨hkl2, rfl, rfl, rfl⟩ | ⟨hkl2, rfl, ⟨hm12, rfl, rfl⟩ | ⟨hm12, rfl, rfl⟩⟩
    · have bl : decide (k < L) = true := decide_eq_true hkl2
      go_enter Tryz.func4, Tryz.ntmps4
      go_wp2_with (first | (go_at_call 16; (with_reducible refine HB.out.mono ?_); rintro ev w1 ⟨rfl, hg1⟩) | (go_at_call 25; (with_reducible refine (HDY.out _).mono ?_); rintro ev w2 ⟨rfl, rfl⟩) | (go_at_call 17; (with_reducible refine (HC1.out _).mono ?_); rintro ev w2 ⟨rfl, hg2⟩))
      have hblk := heap_alloc_new w2 (.cells #[.int .i64 y, .int .i64 m, .int .i64 k] 24)
      have hga := Lib.hid ((hg1.tr hg2).tr ((Gr.rf w2).alloc (Nat.le_refl _) (.cells #[.int .i64 y, .int .i64 m, .int .i64 k] 24)))
      generalize w2.alloc (.cells #[.int .i64 y, .int .i64 m, .int .i64 k] 24) = W1 at hblk hga ⊢
      generalize w2.heap.size = bb at hblk ⊢
      have HBK := Lib.hid hblk
      clear hblk hg1 hg2
      go_wp2_with fail
      refine (HC2.out _).mono ?_
      rintro ev w3 ⟨rfl, hg3⟩
      have hb3 := hg3.heap HBK.out
      have hlt := cells_lt hb3
      have hblk2 := heap_alloc_new w3 (.cells #[.int .i64 y, .int .i64 m, .int .i64 (k + 1)] 24)
      have hg34 : Gr w3 (w3.alloc (.cells #[.int .i64 y, .int .i64 m, .int .i64 (k + 1)] 24)) := (Gr.rf w3).alloc (Nat.le_refl _) _
      have hb4 := hg34.heap hb3
      have HG4 := Lib.hid ((hga.out.tr hg3).tr hg34)
      have hne : bb ≠ w3.heap.size := by omega
      clear hlt hb3 hg3 hg34
      go_wp2_with (first | (go_at_call 19; (with_reducible refine (HW2.out _).mono ?_); rintro ev w5 ⟨rfl, rfl⟩) | (go_at_call 19; (with_reducible refine (HW1.out _).mono ?_); rintro ev w5 ⟨rfl, rfl⟩))
      generalize w3.alloc (.cells #[.int .i64 y, .int .i64 m, .int .i64 (k + 1)] 24) = W4 at hblk2 hb4 HG4 ⊢
      generalize w3.heap.size = b2 at hblk2 hne ⊢
      have HB4 := Lib.hid hb4
      have HB42 := Lib.hid hblk2
      clear hblk2 hb4
      have HT1 := Lib.hid (HTA.out W4 (HM.out.keep HG4.out).2.2)
      go_wp2_with (go_at_call 20; (with_reducible refine HT1.out.mono ?_); rintro ev w5 ⟨rfl, hg5⟩)
      have HT2 := Lib.hid (HTB.out w5 (HM.out.keep (HG4.out.tr hg5)).2.2)
      go_wp2_with fail
      refine HT2.out.mono ?_
      rintro ev w6 ⟨rfl, hg6⟩
      have hz := (hg5.tr hg6).heap HB4.out
      have hz2 := (hg5.tr hg6).heap HB42.out
      have c0 := heap_cell hz 0
      have c1 := heap_cell hz 1
      have c2 := heap_cell hz 2
      have e0 := heap_cell hz2 0
      have e1 := heap_cell hz2 1
      have e2 := heap_cell hz2 2
      have HG6 := Lib.hid (HG4.out.tr (hg5.tr hg6))
      clear hz hz2 hg5 hg6
      go_wp2
      go_quiet ((go_at_call 23; exact qsame HL.out))
      go_wp2
      go_ret
      exact ⟨by simp, grDrew HG6.out _⟩
    · have bl : decide (k < L) = false := decide_eq_false (by omega)
      have bm : (m == 12) = false := beq_eq_false_iff_ne.2 (by omega)
      clear hkl2
      go_enter Tryz.func4, Tryz.ntmps4
      go_wp2_with (first | (go_at_call 16; (with_reducible refine HB.out.mono ?_); rintro ev w1 ⟨rfl, hg1⟩) | (go_at_call 25; (with_reducible refine (HDY.out _).mono ?_); rintro ev w2 ⟨rfl, rfl⟩) | (go_at_call 17; (with_reducible refine (HC1.out _).mono ?_); rintro ev w2 ⟨rfl, hg2⟩))
      have hblk := heap_alloc_new w2 (.cells #[.int .i64 y, .int .i64 m, .int .i64 k] 24)
      have hga := Lib.hid ((hg1.tr hg2).tr ((Gr.rf w2).alloc (Nat.le_refl _) (.cells #[.int .i64 y, .int .i64 m, .int .i64 k] 24)))
      generalize w2.alloc (.cells #[.int .i64 y, .int .i64 m, .int .i64 k] 24) = W1 at hblk hga ⊢
      generalize w2.heap.size = bb at hblk ⊢
      have HBK := Lib.hid hblk
      clear hblk hg1 hg2
      go_wp2_with fail
      refine (HC2.out _).mono ?_
      rintro ev w3 ⟨rfl, hg3⟩
      have hb3 := hg3.heap HBK.out
      have hlt := cells_lt hb3
      have hblk2 := heap_alloc_new w3 (.cells #[.int .i64 y, .int .i64 (m + 1), .int .i64 1] 24)
      have hg34 : Gr w3 (w3.alloc (.cells #[.int .i64 y, .int .i64 (m + 1), .int .i64 1] 24)) := (Gr.rf w3).alloc (Nat.le_refl _) _
      have hb4 := hg34.heap hb3
      have HG4 := Lib.hid ((hga.out.tr hg3).tr hg34)
      have hne : bb ≠ w3.heap.size := by omega
      clear hlt hb3 hg3 hg34
      go_wp2_with (first | (go_at_call 19; (with_reducible refine (HW2.out _).mono ?_); rintro ev w5 ⟨rfl, rfl⟩) | (go_at_call 19; (with_reducible refine (HW1.out _).mono ?_); rintro ev w5 ⟨rfl, rfl⟩))
      generalize w3.alloc (.cells #[.int .i64 y, .int .i64 (m + 1), .int .i64 1] 24) = W4 at hblk2 hb4 HG4 ⊢
      generalize w3.heap.size = b2 at hblk2 hne ⊢
      have HB4 := Lib.hid hb4
      have HB42 := Lib.hid hblk2
      clear hblk2 hb4
      have HT1 := Lib.hid (HTA.out W4 (HM.out.keep HG4.out).2.2)
      go_wp2_with (go_at_call 20; (with_reducible refine HT1.out.mono ?_); rintro ev w5 ⟨rfl, hg5⟩)
      have HT2 := Lib.hid (HTB.out w5 (HM.out.keep (HG4.out.tr hg5)).2.2)
      go_wp2_with fail
      refine HT2.out.mono ?_
      rintro ev w6 ⟨rfl, hg6⟩
      have hz := (hg5.tr hg6).heap HB4.out
      have hz2 := (hg5.tr hg6).heap HB42.out
      have c0 := heap_cell hz 0
      have c1 := heap_cell hz 1
      have c2 := heap_cell hz 2
      have e0 := heap_cell hz2 0
      have e1 := heap_cell hz2 1
      have e2 := heap_cell hz2 2
      have HG6 := Lib.hid (HG4.out.tr (hg5.tr hg6))
      clear hz hz2 hg5 hg6
      go_wp2
      go_quiet ((go_at_call 23; exact qsame HL.out))
      go_wp2
      go_ret
      exact ⟨by simp, grDrew HG6.out _⟩
    · have bl : decide (k < L) = false := decide_eq_false (by omega)
      have bm : (m == 12) = true := beq_iff_eq.2 hm12
      clear hkl2 hm12
      go_enter Tryz.func4, Tryz.ntmps4
      go_wp2_with (first | (go_at_call 16; (with_reducible refine HB.out.mono ?_); rintro ev w1 ⟨rfl, hg1⟩) | (go_at_call 25; (with_reducible refine (HDY.out _).mono ?_); rintro ev w2 ⟨rfl, rfl⟩) | (go_at_call 17; (with_reducible refine (HC1.out _).mono ?_); rintro ev w2 ⟨rfl, hg2⟩))
      have hblk := heap_alloc_new w2 (.cells #[.int .i64 y, .int .i64 m, .int .i64 k] 24)
      have hga := Lib.hid ((hg1.tr hg2).tr ((Gr.rf w2).alloc (Nat.le_refl _) (.cells #[.int .i64 y, .int .i64 m, .int .i64 k] 24)))
      generalize w2.alloc (.cells #[.int .i64 y, .int .i64 m, .int .i64 k] 24) = W1 at hblk hga ⊢
      generalize w2.heap.size = bb at hblk ⊢
      have HBK := Lib.hid hblk
      clear hblk hg1 hg2
      go_wp2_with fail
      refine (HC2.out _).mono ?_
      rintro ev w3 ⟨rfl, hg3⟩
      have hb3 := hg3.heap HBK.out
      have hlt := cells_lt hb3
      have hblk2 := heap_alloc_new w3 (.cells #[.int .i64 (y + 1), .int .i64 1, .int .i64 1] 24)
      have hg34 : Gr w3 (w3.alloc (.cells #[.int .i64 (y + 1), .int .i64 1, .int .i64 1] 24)) := (Gr.rf w3).alloc (Nat.le_refl _) _
      have hb4 := hg34.heap hb3
      have HG4 := Lib.hid ((hga.out.tr hg3).tr hg34)
      have hne : bb ≠ w3.heap.size := by omega
      clear hlt hb3 hg3 hg34
      go_wp2_with (first | (go_at_call 19; (with_reducible refine (HW2.out _).mono ?_); rintro ev w5 ⟨rfl, rfl⟩) | (go_at_call 19; (with_reducible refine (HW1.out _).mono ?_); rintro ev w5 ⟨rfl, rfl⟩))
      generalize w3.alloc (.cells #[.int .i64 (y + 1), .int .i64 1, .int .i64 1] 24) = W4 at hblk2 hb4 HG4 ⊢
      generalize w3.heap.size = b2 at hblk2 hne ⊢
      have HB4 := Lib.hid hb4
      have HB42 := Lib.hid hblk2
      clear hblk2 hb4
      have HT1 := Lib.hid (HTA.out W4 (HM.out.keep HG4.out).2.2)
      go_wp2_with (go_at_call 20; (with_reducible refine HT1.out.mono ?_); rintro ev w5 ⟨rfl, hg5⟩)
      have HT2 := Lib.hid (HTB.out w5 (HM.out.keep (HG4.out.tr hg5)).2.2)
      go_wp2_with fail
      refine HT2.out.mono ?_
      rintro ev w6 ⟨rfl, hg6⟩
      have hz := (hg5.tr hg6).heap HB4.out
      have hz2 := (hg5.tr hg6).heap HB42.out
      have c0 := heap_cell hz 0
      have c1 := heap_cell hz 1
      have c2 := heap_cell hz 2
      have e0 := heap_cell hz2 0
      have e1 := heap_cell hz2 1
      have e2 := heap_cell hz2 2
      have HG6 := Lib.hid (HG4.out.tr (hg5.tr hg6))
      clear hz hz2 hg5 hg6
      go_wp2
      go_quiet ((go_at_call 23; exact qsame HL.out))
      go_wp2
      go_ret
      exact ⟨by simp, grDrew HG6.out _⟩
  · have be : (n % 109573 == 109572) = false := beq_eq_false_iff_ne.2 e
    generalize n % 109573 = D at HDY be e e2
    subst e2
    rcases hn with ⟨hkl2, rfl, rfl, rfl⟩ | ⟨hkl2, rfl, ⟨hm12, rfl, rfl⟩ | ⟨hm12, rfl, rfl⟩⟩
    · have bl : decide (k < L) = true := decide_eq_true hkl2
      go_enter Tryz.func4, Tryz.ntmps4
      go_wp2_with (first | (go_at_call 16; (with_reducible refine HB.out.mono ?_); rintro ev w1 ⟨rfl, hg1⟩) | (go_at_call 25; (with_reducible refine (HDY.out _).mono ?_); rintro ev w2 ⟨rfl, rfl⟩) | (go_at_call 17; (with_reducible refine (HC1.out _).mono ?_); rintro ev w2 ⟨rfl, hg2⟩))
      have hblk := heap_alloc_new w2 (.cells #[.int .i64 y, .int .i64 m, .int .i64 k] 24)
      have hga := Lib.hid ((hg1.tr hg2).tr ((Gr.rf w2).alloc (Nat.le_refl _) (.cells #[.int .i64 y, .int .i64 m, .int .i64 k] 24)))
      generalize w2.alloc (.cells #[.int .i64 y, .int .i64 m, .int .i64 k] 24) = W1 at hblk hga ⊢
      generalize w2.heap.size = bb at hblk ⊢
      have HBK := Lib.hid hblk
      clear hblk hg1 hg2
      go_wp2_with fail
      refine (HC2.out _).mono ?_
      rintro ev w3 ⟨rfl, hg3⟩
      have hb3 := hg3.heap HBK.out
      have hlt := cells_lt hb3
      have hblk2 := heap_alloc_new w3 (.cells #[.int .i64 y, .int .i64 m, .int .i64 (k + 1)] 24)
      have hg34 : Gr w3 (w3.alloc (.cells #[.int .i64 y, .int .i64 m, .int .i64 (k + 1)] 24)) := (Gr.rf w3).alloc (Nat.le_refl _) _
      have hb4 := hg34.heap hb3
      have HG4 := Lib.hid ((hga.out.tr hg3).tr hg34)
      have hne : bb ≠ w3.heap.size := by omega
      clear hlt hb3 hg3 hg34
      go_wp2_with (first | (go_at_call 19; (with_reducible refine (HW2.out _).mono ?_); rintro ev w5 ⟨rfl, rfl⟩) | (go_at_call 19; (with_reducible refine (HW1.out _).mono ?_); rintro ev w5 ⟨rfl, rfl⟩))
      generalize w3.alloc (.cells #[.int .i64 y, .int .i64 m, .int .i64 (k + 1)] 24) = W4 at hblk2 hb4 HG4 ⊢
      generalize w3.heap.size = b2 at hblk2 hne ⊢
      have HB4 := Lib.hid hb4
      have HB42 := Lib.hid hblk2
      clear hblk2 hb4
      have HT1 := Lib.hid (HTA.out W4 (HM.out.keep HG4.out).2.2)
      go_wp2_with (go_at_call 20; (with_reducible refine HT1.out.mono ?_); rintro ev w5 ⟨rfl, hg5⟩)
      have HT2 := Lib.hid (HTB.out w5 (HM.out.keep (HG4.out.tr hg5)).2.2)
      go_wp2_with fail
      refine HT2.out.mono ?_
      rintro ev w6 ⟨rfl, hg6⟩
      have hz := (hg5.tr hg6).heap HB4.out
      have hz2 := (hg5.tr hg6).heap HB42.out
      have c0 := heap_cell hz 0
      have c1 := heap_cell hz 1
      have c2 := heap_cell hz 2
      have e0 := heap_cell hz2 0
      have e1 := heap_cell hz2 1
      have e2 := heap_cell hz2 2
      have HG6 := Lib.hid (HG4.out.tr (hg5.tr hg6))
      clear hz hz2 hg5 hg6
      go_wp2
      go_quiet ((go_at_call 23; exact qsame HL.out))
      go_wp2
      go_ret
      exact ⟨by simp, grDrew HG6.out _⟩
    · have bl : decide (k < L) = false := decide_eq_false (by omega)
      have bm : (m == 12) = false := beq_eq_false_iff_ne.2 (by omega)
      clear hkl2
      go_enter Tryz.func4, Tryz.ntmps4
      go_wp2_with (first | (go_at_call 16; (with_reducible refine HB.out.mono ?_); rintro ev w1 ⟨rfl, hg1⟩) | (go_at_call 25; (with_reducible refine (HDY.out _).mono ?_); rintro ev w2 ⟨rfl, rfl⟩) | (go_at_call 17; (with_reducible refine (HC1.out _).mono ?_); rintro ev w2 ⟨rfl, hg2⟩))
      have hblk := heap_alloc_new w2 (.cells #[.int .i64 y, .int .i64 m, .int .i64 k] 24)
      have hga := Lib.hid ((hg1.tr hg2).tr ((Gr.rf w2).alloc (Nat.le_refl _) (.cells #[.int .i64 y, .int .i64 m, .int .i64 k] 24)))
      generalize w2.alloc (.cells #[.int .i64 y, .int .i64 m, .int .i64 k] 24) = W1 at hblk hga ⊢
      generalize w2.heap.size = bb at hblk ⊢
      have HBK := Lib.hid hblk
      clear hblk hg1 hg2
      go_wp2_with fail
      refine (HC2.out _).mono ?_
      rintro ev w3 ⟨rfl, hg3⟩
      have hb3 := hg3.heap HBK.out
      have hlt := cells_lt hb3
      have hblk2 := heap_alloc_new w3 (.cells #[.int .i64 y, .int .i64 (m + 1), .int .i64 1] 24)
      have hg34 : Gr w3 (w3.alloc (.cells #[.int .i64 y, .int .i64 (m + 1), .int .i64 1] 24)) := (Gr.rf w3).alloc (Nat.le_refl _) _
      have hb4 := hg34.heap hb3
      have HG4 := Lib.hid ((hga.out.tr hg3).tr hg34)
      have hne : bb ≠ w3.heap.size := by omega
      clear hlt hb3 hg3 hg34
      go_wp2_with (first | (go_at_call 19; (with_reducible refine (HW2.out _).mono ?_); rintro ev w5 ⟨rfl, rfl⟩) | (go_at_call 19; (with_reducible refine (HW1.out _).mono ?_); rintro ev w5 ⟨rfl, rfl⟩))
      generalize w3.alloc (.cells #[.int .i64 y, .int .i64 (m + 1), .int .i64 1] 24) = W4 at hblk2 hb4 HG4 ⊢
      generalize w3.heap.size = b2 at hblk2 hne ⊢
      have HB4 := Lib.hid hb4
      have HB42 := Lib.hid hblk2
      clear hblk2 hb4
      have HT1 := Lib.hid (HTA.out W4 (HM.out.keep HG4.out).2.2)
      go_wp2_with (go_at_call 20; (with_reducible refine HT1.out.mono ?_); rintro ev w5 ⟨rfl, hg5⟩)
      have HT2 := Lib.hid (HTB.out w5 (HM.out.keep (HG4.out.tr hg5)).2.2)
      go_wp2_with fail
      refine HT2.out.mono ?_
      rintro ev w6 ⟨rfl, hg6⟩
      have hz := (hg5.tr hg6).heap HB4.out
      have hz2 := (hg5.tr hg6).heap HB42.out
      have c0 := heap_cell hz 0
      have c1 := heap_cell hz 1
      have c2 := heap_cell hz 2
      have e0 := heap_cell hz2 0
      have e1 := heap_cell hz2 1
      have e2 := heap_cell hz2 2
      have HG6 := Lib.hid (HG4.out.tr (hg5.tr hg6))
      clear hz hz2 hg5 hg6
      go_wp2
      go_quiet ((go_at_call 23; exact qsame HL.out))
      go_wp2
      go_ret
      exact ⟨by simp, grDrew HG6.out _⟩
    · have bl : decide (k < L) = false := decide_eq_false (by omega)
      have bm : (m == 12) = true := beq_iff_eq.2 hm12
      clear hkl2 hm12
      go_enter Tryz.func4, Tryz.ntmps4
      go_wp2_with (first | (go_at_call 16; (with_reducible refine HB.out.mono ?_); rintro ev w1 ⟨rfl, hg1⟩) | (go_at_call 25; (with_reducible refine (HDY.out _).mono ?_); rintro ev w2 ⟨rfl, rfl⟩) | (go_at_call 17; (with_reducible refine (HC1.out _).mono ?_); rintro ev w2 ⟨rfl, hg2⟩))
      have hblk := heap_alloc_new w2 (.cells #[.int .i64 y, .int .i64 m, .int .i64 k] 24)
      have hga := Lib.hid ((hg1.tr hg2).tr ((Gr.rf w2).alloc (Nat.le_refl _) (.cells #[.int .i64 y, .int .i64 m, .int .i64 k] 24)))
      generalize w2.alloc (.cells #[.int .i64 y, .int .i64 m, .int .i64 k] 24) = W1 at hblk hga ⊢
      generalize w2.heap.size = bb at hblk ⊢
      have HBK := Lib.hid hblk
      clear hblk hg1 hg2
      go_wp2_with fail
      refine (HC2.out _).mono ?_
      rintro ev w3 ⟨rfl, hg3⟩
      have hb3 := hg3.heap HBK.out
      have hlt := cells_lt hb3
      have hblk2 := heap_alloc_new w3 (.cells #[.int .i64 (y + 1), .int .i64 1, .int .i64 1] 24)
      have hg34 : Gr w3 (w3.alloc (.cells #[.int .i64 (y + 1), .int .i64 1, .int .i64 1] 24)) := (Gr.rf w3).alloc (Nat.le_refl _) _
      have hb4 := hg34.heap hb3
      have HG4 := Lib.hid ((hga.out.tr hg3).tr hg34)
      have hne : bb ≠ w3.heap.size := by omega
      clear hlt hb3 hg3 hg34
      go_wp2_with (first | (go_at_call 19; (with_reducible refine (HW2.out _).mono ?_); rintro ev w5 ⟨rfl, rfl⟩) | (go_at_call 19; (with_reducible refine (HW1.out _).mono ?_); rintro ev w5 ⟨rfl, rfl⟩))
      generalize w3.alloc (.cells #[.int .i64 (y + 1), .int .i64 1, .int .i64 1] 24) = W4 at hblk2 hb4 HG4 ⊢
      generalize w3.heap.size = b2 at hblk2 hne ⊢
      have HB4 := Lib.hid hb4
      have HB42 := Lib.hid hblk2
      clear hblk2 hb4
      have HT1 := Lib.hid (HTA.out W4 (HM.out.keep HG4.out).2.2)
      go_wp2_with (go_at_call 20; (with_reducible refine HT1.out.mono ?_); rintro ev w5 ⟨rfl, hg5⟩)
      have HT2 := Lib.hid (HTB.out w5 (HM.out.keep (HG4.out.tr hg5)).2.2)
      go_wp2_with fail
      refine HT2.out.mono ?_
      rintro ev w6 ⟨rfl, hg6⟩
      have hz := (hg5.tr hg6).heap HB4.out
      have hz2 := (hg5.tr hg6).heap HB42.out
      have c0 := heap_cell hz 0
      have c1 := heap_cell hz 1
      have c2 := heap_cell hz 2
      have e0 := heap_cell hz2 0
      have e1 := heap_cell hz2 1
      have e2 := heap_cell hz2 2
      have HG6 := Lib.hid (HG4.out.tr (hg5.tr hg6))
      clear hz hz2 hg5 hg6
      go_wp2
      go_quiet ((go_at_call 23; exact qsame HL.out))
      go_wp2
      go_ret
      exact ⟨by simp, grDrew HG6.out _⟩
theorem dateNext_calls (n : Int) (n0 : -9223372036854775808 ≤ n) (n1 : n ≤ 9223372036854775807) (w : World) (hM : Met2 w) :
    Calls Tryz.prog 4 #[.int .i64 n] w fun e w' => e = .returned (.bool true) ∧ Gr w w' := by
  have hb := day6_bd n
  obtain ⟨d, hd, hd0, hd1⟩ : ∃ d, ((n % 109573 = 109572 ∧ d = 109571) ∨ (n % 109573 ≠ 109572 ∧ d = n % 109573)) ∧ 0 ≤ d ∧ d ≤ 109571 := by
    by_cases e : n % 109573 = 109572
    · exact ⟨109571, .inl ⟨e, rfl⟩, by omega, by omega⟩
    · exact ⟨n % 109573, .inr ⟨e, rfl⟩, by omega, by omega⟩
  obtain ⟨y, m, k, h⟩ := isDay_of d hd0 (by omega)
  rcases isDay_next h (by omega) with ⟨hk, h2⟩ | ⟨hk, ⟨hm, h2⟩ | ⟨hm, h2⟩⟩
  · exact dateNext_core n d y m k _ _ _ w hM hd h h2 hd1 (.inl ⟨hk, rfl, rfl, rfl⟩)
  · exact dateNext_core n d y m k _ _ _ w hM hd h h2 hd1 (.inr ⟨hk, rfl, .inl ⟨hm, rfl, rfl⟩⟩)
  · exact dateNext_core n d y m k _ _ _ w hM hd h h2 hd1 (.inr ⟨hk, rfl, .inr ⟨hm, rfl, rfl⟩⟩)
end Go.Proofs.YtgejadnfeeoknaaGreatDoor
