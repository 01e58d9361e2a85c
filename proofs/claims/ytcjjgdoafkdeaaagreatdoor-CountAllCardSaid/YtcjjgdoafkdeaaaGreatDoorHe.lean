/- Layer 6: holi: Day by contract; Layer 6: holi.Is by contract. -/
import Derived.Test.YtcjjgdoafkdeaaaGreatDoorHd
namespace Go.Proofs.YtcjjgdoafkdeaaaGreatDoor
section
open Go.RowKit Go.Extern.Stop Go.Stop Go.Extern
set_option linter.unusedVariables false
set_option linter.unusedSimpArgs false

/-- What holi.Day answers. -/
def holR (r : Ru) (y : Int) : Ending := .returned (.tuple #[.int .i64 (holV r y), .bool (holB r y)])
theorem holR_some {r : Ru} {y d : Int} (h : holD r y = some d) : holR r y = .returned (.tuple #[.int .i64 d, .bool true]) := by unfold holR; rw [(holD_some h).1, (holD_some h).2]
theorem holR_none {r : Ru} {y : Int} (h : holD r y = none) : holR r y = .returned (.tuple #[.int .i64 0, .bool false]) := by unfold holR; rw [(holD_none h).1, (holD_none h).2]
theorem holD_may {r : Ru} {y : Int} (h : mayR r = true) {d : Int} (h2 : rawD r y = some d) (h3 : 0 ≤ d ∧ d ≤ 109572) : holD r y = some d := by
  unfold holD; rw [if_pos h, h2]; exact if_pos h3
theorem holD_far {r : Ru} {y : Int} {d : Int} (h2 : rawD r y = some d) (h3 : ¬ (0 ≤ d ∧ d ≤ 109572)) : holD r y = none := by
  unfold holD
  split
  · rw [h2]; exact if_neg h3
  · rfl
theorem holD_raw {r : Ru} {y : Int} (h2 : rawD r y = none) : holD r y = none := by
  unfold holD
  split
  · rw [h2]; rfl
  · rfl
set_option maxRecDepth 100000 in
theorem hday_not (r : Ru) (y : Int) (h : mayR r = false) (w : World) : Calls Tryz.prog 158 #[ruV r, .int .i64 y] w fun e w' => e = holR r y ∧ Gr w w' := by
  rw [holR_none (show holD r y = none by unfold holD; rw [h]; rfl)]
  have hm := fun w => may_calls r w
  simp only [h] at hm
  obtain ⟨k, m, d, n, wd, sh⟩ := r
  unfold ruV at hm ⊢
  have HM := Lib.hid hm
  have hga := Lib.hid (boxGr w ⟨k, m, d, n, wd, sh⟩)
  clear hm h
  go_enter Tryz.func158, Tryz.ntmps158
  go_wp2_with (go_at_call 155; (with_reducible refine (HM.out _).mono ?_); rintro ev w1 ⟨rfl, hg1⟩)
  go_ret2
  exact ⟨rfl, hga.out.tr hg1⟩
/-- The rule's block behind May. -/
def BoxAt (w : World) (b : Nat) (r : Ru) : Prop := w.heap[b]? = some (.cells #[.int .i64 r.kind, .int .i64 r.month, .int .i64 r.day, .int .i64 r.n, .int .i64 r.wd, .bool r.sh] 137 (0, 0))
theorem BoxAt.gr {w w' : World} {b : Nat} {r : Ru} (h : BoxAt w b r) (hg : Gr w w') : BoxAt w' b r := hg.heap h
theorem BoxAt.cells {w : World} {b : Nat} {r : Ru} (h : BoxAt w b r) : w.cell? ⟨b, 0, none⟩ = some (.int .i64 r.kind) ∧ w.cell? ⟨b, 1, none⟩ = some (.int .i64 r.month) ∧ w.cell? ⟨b, 2, none⟩ = some (.int .i64 r.day) ∧ w.cell? ⟨b, 3, none⟩ = some (.int .i64 r.n) ∧ w.cell? ⟨b, 4, none⟩ = some (.int .i64 r.wd) ∧ w.cell? ⟨b, 5, none⟩ = some (.bool r.sh) :=
  ⟨heap_cell h 0, heap_cell h 1, heap_cell h 2, heap_cell h 3, heap_cell h 4, heap_cell h 5⟩
theorem boxAt_new (w : World) (r : Ru) : BoxAt (w.alloc (.cells #[.int .i64 r.kind, .int .i64 r.month, .int .i64 r.day, .int .i64 r.n, .int .i64 r.wd, .bool r.sh] 137)) w.heap.size r := heap_alloc_new w _

set_option maxRecDepth 100000 in
set_option maxHeartbeats 2000000 in
theorem hday_fixed (m d n wd y : Int) (sh : Bool) (h : mayR ⟨1, m, d, n, wd, sh⟩ = true) (w : World) :
    Calls Tryz.prog 158 #[ruV ⟨1, m, d, n, wd, sh⟩, .int .i64 y] w fun e w' => e = holR ⟨1, m, d, n, wd, sh⟩ y ∧ Gr w w' := by
  have hm := fun w => may_calls ⟨1, m, d, n, wd, sh⟩ w
  simp only [h] at hm
  unfold ruV at hm ⊢
  have HM := Lib.hid hm
  have hga := Lib.hid (boxGr w ⟨1, m, d, n, wd, sh⟩)
  have HB := Lib.hid (boxAt_new w ⟨1, m, d, n, wd, sh⟩)
  clear hm
  have hO := fun w => day_of_calls y m d w
  by_cases hok : OkC y m d
  · have hraw : rawD ⟨1, m, d, n, wd, sh⟩ y = some (if sh then shiftD (dayN y m d) else dayN y m d) := by
      show (if OkC y m d then some (if sh then shiftD (dayN y m d) else dayN y m d) else none) = _
      exact if_pos hok
    have hr := isDay_range (okC_day hok)
    simp only [ofD_ok hok, ofE_ok hok] at hO
    have HO := Lib.hid hO
    clear hO
    cases sh with
    | false =>
      rw [holR_some (holD_may h hraw hr)]
      simp only [Bool.false_eq_true, if_false]
      have hw := fun w => within_calls (dayN y m d) 0 109572 w
      simp only [decide_eq_true hr] at hw
      have HW := Lib.hid hw
      clear hw hraw hok h
      generalize dayN y m d = D at *
      go_enter Tryz.func158, Tryz.ntmps158
      go_wp2_with fail
      refine (HM.out _).mono ?_
      rintro ev w1 ⟨rfl, hg1⟩
      obtain ⟨c0, c1, c2, c3, c4, c5⟩ := (HB.out.gr hg1).cells
      have HB1 := Lib.hid (HB.out.gr hg1)
      have HG := Lib.hid hg1
      clear hg1
      go_wp2_with fail
      refine (HO.out _).mono ?_
      rintro ev w2 ⟨rfl, hg2⟩
      clear c0 c1 c2 c3 c4 c5
      obtain ⟨c0, c1, c2, c3, c4, c5⟩ := (HB1.out.gr hg2).cells
      have HG2 := Lib.hid hg2
      clear hg2
      go_wp2_with (go_at_call 197; (with_reducible refine (HW.out _).mono ?_); rintro ev w3 ⟨rfl, rfl⟩)
      go_ret2
      exact ⟨rfl, (hga.out.tr HG.out).tr HG2.out⟩
    | true =>
      simp only [if_true] at hraw
      have hs := fun w => shifted_calls (dayN y m d) hr.1 hr.2 w
      generalize dayN y m d = D at hs HO hr hraw
      have hw := fun w => within_calls (shiftD D) 0 109572 w
      have HS := Lib.hid hs
      clear hs
      by_cases hr2 : 0 ≤ shiftD D ∧ shiftD D ≤ 109572
      · rw [holR_some (holD_may h hraw hr2)]
        simp only [decide_eq_true hr2] at hw
        have HW := Lib.hid hw
        clear hw hraw hok h
        generalize shiftD D = D2 at *
        go_enter Tryz.func158, Tryz.ntmps158
        go_wp2_with fail
        refine (HM.out _).mono ?_
        rintro ev w1 ⟨rfl, hg1⟩
        obtain ⟨c0, c1, c2, c3, c4, c5⟩ := (HB.out.gr hg1).cells
        have HB1 := Lib.hid (HB.out.gr hg1)
        have HG := Lib.hid hg1
        clear hg1
        go_wp2_with fail
        refine (HO.out _).mono ?_
        rintro ev w2 ⟨rfl, hg2⟩
        clear c0 c1 c2 c3 c4 c5
        obtain ⟨c0, c1, c2, c3, c4, c5⟩ := (HB1.out.gr hg2).cells
        have HG2 := Lib.hid hg2
        clear hg2
        go_wp2_with (first | (go_at_call 197; (with_reducible refine (HW.out _).mono ?_); rintro ev w3 ⟨rfl, rfl⟩) | (go_at_call 200; (with_reducible refine (HS.out _).mono ?_); rintro ev w3 ⟨rfl, rfl⟩))
        go_ret2
        exact ⟨rfl, (hga.out.tr HG.out).tr HG2.out⟩
      · rw [holR_none (holD_far hraw hr2)]
        simp only [decide_eq_false hr2] at hw
        have HW := Lib.hid hw
        clear hw hraw hok h
        generalize shiftD D = D2 at *
        go_enter Tryz.func158, Tryz.ntmps158
        go_wp2_with fail
        refine (HM.out _).mono ?_
        rintro ev w1 ⟨rfl, hg1⟩
        obtain ⟨c0, c1, c2, c3, c4, c5⟩ := (HB.out.gr hg1).cells
        have HB1 := Lib.hid (HB.out.gr hg1)
        have HG := Lib.hid hg1
        clear hg1
        go_wp2_with fail
        refine (HO.out _).mono ?_
        rintro ev w2 ⟨rfl, hg2⟩
        clear c0 c1 c2 c3 c4 c5
        obtain ⟨c0, c1, c2, c3, c4, c5⟩ := (HB1.out.gr hg2).cells
        have HG2 := Lib.hid hg2
        clear hg2
        go_wp2_with (first | (go_at_call 197; (with_reducible refine (HW.out _).mono ?_); rintro ev w3 ⟨rfl, rfl⟩) | (go_at_call 200; (with_reducible refine (HS.out _).mono ?_); rintro ev w3 ⟨rfl, rfl⟩))
        go_ret2
        exact ⟨rfl, (hga.out.tr HG.out).tr HG2.out⟩
  · have hraw : rawD ⟨1, m, d, n, wd, sh⟩ y = none := by
      show (if OkC y m d then some (if sh then shiftD (dayN y m d) else dayN y m d) else none) = _
      exact if_neg hok
    rw [holR_none (holD_raw hraw)]
    simp only [ofD_no hok, ofE_no hok] at hO
    have HO := Lib.hid hO
    clear hO hraw hok h
    go_enter Tryz.func158, Tryz.ntmps158
    go_wp2_with fail
    refine (HM.out _).mono ?_
    rintro ev w1 ⟨rfl, hg1⟩
    obtain ⟨c0, c1, c2, c3, c4, c5⟩ := (HB.out.gr hg1).cells
    have HB1 := Lib.hid (HB.out.gr hg1)
    have HG := Lib.hid hg1
    clear hg1
    go_wp2_with fail
    refine (HO.out _).mono ?_
    rintro ev w2 ⟨rfl, hg2⟩
    clear c0 c1 c2 c3 c4 c5
    obtain ⟨c0, c1, c2, c3, c4, c5⟩ := (HB1.out.gr hg2).cells
    have HG2 := Lib.hid hg2
    clear hg2
    go_wp2
    go_ret2
    exact ⟨rfl, (hga.out.tr HG.out).tr HG2.out⟩
theorem nthV_bd (y m n wd : Int) (hy : 1900 ≤ y ∧ y ≤ 2199) (hb : (1 ≤ m ∧ m ≤ 12) ∧ (0 ≤ wd ∧ wd ≤ 6) ∧ ((1 ≤ n ∧ n ≤ 5) ∨ n = -1)) : -100000000 ≤ nthV y m n wd ∧ nthV y m n wd ≤ 100000000 := by
  have hE := endN_bd y m hy.1 hy.2 hb.1.1 hb.1.2
  have hF := isDay_range (firstN_day y m hy.1 hy.2 hb.1.1 hb.1.2)
  unfold nthV lastWd nthWd
  split <;> omega
set_option maxRecDepth 100000 in
set_option maxHeartbeats 2000000 in
theorem hday_nth (m d n wd y : Int) (h0 : 0 ≤ y) (h1 : y ≤ 1000000) (h : mayR ⟨2, m, d, n, wd, false⟩ = true) (w : World) :
    Calls Tryz.prog 158 #[ruV ⟨2, m, d, n, wd, false⟩, .int .i64 y] w fun e w' => e = holR ⟨2, m, d, n, wd, false⟩ y ∧ Gr w w' := by
  have hm := fun w => may_calls ⟨2, m, d, n, wd, false⟩ w
  simp only [h] at hm
  unfold ruV at hm ⊢
  have HM := Lib.hid hm
  have hga := Lib.hid (boxGr w ⟨2, m, d, n, wd, false⟩)
  have HB := Lib.hid (boxAt_new w ⟨2, m, d, n, wd, false⟩)
  clear hm
  have hb : (1 ≤ m ∧ m ≤ 12) ∧ (0 ≤ wd ∧ wd ≤ 6) ∧ ((1 ≤ n ∧ n ≤ 5) ∨ n = -1) := by
    unfold mayR at h
    simp at h
    omega
  by_cases hy : 1900 ≤ y ∧ y ≤ 2199
  · have hO := fun w => nth_calls m d n wd y 2 false hy.1 hy.2 hb.1.1 hb.1.2 hb.2.1.1 hb.2.1.2 hb.2.2 w
    have hraw : rawD ⟨2, m, d, n, wd, false⟩ y = if nthB y m n wd then some (nthV y m n wd) else none := by
      show (if 1900 ≤ y ∧ y ≤ 2199 then (if n = -1 then some (lastWd y m wd) else if nthWd y m n wd ≤ endN y m then some (nthWd y m n wd) else none) else none) = _
      rw [if_pos hy]
      unfold nthB nthV
      by_cases e : n = -1
      · simp only [if_pos e]
        rfl
      · simp only [if_neg e]
        by_cases e2 : nthWd y m n wd ≤ endN y m
        · simp [e2]
        · simp [e2]
    have hvb : -100000000 ≤ nthV y m n wd ∧ nthV y m n wd ≤ 100000000 := nthV_bd y m n wd hy hb
    generalize nthB y m n wd = bb at hO hraw
    generalize nthV y m n wd = D at hO hraw hvb
    have HO := Lib.hid hO
    clear hO
    cases bb with
    | false =>
      rw [holR_none (holD_raw hraw)]
      clear hraw h hb hy
      go_enter Tryz.func158, Tryz.ntmps158
      go_wp2_with fail
      refine (HM.out _).mono ?_
      rintro ev w1 ⟨rfl, hg1⟩
      obtain ⟨c0, c1, c2, c3, c4, c5⟩ := (HB.out.gr hg1).cells
      have HB1 := Lib.hid (HB.out.gr hg1)
      have HG := Lib.hid hg1
      clear hg1
      go_wp2_with fail
      refine (HO.out _).mono ?_
      rintro ev w2 ⟨rfl, hg2⟩
      clear c0 c1 c2 c3 c4 c5
      obtain ⟨c0, c1, c2, c3, c4, c5⟩ := (HB1.out.gr hg2).cells
      have HG2 := Lib.hid hg2
      clear hg2
      go_wp2
      go_ret2
      exact ⟨rfl, (hga.out.tr HG.out).tr HG2.out⟩
    | true =>
      simp only [if_true] at hraw
      have hw := fun w => within_calls D 0 109572 w
      by_cases hr2 : 0 ≤ D ∧ D ≤ 109572
      · rw [holR_some (holD_may h hraw hr2)]
        simp only [decide_eq_true hr2] at hw
        have HW := Lib.hid hw
        clear hw hraw h hb hy
        go_enter Tryz.func158, Tryz.ntmps158
        go_wp2_with fail
        refine (HM.out _).mono ?_
        rintro ev w1 ⟨rfl, hg1⟩
        obtain ⟨c0, c1, c2, c3, c4, c5⟩ := (HB.out.gr hg1).cells
        have HB1 := Lib.hid (HB.out.gr hg1)
        have HG := Lib.hid hg1
        clear hg1
        go_wp2_with fail
        refine (HO.out _).mono ?_
        rintro ev w2 ⟨rfl, hg2⟩
        clear c0 c1 c2 c3 c4 c5
        obtain ⟨c0, c1, c2, c3, c4, c5⟩ := (HB1.out.gr hg2).cells
        have HG2 := Lib.hid hg2
        clear hg2
        go_wp2_with (go_at_call 197; (with_reducible refine (HW.out _).mono ?_); rintro ev w3 ⟨rfl, rfl⟩)
        go_ret2
        exact ⟨rfl, (hga.out.tr HG.out).tr HG2.out⟩
      · rw [holR_none (holD_far hraw hr2)]
        simp only [decide_eq_false hr2] at hw
        have HW := Lib.hid hw
        clear hw hraw h hb hy
        go_enter Tryz.func158, Tryz.ntmps158
        go_wp2_with fail
        refine (HM.out _).mono ?_
        rintro ev w1 ⟨rfl, hg1⟩
        obtain ⟨c0, c1, c2, c3, c4, c5⟩ := (HB.out.gr hg1).cells
        have HB1 := Lib.hid (HB.out.gr hg1)
        have HG := Lib.hid hg1
        clear hg1
        go_wp2_with fail
        refine (HO.out _).mono ?_
        rintro ev w2 ⟨rfl, hg2⟩
        clear c0 c1 c2 c3 c4 c5
        obtain ⟨c0, c1, c2, c3, c4, c5⟩ := (HB1.out.gr hg2).cells
        have HG2 := Lib.hid hg2
        clear hg2
        go_wp2_with (go_at_call 197; (with_reducible refine (HW.out _).mono ?_); rintro ev w3 ⟨rfl, rfl⟩)
        go_ret2
        exact ⟨rfl, (hga.out.tr HG.out).tr HG2.out⟩
  · have hraw : rawD ⟨2, m, d, n, wd, false⟩ y = none := by
      show (if 1900 ≤ y ∧ y ≤ 2199 then (if n = -1 then some (lastWd y m wd) else if nthWd y m n wd ≤ endN y m then some (nthWd y m n wd) else none) else none) = _
      exact if_neg hy
    rw [holR_none (holD_raw hraw)]
    have HO := Lib.hid (fun w => nth_no m d n wd y 2 false h0 h1 (by omega) w)
    clear hraw h hb hy
    go_enter Tryz.func158, Tryz.ntmps158
    go_wp2_with fail
    refine (HM.out _).mono ?_
    rintro ev w1 ⟨rfl, hg1⟩
    obtain ⟨c0, c1, c2, c3, c4, c5⟩ := (HB.out.gr hg1).cells
    have HB1 := Lib.hid (HB.out.gr hg1)
    have HG := Lib.hid hg1
    clear hg1
    go_wp2_with fail
    refine (HO.out _).mono ?_
    rintro ev w2 ⟨rfl, hg2⟩
    clear c0 c1 c2 c3 c4 c5
    obtain ⟨c0, c1, c2, c3, c4, c5⟩ := (HB1.out.gr hg2).cells
    have HG2 := Lib.hid hg2
    clear hg2
    go_wp2
    go_ret2
    exact ⟨rfl, (hga.out.tr HG.out).tr HG2.out⟩
set_option maxRecDepth 100000 in
set_option maxHeartbeats 2000000 in
theorem hday_easter (m d n wd y : Int) (h : mayR ⟨3, m, d, n, wd, false⟩ = true) (w : World) :
    Calls Tryz.prog 158 #[ruV ⟨3, m, d, n, wd, false⟩, .int .i64 y] w fun e w' => e = holR ⟨3, m, d, n, wd, false⟩ y ∧ Gr w w' := by
  have hm := fun w => may_calls ⟨3, m, d, n, wd, false⟩ w
  simp only [h] at hm
  unfold ruV at hm ⊢
  have HM := Lib.hid hm
  have hga := Lib.hid (boxGr w ⟨3, m, d, n, wd, false⟩)
  have HB := Lib.hid (boxAt_new w ⟨3, m, d, n, wd, false⟩)
  clear hm
  have hb : -100 ≤ n ∧ n ≤ 100 := by
    unfold mayR at h
    simp at h
    omega
  by_cases hy : 1900 ≤ y ∧ y ≤ 2199
  · have hO := fun w => sunday_calls y hy.1 hy.2 w
    have hraw : rawD ⟨3, m, d, n, wd, false⟩ y = some (eastN y + n) := by
      show (if 1900 ≤ y ∧ y ≤ 2199 then some (eastN y + n) else none) = _
      exact if_pos hy
    have hvb := isDay_range (eastN_day y hy.1 hy.2)
    generalize eastN y = D at hO hraw hvb
    have HO := Lib.hid hO
    clear hO
    have hw := fun w => within_calls (D + n) 0 109572 w
    by_cases hr2 : 0 ≤ D + n ∧ D + n ≤ 109572
    · rw [holR_some (holD_may h hraw hr2)]
      simp only [decide_eq_true hr2] at hw
      have HW := Lib.hid hw
      clear hw hraw h hy
      go_enter Tryz.func158, Tryz.ntmps158
      go_wp2_with fail
      refine (HM.out _).mono ?_
      rintro ev w1 ⟨rfl, hg1⟩
      obtain ⟨c0, c1, c2, c3, c4, c5⟩ := (HB.out.gr hg1).cells
      have HB1 := Lib.hid (HB.out.gr hg1)
      have HG := Lib.hid hg1
      clear hg1
      go_wp2_with fail
      refine (HO.out _).mono ?_
      rintro ev w2 ⟨rfl, hg2⟩
      clear c0 c1 c2 c3 c4 c5
      obtain ⟨c0, c1, c2, c3, c4, c5⟩ := (HB1.out.gr hg2).cells
      have HG2 := Lib.hid hg2
      clear hg2
      go_wp2_with (go_at_call 197; (with_reducible refine (HW.out _).mono ?_); rintro ev w3 ⟨rfl, rfl⟩)
      go_ret2
      exact ⟨rfl, (hga.out.tr HG.out).tr HG2.out⟩
    · rw [holR_none (holD_far hraw hr2)]
      simp only [decide_eq_false hr2] at hw
      have HW := Lib.hid hw
      clear hw hraw h hy
      go_enter Tryz.func158, Tryz.ntmps158
      go_wp2_with fail
      refine (HM.out _).mono ?_
      rintro ev w1 ⟨rfl, hg1⟩
      obtain ⟨c0, c1, c2, c3, c4, c5⟩ := (HB.out.gr hg1).cells
      have HB1 := Lib.hid (HB.out.gr hg1)
      have HG := Lib.hid hg1
      clear hg1
      go_wp2_with fail
      refine (HO.out _).mono ?_
      rintro ev w2 ⟨rfl, hg2⟩
      clear c0 c1 c2 c3 c4 c5
      obtain ⟨c0, c1, c2, c3, c4, c5⟩ := (HB1.out.gr hg2).cells
      have HG2 := Lib.hid hg2
      clear hg2
      go_wp2_with (go_at_call 197; (with_reducible refine (HW.out _).mono ?_); rintro ev w3 ⟨rfl, rfl⟩)
      go_ret2
      exact ⟨rfl, (hga.out.tr HG.out).tr HG2.out⟩
  · have hraw : rawD ⟨3, m, d, n, wd, false⟩ y = none := by
      show (if 1900 ≤ y ∧ y ≤ 2199 then some (eastN y + n) else none) = _
      exact if_neg hy
    rw [holR_none (holD_raw hraw)]
    have HO := Lib.hid (fun w => (sunday_no y (by omega) w).mono fun e w' hx => (show e = .returned (.tuple #[.int .i64 0, .iface 169 (.int .i64 4)]) ∧ Gr w w' from ⟨hx.1, hx.2 ▸ Gr.rf w⟩))
    clear hraw h hy
    go_enter Tryz.func158, Tryz.ntmps158
    go_wp2_with fail
    refine (HM.out _).mono ?_
    rintro ev w1 ⟨rfl, hg1⟩
    obtain ⟨c0, c1, c2, c3, c4, c5⟩ := (HB.out.gr hg1).cells
    have HB1 := Lib.hid (HB.out.gr hg1)
    have HG := Lib.hid hg1
    clear hg1
    go_wp2_with fail
    refine (HO.out _).mono ?_
    rintro ev w2 ⟨rfl, hg2⟩
    clear c0 c1 c2 c3 c4 c5
    obtain ⟨c0, c1, c2, c3, c4, c5⟩ := (HB1.out.gr hg2).cells
    have HG2 := Lib.hid hg2
    clear hg2
    go_wp2
    go_ret2
    exact ⟨rfl, (hga.out.tr HG.out).tr HG2.out⟩
/-- holi.Day. -/
theorem hday_calls (r : Ru) (y : Int) (h0 : 0 ≤ y) (h1 : y ≤ 1000000) (w : World) : Calls Tryz.prog 158 #[ruV r, .int .i64 y] w fun e w' => e = holR r y ∧ Gr w w' := by
  cases h : mayR r with
  | false => exact hday_not r y h w
  | true =>
    obtain ⟨k, m, d, n, wd, sh⟩ := r
    by_cases k1 : k = 1
    · subst k1; exact hday_fixed m d n wd y sh h w
    · by_cases k2 : k = 2
      · subst k2
        have hs : sh = false := by
          unfold mayR at h
          simp at h
          exact h.2
        subst hs
        exact hday_nth m d n wd y h0 h1 h w
      · by_cases k3 : k = 3
        · subst k3
          have hs : sh = false := by
            unfold mayR at h
            simp at h
            exact h.2
          subst hs
          exact hday_easter m d n wd y h w
        · exfalso
          unfold mayR at h
          simp only [if_neg k1, if_neg k2, if_neg k3] at h
          cases h
end
section
open Go.RowKit Go.Extern.Stop Go.Stop Go.Extern
set_option linter.unusedVariables false
set_option linter.unusedSimpArgs false

/-- Is a day of civil year y one of a rule's? -/
def isR (r : Ru) (y d : Int) : Bool := decide (holD r (y - 1) = some d ∨ holD r y = some d ∨ holD r (y + 1) = some d)
theorem isR_yes {r : Ru} {y d j : Int} (h0 : y - 1 ≤ j) (h1 : j ≤ y + 1) (h : holD r j = some d) : isR r y d = true := by
  unfold isR
  refine decide_eq_true ?_
  rcases (by omega : j = y - 1 ∨ j = y ∨ j = y + 1) with e | e | e
  · exact .inl (e ▸ h)
  · exact .inr (.inl (e ▸ h))
  · exact .inr (.inr (e ▸ h))
theorem isR_no {r : Ru} {y d : Int} (h : ∀ i, y - 1 ≤ i → i < y + 2 → holD r i ≠ some d) : isR r y d = false := by
  unfold isR
  refine decide_eq_false ?_
  rintro (e | e | e)
  · exact h _ (by omega) (by omega) e
  · exact h _ (by omega) (by omega) e
  · exact h _ (by omega) (by omega) e
set_option maxRecDepth 100000 in
set_option maxHeartbeats 2000000 in
/-- holi.Is. -/
theorem his_calls (r : Ru) (d y m k : Int) (h : IsDay d y m k) (w : World) : Calls Tryz.prog 109 #[ruV r, .int .i64 d] w fun e w' => e = .returned (.bool (isR r y d)) ∧ Gr w w' := by
  have HC := Lib.hid (fun w => civil_calls d y m k h w)
  have hga := Lib.hid (boxGr w r)
  have HB := Lib.hid (boxAt_new w r)
  have HD := Lib.hid (fun (j : Int) (h0 : 0 ≤ j) (h1 : j ≤ 1000000) w => hday_calls r j h0 h1 w)
  have hy0 := h.1
  have hy1 := h.2.1
  have hsz : (w.alloc (.cells #[.int .i64 r.kind, .int .i64 r.month, .int .i64 r.day, .int .i64 r.n, .int .i64 r.wd, .bool r.sh] 137)).heap.size = w.heap.size + 1 := by simp
  have HSZ := Lib.hid hsz
  clear h hsz
  unfold ruV at HD ⊢
  go_enter Tryz.func109, Tryz.ntmps109
  go_wp2_with fail
  refine (HC.out _).mono ?_
  rintro ev w1 ⟨rfl, hg1⟩
  have hb1 := HB.out.gr hg1
  have hsz1 : w.heap.size + 1 ≤ w1.heap.size := by rw [← HSZ.out]; exact hg1.size
  have hn1 : w.heap.size ≠ w1.heap.size := by omega
  have hn2 : w1.heap.size ≠ w.heap.size := by omega
  have HG1 := Lib.hid hg1
  have HB1 := Lib.hid hb1
  clear hg1 hb1
  go_wp2
  have hk0 : (w1.alloc (.cells #[.int .i64 y, .int .i64 m, .int .i64 k] 131)).heap[w1.heap.size]? = some (.cells #[.int .i64 y, .int .i64 m, .int .i64 k] 131 (0, 0)) := heap_alloc_new w1 _
  have hga1 : Gr w1 (w1.alloc (.cells #[.int .i64 y, .int .i64 m, .int .i64 k] 131)) := (Gr.rf w1).alloc (Nat.le_refl _) _
  go_loopg [7] 3 (fun g yv wr => ∃ j : Int, j = y + 2 - (g : Int) ∧ y - 1 ≤ j ∧ j ≤ y + 2 ∧ yv = .int .i64 j ∧ Hid (∀ i, y - 1 ≤ i → i < j → holD r i ≠ some d) ∧ wr.heap[w1.heap.size]? = some (.cells #[.int .i64 y, .int .i64 m, .int .i64 k] 131 (0, 0)) ∧ BoxAt wr w.heap.size r ∧ Gr w wr)
  case atStart =>
    exact ⟨y - 1, by omega, by omega, by omega, rfl, Lib.hid (fun i a b => absurd b (by omega)), hk0, (HB1.out.gr hga1), (hga.out.tr HG1.out).tr hga1⟩
  case round =>
    obtain ⟨j, hj, hj0, hj1, rfl, HN, hbc, hbr, hgr⟩ := hrel
    have HJ := Lib.hid hj
    obtain ⟨c0, c1, c2, c3, c4, c5⟩ := hbr.cells
    have d0 := heap_cell hbc 0
    have HBC := Lib.hid hbc
    have HBR := Lib.hid hbr
    have HGR := Lib.hid hgr
    clear hj hbc hbr hgr hk0 hga1
    by_cases hlt : j ≤ y + 1
    · have hd := fun w => HD.out j (by omega) (by omega) w
      by_cases hhit : holD r j = some d
      · simp only [holR_some hhit] at hd
        have HDJ := Lib.hid hd
        have HY := Lib.hid (isR_yes hj0 hlt hhit)
        clear hd hhit
        go_wp2_with (go_at_call 158; (with_reducible refine (HDJ.out _).mono ?_); rintro ev w2 ⟨rfl, hg2⟩)
        go_ret
        exact ⟨by rw [HY.out]; rfl, HGR.out.tr hg2⟩
      · have HN2 : Hid (∀ i, y - 1 ≤ i → i < j + 1 → holD r i ≠ some d) := Lib.hid (fun i a b => by
          by_cases e : i = j
          · rw [e]; exact hhit
          · exact HN.out i a (by omega))
        cases hv : holD r j with
        | none =>
          simp only [holR_none hv] at hd
          have HDJ := Lib.hid hd
          clear hd hhit hv HN
          go_wp2_with (go_at_call 158; (with_reducible refine (HDJ.out _).mono ?_); rintro ev w2 ⟨rfl, hg2⟩)
          go_roundg (gk - 1)
          case measure => have := HJ.out; omega
          case rel => exact ⟨j + 1, by have := HJ.out; omega, by omega, by omega, rfl, HN2, hg2.heap HBC.out, HBR.out.gr hg2, HGR.out.tr hg2⟩
        | some x =>
          simp only [holR_some hv] at hd
          have HDJ := Lib.hid hd
          have hx : (x == d) = false := beq_eq_false_iff_ne.2 (fun e => hhit (e ▸ hv))
          clear hd hhit hv HN
          go_wp2_with (go_at_call 158; (with_reducible refine (HDJ.out _).mono ?_); rintro ev w2 ⟨rfl, hg2⟩)
          go_roundg (gk - 1)
          case measure => have := HJ.out; omega
          case rel => exact ⟨j + 1, by have := HJ.out; omega, by omega, by omega, rfl, HN2, hg2.heap HBC.out, HBR.out.gr hg2, HGR.out.tr hg2⟩
    · have hje : j = y + 2 := by omega
      have hlf : decide (j ≤ y + 1) = false := decide_eq_false hlt
      have HY := Lib.hid (isR_no (r := r) (y := y) (d := d) (fun i a b => HN.out i a (by omega)))
      go_wp2
      go_ret
      exact ⟨by rw [HY.out]; rfl, HGR.out⟩
end
end Go.Proofs.YtcjjgdoafkdeaaaGreatDoor
