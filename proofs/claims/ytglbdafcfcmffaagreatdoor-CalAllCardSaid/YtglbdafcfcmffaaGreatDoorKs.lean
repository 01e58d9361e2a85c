/- Layer 6: the reference's Holiday, IsRule by contract. -/
import Derived.Test.YtglbdafcfcmffaaGreatDoorKr
import Derived.Test.YtglbdafcfcmffaaGreatDoorKb
import Derived.Deep.RegionHeld3
import Derived.Test.YtglbdafcfcmffaaGreatDoorHe
namespace Go.Proofs.YtglbdafcfcmffaaGreatDoor
open Go.RowKit Go.Extern.Stop Go.Stop Go.Extern
set_option linter.unusedVariables false
set_option linter.unusedSimpArgs false

set_option maxRecDepth 100000 in
theorem rhol_not (r : Ru) (y : Int) (h : mayR r = false) (w : World) : Calls Tryz.prog 158 #[ruV r, .int .i64 y] w fun e w' => e = .returned (.tuple #[.int .i64 0, .bool false]) ∧ Gr w w' := by
  have hm := fun w => rmay_calls r w
  simp only [h] at hm
  obtain ⟨k, m, d, n, wd, sh⟩ := r
  unfold ruV at hm ⊢
  have HM := Lib.hid hm
  have hga := Lib.hid (boxGr w ⟨k, m, d, n, wd, sh⟩)
  clear hm h
  go_enter Tryz.func158, Tryz.ntmps158
  go_wp2_with (go_at_call 86; (with_reducible refine (HM.out _).mono ?_); rintro ev w1 ⟨rfl, hg1⟩)
  go_ret2
  exact ⟨rfl, hga.out.tr hg1⟩
set_option maxRecDepth 100000 in
theorem rhol_far (r : Ru) (y : Int) (h : mayR r = true) (hy : y < 1900 ∨ 2199 < y) (w : World) : Calls Tryz.prog 158 #[ruV r, .int .i64 y] w fun e w' => e = .returned (.tuple #[.int .i64 0, .bool false]) ∧ Gr w w' := by
  have hm := fun w => rmay_calls r w
  simp only [h] at hm
  obtain ⟨k, m, d, n, wd, sh⟩ := r
  unfold ruV at hm ⊢
  have HM := Lib.hid hm
  have hga := Lib.hid (boxGr w ⟨k, m, d, n, wd, sh⟩)
  clear hm h
  rcases hy with hy | hy
  · have b1 : decide (y < 1900) = true := decide_eq_true hy
    go_enter Tryz.func158, Tryz.ntmps158
    go_wp2_with (go_at_call 86; (with_reducible refine (HM.out _).mono ?_); rintro ev w1 ⟨rfl, hg1⟩)
    go_ret2
    exact ⟨rfl, hga.out.tr hg1⟩
  · have b1 : decide (y < 1900) = false := decide_eq_false (by omega)
    have b2 : decide (2199 < y) = true := decide_eq_true hy
    go_enter Tryz.func158, Tryz.ntmps158
    go_wp2_with (go_at_call 86; (with_reducible refine (HM.out _).mono ?_); rintro ev w1 ⟨rfl, hg1⟩)
    go_ret2
    exact ⟨rfl, hga.out.tr hg1⟩
set_option maxRecDepth 100000 in
set_option maxHeartbeats 4000000 in
theorem rhol_fixed (m d n wd y V : Int) (sh b : Bool) (h : mayR ⟨1, m, d, n, wd, sh⟩ = true) (hok : OkC y m d) (hV : (if sh then shiftD (dayN y m d) else dayN y m d) = V) (hb : decide (0 ≤ V ∧ V ≤ 109572) = b) (w : World) :
    Calls Tryz.prog 158 #[ruV ⟨1, m, d, n, wd, sh⟩, .int .i64 y] w fun e w' => e = .returned (.tuple #[.int .i64 V, .bool b]) ∧ Gr w w' := by
  have hm := fun w => rmay_calls ⟨1, m, d, n, wd, sh⟩ w
  simp only [h] at hm
  unfold ruV at hm ⊢
  have HM := Lib.hid hm
  have hga := Lib.hid (boxGr w ⟨1, m, d, n, wd, sh⟩)
  have HB := Lib.hid (boxAt_new w ⟨1, m, d, n, wd, sh⟩)
  have hO := fun w => refOf_calls y m d w
  simp only [ofD_ok hok, decide_eq_true hok] at hO
  have HO := Lib.hid hO
  have hr := isDay_range (okC_day hok)
  have hy0 := hok.1
  have hy1 := hok.2.1
  have hI := fun w => refIs_calls V w
  rw [hb] at hI
  have HI := Lib.hid hI
  clear hm hO h hok hI hb
  generalize dayN y m d = D at HO hr hV
  cases sh with
  | false =>
    simp only [Bool.false_eq_true, if_false] at hV
    subst hV
    go_enter Tryz.func158, Tryz.ntmps158
    go_wp2_with fail
    refine (HM.out _).mono ?_
    rintro ev w1 ⟨rfl, hg1⟩
    obtain ⟨c0, c1, c2, c3, c4, c5⟩ := (HB.out.gr hg1).cells
    have HB1 := Lib.hid (HB.out.gr hg1)
    have HG := Lib.hid hg1
    clear hg1
    go_wp2_with fail
    refine (HO.out _).mono ?_
    rintro ev w2 ⟨rfl, hg2⟩
    clear c0 c1 c2 c3 c4 c5
    obtain ⟨c0, c1, c2, c3, c4, c5⟩ := (HB1.out.gr hg2).cells
    have HG2 := Lib.hid hg2
    clear hg2
    go_wp2_with (go_at_call 94; (with_reducible refine (HI.out _).mono ?_); rintro ev w3 ⟨rfl, rfl⟩)
    go_ret2
    exact ⟨rfl, (hga.out.tr HG.out).tr HG2.out⟩
  | true =>
    simp only [if_true] at hV
    have hw := fun w => rweekday_calls D w hr.1 hr.2
    unfold shiftD at hV
    generalize (D + 1) % 7 = q at hw hV
    have hd0 := hr.1
    have hd1 := hr.2
    have HW := Lib.hid hw
    clear hw hr
    rcases (by by_cases a : q = 6 <;> by_cases c : q = 0 <;> simp_all : (q = 6 ∧ V = D - 1) ∨ (q = 0 ∧ V = D + 1) ∨ ((q == 6) = false ∧ (q == 0) = false ∧ V = D)) with ⟨rfl, rfl⟩ | ⟨rfl, rfl⟩ | ⟨b6, b0, rfl⟩
    all_goals
      clear hV
      go_enter Tryz.func158, Tryz.ntmps158
      go_wp2_with fail
      refine (HM.out _).mono ?_
      rintro ev w1 ⟨rfl, hg1⟩
      obtain ⟨c0, c1, c2, c3, c4, c5⟩ := (HB.out.gr hg1).cells
      have HB1 := Lib.hid (HB.out.gr hg1)
      have HG := Lib.hid hg1
      clear hg1
      go_wp2_with fail
      refine (HO.out _).mono ?_
      rintro ev w2 ⟨rfl, hg2⟩
      clear c0 c1 c2 c3 c4 c5
      obtain ⟨c0, c1, c2, c3, c4, c5⟩ := (HB1.out.gr hg2).cells
      have HG2 := Lib.hid hg2
      clear hg2
      go_wp2_with (first | (go_at_call 95; (with_reducible refine (HW.out _).mono ?_); rintro ev w3 ⟨rfl, rfl⟩) | (go_at_call 94; (with_reducible refine (HI.out _).mono ?_); rintro ev w3 ⟨rfl, rfl⟩))
      go_ret2
      exact ⟨rfl, (hga.out.tr HG.out).tr HG2.out⟩
set_option maxRecDepth 100000 in
set_option maxHeartbeats 4000000 in
theorem rhol_fixed_no (m d n wd y : Int) (sh : Bool) (h : mayR ⟨1, m, d, n, wd, sh⟩ = true) (hy0 : 1900 ≤ y) (hy1 : y ≤ 2199) (hok : ¬ OkC y m d) (w : World) :
    Calls Tryz.prog 158 #[ruV ⟨1, m, d, n, wd, sh⟩, .int .i64 y] w fun e w' => e = .returned (.tuple #[.int .i64 0, .bool false]) ∧ Gr w w' := by
  have hm := fun w => rmay_calls ⟨1, m, d, n, wd, sh⟩ w
  simp only [h] at hm
  unfold ruV at hm ⊢
  have HM := Lib.hid hm
  have hga := Lib.hid (boxGr w ⟨1, m, d, n, wd, sh⟩)
  have HB := Lib.hid (boxAt_new w ⟨1, m, d, n, wd, sh⟩)
  have hO := fun w => refOf_calls y m d w
  simp only [ofD_no hok, decide_eq_false hok] at hO
  have HO := Lib.hid hO
  clear hm hO h hok
  go_enter Tryz.func158, Tryz.ntmps158
  go_wp2_with fail
  refine (HM.out _).mono ?_
  rintro ev w1 ⟨rfl, hg1⟩
  obtain ⟨c0, c1, c2, c3, c4, c5⟩ := (HB.out.gr hg1).cells
  have HB1 := Lib.hid (HB.out.gr hg1)
  have HG := Lib.hid hg1
  clear hg1
  go_wp2_with fail
  refine (HO.out _).mono ?_
  rintro ev w2 ⟨rfl, hg2⟩
  clear c0 c1 c2 c3 c4 c5
  obtain ⟨c0, c1, c2, c3, c4, c5⟩ := (HB1.out.gr hg2).cells
  have HG2 := Lib.hid hg2
  clear hg2
  go_wp2
  go_ret2
  exact ⟨rfl, (hga.out.tr HG.out).tr HG2.out⟩
set_option maxRecDepth 100000 in
set_option maxHeartbeats 4000000 in
theorem rhol_easter (m d n wd y : Int) (b : Bool) (h : mayR ⟨3, m, d, n, wd, false⟩ = true) (hy0 : 1900 ≤ y) (hy1 : y ≤ 2199) (hb : decide (0 ≤ eastN y + n ∧ eastN y + n ≤ 109572) = b) (w : World) :
    Calls Tryz.prog 158 #[ruV ⟨3, m, d, n, wd, false⟩, .int .i64 y] w fun e w' => e = .returned (.tuple #[.int .i64 (eastN y + n), .bool b]) ∧ Gr w w' := by
  have hm := fun w => rmay_calls ⟨3, m, d, n, wd, false⟩ w
  simp only [h] at hm
  have hn : -100 ≤ n ∧ n ≤ 100 := by
    unfold mayR at h
    simp at h
    omega
  unfold ruV at hm ⊢
  have HM := Lib.hid hm
  have hga := Lib.hid (boxGr w ⟨3, m, d, n, wd, false⟩)
  have HB := Lib.hid (boxAt_new w ⟨3, m, d, n, wd, false⟩)
  have hE := fun w => easterR_calls y hy0 hy1 w
  have hr := isDay_range (eastN_day y hy0 hy1)
  generalize eastN y = D at hE hr hb ⊢
  have hI := fun w => refIs_calls (D + n) w
  rw [hb] at hI
  have HI := Lib.hid hI
  have HE := Lib.hid hE
  have hd0 := hr.1
  have hd1 := hr.2
  clear hm hE h hr hI hb
  go_enter Tryz.func158, Tryz.ntmps158
  go_wp2_with fail
  refine (HM.out _).mono ?_
  rintro ev w1 ⟨rfl, hg1⟩
  have hb1 := HB.out.gr hg1
  obtain ⟨c0, c1, c2, c3, c4, c5⟩ := hb1.cells
  have HB1 := Lib.hid hb1
  have HG := Lib.hid hg1
  clear hg1 hb1
  have HK := Lib.hid (fun w' (hg : Gr w1.drew w') => (HB1.out.gr (grOneL hg)).cells.2.2.2.1)
  go_wp2_with fail
  go_region_held3 (fun w' => w'.cell? ⟨w.heap.size, 3, none⟩ = some (.int .i64 n)) (first | go_keep | exact HK.out _ (by assumption))
    (first
      | (go_at_call 194; (with_reducible refine (HE.out _).mono ?_); rintro ev w2 ⟨rfl, hg2⟩))
  go_wp2_with (go_at_call 94; (with_reducible refine (HI.out _).mono ?_); rintro ev w3 ⟨rfl, rfl⟩)
  go_ret2
  exact ⟨ret2 (IntWalk.i64_in _ (by omega)) rfl, (hga.out.tr HG.out).tr (grOneL hg2)⟩
set_option maxRecDepth 100000 in
set_option maxHeartbeats 4000000 in
theorem rhol_nth (m d n wd y V : Int) (b : Bool) (h : mayR ⟨2, m, d, n, wd, false⟩ = true) (hy0 : 1900 ≤ y) (hy1 : y ≤ 2199) (hb : nthB y m n wd = b) (hV : (if b then nthV y m n wd else 0) = V) (hr : b = true → 0 ≤ V ∧ V ≤ 109572) (w : World) :
    Calls Tryz.prog 158 #[ruV ⟨2, m, d, n, wd, false⟩, .int .i64 y] w fun e w' => e = .returned (.tuple #[.int .i64 V, .bool b]) ∧ Gr w w' := by
  have hm := fun w => rmay_calls ⟨2, m, d, n, wd, false⟩ w
  simp only [h] at hm
  have hn : (1 ≤ m ∧ m ≤ 12) ∧ (0 ≤ wd ∧ wd ≤ 6) ∧ ((1 ≤ n ∧ n ≤ 5) ∨ n = -1) := by
    unfold mayR at h
    simp at h
    omega
  have hN := fun w => rnth_calls m d n wd y 2 false hy0 hy1 hn.1.1 hn.1.2 hn.2.1.1 hn.2.1.2 hn.2.2 w
  simp only [hb, hV] at hN
  unfold ruV at hm hN ⊢
  have HM := Lib.hid hm
  have HN := Lib.hid hN
  have hga := Lib.hid (boxGr w ⟨2, m, d, n, wd, false⟩)
  have HB := Lib.hid (boxAt_new w ⟨2, m, d, n, wd, false⟩)
  clear hm hN h hn hb hV
  cases b with
  | false =>
    clear hr
    go_enter Tryz.func158, Tryz.ntmps158
    go_wp2_with fail
    refine (HM.out _).mono ?_
    rintro ev w1 ⟨rfl, hg1⟩
    obtain ⟨c0, c1, c2, c3, c4, c5⟩ := (HB.out.gr hg1).cells
    have HG := Lib.hid hg1
    clear hg1
    go_wp2_with fail
    refine (HN.out _).mono ?_
    rintro ev w2 ⟨rfl, hg2⟩
    go_wp2
    go_ret2
    exact ⟨rfl, (hga.out.tr HG.out).tr hg2⟩
  | true =>
    have hI := fun w => refIs_calls V w
    rw [decide_eq_true (hr rfl)] at hI
    have HI := Lib.hid hI
    clear hr hI
    go_enter Tryz.func158, Tryz.ntmps158
    go_wp2_with fail
    refine (HM.out _).mono ?_
    rintro ev w1 ⟨rfl, hg1⟩
    obtain ⟨c0, c1, c2, c3, c4, c5⟩ := (HB.out.gr hg1).cells
    have HG := Lib.hid hg1
    clear hg1
    go_wp2_with fail
    refine (HN.out _).mono ?_
    rintro ev w2 ⟨rfl, hg2⟩
    go_wp2_with (go_at_call 94; (with_reducible refine (HI.out _).mono ?_); rintro ev w3 ⟨rfl, rfl⟩)
    go_ret2
    exact ⟨rfl, (hga.out.tr HG.out).tr hg2⟩
/-- What the reference's Holiday answers. -/
def RHol (r : Ru) (y : Int) (w : World) (e : Ending) (w' : World) : Prop := (∃ z, e = .returned (.tuple #[.int .i64 z, .bool (holB r y)]) ∧ (holB r y = true → z = holV r y)) ∧ Gr w w'
theorem rhol_end {r : Ru} {y V : Int} {b : Bool} {f : FuncId} {args : Array Value} {w : World} (h : Calls Tryz.prog f args w fun e w' => e = .returned (.tuple #[.int .i64 V, .bool b]) ∧ Gr w w') (hb : holB r y = b) (hV : b = true → V = holV r y) : Calls Tryz.prog f args w (RHol r y w) :=
  h.mono fun e w' hh => ⟨⟨V, by rw [hb]; exact hh.1, fun e => hV (hb ▸ e)⟩, hh.2⟩
theorem rhol_calls (r : Ru) (y : Int) (w : World) : Calls Tryz.prog 158 #[ruV r, .int .i64 y] w (RHol r y w) := by
  cases hm : mayR r with
  | false =>
    have hn : holD r y = none := by unfold holD; rw [hm]; rfl
    exact rhol_end (rhol_not r y hm w) (holD_none hn).2 (fun e => by cases e)
  | true =>
    by_cases hy : y < 1900 ∨ 2199 < y
    · have hn : holD r y = none := by
        cases hd : holD r y with
        | none => rfl
        | some d =>
          obtain ⟨yd, md, kd, hday⟩ := isDay_of d (holD_range hd).1 (holD_range hd).2
          have := (holD_near hd hday).2
          omega
      exact rhol_end (rhol_far r y hm hy w) (holD_none hn).2 (fun e => by cases e)
    · have hy0 : 1900 ≤ y := by omega
      have hy1 : y ≤ 2199 := by omega
      obtain ⟨k, m, d, n, wd, sh⟩ := r
      by_cases h1 : k = 1
      · subst h1
        by_cases hok : OkC y m d
        · have hraw : rawD ⟨1, m, d, n, wd, sh⟩ y = some (if sh then shiftD (dayN y m d) else dayN y m d) := by
            show (if OkC y m d then some (if sh then shiftD (dayN y m d) else dayN y m d) else none) = _
            exact if_pos hok
          obtain ⟨V, hV⟩ : ∃ V, (if sh then shiftD (dayN y m d) else dayN y m d) = V := ⟨_, rfl⟩
          rw [hV] at hraw
          by_cases hr : 0 ≤ V ∧ V ≤ 109572
          · have hs := holD_some (holD_may hm hraw hr)
            exact rhol_end (rhol_fixed m d n wd y V sh true hm hok hV (decide_eq_true hr) w) hs.2 (fun _ => hs.1.symm)
          · exact rhol_end (rhol_fixed m d n wd y V sh false hm hok hV (decide_eq_false hr) w) (holD_none (holD_far hraw hr)).2 (fun e => by cases e)
        · have hraw : rawD ⟨1, m, d, n, wd, sh⟩ y = none := by
            show (if OkC y m d then some (if sh then shiftD (dayN y m d) else dayN y m d) else none) = _
            exact if_neg hok
          exact rhol_end (rhol_fixed_no m d n wd y sh hm hy0 hy1 hok w) (holD_none (holD_raw hraw)).2 (fun e => by cases e)
      · by_cases h2 : k = 2
        · subst h2
          have hsh : sh = false := by
            unfold mayR at hm
            simp at hm
            exact hm.2
          subst hsh
          have hn : (1 ≤ m ∧ m ≤ 12) ∧ (0 ≤ wd ∧ wd ≤ 6) ∧ ((1 ≤ n ∧ n ≤ 5) ∨ n = -1) := by
            unfold mayR at hm
            simp at hm
            omega
          have hraw : rawD ⟨2, m, d, n, wd, false⟩ y = if nthB y m n wd then some (nthV y m n wd) else none := by
            show (if 1900 ≤ y ∧ y ≤ 2199 then (if n = -1 then some (lastWd y m wd) else if nthWd y m n wd ≤ endN y m then some (nthWd y m n wd) else none) else none) = _
            rw [if_pos ⟨hy0, hy1⟩]
            unfold nthB nthV
            by_cases e : n = -1
            · simp only [if_pos e]
              rfl
            · simp only [if_neg e]
              by_cases e2 : nthWd y m n wd ≤ endN y m
              · simp [e2]
              · simp [e2]
          cases hb : nthB y m n wd with
          | false =>
            rw [hb] at hraw
            exact rhol_end (rhol_nth m d n wd y 0 false hm hy0 hy1 hb rfl (fun e => by cases e) w) (holD_none (holD_raw hraw)).2 (fun e => by cases e)
          | true =>
            rw [hb, if_pos rfl] at hraw
            have hE := endN_bd y m hy0 hy1 hn.1.1 hn.1.2
            have hF := isDay_range (firstN_day y m hy0 hy1 hn.1.1 hn.1.2)
            have hfe := endN_first y m
            have hl28 := lenM_pos y m hn.1.1 hn.1.2
            have hr : 0 ≤ nthV y m n wd ∧ nthV y m n wd ≤ 109572 := by
              unfold nthB at hb
              unfold nthV
              by_cases e : n = -1
              · rw [if_pos e]; unfold lastWd; omega
              · rw [if_neg e] at hb ⊢
                have := of_decide_eq_true hb
                unfold nthWd at this ⊢
                omega
            have hs := holD_some (holD_may hm hraw hr)
            exact rhol_end (rhol_nth m d n wd y (nthV y m n wd) true hm hy0 hy1 hb rfl (fun _ => hr) w) hs.2 (fun _ => hs.1.symm)
        · have h3 : k = 3 := by
            by_cases e : k = 3
            · exact e
            · unfold mayR at hm
              simp [h1, h2, e] at hm
          subst h3
          have hsh : sh = false := by
            unfold mayR at hm
            simp at hm
            exact hm.2
          subst hsh
          have hraw : rawD ⟨3, m, d, n, wd, false⟩ y = some (eastN y + n) := by
            show (if 1900 ≤ y ∧ y ≤ 2199 then some (eastN y + n) else none) = _
            exact if_pos ⟨hy0, hy1⟩
          by_cases hr : 0 ≤ eastN y + n ∧ eastN y + n ≤ 109572
          · have hs := holD_some (holD_may hm hraw hr)
            exact rhol_end (rhol_easter m d n wd y true hm hy0 hy1 (decide_eq_true hr) w) hs.2 (fun _ => hs.1.symm)
          · exact rhol_end (rhol_easter m d n wd y false hm hy0 hy1 (decide_eq_false hr) w) (holD_none (holD_far hraw hr)).2 (fun e => by cases e)
end Go.Proofs.YtglbdafcfcmffaaGreatDoor
