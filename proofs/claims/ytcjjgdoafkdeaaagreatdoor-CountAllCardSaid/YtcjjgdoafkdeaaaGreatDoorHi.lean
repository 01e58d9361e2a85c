/- Layer 6: what begun reckons, by contract; Layer 6: begun by contract; Layer 6: what the laws call: Day, same; the reference's Leap, Length, year, Is, Weekday, by contract. -/
import Derived.Test.YtcjjgdoafkdeaaaGreatDoorHg
import Derived.Test.YtcjjgdoafkdeaaaGreatDoorHh
import Derived.Test.YtcjjgdoafkdeaaaGreatDoorGq
import Derived.Test.YtcjjgdoafkdeaaaGreatDoorGr
import Derived.IntWalk
namespace Go.Proofs.YtcjjgdoafkdeaaaGreatDoor
section
open Go.RowKit Go.Extern.Stop Go.Stop Go.Extern Go.Sort
set_option linter.unusedVariables false
set_option linter.unusedSimpArgs false

theorem dayA : IsDay 36583 2000 2 29 := by unfold IsDay; decide +kernel
theorem dayB : IsDay 36948 2001 2 28 := by unfold IsDay; decide +kernel
theorem dayC : IsDay 45380 2024 3 31 := by unfold IsDay; decide +kernel
theorem day0 : IsDay 0 1900 1 1 := by unfold IsDay; decide +kernel
theorem ofA_calls (w : World) : Calls Tryz.prog 98 #[.agg #[.int .i64 2000, .int .i64 2, .int .i64 29]] w fun e w' => e = .returned (.tuple #[.int .i64 36583, .nilIface]) ∧ Gr w w' := by
  have h := day_of_calls 2000 2 29 w
  rw [ofD_day dayA, ofE_day dayA] at h
  exact h
theorem addA_calls (w : World) : Calls Tryz.prog 100 #[.int .i64 36583, .int .i64 12, .bool false] w fun e w' => e = .returned (.tuple #[.int .i64 36948, .nilIface]) ∧ Gr w w' := by
  have h := madd_calls 36583 2000 2 29 12 false dayA (by decide) (by decide) w
  rw [show monY 2000 2 12 = 2001 by decide, show monM 2000 2 12 = 2 by decide, show monD 2000 2 29 12 false = 28 by decide +kernel, ofD_day dayB, ofE_day dayB] at h
  exact h
theorem sunA_calls (w : World) : Calls Tryz.prog 101 #[.int .i64 2024] w fun e w' => e = .returned (.tuple #[.int .i64 45380, .nilIface]) ∧ Gr w w' := by
  have h := sunday_calls 2024 (by decide) (by decide) w
  rw [show eastN 2024 = 45380 by decide +kernel] at h
  exact h
theorem textA_calls (w : World) (hT : PowTab w) : Calls Tryz.prog 106 #[.int .i64 36583] w fun e w' => e = .returned (.string ⟨#[50, 48, 48, 48, 45, 48, 50, 45, 50, 57]⟩) ∧ Gr w w' := by
  have h := dtext_calls 36583 2000 2 29 dayA w hT
  rw [show (dayL (2000 : Int).toNat (2 : Int).toNat (29 : Int).toNat) = [50, 48, 48, 48, 45, 48, 50, 45, 50, 57] by
    show dayL 2000 2 29 = _
    unfold dayL; rw [pad_four 2000 (by decide) (by decide), pad_two 2 (by decide), pad_two 29 (by decide)]; rfl] at h
  exact h
theorem textB_calls (w : World) (hT : PowTab w) : Calls Tryz.prog 106 #[.int .i64 36948] w fun e w' => e = .returned (.string ⟨#[50, 48, 48, 49, 45, 48, 50, 45, 50, 56]⟩) ∧ Gr w w' := by
  have h := dtext_calls 36948 2001 2 28 dayB w hT
  rw [show (dayL (2001 : Int).toNat (2 : Int).toNat (28 : Int).toNat) = [50, 48, 48, 49, 45, 48, 50, 45, 50, 56] by
    show dayL 2001 2 28 = _
    unfold dayL; rw [pad_four 2001 (by decide) (by decide), pad_two 2 (by decide), pad_two 28 (by decide)]; rfl] at h
  exact h
theorem textC_calls (w : World) (hT : PowTab w) : Calls Tryz.prog 106 #[.int .i64 45380] w fun e w' => e = .returned (.string ⟨#[50, 48, 50, 52, 45, 48, 51, 45, 51, 49]⟩) ∧ Gr w w' := by
  have h := dtext_calls 45380 2024 3 31 dayC w hT
  rw [show (dayL (2024 : Int).toNat (3 : Int).toNat (31 : Int).toNat) = [50, 48, 50, 52, 45, 48, 51, 45, 51, 49] by
    show dayL 2024 3 31 = _
    unfold dayL; rw [pad_four 2024 (by decide) (by decide), pad_two 3 (by decide), pad_two 31 (by decide)]; rfl] at h
  exact h
def ruA : Ru := ⟨1, 1, 1, 0, 0, false⟩
theorem ruA_may : mayR ruA = true := by decide +kernel
theorem ruA_day (y : Int) (h0 : 1900 ≤ y) (h1 : y ≤ 2199) : holD ruA y = some (befY y) := by
  have hl := lenM_pos y 1 (by decide) (by decide)
  have hok : OkC y 1 1 := ⟨h0, h1, by decide, by omega⟩
  have e : dayN y 1 1 = befY y := by unfold dayN; rw [cumM_one]; omega
  have hr := isDay_range (okC_day hok)
  refine holD_may ruA_may (show (if OkC y 1 1 then some (if false = true then shiftD (dayN y 1 1) else dayN y 1 1) else none) = some (befY y) from ?_) (e ▸ hr)
  rw [if_pos hok, ← e]
  rfl
theorem ruA_shut {S : Int → Bool} (h : ShutBy [ruA] [] S) : S 0 = true ∧ S 1 = false := by
  refine ⟨(h 0).2 (.inr ⟨ruA, by simp, 1900, by decide, by decide, by rw [ruA_day 1900 (by decide) (by decide), befY_first]⟩), ?_⟩
  rw [Bool.eq_false_iff]
  intro e
  rcases (h 1).1 e with h1 | ⟨r, hr, y, h1, h2, h3⟩
  · cases h1
  · rw [List.mem_singleton.1 hr, ruA_day y h1 h2] at h3
    have h4 := Option.some.inj h3
    by_cases hy : y = 1900
    · rw [hy, befY_first] at h4; omega
    · have := befY_mono 1901 y (by omega)
      have h5 : befY 1901 = 365 := by decide
      omega
theorem tow_A {S : Int → Bool} (h : ShutBy [ruA] [] S) : TowF S (fun k => 0 + k) 1 := by
  obtain ⟨h0, h1⟩ := ruA_shut h
  refine .inr ⟨1, rfl, ?_, fun j hj => ?_⟩
  · unfold openB; rw [h1]; decide
  · obtain rfl : j = 0 := by omega
    show openB S 0 = false
    unfold openB; rw [h0]; simp
theorem open_A {S : Int → Bool} (h : ShutBy [ruA] [] S) : openB S 0 = false ∧ openB S 1 = true := by
  obtain ⟨h0, h1⟩ := ruA_shut h
  exact ⟨by unfold openB; rw [h0]; simp, by unfold openB; rw [h1]; decide⟩
theorem isA : isR ruA 1900 0 = true := isR_yes (j := 1900) (by decide) (by decide) (by rw [ruA_day 1900 (by decide) (by decide), befY_first])
theorem partA_calls (w : World) (hT : BitTab w) : Calls Tryz.prog 47 #[.int .i64 1, .int .i64 36583, .int .i64 36948, .int .i64 0, .int .i64 0, .int .i64 0] w fun e w' => (∃ b, e = .returned (.tuple #[.pointer (some ⟨b, 0, none⟩), .nilIface]) ∧ RatAt w' (.pointer (some ⟨b, 0, none⟩)) 359 360) ∧ Gr w w' := by
  refine (part30_calls 36583 36948 2000 2 29 2001 2 28 0 0 0 dayA dayB (by decide) w hT).mono ?_
  rintro e w' ⟨⟨b, n, d, rfl, hr, hnd, _⟩, hg⟩
  rw [show days30 2000 2 29 2001 2 28 = 359 by decide] at hnd
  obtain ⟨e1, e2⟩ := rat_unique n 359 359 360 d 360 (by decide) hnd (by decide) hr.pos (by decide) hr.cop (by decide)
  subst e1
  subst e2
  exact ⟨⟨b, rfl, hr⟩, hg⟩
theorem dig359 : Lib.decDigits 359 = [51, 53, 57] := digits_of [51, 53, 57] 359 (by decide) (by unfold Dig; decide) (by decide) (.inr (by decide))
theorem dig360 : Lib.decDigits 360 = [51, 54, 48] := digits_of [51, 54, 48] 360 (by decide) (by unfold Dig; decide) (by decide) (.inr (by decide))
theorem textP_calls (v : Value) (w : World) (h : RatAt w v 359 360) (hT : PowTab w) : Calls Tryz.prog 18 #[v] w fun e w' => e = .returned (.string ⟨#[51, 53, 57, 47, 51, 54, 48]⟩) ∧ Gr w w' := by
  have h1 := textRat_calls v 359 360 w h 1 (by decide) (by decide) (by decide) (by decide) hT
  rw [show ratText 359 360 = [51, 53, 57, 47, 51, 54, 48] by
    unfold ratText
    rw [if_neg (by decide), show Lib.itoa 359 = Lib.decDigits 359 from itoa_nat 359, dig359, dig360]; rfl] at h1
  exact h1
set_option maxRecDepth 100000 in
theorem begunC_calls (w : World) (hM : Met2 w) : Calls Tryz.prog 105 #[] w fun e w' => e = .returned (.bool true) ∧ Gr w w' := by
  have H := Lib.hid (begun2_calls w hM.1 hM.2.1 hM.2.2)
  clear hM
  go_enter Tryz.func105, Tryz.ntmps105
  go_wp2_with (go_at_call 11; (with_reducible refine H.out.mono ?_); rintro ev w1 ⟨rfl, hg1⟩)
  go_ret
  exact ⟨rfl, hg1⟩
set_option maxRecDepth 100000 in
theorem count30_calls (w : World) : Calls Tryz.prog 104 #[] w fun e w' => e = .returned (.int .i64 1) ∧ w = w' := by
  go_enter Tryz.func104, Tryz.ntmps104
  go_wp2
  go_ret
  exact ⟨rfl, rfl⟩
theorem lastA_calls (w : World) : Calls Tryz.prog 110 #[.int .i64 36583] w fun e w' => e = .returned (.bool true) ∧ Gr w w' := by
  have h := last_calls 36583 2000 2 29 dayA w
  rw [show decide ((29 : Int) = lenM 2000 2) = true by decide +kernel] at h
  exact h
theorem isA_calls (w : World) : Calls Tryz.prog 109 #[.agg #[.int .i64 1, .int .i64 1, .int .i64 1, .int .i64 0, .int .i64 0, .bool false], .int .i64 0] w fun e w' => e = .returned (.bool true) ∧ Gr w w' := by
  have h := his_calls ruA 0 1900 1 1 day0 w
  rw [isA] at h
  exact h
theorem wd0_calls (w : World) : Calls Tryz.prog 108 #[.int .i64 0] w fun e w' => e = .returned (.int .i64 1) ∧ w = w' := weekday_calls 0 w (by decide) (by decide)
end
section
open Go.RowKit Go.Extern.Stop Go.Stop Go.Extern Go.Sort
set_option linter.unusedVariables false
set_option linter.unusedSimpArgs false

theorem Met2.keep {w w' : World} (h : Met2 w) (hg : Gr w w') : Met2 w' := ⟨h.1.gr hg, h.2.1.gr hg, h.2.2.gr hg⟩
theorem rulesA (w : World) : RulesAt (w.alloc (.cells #[.int .i64 1, .int .i64 1, .int .i64 1, .int .i64 0, .int .i64 0, .bool false] 137)) (.slice (some ⟨w.heap.size, 0, none⟩) 1 1) [ruA] := by
  refine .inr ⟨w.heap.size, 0, 1, rfl, by simp, fun j r hj => ?_⟩
  obtain rfl : j = 0 := by
    have := (List.getElem?_eq_some_iff.1 hj).1
    simp at this
    omega
  obtain rfl : ruA = r := by simpa using hj
  have hb := heap_alloc_new w (.cells #[.int .i64 1, .int .i64 1, .int .i64 1, .int .i64 0, .int .i64 0, .bool false] 137)
  exact ⟨heap_cell hb 0, heap_cell hb 1, heap_cell hb 2, heap_cell hb 3, heap_cell hb 4, heap_cell hb 5⟩
theorem newA_calls (v : Value) (w : World) (h : RulesAt w v [ruA]) : Calls Tryz.prog 102 #[v, .slice none 0 0] w (Newed [ruA] [] w) :=
  calnew_calls [ruA] v [] (.slice none 0 0) w h (.inl ⟨rfl, none, 0, rfl⟩) (by decide) (by decide) (fun r hr => by rw [List.mem_singleton.1 hr]; exact ruA_may) (fun d hd => by cases hd)
theorem joinA_calls (p b n : Nat) (S : Int → Bool) (w : World) (h : CalIn w p b n S) (hn : n ≤ 6100) :
    Calls Tryz.prog 111 #[.slice (some ⟨w.heap.size, 0, none⟩) 2 2] (w.alloc (.cells #[.pointer (some ⟨p, 0, none⟩), .pointer none] 138)) (Joined [S, fun _ => false] 6100 (w.alloc (.cells #[.pointer (some ⟨p, 0, none⟩), .pointer none] 138))) := by
  refine join_calls [S, fun _ => false] _ 6100 _ (.inr ⟨w.heap.size, 0, 2, rfl, by simp, fun j T hj => ?_⟩) (by simp) (by decide)
  have hb := heap_alloc_new w (.cells #[.pointer (some ⟨p, 0, none⟩), .pointer none] 138)
  have hg : Gr w (w.alloc (.cells #[.pointer (some ⟨p, 0, none⟩), .pointer none] 138)) := (Gr.rf w).alloc (Nat.le_refl _) _
  have hl := (List.getElem?_eq_some_iff.1 hj).1
  rcases (by simp at hl; omega : j = 0 ∨ j = 1) with rfl | rfl
  · obtain rfl : S = T := by simpa using hj
    exact ⟨_, heap_cell hb 0, .inr ⟨p, b, n, hn, rfl, h.gr hg⟩⟩
  · obtain rfl : (fun _ => false) = T := by simpa using hj
    exact ⟨_, heap_cell hb 1, .inl ⟨rfl, rfl⟩⟩
set_option maxRecDepth 100000 in
set_option maxHeartbeats 8000000 in
theorem begun6_calls (w : World) (hM : Met2 w) : Calls Tryz.prog 45 #[] w fun e w' => e = .returned (.bool true) ∧ Gr w w' := by
  have HM := Lib.hid hM
  clear hM
  go_enter Tryz.func45, Tryz.ntmps45
  go_wp2_with (go_at_call 98; (with_reducible refine (ofA_calls _).mono ?_); rintro ev w1 ⟨rfl, hg1⟩)
  have HC := Lib.hid (civil_calls 36583 2000 2 29 dayA w1)
  go_wp2_with (go_at_call 99; (with_reducible refine HC.out.mono ?_); rintro ev w2 ⟨rfl, hg2⟩)
  have hb := heap_alloc_new w2 (.cells #[.int .i64 2000, .int .i64 2, .int .i64 29] 131)
  have HG3 := Lib.hid ((hg1.tr hg2).tr ((Gr.rf w2).alloc (Nat.le_refl _) (.cells #[.int .i64 2000, .int .i64 2, .int .i64 29] 131)))
  generalize w2.alloc (.cells #[.int .i64 2000, .int .i64 2, .int .i64 29] 131) = w3 at hb HG3 ⊢
  generalize w2.heap.size = cb at hb ⊢
  have HCB := Lib.hid hb
  clear hb hg1 hg2
  go_wp2_with (go_at_call 100; (with_reducible refine (addA_calls _).mono ?_); rintro ev w4 ⟨rfl, hg4⟩)
  go_wp2_with (go_at_call 101; (with_reducible refine (sunA_calls _).mono ?_); rintro ev w5 ⟨rfl, hg5⟩)
  have HCB5 := Lib.hid ((hg4.tr hg5).heap HCB.out)
  have HG5 := Lib.hid (HG3.out.tr (hg4.tr hg5))
  clear hg4 hg5
  have HR0 : RulesAt ((w5.alloc (.cells #[.int .i64 1, .int .i64 1, .int .i64 1, .int .i64 0, .int .i64 0, .bool false] 137)).alloc (.cells #[.int .i64 1, .int .i64 1, .int .i64 1, .int .i64 0, .int .i64 0, .bool false] 137)) (.slice (some ⟨w5.heap.size + 1, 0, none⟩) 1 1) [ruA] := by
    have h := rulesA (w5.alloc (.cells #[.int .i64 1, .int .i64 1, .int .i64 1, .int .i64 0, .int .i64 0, .bool false] 137))
    rw [show (w5.alloc (.cells #[.int .i64 1, .int .i64 1, .int .i64 1, .int .i64 0, .int .i64 0, .bool false] 137)).heap.size = w5.heap.size + 1 by simp] at h
    exact h
  have hb := heap_alloc_new w5 (.cells #[.int .i64 1, .int .i64 1, .int .i64 1, .int .i64 0, .int .i64 0, .bool false] 137)
  have hga : Gr w5 ((w5.alloc (.cells #[.int .i64 1, .int .i64 1, .int .i64 1, .int .i64 0, .int .i64 0, .bool false] 137)).alloc (.cells #[.int .i64 1, .int .i64 1, .int .i64 1, .int .i64 0, .int .i64 0, .bool false] 137)) := ((Gr.rf w5).alloc (Nat.le_refl _) _).alloc (by simp) _
  have hgb : Gr (w5.alloc (.cells #[.int .i64 1, .int .i64 1, .int .i64 1, .int .i64 0, .int .i64 0, .bool false] 137)) ((w5.alloc (.cells #[.int .i64 1, .int .i64 1, .int .i64 1, .int .i64 0, .int .i64 0, .bool false] 137)).alloc (.cells #[.int .i64 1, .int .i64 1, .int .i64 1, .int .i64 0, .int .i64 0, .bool false] 137)) := (Gr.rf _).alloc (Nat.le_refl _) _
  have hb7 := hgb.heap hb
  have HCB7 := Lib.hid (hga.heap HCB5.out)
  have HG7 := Lib.hid (HG5.out.tr hga)
  clear hb hga hgb
  generalize (w5.alloc (.cells #[.int .i64 1, .int .i64 1, .int .i64 1, .int .i64 0, .int .i64 0, .bool false] 137)).alloc (.cells #[.int .i64 1, .int .i64 1, .int .i64 1, .int .i64 0, .int .i64 0, .bool false] 137) = w7 at HR0 hb7 HCB7 HG7 ⊢
  generalize w5.heap.size = rb at HR0 hb7 ⊢
  have HRB7 := Lib.hid hb7
  have HR := Lib.hid HR0
  clear hb7 HR0 HCB5 HG5 HG3 HCB
  refine (newA_calls _ _ HR.out).mono ?_
  rintro ev w8 ⟨⟨p8, b8, n8, S, rfl, hci, hsb, hn8⟩, hg8⟩
  have HCI := Lib.hid hci
  have HSB := Lib.hid hsb
  have HN8 := Lib.hid hn8
  have HCB8 := Lib.hid (hg8.heap HCB7.out)
  have HRB8 := Lib.hid (hg8.heap HRB7.out)
  have HG8 := Lib.hid (HG7.out.tr hg8)
  clear hci hsb hn8 hg8 HG7 HCB7 HRB7 HR
  have HRO := Lib.hid (roll1_calls _ S 0 1 (by decide) (by decide) (tow_A HSB.out) (by decide) w8 HCI.out.at_)
  go_wp2_with (go_at_call 103; (with_reducible refine HRO.out.mono ?_); rintro ev w9 ⟨rfl, rfl⟩)
  go_wp2_with (go_at_call 104; (with_reducible refine (count30_calls _).mono ?_); rintro ev w9 ⟨rfl, rfl⟩)
  have HPA := Lib.hid (partA_calls w8 (HM.out.keep HG8.out).2.1)
  go_wp2_with (go_at_call 47; (with_reducible refine HPA.out.mono ?_); rintro ev w9 ⟨⟨b9, rfl, hr9⟩, hg9⟩; have HR9 := Lib.hid hr9; have HG9 := Lib.hid hg9; clear hr9 hg9)
  have G9 := Lib.hid (HG8.out.tr HG9.out)
  have HBG := Lib.hid (begunC_calls w9 (HM.out.keep G9.out))
  go_wp2_with fail
  refine HBG.out.mono ?_
  rintro ev w10 ⟨rfl, hg10⟩
  have hcb10 := (HG9.out.tr hg10).heap HCB8.out
  have d2 := heap_cell hcb10 2
  have G810 := Lib.hid (HG9.out.tr hg10)
  have G910 := Lib.hid hg10
  have G10 := Lib.hid (G9.out.tr hg10)
  clear hcb10 hg10
  have HT1 := Lib.hid (textA_calls w10 (HM.out.keep G10.out).2.2)
  go_wp2_with (go_at_call 106; (with_reducible refine HT1.out.mono ?_); rintro ev w11 ⟨rfl, hg11⟩)
  have HT2 := Lib.hid (textB_calls w11 (HM.out.keep (G10.out.tr hg11)).2.2)
  go_wp2_with (go_at_call 106; (with_reducible refine HT2.out.mono ?_); rintro ev w12 ⟨rfl, hg12⟩)
  have HT3 := Lib.hid (textC_calls w12 (HM.out.keep (G10.out.tr (hg11.tr hg12))).2.2)
  go_wp2_with (go_at_call 106; (with_reducible refine HT3.out.mono ?_); rintro ev w13 ⟨rfl, hg13⟩)
  have g1013 := hg11.tr (hg12.tr hg13)
  have HCI13 := Lib.hid (HCI.out.gr (G810.out.tr g1013))
  have ho0 := open_calls _ S 0 (by decide) (by decide) w13 HCI13.out.at_
  rw [(open_A HSB.out).1] at ho0
  have ho1 := open_calls _ S 1 (by decide) (by decide) w13 HCI13.out.at_
  rw [(open_A HSB.out).2] at ho1
  have HO0 := Lib.hid ho0
  have HO1 := Lib.hid ho1
  have HG1013 := Lib.hid g1013
  clear ho0 ho1 g1013
  go_wp2_with (first | (go_at_call 107; (with_reducible refine HO0.out.mono ?_); rintro ev w14 ⟨rfl, rfl⟩) | (go_at_call 107; (with_reducible refine HO1.out.mono ?_); rintro ev w14 ⟨rfl, rfl⟩))
  have HTP := Lib.hid (textP_calls _ w13 (HR9.out.gr (G910.out.tr HG1013.out)) (HM.out.keep (G10.out.tr HG1013.out)).2.2)
  go_wp2_with (go_at_call 18; (with_reducible refine HTP.out.mono ?_); rintro ev w14 ⟨rfl, hg14⟩)
  have hrb14 := (G810.out.tr (HG1013.out.tr hg14)).heap HRB8.out
  have r0 := heap_cell hrb14 0
  have r1 := heap_cell hrb14 1
  have r2 := heap_cell hrb14 2
  have r3 := heap_cell hrb14 3
  have r4 := heap_cell hrb14 4
  have r5 := heap_cell hrb14 5
  clear hrb14
  go_wp2_with (first | (go_at_call 108; (with_reducible refine (wd0_calls _).mono ?_); rintro ev w15 ⟨rfl, rfl⟩) | (go_at_call 109; (with_reducible refine (isA_calls _).mono ?_); rintro ev w15 ⟨rfl, hg15⟩))
  go_wp2_with (go_at_call 110; (with_reducible refine (lastA_calls _).mono ?_); rintro ev w16 ⟨rfl, hg16⟩)
  have HG16 := Lib.hid (G10.out.tr (HG1013.out.tr (hg14.tr (hg15.tr hg16))))
  have HCI16 := Lib.hid (HCI13.out.gr (hg14.tr (hg15.tr hg16)))
  clear r0 r1 r2 r3 r4 r5 d2
  refine (joinA_calls _ _ _ _ _ HCI16.out HN8.out).mono ?_
  rintro ev w17 ⟨⟨p17, b17, n17, S17, rfl, _, _⟩, hg17⟩
  go_wp2
  go_ret
  have hga : Gr w16 (w16.alloc (.cells #[.pointer (some ⟨p8, 0, none⟩), .pointer none] 138)) := (Gr.rf w16).alloc (Nat.le_refl _) _
  exact ⟨rfl, HG16.out.tr (hga.tr hg17)⟩
end
section
open Go.RowKit Go.Extern.Stop Go.Stop Go.Extern
set_option linter.unusedVariables false
set_option linter.unusedSimpArgs false

theorem tmod_bd (n k : Int) (hk : 0 < k) : -k < n.tmod k ∧ n.tmod k < k := by
  have h := Int.tmod_lt_of_pos n hk
  have h2 := Int.tmod_lt_of_pos (-n) hk
  rw [Int.neg_tmod] at h2
  omega
/-- (n % k + k) % k, as Go reckons it. -/
theorem mod_mod (n k : Int) (hk : 0 < k) : (n.tmod k + k) % k = n % k := by
  rw [Int.add_emod_right, Int.tmod_def]
  have e : n - k * n.tdiv k = n + k * (-(n.tdiv k)) := by rw [Int.mul_neg]; omega
  rw [e, Int.add_mul_emod_self_left]
theorem and_bd (y : Int) (m : Nat) (hm : m ≤ 1000000) : 0 ≤ bits .and .i64 y (m : Int) ∧ bits .and .i64 y (m : Int) ≤ m := by
  have h2 : (BitVec.ofInt 64 (m : Int)).toNat = m := by
    rw [BitVec.ofInt_natCast, BitVec.toNat_ofNat]; exact Nat.mod_eq_of_lt (by omega)
  have hz : (BitVec.ofInt 64 y &&& BitVec.ofInt 64 (m : Int)).toNat ≤ m := by
    rw [BitVec.toNat_and, h2]; exact Nat.and_le_right
  show 0 ≤ IntKind.i64.wrap ((BitVec.ofInt 64 y &&& BitVec.ofInt 64 (m : Int)).toNat : Int) ∧ IntKind.i64.wrap ((BitVec.ofInt 64 y &&& BitVec.ofInt 64 (m : Int)).toNat : Int) ≤ m
  generalize (BitVec.ofInt 64 y &&& BitVec.ofInt 64 (m : Int)).toNat = z at hz ⊢
  rw [IntWalk.i64_in _ (by omega)]
  omega
set_option maxRecDepth 100000 in
/-- rentierlaw6.Day. -/
theorem day6_calls (n : Int) (w : World) : Calls Tryz.prog 46 #[.int .i64 n] w fun e w' => e = .returned (.int .i64 (n % 109573)) ∧ w = w' := by
  have hb := tmod_bd n 109573 (by decide)
  have he := mod_mod n 109573 (by decide)
  have HE := Lib.hid he
  have h0 : -109573 < n.tmod 109573 := hb.1
  have h1 : n.tmod 109573 < 109573 := hb.2
  clear he hb
  generalize n % 109573 = D at HE ⊢
  go_enter Tryz.func46, Tryz.ntmps46
  go_wp2
  go_ret
  exact ⟨retInt (by rw [← HE.out]; congr 1; omega), rfl⟩
theorem day6_bd (n : Int) : 0 ≤ n % 109573 ∧ n % 109573 ≤ 109572 := by omega
set_option maxRecDepth 100000 in
/-- rentierlaw6.same. -/
theorem same6_calls (v : Value) (e : Er) (c : Int) (w : World) (hg : Has w) (h : ErAt w v e) : Calls Tryz.prog 49 #[v, .int .i64 c] w fun ev w' => ev = .returned (.bool (e.code == c)) ∧ Gr w w' := by
  have HC := Lib.hid (code_calls v e w hg h)
  generalize e.code = x at HC ⊢
  clear h hg
  go_enter Tryz.func49, Tryz.ntmps49
  go_wp2_with (go_at_call 82; (with_reducible refine HC.out.mono ?_); rintro ev w1 ⟨rfl, hg1⟩)
  go_ret
  exact ⟨rfl, hg1⟩
theorem sameDate_calls (w : World) (hg : Has w) : Calls Tryz.prog 49 #[.iface 169 (.int .i64 4), .int .i64 4] w fun ev w' => ev = .returned (.bool true) ∧ Gr w w' :=
  same6_calls _ _ 4 w hg (.plain 4)
set_option maxRecDepth 100000 in
theorem leapR_calls (y : Int) (h0 : 0 ≤ y) (h1 : y ≤ 1000000) (w : World) : Calls Tryz.prog 202 #[.int .i64 y] w fun e w' => e = .returned (.bool (leapB y)) ∧ w = w' := by
  by_cases h4 : y % 4 = 0
  · have b4 : (y % 4 == 0) = true := beq_iff_eq.2 h4
    by_cases h100 : y % 100 = 0
    · have b100 : (y % 100 != 0) = false := by simp [h100]
      by_cases h400 : y % 400 = 0
      · have b400 : (y % 400 == 0) = true := beq_iff_eq.2 h400
        have hr : leapB y = true := (leapB_iff y).2 ⟨h4, .inr h400⟩
        rw [hr]
        clear hr h4 h100 h400
        go_enter Tryz.func202, Tryz.ntmps202
        go_wp2
        go_ret
        exact ⟨rfl, rfl⟩
      · have b400 : (y % 400 == 0) = false := beq_eq_false_iff_ne.2 h400
        have hr : leapB y = false := by
          rw [← Bool.not_eq_true]; exact fun e => by have := (leapB_iff y).1 e; omega
        rw [hr]
        clear hr h4 h100 h400
        go_enter Tryz.func202, Tryz.ntmps202
        go_wp2
        go_ret
        exact ⟨rfl, rfl⟩
    · have b100 : (y % 100 != 0) = true := bne_iff_ne.2 h100
      have hr : leapB y = true := (leapB_iff y).2 ⟨h4, .inl h100⟩
      rw [hr]
      clear hr h4 h100
      go_enter Tryz.func202, Tryz.ntmps202
      go_wp2
      go_ret
      exact ⟨rfl, rfl⟩
  · have b4 : (y % 4 == 0) = false := beq_eq_false_iff_ne.2 h4
    have hr : leapB y = false := by
      rw [← Bool.not_eq_true]; exact fun e => by have := (leapB_iff y).1 e; omega
    rw [hr]
    clear hr h4
    go_enter Tryz.func202, Tryz.ntmps202
    go_wp2
    go_ret
    exact ⟨rfl, rfl⟩
set_option maxRecDepth 100000 in
set_option maxHeartbeats 1000000 in
theorem lengthR_calls (y m : Int) (h0 : 0 ≤ y) (h1 : y ≤ 1000000) (w : World) : Calls Tryz.prog 163 #[.int .i64 y, .int .i64 m] w fun e w' => e = .returned (.int .i64 (lenM y m)) ∧ w = w' := by
  have HL := Lib.hid (leapR_calls y h0 h1 w)
  by_cases h2 : m = 2
  · subst h2
    cases hl : leapB y
    all_goals
      rw [hl] at HL
      have hr : lenM y 2 = 28 + lp y := by simp [lenM]
      have hr2 : lp y = if leapB y then 1 else 0 := rfl
      rw [hl] at hr2
      simp at hr2
      rw [hr, hr2]
      clear hr hr2 hl
      go_enter Tryz.func163, Tryz.ntmps163
      go_wp2_with (go_at_call 202; (with_reducible refine HL.out.mono ?_); rintro ev w1 ⟨rfl, rfl⟩)
      go_ret
      exact ⟨rfl, rfl⟩
  · clear HL
    rcases (by omega : (m < 1 ∨ 12 < m) ∨ m = 1 ∨ m = 3 ∨ m = 4 ∨ m = 5 ∨ m = 6 ∨ m = 7 ∨ m = 8 ∨ m = 9 ∨ m = 10 ∨ m = 11 ∨ m = 12) with h | h | h | h | h | h | h | h | h | h | h | h
    · rw [lenM_out y m h]
      have e : ∀ k : Int, 1 ≤ k → k ≤ 12 → (m == k) = false := fun k a b => beq_eq_false_iff_ne.2 (by omega)
      have e1 := e 1 (by omega) (by omega)
      have e2 := e 2 (by omega) (by omega)
      have e3 := e 3 (by omega) (by omega)
      have e4 := e 4 (by omega) (by omega)
      have e5 := e 5 (by omega) (by omega)
      have e6 := e 6 (by omega) (by omega)
      have e7 := e 7 (by omega) (by omega)
      have e8 := e 8 (by omega) (by omega)
      have e9 := e 9 (by omega) (by omega)
      have e10 := e 10 (by omega) (by omega)
      have e11 := e 11 (by omega) (by omega)
      have e12 := e 12 (by omega) (by omega)
      clear e
      go_enter Tryz.func163, Tryz.ntmps163
      go_wp2
      go_ret
      exact ⟨rfl, rfl⟩
    all_goals
      subst h
      go_enter Tryz.func163, Tryz.ntmps163
      go_wp2
      go_ret
      exact ⟨rfl, rfl⟩
end
end Go.Proofs.YtcjjgdoafkdeaaaGreatDoor
