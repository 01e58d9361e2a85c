/- Layer 6: 'days, their names, their weekdays; any civil day is one, or none; any text', walked. -/
import Derived.Test.YtgejadnfeeoknaaGreatDoorMi
namespace Go.Proofs.YtgejadnfeeoknaaGreatDoor
open Go.RowKit Go.Extern.Stop Go.Stop Go.Extern
set_option linter.unusedVariables false
set_option linter.unusedSimpArgs false

set_option maxRecDepth 100000 in
set_option maxHeartbeats 16000000 in
theorem dateAll_core (n cy cm cd : Int) (s : ByteArray) (d y m k : Int) (hd : n % 109573 = d) (h : IsDay d y m k) (hs : s.size ≤ 9223372036854775807) (w : World) (hM : Met2 w) :
    Calls Tryz.prog 14 #[.int .i64 n, .agg #[.int .i64 cy, .int .i64 cm, .int .i64 cd], .string s] w fun e w' => e = .returned (.bool true) ∧ Gr w w' := by
  have hgb : Gr w (w.alloc (.cells #[.int .i64 cy, .int .i64 cm, .int .i64 cd] 24)) := (Gr.rf w).alloc (Nat.le_refl _) _
  have hcb : (w.alloc (.cells #[.int .i64 cy, .int .i64 cm, .int .i64 cd] 24)).heap[w.heap.size]? = some (.cells #[.int .i64 cy, .int .i64 cm, .int .i64 cd] 24 (0, 0)) := heap_alloc_new w _
  have HM := Lib.hid hM
  have hBG := begun6_calls _ (hM.keep hgb)
  have hDY := fun w => day6_calls n w
  rw [hd] at hDY
  have HDY := Lib.hid hDY
  have HCT := Lib.hid (fun w => cut15_calls s hs w)
  have hcs := cut15_size s
  have HC := Lib.hid (fun w => civil_calls d y m k h w)
  have HRC := Lib.hid (fun w => refCivil_calls d y m k h w)
  have hO := fun w => day_of_calls y m k w
  rw [ofD_day h, ofE_day h] at hO
  have HO := Lib.hid hO
  have HT := Lib.hid (fun w hT => dtext_calls d y m k h w hT)
  have HRT := Lib.hid (fun w => rtext_calls d y m k h w)
  have HGT := Lib.hid (fun w => dget_back h w)
  have hr := isDay_range h
  have HW := Lib.hid (fun w => weekday_calls d w hr.1 hr.2)
  have HRW := Lib.hid (fun w => rweekday_calls d w hr.1 hr.2)
  have HOC := Lib.hid (fun w => day_of_calls cy cm cd w)
  have HRO := Lib.hid (fun w => refOf_calls cy cm cd w)
  obtain ⟨D, cc, v, hG1, hG2, hSM⟩ := get_pair (cut15 s).data.toList
  have hg1 := fun w => get_calls (cut15 s) (by omega) w
  have hg2 := fun w => rget_calls (cut15 s) (by omega) w
  rw [hG1] at hg1
  rw [hG2] at hg2
  have HG1 := Lib.hid hg1
  have HG2 := Lib.hid hg2
  have HSM := Lib.hid hSM
  clear hG1 hG2 hSM hg1 hg2 hO hDY hd h hr hM hcs
  generalize cut15 s = S at HCT HG1 HG2
  generalize (⟨(dayL y.toNat m.toNat k.toNat).toArray⟩ : ByteArray) = A at HT HRT HGT
  generalize (d + 1) % 7 = X at HW HRW
  go_enter Tryz.func14, Tryz.ntmps14
  generalize hW0 : w.alloc (.cells #[.int .i64 cy, .int .i64 cm, .int .i64 cd] 24) = W0 at hBG hgb hcb
  generalize hb0 : w.heap.size = b0 at hcb
  have HBG := Lib.hid hBG
  have HGB := Lib.hid hgb
  have HCB := Lib.hid hcb
  clear hBG hgb hcb
  go_wp2_with fail
  refine HBG.out.mono ?_
  rintro ev w1 ⟨rfl, hg1⟩
  go_wp2_with (first | (go_at_call 39; (with_reducible refine (HCT.out _).mono ?_); rintro ev w2 ⟨rfl, rfl⟩) | (go_at_call 25; (with_reducible refine (HDY.out _).mono ?_); rintro ev w2 ⟨rfl, rfl⟩))
  refine (HC.out _).mono ?_
  rintro ev w2 ⟨rfl, hg2⟩
  go_wp2_with fail
  have hblk := heap_alloc_new w2 (.cells #[.int .i64 y, .int .i64 m, .int .i64 k] 24)
  have hga := Lib.hid ((HGB.out.tr (hg1.tr hg2)).tr ((Gr.rf w2).alloc (Nat.le_refl _) (.cells #[.int .i64 y, .int .i64 m, .int .i64 k] 24)))
  have hc0 := Lib.hid (((hg1.tr hg2).tr ((Gr.rf w2).alloc (Nat.le_refl _) (.cells #[.int .i64 y, .int .i64 m, .int .i64 k] 24))).heap HCB.out)
  generalize w2.alloc (.cells #[.int .i64 y, .int .i64 m, .int .i64 k] 24) = W1 at hblk hga hc0 ⊢
  generalize w2.heap.size = b1 at hblk ⊢
  have HB1 := Lib.hid hblk
  clear hblk hg1 hg2
  refine (HRC.out _).mono ?_
  rintro ev w3 ⟨rfl, hg3⟩
  have hb3 := hg3.heap HB1.out
  have hlt := cells_lt hb3
  have c0 := heap_cell hb3 0
  have c1 := heap_cell hb3 1
  have c2 := heap_cell hb3 2
  have hblk2 := heap_alloc_new w3 (.cells #[.int .i64 y, .int .i64 m, .int .i64 k] 24)
  have hg34 : Gr w3 (w3.alloc (.cells #[.int .i64 y, .int .i64 m, .int .i64 k] 24)) := (Gr.rf w3).alloc (Nat.le_refl _) _
  have HB41 := Lib.hid (hg34.heap hb3)
  have HB42 := Lib.hid hblk2
  have HB40 := Lib.hid ((hg3.tr hg34).heap hc0.out)
  have HG4 := Lib.hid ((hga.out.tr hg3).tr hg34)
  have hne : b1 ≠ w3.heap.size := by omega
  clear hb3 hblk2 hg34 hg3
  go_wp2_with fail
  generalize w3.alloc (.cells #[.int .i64 y, .int .i64 m, .int .i64 k] 24) = W4 at HB41 HB42 HB40 HG4 ⊢
  generalize w3.heap.size = b2 at hne HB42 ⊢
  clear c0 c1 c2 hlt
  refine (HO.out _).mono ?_
  rintro ev w5 ⟨rfl, hg5⟩
  go_wp2_with fail
  refine (HT.out _ (HM.out.keep (HG4.out.tr hg5)).2.2).mono ?_
  rintro ev w6 ⟨rfl, hg6⟩
  go_wp2_with fail
  refine (HGT.out _).mono ?_
  rintro ev w7 ⟨rfl, hg7⟩
  have HG7 := Lib.hid (HG4.out.tr ((hg5.tr hg6).tr hg7))
  have hz1 := ((hg5.tr hg6).tr hg7).heap HB41.out
  have hz2 := ((hg5.tr hg6).tr hg7).heap HB42.out
  have HZ0 := Lib.hid (((hg5.tr hg6).tr hg7).heap HB40.out)
  have c0 := heap_cell hz1 0
  have c1 := heap_cell hz1 1
  have c2 := heap_cell hz1 2
  have e0 := heap_cell hz2 0
  have e1 := heap_cell hz2 1
  have e2 := heap_cell hz2 2
  clear hz1 hz2 hg5 hg6 hg7
  go_wp2_with fail
  refine (HRT.out _).mono ?_
  rintro ev w8 ⟨rfl, hg8⟩
  have hz0 := hg8.heap HZ0.out
  have HG8 := Lib.hid (HG7.out.tr hg8)
  have HZ8 := Lib.hid hz0
  clear c0 c1 c2 e0 e1 e2
  have c0 := heap_cell hz0 0
  have c1 := heap_cell hz0 1
  have c2 := heap_cell hz0 2
  clear hz0 hg8
  go_wp2_with (first | (go_at_call 19; (with_reducible refine (HW.out _).mono ?_); rintro ev w9 ⟨rfl, rfl⟩) | (go_at_call 43; (with_reducible refine (HRW.out _).mono ?_); rintro ev w9 ⟨rfl, rfl⟩))
  refine (HOC.out _).mono ?_
  rintro ev w9 ⟨rfl, hg9⟩
  have hz9 := hg9.heap HZ8.out
  have HG9 := Lib.hid (HG8.out.tr hg9)
  clear c0 c1 c2
  have c0 := heap_cell hz9 0
  have c1 := heap_cell hz9 1
  have c2 := heap_cell hz9 2
  clear hz9 hg9
  go_wp2_with fail
  refine (HRO.out _).mono ?_
  rintro ev w10 ⟨rfl, hg10⟩
  have HG10 := Lib.hid (HG9.out.tr hg10)
  clear c0 c1 c2 hg10
  by_cases hok : OkC cy cm cd
  · rw [decide_eq_true hok, ofE_ok hok]
    generalize ofD cy cm cd = O
    clear hok HOC HRO
    go_wp2_with fail
    refine (HG1.out _).mono ?_
    rintro ev w12 ⟨rfl, hg12⟩
    go_wp2_with fail
    refine (HG2.out _).mono ?_
    rintro ev w13 ⟨rfl, hg13⟩
    have HG13 := Lib.hid ((HG10.out.tr hg12).tr hg13)
    clear hg12 hg13
    go_wp2_with fail
    refine (HSM.out _ (HM.out.keep HG13.out).1).mono ?_
    rintro ev w14 ⟨rfl, hg14⟩
    go_wp2
    go_ret
    exact ⟨by first | rfl | simp, HG13.out.tr hg14⟩
  · rw [decide_eq_false hok, ofE_no hok]
    generalize ofD cy cm cd = O
    clear hok HOC HRO
    go_wp2_with fail
    refine (sameDate_calls _ (HM.out.keep HG10.out).1).mono ?_
    rintro ev w11 ⟨rfl, hg11⟩
    have HG11 := Lib.hid (HG10.out.tr hg11)
    clear hg11
    go_wp2_with fail
    refine (HG1.out _).mono ?_
    rintro ev w12 ⟨rfl, hg12⟩
    go_wp2_with fail
    refine (HG2.out _).mono ?_
    rintro ev w13 ⟨rfl, hg13⟩
    have HG13 := Lib.hid ((HG11.out.tr hg12).tr hg13)
    clear hg12 hg13
    go_wp2_with fail
    refine (HSM.out _ (HM.out.keep HG13.out).1).mono ?_
    rintro ev w14 ⟨rfl, hg14⟩
    go_wp2
    go_ret
    exact ⟨by first | rfl | simp, HG13.out.tr hg14⟩
theorem dateAll_calls (n cy cm cd : Int) (s : ByteArray) (n0 : -9223372036854775808 ≤ n) (n1 : n ≤ 9223372036854775807) (hs : s.size ≤ 9223372036854775807) (w : World) (hM : Met2 w) :
    Calls Tryz.prog 14 #[.int .i64 n, .agg #[.int .i64 cy, .int .i64 cm, .int .i64 cd], .string s] w fun e w' => e = .returned (.bool true) ∧ Gr w w' := by
  have hb := day6_bd n
  obtain ⟨y, m, k, h⟩ := isDay_of (n % 109573) hb.1 hb.2
  exact dateAll_core n cy cm cd s _ y m k rfl h hs w hM
end Go.Proofs.YtgejadnfeeoknaaGreatDoor
