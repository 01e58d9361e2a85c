/- Layer 3: 'any text is an integer, just its own, or none', walked. -/
import Derived.Test.YteljmmeomhpccaaGreatDoorQh
namespace Go.Proofs.YteljmmeomhpccaaGreatDoor
open Go.RowKit Go.Extern.Stop Go.Stop Go.Extern Go.Sort
set_option linter.unusedVariables false
set_option linter.unusedSimpArgs false

set_option maxRecDepth 100000 in
set_option maxHeartbeats 8000000 in
theorem numText_calls (s : ByteArray) (hs : s.size ≤ 9223372036854775807) (w : World) (hM : Met2 w) :
    Calls Tryz.prog 5 #[.string s] w fun e w' => e = .returned (.bool true) ∧ Gr w w' := by
  have HM := Lib.hid hM
  have HBG := Lib.hid (begun_met w hM)
  have HTC := Lib.hid (fun w => text_calls s 80 (by decide) (by decide) hs w)
  obtain ⟨T, hT⟩ : ∃ T, s.extract 0 (min s.size (80 : Int).toNat) = T := ⟨_, rfl⟩
  have hTs : T.size ≤ 4000 := by rw [← hT, ByteArray.size_extract]; omega
  rw [hT] at HTC
  obtain ⟨t, neg, hP⟩ := parts_ex T
  have HP := Lib.hid hP
  clear hT hM hP
  by_cases hok : IntT t neg
  · have HOK := Lib.hid hok
    clear hok
    go_enter Tryz.func5, Tryz.ntmps5
    go_wp2_with (first | (go_at_call 6; (with_reducible refine HBG.out.mono ?_); rintro ev w1 ⟨rfl, hg1⟩) | (go_at_call 10; (with_reducible refine (HTC.out _).mono ?_); rintro ev wq ⟨rfl, rfl⟩))
    have HG1 := Lib.hid hg1
    have HA := Lib.hid (numGet_calls T t neg w1 (by omega) HP.out)
    clear hg1
    go_wp2_with (go_at_call 18; (with_reducible refine HA.out.mono ?_); rintro ev w2 ⟨⟨hr, _⟩, hg2⟩; obtain ⟨r2, rfl, hr2⟩ := hr HOK.out)
    obtain ⟨b2, rfl, hi2⟩ := hr2
    have HR2 := Lib.hid hi2
    have HG2 := Lib.hid (HG1.out.tr hg2)
    have HB := Lib.hid (rgetI_calls T t neg w2 (by omega) HP.out)
    clear hr hi2 hg2
    go_wp2_with (go_at_call 19; (with_reducible refine HB.out.mono ?_); rintro ev w3 ⟨⟨hr, _⟩, hg3⟩; obtain ⟨v3, rfl, hr3⟩ := hr HOK.out; obtain ⟨a3, c3, rfl⟩ := Lim.slice hr3)
    have HR3 := Lib.hid hr3
    have HG3 := Lib.hid (HG2.out.tr hg3)
    have hio := itoa_own T t neg HP.out HOK.out
    have hTl : T.data.toList.length = T.size := (Lib.size_eq T).symm
    have HT1 := Lib.hid (fun w' (hg : Gr w3 w') => text_int _ _ w' ((HR2.out.gr hg3).gr hg) 250 (by
      have h1 := (dv_bd t HOK.out.1).1
      unfold sgn
      split <;> omega) (by decide) (by decide) (HM.out.2.2.gr (HG3.out.tr hg)))
    rw [hio] at HT1
    have HT2 := Lib.hid (fun w' (hg : Gr w3 w') => itext_calls neg _ _ w' (hr3.gr hg) (dv_bd t HOK.out.1).2)
    have hne : (if neg = true then 45 :: Lib.decDigits (dv t.data.toList) else Lib.decDigits (dv t.data.toList)) = T.data.toList := by
      rw [← hio]
      cases neg with
      | false => unfold sgn; rw [if_neg (by decide), if_neg (by decide), Lib.itoa_nonneg]
      | true => unfold sgn; rw [if_pos rfl, if_pos rfl, Lib.itoa_neg _ (by have := HOK.out.2 rfl; omega)]
    rw [hne] at HT2
    clear hr hr3 hg3 hio hne
    go_wp2_with fail
    refine (HT1.out _ (gr_al (Gr.rf _))).mono ?_
    rintro ev w4 ⟨rfl, hg4⟩
    have hblk := heap_alloc_new w3 (.cells #[.bool neg, .slice a3 (Dg.digs (dv t.data.toList)).length c3] 50)
    have hb4 := hg4.heap hblk
    have d0 := heap_cell hb4 0
    have d1 := heap_cell hb4 1
    have HG4 := Lib.hid (Gr.tr (gr_al (Gr.rf w3)) hg4)
    clear hblk hb4 hg4
    go_wp2_with (go_at_call 21; (with_reducible refine (HT2.out _ HG4.out).mono ?_); rintro ev w5 ⟨rfl, hg5⟩)
    go_ret
    exact ⟨by first | rfl | simp, HG3.out.tr (HG4.out.tr hg5)⟩
  · have HOK := Lib.hid hok
    clear hok
    go_enter Tryz.func5, Tryz.ntmps5
    go_wp2_with (first | (go_at_call 6; (with_reducible refine HBG.out.mono ?_); rintro ev w1 ⟨rfl, hg1⟩) | (go_at_call 10; (with_reducible refine (HTC.out _).mono ?_); rintro ev wq ⟨rfl, rfl⟩))
    have HG1 := Lib.hid hg1
    have HA := Lib.hid (numGet_calls T t neg w1 (by omega) HP.out)
    clear hg1
    go_wp2_with (go_at_call 18; (with_reducible refine HA.out.mono ?_); rintro ev w2 ⟨⟨_, hr⟩, hg2⟩; obtain rfl := hr HOK.out)
    have HG2 := Lib.hid (HG1.out.tr hg2)
    have HB := Lib.hid (rgetI_calls T t neg w2 (by omega) HP.out)
    clear hr hg2
    go_wp2_with (go_at_call 19; (with_reducible refine HB.out.mono ?_); rintro ev w3 ⟨⟨_, hr⟩, hg3⟩; obtain rfl := hr HOK.out)
    have HG3 := Lib.hid (HG2.out.tr hg3)
    have HSO := Lib.hid (fun w' (hg : Gr w3 w') => same_own 1 w' (HM.out.1.gr (HG3.out.tr hg)))
    clear hr hg3
    go_wp2_with (go_at_call 8; (with_reducible refine (HSO.out _ (gr_al (Gr.rf _))).mono ?_); rintro ev w4 ⟨rfl, hg4⟩)
    go_ret
    exact ⟨by first | rfl | simp, HG3.out.tr (Gr.tr (gr_al (Gr.rf _)) hg4)⟩
end Go.Proofs.YteljmmeomhpccaaGreatDoor
