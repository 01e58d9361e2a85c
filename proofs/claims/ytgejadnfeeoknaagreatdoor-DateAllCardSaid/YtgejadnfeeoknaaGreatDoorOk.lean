/- Layers 2 to 5: begun by contract. -/
import Derived.Test.YtgejadnfeeoknaaGreatDoorOj
import Derived.Test.YtgejadnfeeoknaaGreatDoorGb
namespace Go.Proofs.YtgejadnfeeoknaaGreatDoor
open Go.RowKit Go.Extern.Stop Go.Stop Go.Extern Go.Sort
set_option linter.unusedVariables false
set_option linter.unusedSimpArgs false

theorem Has.gr_ {w w' : World} (h : Has w) (hg : Gr w w') : Has w' := h.gr hg
set_option maxRecDepth 100000 in
theorem begunB_calls (w : World) (hg : Has w) : Calls Tryz.prog 97 #[] w fun e w' => e = .returned (.bool true) ∧ Gr w w' := by
  have H := Lib.hid (begun1_calls w hg)
  clear hg
  go_enter Tryz.func97, Tryz.ntmps97
  go_wp2_with (go_at_call 142; (with_reducible refine H.out.mono ?_); rintro ev w1 ⟨rfl, hg1⟩)
  go_ret
  exact ⟨rfl, hg1⟩

theorem ratZero (w : World) : RatAt (w.alloc (.cells #[.pointer none, .pointer none] 109)) (.pointer (some ⟨w.heap.size, 0, none⟩)) 0 1 :=
  .inr ⟨_, none, none, rfl, by rw [World.cell?_alloc_at _ _ _ _ rfl]; rfl, by rw [World.cell?_alloc_at _ _ _ _ rfl]; rfl, .inl ⟨rfl, rfl⟩, .inl ⟨rfl, rfl⟩, by decide, by decide⟩
set_option maxRecDepth 100000 in
set_option maxHeartbeats 8000000 in
theorem begun2_calls (w : World) (hH : Has w) (hB : BitTab w) (hP : PowTab w) : Calls Tryz.prog 77 #[] w fun e w' => e = .returned (.bool true) ∧ Gr w w' := by
  have HH := Lib.hid (And.intro hH (And.intro hB hP))
  clear hH hB hP
  go_enter Tryz.func77, Tryz.ntmps77
  go_wp2_with (go_at_call 91; (with_reducible refine (get30_calls _).mono ?_); rintro ev w1 ⟨⟨b1, rfl, hr1⟩, hg1⟩; have HA := Lib.hid hr1; clear hr1)
  go_wp2_with (go_at_call 92; (with_reducible refine (of7_calls _).mono ?_); rintro ev w2 ⟨⟨b2, rfl, hr2⟩, hg2⟩; have HB := Lib.hid hr2; clear hr2)
  have HD := Lib.hid (div30_calls _ _ w2 (HA.out.gr hg2) HB.out)
  go_wp2_with (go_at_call 93; (with_reducible refine HD.out.mono ?_); rintro ev w3 ⟨⟨b3, c3, rfl, hq3, hr3⟩, hg3⟩; have HQ := Lib.hid hq3; have HR := Lib.hid hr3; clear hq3 hr3)
  go_wp2_with (go_at_call 89; (refine (of7i_calls _).mono ?_); rintro ev w4 ⟨⟨b4, rfl, hr4⟩, hg4⟩; have HX := Lib.hid hr4; clear hr4)
  have hga : Gr w4 (w4.alloc (.cells #[.pointer none, .pointer none] 109)) := (Gr.rf w4).alloc (Nat.le_refl _) _
  have HY := Lib.hid (ratZero w4)
  have HGA := Lib.hid hga
  have G5 := Lib.hid ((((hg1.tr hg2).tr hg3).tr hg4).tr hga)
  clear hga
  have HZ0 := Lib.hid (of64_calls _ (HH.out.2.1.gr G5.out))
  go_wp2_with (go_at_call 74; (refine HZ0.out.mono ?_); rintro ev w5 ⟨⟨b5, rfl, hr5⟩, hg5⟩; have HZ := Lib.hid hr5; clear hr5)
  have HR0 := Lib.hid (roundA_calls _ w5 HZ.out (HH.out.2.2.gr (G5.out.tr hg5)))
  go_wp2_with (go_at_call 94; (with_reducible refine HR0.out.mono ?_); rintro ev w6 ⟨rfl, hg6⟩)
  have HG0 := Lib.hid (get_dec_150 w6 (HH.out.2.1.gr ((G5.out.tr hg5).tr hg6)))
  go_wp2_with (go_at_call 95; (with_reducible refine HG0.out.mono ?_); rintro ev w7 ⟨⟨b7, rfl, hr7⟩, hg7⟩; have HP := Lib.hid hr7; clear hr7)
  have HU0 := Lib.hid (unitsA_calls _ w7 ((HZ.out.gr hg6).gr hg7))
  go_wp2_with (go_at_call 96; (refine HU0.out.mono ?_); rintro ev w8 ⟨rfl, hg8⟩)
  have g8 := ((G5.out.tr hg5).tr hg6).tr (hg7.tr hg8)
  have HBG := Lib.hid (begunB_calls w8 (HH.out.1.gr g8))
  go_wp2_with (go_at_call 97; (with_reducible refine HBG.out.mono ?_); rintro ev w9 ⟨rfl, hg9⟩)
  have g49 := HGA.out.tr (hg5.tr (hg6.tr (hg7.tr (hg8.tr hg9))))
  have g29 := hg3.tr (hg4.tr g49)
  have HM0 := Lib.hid (mul30_calls _ _ w9 (HQ.out.gr (hg4.tr g49)) (HB.out.gr g29))
  go_wp2_with (go_at_call 98; (with_reducible refine HM0.out.mono ?_); rintro ev w10 ⟨⟨r10, rfl, hr10⟩, hg10⟩; have H10 := Lib.hid hr10; clear hr10)
  have HA0 := Lib.hid (add30_calls _ _ w10 H10.out (HR.out.gr ((hg4.tr g49).tr hg10)))
  go_wp2_with (go_at_call 99; (with_reducible refine HA0.out.mono ?_); rintro ev w11 ⟨⟨r11, rfl, hr11⟩, hg11⟩; have H11 := Lib.hid hr11; clear hr11)
  have g111 := (hg2.tr g29).tr (hg10.tr hg11)
  have HC0 := Lib.hid (cmp30_calls _ _ w11 H11.out (HA.out.gr g111))
  go_wp2_with (go_at_call 100; (with_reducible refine HC0.out.mono ?_); rintro ev w12 ⟨rfl, hg12⟩)
  have HT0 := Lib.hid (text30_calls _ w12 (HA.out.gr (g111.tr hg12)) (HH.out.2.2.gr ((hg1.tr g111).tr hg12)))
  go_wp2_with (go_at_call 101; (with_reducible refine HT0.out.mono ?_); rintro ev w13 ⟨rfl, hg13⟩)
  have g013 := (hg1.tr g111).tr (hg12.tr hg13)
  have g413 := g49.tr ((hg10.tr hg11).tr (hg12.tr hg13))
  have HT1 := Lib.hid (text7_calls _ w13 (HX.out.gr g413) (HH.out.2.2.gr g013))
  go_wp2_with (go_at_call 79; (with_reducible refine HT1.out.mono ?_); rintro ev w14 ⟨rfl, hg14⟩)
  have gA14 := (hg5.tr (hg6.tr (hg7.tr (hg8.tr hg9)))).tr (((hg10.tr hg11).tr (hg12.tr hg13)).tr hg14)
  have HS1 := Lib.hid (signRat_calls _ 0 1 w14 (HY.out.gr gA14))
  go_wp2_with (go_at_call 102; (refine HS1.out.mono ?_); rintro ev w15 ⟨rfl, hg15⟩)
  have g015 := (g013.tr hg14).tr hg15
  have g515 := ((hg6.tr (hg7.tr (hg8.tr hg9))).tr (((hg10.tr hg11).tr (hg12.tr hg13)).tr hg14)).tr hg15
  have HT2 := Lib.hid (textR_calls _ w15 (HZ.out.gr g515) (HH.out.2.2.gr g015))
  go_wp2_with (go_at_call 51; (with_reducible refine HT2.out.mono ?_); rintro ev w16 ⟨rfl, hg16⟩)
  have g716 := ((((hg8.tr hg9).tr (((hg10.tr hg11).tr (hg12.tr hg13)).tr hg14)).tr hg15)).tr hg16
  have HC2 := Lib.hid (cmpR_calls _ _ w16 (HP.out.gr g716) (HZ.out.gr (g515.tr hg16)))
  go_wp2_with (go_at_call 103; (with_reducible refine HC2.out.mono ?_); rintro ev w17 ⟨rfl, hg17⟩)
  have g017 := (g015.tr hg16).tr hg17
  go_wp2_with (go_at_call 92; (with_reducible refine (of10_calls _).mono ?_); rintro ev w18 ⟨⟨r18, rfl, hr18⟩, hg18⟩; have H18 := Lib.hid hr18; clear hr18)
  have HPW := Lib.hid (pow20_calls _ w18 H18.out)
  go_wp2_with (go_at_call 104; (with_reducible refine HPW.out.mono ?_); rintro ev w19 ⟨⟨r19, rfl, hr19⟩, hg19⟩; have H19 := Lib.hid hr19; clear hr19)
  have HRT := Lib.hid (root20_calls _ w19 H19.out)
  go_wp2_with (go_at_call 105; (with_reducible refine HRT.out.mono ?_); rintro ev w20 ⟨⟨r20, rfl, hr20⟩, hg20⟩; have H20 := Lib.hid hr20; clear hr20)
  have g020 := g017.tr ((hg18.tr hg19).tr hg20)
  have HT3 := Lib.hid (text11_calls _ w20 H20.out (HH.out.2.2.gr g020))
  go_wp2_with (go_at_call 101; (with_reducible refine HT3.out.mono ?_); rintro ev w21 ⟨rfl, hg21⟩)
  go_ret
  exact ⟨rfl, g020.tr hg21⟩
end Go.Proofs.YtgejadnfeeoknaaGreatDoor
