/- Layer 1: the law FaultOther comes to true, whatever comes in. -/
import Derived.Test.YtepngojepaeikaaDoorFt
namespace Go.Proofs.YtepngojepaeikaaDoor
open Go.RowKit Go.Extern.Stop Go.Stop Go.Extern
set_option linter.unusedVariables false
set_option linter.unusedSimpArgs false

set_option maxHeartbeats 4000000 in
set_option maxRecDepth 100000 in
theorem faultOther_calls (n : Int) (a : ByteArray) (h0 : -9223372036854775808 ≤ n) (h1 : n ≤ 9223372036854775807) (ha : a.size ≤ 9223372036854775807) (w : World) (hg : Has w) :
    Calls Tryd.prog 7 #[.int .i64 n, .string a] w fun e w' => e = .returned (.bool true) ∧ Gr w w' := by
  have HG := Lib.hid hg
  have HC := Lib.hid (codeOf_calls n h0 h1)
  have hbd := codeN_bd n
  generalize hcn : n % 11 + 1 = c at HC hbd
  have hc0 : (c == 0) = false := beq_eq_false_iff_ne.2 (by omega)
  have HT := Lib.hid (text_calls a 20 (by omega) (by omega) ha)
  generalize a.extract 0 (min a.size (20 : Int).toNat) = t at HT
  have HZ := Lib.hid hc0
  clear hcn hg hc0 h0 h1
  go_enter Tryd.func7, Tryd.ntmps7
  go_wp2_with (go_at_call 9; (with_reducible refine (begun1_calls _ HG.out).mono ?_); rintro ev w1 ⟨rfl, hg1⟩)
  have HE := Lib.hid (enew_calls ⟨#[97, 110, 111, 116, 104, 101, 114]⟩ w1)
  go_wp2_with (first
    | (go_at_call 11; (with_reducible refine (HC.out _).mono ?_); rintro ev w2 ⟨rfl, rfl⟩)
    | (go_at_call 12; (with_reducible refine (HT.out _).mono ?_); rintro ev w2 ⟨rfl, rfl⟩)
    | (go_at_call 22; (with_reducible refine HE.out.mono ?_); rintro ev w2 ⟨rfl, hw2⟩; have HW2 := Lib.hid hw2; clear hw2))
  have hg2 : Gr w1 w2 := by rw [HW2.out]; go_grown
  have hx2 : ErAt w2 (.iface 66 (.pointer (some ⟨w1.heap.size, 0, none⟩))) (.text w1.heap.size) := by rw [HW2.out]; exact .text _ _ (heap_alloc_new w1 _)
  have ht2 : TgAt w2 (.iface 66 (.pointer (some ⟨w1.heap.size, 0, none⟩))) (.text w1.heap.size) := by rw [HW2.out]; exact .text _ _ (heap_alloc_new w1 _)
  have HX := Lib.hid hx2
  have HTG := Lib.hid ht2
  have HWr := Lib.hid (wrap_calls t _ _ w2 ((HG.out.gr hg1).gr hg2) hx2 (by simp))
  clear hx2 ht2
  go_wp2_with (go_at_call 13; (with_reducible refine HWr.out.mono ?_); rintro ev w3 ⟨bb, hbb, rfl, hx3, hg3⟩; have HX3 := Lib.hid hx3; clear hx3)
  have HN := Lib.hid (new_calls c HZ.out t w3)
  go_wp2_with (go_at_call 10; (with_reducible refine HN.out.mono ?_); rintro ev w4 ⟨rfl, hx4, hg4⟩; have HX4 := Lib.hid hx4; clear hx4)
  have HJ := Lib.hid (join_calls w4.heap.size _ _ _ _ (w4.alloc (.cells #[.iface 66 (.pointer (some ⟨w1.heap.size, 0, none⟩)), .iface 34 (.pointer (some ⟨w3.heap.size, 0, none⟩))] 24)) (by rw [World.cell?_alloc_at _ _ _ _ rfl]; rfl) (by rw [World.cell?_alloc_at _ _ _ _ rfl]; rfl))
  have hg45 : Gr w4 (w4.alloc (.cells #[.iface 66 (.pointer (some ⟨w1.heap.size, 0, none⟩)), .iface 34 (.pointer (some ⟨w3.heap.size, 0, none⟩))] 24)) := by go_grown
  have HG45 := Lib.hid hg45
  clear hg45
  go_wp2_with (go_at_call 23; (with_reducible refine HJ.out.mono ?_); rintro ev w5 ⟨bj, rfl, hbj, hjn, hg5⟩; have HJN := Lib.hid hjn; clear hjn)
  have k5 := HG45.out.tr hg5
  have k35 := hg4.tr k5
  have k25 := hg3.tr k35
  have k05 := (hg1.tr hg2).tr k25
  have HC1 := Lib.hid (code_calls _ _ w5 (HG.out.gr k05) (HX.out.gr k25))
  go_wp2_with (go_at_call 17; (with_reducible refine HC1.out.mono ?_); rintro ev w6 ⟨rfl, hg6⟩)
  have HWh := Lib.hid (where_calls _ _ w6 (HX.out.gr (k25.tr hg6)) (by simp [Er.len]))
  rw [show (Er.text w1.heap.size).places = [] from rfl] at HWh
  go_wp2_with (go_at_call 18; (with_reducible refine HWh.out.mono ?_); rintro ev w7 ⟨r, rfl, hown, hg7⟩; obtain ⟨ao, cap, rfl⟩ := owns_slice hown; clear hown)
  have k57 := hg6.tr hg7
  have HC2 := Lib.hid (code_calls _ _ w7 (HG.out.gr (k05.tr k57)) (HX3.out.gr (k35.tr k57)))
  go_wp2_with (go_at_call 17; (with_reducible refine HC2.out.mono ?_); rintro ev w8 ⟨rfl, hg8⟩)
  have k58 := k57.tr hg8
  have HI1 := Lib.hid (Is_calls _ _ _ _ w8 (HX3.out.gr (k35.tr k58)) (HTG.out.gr (k25.tr k58)) (by simp))
  rw [show (Er.fault bb (Er.text w1.heap.size).code t (Er.text w1.heap.size)).isT (.text w1.heap.size) = true by simp [Er.isT, Er.eqT, Tg.isCode]] at HI1
  obtain ⟨x4, hb4⟩ : ∃ x4, w4.heap[w3.heap.size]? = some (.cells #[.int .i64 c, .string t, x4] 48 (0, 0)) := by cases HX4.out with | fault _ _ _ v _ hb _ => exact ⟨_, hb⟩
  have HC3 := Lib.hid (code_join _ _ _ w3.heap.size _ c w8 (HJN.out.gr k58) (.inr ⟨⟨_, rfl⟩, rfl⟩) (HG.out.gr (k05.tr k58)) ((k5.tr k58).heap hb4) rfl (by simp))
  clear hb4
  go_wp2_with (first
    | (go_at_call 15; (with_reducible refine HI1.out.mono ?_); rintro ev w9 ⟨rfl, rfl⟩)
    | (go_at_call 17; (with_reducible refine HC3.out.mono ?_); rintro ev w9 ⟨rfl, hg9⟩))
  have k59 := k58.tr hg9
  have HO := Lib.hid (of_calls c HZ.out w9)
  have HI2 := Lib.hid (Is_join _ _ _ _ _ _ _ w9 (HJN.out.gr k59) (HX.out.gr (k25.tr k59)) (HX4.out.gr (k5.tr k59)) (.code c) (by simp) (by simp))
  rw [show ((Er.text w1.heap.size).isT (.code c) || (Er.fault w3.heap.size c t .nil).isT (.code c)) = true by simp [Er.isT, Er.eqT, Tg.isCode]] at HI2
  have HC4 := Lib.hid (code_calls _ _ w9 (HG.out.gr (k05.tr k59)) .nil)
  go_wp2_with (first
    | (go_at_call 16; (with_reducible refine HO.out.mono ?_); rintro ev w10 ⟨rfl, rfl⟩)
    | (go_at_call 15; (with_reducible refine HI2.out.mono ?_); rintro ev w10 ⟨rfl, rfl⟩)
    | (go_at_call 17; (with_reducible refine HC4.out.mono ?_); rintro ev w10 ⟨rfl, hg10⟩))
  have HW0 := Lib.hid (where_calls _ _ w10 .nil (by simp [Er.len]))
  rw [show Er.nil.places = [] from rfl] at HW0
  go_wp2_with (go_at_call 18; (with_reducible refine HW0.out.mono ?_); rintro ev w11 ⟨r, rfl, hown, hg11⟩; obtain ⟨ao2, cap2, rfl⟩ := owns_slice hown; clear hown)
  go_wp2_with (first
    | (go_at_call 13; (with_reducible refine (wrap_nil t _).mono ?_); rintro ev w12 ⟨rfl, rfl⟩)
    | (go_at_call 10; (with_reducible refine (new_ok _ _).mono ?_); rintro ev w12 ⟨rfl, rfl⟩))
  go_ret
  exact ⟨ret_bool (by first | rfl | simp [Er.code]), (k05.tr k59).tr (hg10.tr hg11)⟩
end Go.Proofs.YtepngojepaeikaaDoor
