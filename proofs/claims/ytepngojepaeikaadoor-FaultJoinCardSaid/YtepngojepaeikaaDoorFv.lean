/- Layer 1: the law FaultJoin comes to true, whatever comes in. -/
import Derived.Test.YtepngojepaeikaaDoorFt
namespace Go.Proofs.YtepngojepaeikaaDoor
open Go.RowKit Go.Extern.Stop Go.Stop Go.Extern
set_option linter.unusedVariables false
set_option linter.unusedSimpArgs false

set_option maxHeartbeats 4000000 in
set_option maxRecDepth 100000 in
theorem faultJoin_calls (n m : Int) (a b : ByteArray) (h0 : -9223372036854775808 ≤ n) (h1 : n ≤ 9223372036854775807) (h2 : -9223372036854775808 ≤ m) (h3 : m ≤ 9223372036854775807) (ha : a.size ≤ 9223372036854775807) (hb : b.size ≤ 9223372036854775807) (w : World) (hg : Has w) :
    Calls Tryd.prog 8 #[.int .i64 n, .int .i64 m, .string a, .string b] w fun e w' => e = .returned (.bool true) ∧ Gr w w' := by
  have HG := Lib.hid hg
  have HC := Lib.hid (codeOf_calls n h0 h1)
  have HD := Lib.hid (codeOf_calls m h2 h3)
  have hbd := codeN_bd n
  have hbe := codeN_bd m
  generalize n % 11 + 1 = c at HC hbd
  generalize m % 11 + 1 = d at HD hbe
  have hc0 : (c == 0) = false := beq_eq_false_iff_ne.2 (by omega)
  have hd0 : (d == 0) = false := beq_eq_false_iff_ne.2 (by omega)
  have HTa := Lib.hid (text_calls a 10 (by omega) (by omega) ha)
  have HTb := Lib.hid (text_calls b 10 (by omega) (by omega) hb)
  generalize a.extract 0 (min a.size (10 : Int).toNat) = ta at HTa
  generalize b.extract 0 (min b.size (10 : Int).toNat) = tb at HTb
  have HZ := Lib.hid hc0
  have HY := Lib.hid hd0
  have hc1 : (c != 0) = true := bne_iff_ne.2 (by omega)
  clear hg hc0 hd0 h0 h1 h2 h3
  go_enter Tryd.func8, Tryd.ntmps8
  go_wp2_with (go_at_call 9; (with_reducible refine (begun1_calls _ HG.out).mono ?_); rintro ev w1 ⟨rfl, hg1⟩)
  have HN := Lib.hid (new_calls c HZ.out ta w1)
  go_wp2_with (first
    | (go_at_call 11; (first | (with_reducible refine (HC.out _).mono ?_) | (with_reducible refine (HD.out _).mono ?_)); rintro ev w2 ⟨rfl, rfl⟩)
    | (go_at_call 12; (first | (with_reducible refine (HTa.out _).mono ?_) | (with_reducible refine (HTb.out _).mono ?_)); rintro ev w2 ⟨rfl, rfl⟩)
    | (go_at_call 10; (with_reducible refine HN.out.mono ?_); rintro ev w2 ⟨rfl, hx2, hg2⟩; have HX2 := Lib.hid hx2; clear hx2))
  have HM := Lib.hid (new_calls d HY.out tb w2)
  go_wp2_with (first
    | (go_at_call 11; (first | (with_reducible refine (HC.out _).mono ?_) | (with_reducible refine (HD.out _).mono ?_)); rintro ev w3 ⟨rfl, rfl⟩)
    | (go_at_call 12; (first | (with_reducible refine (HTa.out _).mono ?_) | (with_reducible refine (HTb.out _).mono ?_)); rintro ev w3 ⟨rfl, rfl⟩)
    | (go_at_call 10; (with_reducible refine HM.out.mono ?_); rintro ev w3 ⟨rfl, hx3, hg3⟩; have HX3 := Lib.hid hx3; clear hx3))
  have HJ := Lib.hid (join_calls w3.heap.size _ _ _ _ (w3.alloc (.cells #[.iface 34 (.pointer (some ⟨w1.heap.size, 0, none⟩)), .iface 34 (.pointer (some ⟨w2.heap.size, 0, none⟩))] 24)) (by rw [World.cell?_alloc_at _ _ _ _ rfl]; rfl) (by rw [World.cell?_alloc_at _ _ _ _ rfl]; rfl))
  have hg34 : Gr w3 (w3.alloc (.cells #[.iface 34 (.pointer (some ⟨w1.heap.size, 0, none⟩)), .iface 34 (.pointer (some ⟨w2.heap.size, 0, none⟩))] 24)) := by go_grown
  have HG34 := Lib.hid hg34
  clear hg34
  go_wp2_with (go_at_call 23; (with_reducible refine HJ.out.mono ?_); rintro ev w4 ⟨bj, rfl, hbj, hjn, hg4⟩; have HJN := Lib.hid hjn; clear hjn)
  have k34 := HG34.out.tr hg4
  have k24 := hg3.tr k34
  have k04 := (hg1.tr hg2).tr k24
  obtain ⟨x2, hb2⟩ : ∃ x2, w2.heap[w1.heap.size]? = some (.cells #[.int .i64 c, .string ta, x2] 48 (0, 0)) := by cases HX2.out with | fault _ _ _ v _ hb _ => exact ⟨_, hb⟩
  obtain ⟨x3, hb3⟩ : ∃ x3, w3.heap[w2.heap.size]? = some (.cells #[.int .i64 d, .string tb, x3] 48 (0, 0)) := by cases HX3.out with | fault _ _ _ v _ hb _ => exact ⟨_, hb⟩
  have hne : w1.heap.size ≠ w2.heap.size := by have := (Array.getElem?_eq_some_iff.1 hb2).1; omega
  have X2 := Lib.hid (HX2.out.gr k24)
  have X3 := Lib.hid (HX3.out.gr k34)
  have HI1 := Lib.hid (Is_join _ _ _ _ _ _ _ w4 HJN.out X2.out X3.out (.fault w1.heap.size _ (k24.heap hb2)) (by simp) (by simp))
  rw [show ((Er.fault w1.heap.size c ta .nil).isT (.fault w1.heap.size) || (Er.fault w2.heap.size d tb .nil).isT (.fault w1.heap.size)) = true by simp [Er.isT, Er.eqT]] at HI1
  have HI2 := Lib.hid (Is_join _ _ _ _ _ _ _ w4 HJN.out X2.out X3.out (.fault w2.heap.size _ (k34.heap hb3)) (by simp) (by simp))
  rw [show ((Er.fault w1.heap.size c ta .nil).isT (.fault w2.heap.size) || (Er.fault w2.heap.size d tb .nil).isT (.fault w2.heap.size)) = true by simp [Er.isT, Er.eqT]] at HI2
  have HI3 := Lib.hid (Is_join _ _ _ _ _ _ _ w4 HJN.out X2.out X3.out (.code c) (by simp) (by simp))
  rw [show ((Er.fault w1.heap.size c ta .nil).isT (.code c) || (Er.fault w2.heap.size d tb .nil).isT (.code c)) = true by simp [Er.isT, Er.eqT, Tg.isCode]] at HI3
  have HI4 := Lib.hid (Is_join _ _ _ _ _ _ _ w4 HJN.out X2.out X3.out (.code d) (by simp) (by simp))
  rw [show ((Er.fault w1.heap.size c ta .nil).isT (.code d) || (Er.fault w2.heap.size d tb .nil).isT (.code d)) = true by simp [Er.isT, Er.eqT, Tg.isCode]] at HI4
  have HOc := Lib.hid (of_calls c HZ.out w4)
  have HOd := Lib.hid (of_calls d HY.out w4)
  have HCo := Lib.hid (code_join _ _ _ w1.heap.size _ c w4 HJN.out (.inl rfl) (HG.out.gr k04) (k24.heap hb2) rfl (by simp))
  clear hb2 hb3 hne
  go_wp2_with (first
    | (go_at_call 15; (first | (with_reducible refine HI1.out.mono ?_) | (with_reducible refine HI2.out.mono ?_) | (with_reducible refine HI3.out.mono ?_) | (with_reducible refine HI4.out.mono ?_)); rintro ev w5 ⟨rfl, rfl⟩)
    | (go_at_call 11; (first | (with_reducible refine (HC.out _).mono ?_) | (with_reducible refine (HD.out _).mono ?_)); rintro ev w5 ⟨rfl, rfl⟩)
    | (go_at_call 16; (first | (with_reducible refine HOc.out.mono ?_) | (with_reducible refine HOd.out.mono ?_)); rintro ev w5 ⟨rfl, rfl⟩)
    | (go_at_call 17; (with_reducible refine HCo.out.mono ?_); rintro ev w5 ⟨rfl, hg5⟩))
  have HE := Lib.hid (enew_calls ⟨#[120]⟩ w5)
  go_wp2_with (first
    | (go_at_call 11; (first | (with_reducible refine (HC.out _).mono ?_) | (with_reducible refine (HD.out _).mono ?_)); rintro ev w6 ⟨rfl, rfl⟩)
    | (go_at_call 22; (with_reducible refine HE.out.mono ?_); rintro ev w6 ⟨rfl, hw6⟩; have HW6 := Lib.hid hw6; clear hw6))
  have hg6 : Gr w5 w6 := by rw [HW6.out]; go_grown
  have ht6 : TgAt w6 (.iface 66 (.pointer (some ⟨w5.heap.size, 0, none⟩))) (.text w5.heap.size) := by rw [HW6.out]; exact .text _ _ (heap_alloc_new w5 _)
  have HI5 := Lib.hid (Is_calls _ _ _ _ w6 (X2.out.gr (hg5.tr hg6)) ht6 (by simp))
  rw [show (Er.fault w1.heap.size c ta .nil).isT (.text w5.heap.size) = false by simp [Er.isT, Er.eqT, Tg.isCode]] at HI5
  clear ht6
  go_wp2_with (first
    | (go_at_call 15; (with_reducible refine HI5.out.mono ?_); rintro ev w7 ⟨rfl, rfl⟩)
    | (go_at_call 11; (with_reducible refine (HC.out _).mono ?_); rintro ev w7 ⟨rfl, rfl⟩))
  go_ret
  exact ⟨ret_bool (by first | rfl | simp [hc1]), (k04.tr hg5).tr hg6⟩
end Go.Proofs.YtepngojepaeikaaDoor
