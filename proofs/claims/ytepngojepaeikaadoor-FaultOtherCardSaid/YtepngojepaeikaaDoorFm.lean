/- Layer 1: the laws FaultWrap, FaultOf, FaultDeep and FaultNone come to true, whatever comes in. -/
import Derived.Test.YtepngojepaeikaaDoorFl
namespace Go.Proofs.YtepngojepaeikaaDoor
open Go.RowKit Go.Extern.Stop Go.Stop Go.Extern
set_option linter.unusedVariables false
set_option linter.unusedSimpArgs false

theorem erAt_fault {w : World} {v : Value} {b : Nat} {c : Int} {s : ByteArray} {e : Er} (h : ErAt w v (.fault b c s e)) : v = .iface 34 (.pointer (some ⟨b, 0, none⟩)) := by cases h; rfl
theorem erAt_nil' {w : World} {v : Value} (h : ErAt w v .nil) : v = .nilIface := by cases h; rfl

set_option maxHeartbeats 4000000 in
set_option maxRecDepth 100000 in
theorem faultWrap_calls (n : Int) (a b : ByteArray) (h0 : -9223372036854775808 ≤ n) (h1 : n ≤ 9223372036854775807) (ha : a.size ≤ 9223372036854775807) (hb : b.size ≤ 9223372036854775807) (w : World) (hg : Has w) :
    Calls Tryd.prog 3 #[.int .i64 n, .string a, .string b] w fun e w' => e = .returned (.bool true) ∧ Gr w w' := by
  obtain ⟨i, hi, hc⟩ := Option.map_eq_some_iff.1 (show (Tryd.prog.info? 34).map (·.comparable) = some true by kernel_rfl)
  obtain ⟨j, hj, hjs⟩ := Option.map_eq_some_iff.1 (show (Tryd.prog.info? 48).map (·.size) = some 3 by kernel_rfl)
  have HG := Lib.hid hg
  have HC := Lib.hid (codeOf_calls n h0 h1)
  have hbd := codeN_bd n
  generalize hcn : n % 11 + 1 = c at HC hbd
  have hc0 : (c == 0) = false := beq_eq_false_iff_ne.2 (by omega)
  have HTa := Lib.hid (text_calls a 20 (by omega) (by omega) ha)
  have HTb := Lib.hid (text_calls b 20 (by omega) (by omega) hb)
  generalize a.extract 0 (min a.size (20 : Int).toNat) = ta at HTa
  generalize b.extract 0 (min b.size (20 : Int).toNat) = tb at HTb
  have HZ := Lib.hid hc0
  clear hcn hg hc0
  go_enter Tryd.func3, Tryd.ntmps3
  go_wp2_with (go_at_call 9; (with_reducible refine (begun1_calls _ HG.out).mono ?_); rintro ev w1 ⟨rfl, hg1⟩)
  have HN := Lib.hid (new_calls c HZ.out ta w1)
  go_wp2_with (first
    | (go_at_call 11; (with_reducible refine (HC.out _).mono ?_); rintro ev w2 ⟨rfl, rfl⟩)
    | (go_at_call 12; (first | (with_reducible refine (HTa.out _).mono ?_) | (with_reducible refine (HTb.out _).mono ?_)); rintro ev w2 ⟨rfl, rfl⟩)
    | (go_at_call 10; (with_reducible refine HN.out.mono ?_); rintro ev w2 ⟨rfl, hx2, hg2⟩; have HX2 := Lib.hid hx2; clear hx2))
  have HW := Lib.hid (wrap_calls tb _ _ w2 ((HG.out.gr hg1).gr hg2) HX2.out (by simp))
  go_wp2_with (go_at_call 13; (with_reducible refine HW.out.mono ?_); rintro ev w3 ⟨bb, hbb, rfl, hx3, hg3⟩; have HX3 := Lib.hid hx3; clear hx3)
  have hG3 := (hg1.tr hg2).tr hg3
  have hx23 := HX2.out.gr hg3
  have ht3 : TgAt w3 (.iface 34 (.pointer (some ⟨w1.heap.size, 0, none⟩))) (.fault w1.heap.size) := by
    cases hx23 with | fault _ _ _ _ _ hb _ => exact .fault _ _ hb
  have HU1 := Lib.hid (unwrap_calls _ _ w3 HX3.out (by simp))
  have HU2 := Lib.hid (unwrap_calls _ _ w3 hx23 (by simp))
  have heq := run_eql_iface_ptr_same (P := Tryd.prog) w3 ⟨w1.heap.size, 0, none⟩ Tryd.underlying24 Tryd.underlying34 hi hc hj
  have HI1 := Lib.hid (Is_calls _ _ _ _ w3 HX3.out ht3 (by simp))
  have HI2 := Lib.hid (Is_calls _ _ _ _ w3 hx23 (.code c) (by simp))
  rw [show (Er.fault bb (Er.fault w1.heap.size c ta Er.nil).code tb (Er.fault w1.heap.size c ta Er.nil)).isT (.fault w1.heap.size) = true by simp [Er.isT, Er.eqT]] at HI1
  rw [show (Er.fault w1.heap.size c ta Er.nil).isT (.code c) = true by simp [Er.isT, Er.eqT, Tg.isCode]] at HI2
  have HO := Lib.hid (of_calls c HZ.out w3)
  clear hx23 ht3
  go_wp2_with (first
    | (go_at_call 14; (first | ((with_reducible refine HU1.out.mono ?_); rintro ev w4 ⟨x, rfl, hx, rfl⟩; obtain rfl := erAt_fault hx; clear hx) | ((with_reducible refine HU2.out.mono ?_); rintro ev w4 ⟨x, rfl, hx, rfl⟩; obtain rfl := erAt_nil' hx; clear hx)))
    | (go_at_call 15; (first | (with_reducible refine HI1.out.mono ?_) | (with_reducible refine HI2.out.mono ?_)); rintro ev w4 ⟨rfl, rfl⟩)
    | (go_at_call 11; (with_reducible refine (HC.out _).mono ?_); rintro ev w4 ⟨rfl, rfl⟩)
    | (go_at_call 16; (with_reducible refine HO.out.mono ?_); rintro ev w4 ⟨rfl, rfl⟩))
  go_ret
  exact ⟨rfl, hG3⟩
end Go.Proofs.YtepngojepaeikaaDoor
