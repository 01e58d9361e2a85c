/- Layer 1: the laws FaultOf, FaultNone and FaultDeep come to true, whatever comes in. -/
import Derived.Test.YtepngojepaeikaaDoorFm
namespace Go.Proofs.YtepngojepaeikaaDoor
open Go.RowKit Go.Extern.Stop Go.Stop Go.Extern
set_option linter.unusedVariables false
set_option linter.unusedSimpArgs false

set_option maxHeartbeats 4000000 in
set_option maxRecDepth 100000 in
theorem faultOf_calls (n m : Int) (h0 : -9223372036854775808 ≤ n) (h1 : n ≤ 9223372036854775807) (h2 : -9223372036854775808 ≤ m) (h3 : m ≤ 9223372036854775807) (w : World) (hg : Has w) :
    Calls Tryd.prog 5 #[.int .i64 n, .int .i64 m] w fun e w' => e = .returned (.bool true) ∧ Gr w w' := by
  have HG := Lib.hid hg
  have HC := Lib.hid (codeOf_calls n h0 h1)
  have HD := Lib.hid (codeOf_calls m h2 h3)
  have hbd := codeN_bd n
  have hbe := codeN_bd m
  generalize n % 11 + 1 = c at HC hbd
  generalize m % 11 + 1 = d at HD hbe
  have hc0 : (c == 0) = false := beq_eq_false_iff_ne.2 (by omega)
  have hd0 : (d == 0) = false := beq_eq_false_iff_ne.2 (by omega)
  have HZ := Lib.hid hc0
  have HY := Lib.hid hd0
  clear hg hc0 hd0 h0 h1 h2 h3
  go_enter Tryd.func5, Tryd.ntmps5
  go_wp2_with (go_at_call 9; (with_reducible refine (begun1_calls _ HG.out).mono ?_); rintro ev w1 ⟨rfl, hg1⟩)
  have heq := eql_codes w1 c d
  have HI := Lib.hid (Is_calls _ _ _ _ w1 (.plain c) (.code d) (by simp))
  rw [show (Er.plain c).isT (.code d) = (c == d) from rfl] at HI
  have HK := Lib.hid (code_calls _ _ w1 (HG.out.gr hg1) (.plain c))
  cases hcd : (c == d)
  all_goals
    rw [hcd] at heq HI
    have HOc := Lib.hid (of_calls c HZ.out w1)
    have HOd := Lib.hid (of_calls d HY.out w1)
    go_wp2_with (first
      | (go_at_call 11; (first | (with_reducible refine (HC.out _).mono ?_) | (with_reducible refine (HD.out _).mono ?_)); rintro ev w2 ⟨rfl, rfl⟩)
      | (go_at_call 16; (first | (with_reducible refine HOc.out.mono ?_) | (with_reducible refine HOd.out.mono ?_)); rintro ev w2 ⟨rfl, rfl⟩)
      | (go_at_call 15; (with_reducible refine HI.out.mono ?_); rintro ev w2 ⟨rfl, rfl⟩)
      | (go_at_call 17; (with_reducible refine HK.out.mono ?_); rintro ev w2 ⟨rfl, hg2⟩))
    go_ret
    exact ⟨ret_bool (by simp [Er.code]), hg1.tr hg2⟩
end Go.Proofs.YtepngojepaeikaaDoor
