/- Layer 1: the law FaultNone comes to true. -/
import Derived.Test.YtepngojepaeikaaDoorFn
namespace Go.Proofs.YtepngojepaeikaaDoor
open Go.RowKit Go.Extern.Stop Go.Stop Go.Extern
set_option linter.unusedVariables false
set_option linter.unusedSimpArgs false

set_option maxRecDepth 100000 in
theorem faultError_nil (w : World) : Calls Tryd.prog 19 #[.pointer none] w fun e w' => e = .returned (.string ⟨#[]⟩) ∧ w = w' := by
  go_enter Tryd.func19, Tryd.ntmps19
  go_wp2
  go_ret
  exact ⟨rfl, rfl⟩

set_option maxHeartbeats 4000000 in
set_option maxRecDepth 100000 in
theorem faultNone_calls (w : World) (hg : Has w) :
    Calls Tryd.prog 4 #[] w fun e w' => e = .returned (.bool true) ∧ Gr w w' := by
  have HG := Lib.hid hg
  clear hg
  go_enter Tryd.func4, Tryd.ntmps4
  go_wp2
  go_loopw [2] (fun c wr => ∃ k : Int, 1 ≤ k ∧ k ≤ 12 ∧ c = .int .i64 k ∧ Gr w wr) (fun c _ => (12 - intOf c).toNat)
  case atStart => exact ⟨1, by omega, by omega, rfl, Gr.rf w⟩
  case round =>
    obtain ⟨k, hk1, hk2, rfl, hgr⟩ := hrel
    have HH := Lib.hid (HG.out.gr hgr)
    have hk0 : (k == 0) = false := beq_eq_false_iff_ne.2 (by omega)
    have HO := Lib.hid (of_calls k hk0 wr)
    have HC := Lib.hid (code_calls _ _ wr HH.out (.plain k))
    clear hk0
    by_cases hlt : k ≤ 11
    · go_wp2_with (first
        | (go_at_call 16; (with_reducible refine HO.out.mono ?_); rintro ev w2 ⟨rfl, rfl⟩)
        | (go_at_call 17; (with_reducible refine HC.out.mono ?_); rintro ev w2 ⟨rfl, hg2⟩))
      have HO2 := Lib.hid (of_calls k (beq_eq_false_iff_ne.2 (by omega)) w2)
      have HW := Lib.hid (where_calls _ _ w2 (.plain k) (by simp [Er.len]))
      rw [show (Er.plain k).places = [] from rfl] at HW
      go_wp2_with (first
        | (go_at_call 16; (with_reducible refine HO2.out.mono ?_); rintro ev w3 ⟨rfl, rfl⟩)
        | (go_at_call 18; (with_reducible refine HW.out.mono ?_); rintro ev w3 ⟨r, rfl, hown, hg3⟩; obtain ⟨ao, cap, rfl⟩ := owns_slice hown; clear hown))
      go_roundw
      case rel => exact ⟨k + 1, by omega, by omega, by go_num, (hgr.tr hg2).tr hg3⟩
      case measure => simp [intOf]; omega
    · have HB := Lib.hid (begun1_calls wr HH.out)
      go_wp2_with (go_at_call 9; (with_reducible refine HB.out.mono ?_); rintro ev w2 ⟨rfl, hg2⟩)
      have HE := Lib.hid (faultError_nil w2)
      have HU := Lib.hid (faultUnwrap_nil w2)
      have HO1 := Lib.hid (of_calls 1 rfl w2)
      have HI := Lib.hid (faultIs_nil 1 w2)
      have HC0 := Lib.hid (code_calls _ _ w2 (HG.out.gr (hgr.tr hg2)) .nil)
      go_wp2_with (first
        | (go_at_call 19; (with_reducible refine HE.out.mono ?_); rintro ev w3 ⟨rfl, rfl⟩)
        | (go_at_call 20; (with_reducible refine HU.out.mono ?_); rintro ev w3 ⟨rfl, rfl⟩)
        | (go_at_call 16; (with_reducible refine HO1.out.mono ?_); rintro ev w3 ⟨rfl, rfl⟩)
        | (go_at_call 21; (with_reducible refine HI.out.mono ?_); rintro ev w3 ⟨rfl, rfl⟩)
        | (go_at_call 17; (with_reducible refine HC0.out.mono ?_); rintro ev w3 ⟨rfl, hg3⟩))
      go_ret
      exact ⟨ret_bool (by first | rfl | simp [ByteArray.toList_eq, Er.code]), (hgr.tr hg2).tr hg3⟩
end Go.Proofs.YtepngojepaeikaaDoor
