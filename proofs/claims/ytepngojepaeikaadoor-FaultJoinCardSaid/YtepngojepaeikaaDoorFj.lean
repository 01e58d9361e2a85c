/- Layer 1: errors.Is; the law's begin. -/
import Derived.Test.YtepngojepaeikaaDoorFi
namespace Go.Proofs.YtepngojepaeikaaDoor
open Go.RowKit Go.Extern.Stop Go.Stop Go.Extern
set_option linter.unusedVariables false
set_option linter.unusedSimpArgs false

theorem Tryd.compP (w : World) : (callFunc 76 #[.agg #[.pointer (some ⟨4, 55, none⟩)]]).run Tryd.prog w = .ok (.value (.bool true)) w := by kernel_rfl
theorem Tryd.compF (w : World) : (callFunc 76 #[.agg #[.pointer (some ⟨4, 34, none⟩)]]).run Tryd.prog w = .ok (.value (.bool true)) w := by kernel_rfl
theorem Tryd.compX (w : World) : (callFunc 76 #[.agg #[.pointer (some ⟨4, 66, none⟩)]]).run Tryd.prog w = .ok (.value (.bool true)) w := by kernel_rfl

set_option maxHeartbeats 2000000 in
set_option maxRecDepth 100000 in
/-- errors.Is: down a chain. -/
theorem Is_calls (v tv : Value) (e : Er) (t : Tg) (w : World) (h : ErAt w v e) (ht : TgAt w tv t) (hne : e ≠ .nil) :
    Calls Tryd.prog 15 #[v, tv] w fun ev w' => ev = .returned (.bool (e.isT t)) ∧ w = w' := by
  have h24 := @run_callFunc_extern Tryd.prog 24 _ ReflectliteType.typeOf Tryd.func24 (by kernel_rfl) (by kernel_rfl) (by kernel_rfl) (by kernel_rfl)
  have c1 := Tryd.compP
  have c2 := Tryd.compF
  have c3 := Tryd.compX
  have t1 := Tryd.typeOfP
  have t2 := Tryd.typeOfF
  have t3 := Tryd.typeOfX
  have HI := Lib.hid (is_calls v tv e t w h ht hne)
  cases h with
  | nil => exact absurd rfl hne
  | plain c =>
    clear hne
    cases ht with
    | code d =>
      go_enter Tryd.func15, Tryd.ntmps15
      go_wp2_with (go_at_call 25; (with_reducible refine HI.out.mono ?_); rintro ev w3 ⟨rfl, rfl⟩)
      go_ret
      exact ⟨rfl, rfl⟩
    | _ b2 cs2 hb2 =>
      clear hb2
      go_enter Tryd.func15, Tryd.ntmps15
      go_wp2_with (go_at_call 25; (with_reducible refine HI.out.mono ?_); rintro ev w3 ⟨rfl, rfl⟩)
      go_ret
      exact ⟨rfl, rfl⟩
  | fault b c s x e hb hx =>
    clear hb hx hne
    cases ht with
    | code d =>
      go_enter Tryd.func15, Tryd.ntmps15
      go_wp2_with (go_at_call 25; (with_reducible refine HI.out.mono ?_); rintro ev w3 ⟨rfl, rfl⟩)
      go_ret
      exact ⟨rfl, rfl⟩
    | _ b2 cs2 hb2 =>
      clear hb2
      go_enter Tryd.func15, Tryd.ntmps15
      go_wp2_with (go_at_call 25; (with_reducible refine HI.out.mono ?_); rintro ev w3 ⟨rfl, rfl⟩)
      go_ret
      exact ⟨rfl, rfl⟩
  | text b s hb =>
    clear hb hne
    cases ht with
    | code d =>
      go_enter Tryd.func15, Tryd.ntmps15
      go_wp2_with (go_at_call 25; (with_reducible refine HI.out.mono ?_); rintro ev w3 ⟨rfl, rfl⟩)
      go_ret
      exact ⟨rfl, rfl⟩
    | _ b2 cs2 hb2 =>
      clear hb2
      go_enter Tryd.func15, Tryd.ntmps15
      go_wp2_with (go_at_call 25; (with_reducible refine HI.out.mono ?_); rintro ev w3 ⟨rfl, rfl⟩)
      go_ret
      exact ⟨rfl, rfl⟩
end Go.Proofs.YtepngojepaeikaaDoor
