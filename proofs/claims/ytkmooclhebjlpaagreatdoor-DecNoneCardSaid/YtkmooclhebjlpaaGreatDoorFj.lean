/- Layer 1: errors.Is; the law's begin. -/
import Derived.Test.YtkmooclhebjlpaaGreatDoorFi
namespace Go.Proofs.YtkmooclhebjlpaaGreatDoor
open Go.RowKit Go.Extern.Stop Go.Stop Go.Extern
set_option linter.unusedVariables false
set_option linter.unusedSimpArgs false

theorem Tryz.compP (w : World) : (callFunc 196 #[.agg #[.pointer (some ⟨16, 107, none⟩)]]).run Tryz.prog w = .ok (.value (.bool true)) w := by kernel_rfl
theorem Tryz.compF (w : World) : (callFunc 196 #[.agg #[.pointer (some ⟨16, 126, none⟩)]]).run Tryz.prog w = .ok (.value (.bool true)) w := by kernel_rfl
theorem Tryz.compX (w : World) : (callFunc 196 #[.agg #[.pointer (some ⟨16, 210, none⟩)]]).run Tryz.prog w = .ok (.value (.bool true)) w := by kernel_rfl

set_option maxHeartbeats 2000000 in
set_option maxRecDepth 100000 in
/-- errors.Is: down a chain. -/
theorem Is_calls (v tv : Value) (e : Er) (t : Tg) (w : World) (h : ErAt w v e) (ht : TgAt w tv t) (hne : e ≠ .nil) :
    Calls Tryz.prog 108 #[v, tv] w fun ev w' => ev = .returned (.bool (e.isT t)) ∧ w = w' := by
  have h24 := @run_callFunc_extern Tryz.prog 135 _ ReflectliteType.typeOf Tryz.func135 (by kernel_rfl) (by kernel_rfl) (by kernel_rfl) (by kernel_rfl)
  have c1 := Tryz.compP
  have c2 := Tryz.compF
  have c3 := Tryz.compX
  have t1 := Tryz.typeOfP
  have t2 := Tryz.typeOfF
  have t3 := Tryz.typeOfX
  have HI := Lib.hid (is_calls v tv e t w h ht hne)
  cases h with
  | nil => exact absurd rfl hne
  | plain c =>
    clear hne
    cases ht with
    | code d =>
      go_enter Tryz.func108, Tryz.ntmps108
      go_wp2_with (go_at_call 136; (with_reducible refine HI.out.mono ?_); rintro ev w3 ⟨rfl, rfl⟩)
      go_ret
      exact ⟨rfl, rfl⟩
    | _ b2 cs2 hb2 =>
      clear hb2
      go_enter Tryz.func108, Tryz.ntmps108
      go_wp2_with (go_at_call 136; (with_reducible refine HI.out.mono ?_); rintro ev w3 ⟨rfl, rfl⟩)
      go_ret
      exact ⟨rfl, rfl⟩
  | fault b c s x e hb hx =>
    clear hb hx hne
    cases ht with
    | code d =>
      go_enter Tryz.func108, Tryz.ntmps108
      go_wp2_with (go_at_call 136; (with_reducible refine HI.out.mono ?_); rintro ev w3 ⟨rfl, rfl⟩)
      go_ret
      exact ⟨rfl, rfl⟩
    | _ b2 cs2 hb2 =>
      clear hb2
      go_enter Tryz.func108, Tryz.ntmps108
      go_wp2_with (go_at_call 136; (with_reducible refine HI.out.mono ?_); rintro ev w3 ⟨rfl, rfl⟩)
      go_ret
      exact ⟨rfl, rfl⟩
  | text b s hb =>
    clear hb hne
    cases ht with
    | code d =>
      go_enter Tryz.func108, Tryz.ntmps108
      go_wp2_with (go_at_call 136; (with_reducible refine HI.out.mono ?_); rintro ev w3 ⟨rfl, rfl⟩)
      go_ret
      exact ⟨rfl, rfl⟩
    | _ b2 cs2 hb2 =>
      clear hb2
      go_enter Tryz.func108, Tryz.ntmps108
      go_wp2_with (go_at_call 136; (with_reducible refine HI.out.mono ?_); rintro ev w3 ⟨rfl, rfl⟩)
      go_ret
      exact ⟨rfl, rfl⟩
end Go.Proofs.YtkmooclhebjlpaaGreatDoor
