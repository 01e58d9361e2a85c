/- Layer 6: cal.New of a law's rules and days, by contract. -/
import Derived.Test.YtglbdafcfcmffaaGreatDoorKf
import Derived.Test.YtglbdafcfcmffaaGreatDoorKe
namespace Go.Proofs.YtglbdafcfcmffaaGreatDoor
open Go.RowKit Go.Extern.Stop Go.Stop Go.Extern
set_option linter.unusedVariables false
set_option linter.unusedSimpArgs false

theorem newL_calls (rs : List Ru) (ms : List Int) (v u : Value) (w : World) (h : RulesAt w v (rulesL rs)) (h' : DaysAt w u (daysL ms)) :
    Calls Tryz.prog 19 #[v, u] w fun e w' => (∃ p b n S, e = .returned (.tuple #[.pointer (some ⟨p, 0, none⟩), .nilIface]) ∧ CalIn w' p b n S ∧ ShutBy (rulesL rs) (daysL ms) S ∧ n ≤ 6100) ∧ Gr w w' :=
  calnew_calls (rulesL rs) v (daysL ms) u w h h' (by have := rulesL_le rs; omega) (by have := daysL_le ms; omega) (rulesL_may rs) (daysL_in ms)
theorem newR_calls (rs : List Ru) (v : Value) (w : World) (h : RulesAt w v (rulesL rs)) :
    Calls Tryz.prog 19 #[v, .slice none 0 0] w fun e w' => (∃ p b n S, e = .returned (.tuple #[.pointer (some ⟨p, 0, none⟩), .nilIface]) ∧ CalIn w' p b n S ∧ ShutBy (rulesL rs) [] S ∧ n ≤ 6100) ∧ Gr w w' :=
  calnew_calls (rulesL rs) v [] (.slice none 0 0) w h (.inl ⟨rfl, none, 0, rfl⟩) (by have := rulesL_le rs; omega) (by decide) (rulesL_may rs) (fun d hd => absurd hd List.not_mem_nil)
end Go.Proofs.YtglbdafcfcmffaaGreatDoor
