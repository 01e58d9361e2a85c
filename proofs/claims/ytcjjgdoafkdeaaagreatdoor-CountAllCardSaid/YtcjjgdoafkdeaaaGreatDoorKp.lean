/- Layer 6: count: Days and Part by the other counts, by contract. -/
import Derived.Test.YtcjjgdoafkdeaaaGreatDoorHh
namespace Go.Proofs.YtcjjgdoafkdeaaaGreatDoor
open Go.RowKit Go.Extern.Stop Go.Stop Go.Extern
set_option linter.unusedVariables false
set_option linter.unusedSimpArgs false

set_option maxRecDepth 100000 in
set_option maxHeartbeats 1000000 in
theorem daysK_calls (kd a b y m k y' m' k' : Int) (hk : kd = 2 ∨ kd = 3 ∨ kd = 4) (h : IsDay a y m k) (h' : IsDay b y' m' k') (w : World) :
    Calls Tryz.prog 50 #[.int .i64 kd, .int .i64 a, .int .i64 b] w fun e w' => e = .returned (.int .i64 (b - a)) ∧ Gr w w' := by
  have HC := Lib.hid (fun w => civil_calls a y m k h w)
  have HD := Lib.hid (fun w => civil_calls b y' m' k' h' w)
  have ha := isDay_range h
  have hb := isDay_range h'
  clear h h'
  have hm := fun w => cmay_calls kd w
  rw [decide_eq_true (show 1 ≤ kd ∧ kd ≤ 4 by omega)] at hm
  have HM := Lib.hid hm
  clear hm
  rcases hk with rfl | rfl | rfl
  all_goals
    go_enter Tryz.func50, Tryz.ntmps50
    go_wp2_with ((go_at_call 99; (with_reducible refine (HC.out _).mono ?_); rintro ev w1 ⟨rfl, hg1⟩))
    have hga : Gr w (w1.alloc (.cells #[.int .i64 y, .int .i64 m, .int .i64 k] 131)) := hg1.tr ((Gr.rf w1).alloc (Nat.le_refl _) _)
    generalize w1.alloc (.cells #[.int .i64 y, .int .i64 m, .int .i64 k] 131) = W1 at hga ⊢
    have HGA := Lib.hid hga
    clear hga hg1
    go_wp2_with fail
    refine (HD.out _).mono ?_
    rintro ev w2 ⟨rfl, hg2⟩
    have HG2 := Lib.hid hg2
    clear hg2
    go_wp2_with (go_at_call 52; (with_reducible refine (HM.out _).mono ?_); rintro ev w3 ⟨rfl, rfl⟩)
    go_ret
    exact ⟨rfl, (HGA.out.tr HG2.out).tr ((Gr.rf w2).alloc (Nat.le_refl _) _)⟩
set_option maxRecDepth 100000 in
set_option maxHeartbeats 1000000 in
theorem partK_calls (kd z a b y m k y' m' k' s t f : Int) (hk : (kd = 2 ∧ z = 360) ∨ (kd = 3 ∧ z = 365)) (h : IsDay a y m k) (h' : IsDay b y' m' k') (hab : a ≤ b) (w : World) (hT : BitTab w) :
    Calls Tryz.prog 47 #[.int .i64 kd, .int .i64 a, .int .i64 b, .int .i64 s, .int .i64 t, .int .i64 f] w (PartIs (b - a) z w) := by
  have hra := isDay_range h
  have hrb := isDay_range h'
  have hm := fun w => cmay_calls kd w
  rw [decide_eq_true (show 1 ≤ kd ∧ kd ≤ 4 by omega)] at hm
  have HM := Lib.hid hm
  clear hm
  have HA := Lib.hid (fun w => part1_calls a w hra.1 hra.2)
  have HB := Lib.hid (fun w => part1_calls b w hrb.1 hrb.2)
  have HD := Lib.hid (fun w => daysK_calls kd a b y m k y' m' k' (by omega) h h' w)
  have hO := fun w (hT : BitTab w) => ofRat_calls (b - a) z w hT (by omega) (by omega) (by omega) (by omega)
  have HTT := Lib.hid hT
  have bab : decide (b < a) = false := decide_eq_false (by omega)
  have hd0 : 0 ≤ b - a := by omega
  have hd1 : b - a ≤ 109572 := by omega
  have HZ := Lib.hid (show z ≠ 0 by omega)
  clear h h' hra hrb hT hab
  generalize b - a = D at HD hO hd0 hd1 ⊢
  have HO := Lib.hid hO
  clear hO
  rcases hk with ⟨rfl, rfl⟩ | ⟨rfl, rfl⟩
  all_goals
    go_enter Tryz.func47, Tryz.ntmps47
    go_wp2_with (first | (go_at_call 52; (with_reducible refine (HM.out _).mono ?_); rintro ev w3 ⟨rfl, rfl⟩) | (go_at_call 112; (with_reducible refine (HA.out _).mono ?_); rintro ev w3 ⟨rfl, rfl⟩) | (go_at_call 112; (with_reducible refine (HB.out _).mono ?_); rintro ev w3 ⟨rfl, rfl⟩) | (go_at_call 50; (with_reducible refine (HD.out _).mono ?_); rintro ev w3 ⟨rfl, hg3⟩))
    have HO3 := Lib.hid (HO.out w3 (HTT.out.gr hg3))
    have HG3 := Lib.hid hg3
    clear hg3
    go_wp2_with fail
    refine HO3.out.mono ?_
    rintro ev w4 ⟨⟨_, hr⟩, hg4⟩
    obtain ⟨b4, n4, d4, rfl, hr4, hnd, hn4, hd4⟩ := hr HZ.out
    have HR := Lib.hid (And.intro hr4 (And.intro hnd (And.intro hn4 hd4)))
    clear hr4 hnd hn4 hd4
    go_wp2
    go_ret2
    exact ⟨⟨b4, n4, d4, rfl, HR.out⟩, HG3.out.tr hg4⟩
end Go.Proofs.YtcjjgdoafkdeaaaGreatDoor
