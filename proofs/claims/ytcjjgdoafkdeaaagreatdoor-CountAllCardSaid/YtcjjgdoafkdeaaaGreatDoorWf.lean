/- Layers 4 and 6: sums of fractions; parts of years, act/act. -/
import Derived.Test.YtcjjgdoafkdeaaaGreatDoorWc
import Derived.Test.YtcjjgdoafkdeaaaGreatDoorKp
namespace Go.Proofs.YtcjjgdoafkdeaaaGreatDoor
open Go.RowKit Go.Extern.Stop Go.Stop Go.Extern
set_option linter.unusedVariables false
set_option linter.unusedSimpArgs false

theorem of_whole (f : Int) (f0 : 1 ≤ f) (f1 : f ≤ 1000) (w : World) (hT : BitTab w) : Calls Tryz.prog 29 #[.int .i64 f, .int .i64 1] w fun e w' => (∃ b, e = .returned (.tuple #[.pointer (some ⟨b, 0, none⟩), .nilIface]) ∧ RatAt w' (.pointer (some ⟨b, 0, none⟩)) f 1) ∧ Gr w w' := by
  refine (ofRat_calls f 1 w hT (by omega) (by omega) (by decide) (by decide)).mono ?_
  rintro e w' ⟨⟨_, h⟩, hg⟩
  obtain ⟨b, n, d, rfl, hr, h1, h2, h3⟩ := h (by decide)
  have hp := hr.pos
  obtain rfl : d = 1 := by have : (1 : Int).natAbs = 1 := rfl; omega
  obtain rfl : n = f := by simpa using h1
  exact ⟨⟨b, rfl, hr⟩, hg⟩
theorem part4_plain (n n1 D S f : Int) (d1 d : Nat) (hd1 : 0 < d1) (h1 : n1 * S = D * (d1 : Int)) (h2 : n * ((d1 : Int) * f) = n1 * ((1 : Nat) : Int) * (d : Int)) : n * (S * f) = D * (d : Int) := by
  rw [show ((1 : Nat) : Int) = 1 from rfl, Int.mul_one] at h2
  apply Int.eq_of_mul_eq_mul_right (a := (d1 : Int)) (by omega)
  calc n * (S * f) * (d1 : Int) = n * ((d1 : Int) * f) * S := by ac_rfl
    _ = n1 * (d : Int) * S := by rw [h2]
    _ = n1 * S * (d : Int) := by ac_rfl
    _ = D * (d1 : Int) * (d : Int) := by rw [h1]
    _ = D * (d : Int) * (d1 : Int) := by ac_rfl
set_option maxRecDepth 100000 in
set_option maxHeartbeats 2000000 in
/-- count.Part by act/act. -/
theorem part4_calls (a b y m k y' m' k' s t f : Int) (h : IsDay a y m k) (h' : IsDay b y' m' k') (hab : a ≤ b) (s0 : 0 ≤ s) (st : s < t) (t1 : t ≤ 109572) (f0 : 1 ≤ f) (f1 : f ≤ 1000) (w : World) (hT : BitTab w) :
    Calls Tryz.prog 47 #[.int .i64 4, .int .i64 a, .int .i64 b, .int .i64 s, .int .i64 t, .int .i64 f] w (PartIs (b - a) ((t - s) * f) w) := by
  have hra := isDay_range h
  have hrb := isDay_range h'
  have HM := Lib.hid (fun w => cmay_calls 4 w)
  have HA := Lib.hid (fun w => part1_calls a w hra.1 hra.2)
  have HB := Lib.hid (fun w => part1_calls b w hrb.1 hrb.2)
  have HS := Lib.hid (fun w => part1_calls s w s0 (by omega))
  have HT4 := Lib.hid (fun w => part1_calls t w (by omega) t1)
  have HD := Lib.hid (fun w => daysK_calls 4 a b y m k y' m' k' (by omega) h h' w)
  have HO := Lib.hid (fun w (hT : BitTab w) => ofRat_calls (b - a) (t - s) w hT (by omega) (by omega) (by omega) (by omega))
  have HF := Lib.hid (fun w (hT : BitTab w) => of_whole f f0 f1 w hT)
  have HTT := Lib.hid hT
  have bab : decide (b < a) = false := decide_eq_false (by omega)
  have bst : decide (t ≤ s) = false := decide_eq_false (by omega)
  have bf : decide (f < 1) = false := decide_eq_false (by omega)
  have hw : IntKind.i64.wrap (t - s) = t - s := by rw [IntKind.wrap_i64]; omega
  have HZ : Hid (t - s ≠ 0 ∧ f ≠ 0 ∧ (b - a).natAbs < B ^ 1 ∧ (t - s).natAbs < B ^ 1 ∧ f.natAbs < B ^ 1) := Lib.hid (by rw [Nat.pow_one, B_eq]; omega)
  clear h h' hra hrb hT hab
  go_enter Tryz.func47, Tryz.ntmps47
  go_wp2_with (first | (go_at_call 52; (with_reducible refine (HM.out _).mono ?_); rintro ev w3 ⟨rfl, rfl⟩) | (go_at_call 112; (with_reducible refine (HA.out _).mono ?_); rintro ev w3 ⟨rfl, rfl⟩) | (go_at_call 112; (with_reducible refine (HB.out _).mono ?_); rintro ev w3 ⟨rfl, rfl⟩) | (go_at_call 112; (with_reducible refine (HS.out _).mono ?_); rintro ev w3 ⟨rfl, rfl⟩) | (go_at_call 112; (with_reducible refine (HT4.out _).mono ?_); rintro ev w3 ⟨rfl, rfl⟩) | (go_at_call 50; (with_reducible refine (HD.out _).mono ?_); rintro ev w3 ⟨rfl, hg3⟩))
  have HO3 := Lib.hid (HO.out w3 (HTT.out.gr hg3))
  have HG3 := Lib.hid hg3
  clear hg3
  go_wp2_with fail
  refine HO3.out.mono ?_
  rintro ev w4 ⟨⟨_, hr⟩, hg4⟩
  obtain ⟨b4, n4, d4, rfl, hr4, hnd, hn4, hd4⟩ := hr HZ.out.1
  have HR := Lib.hid (And.intro hr4 (And.intro hnd (And.intro hn4 hd4)))
  have HG4 := Lib.hid (HG3.out.tr hg4)
  clear hr4 hnd hn4 hd4 hr hg4
  have HF5 := Lib.hid (HF.out w4 (HTT.out.gr HG4.out))
  go_wp2_with (go_at_call 29; (with_reducible refine HF5.out.mono ?_); rintro ev w5 ⟨⟨b5, rfl, hr5⟩, hg5⟩; have HR5 := Lib.hid hr5; have HG5 := Lib.hid hg5; clear hr5 hg5)
  have HV := Lib.hid (divRat_calls _ _ n4 f d4 1 w5 (HTT.out.gr (HG4.out.tr HG5.out)) (HR.out.1.gr HG5.out) HR5.out 1 (Nat.lt_of_le_of_lt HR.out.2.2.1 HZ.out.2.2.1) HZ.out.2.2.2.2 (Nat.lt_of_le_of_lt HR.out.2.2.2 HZ.out.2.2.2.1) (by decide) (by decide) HZ.out.2.1)
  go_wp2_with (go_at_call 30; (with_reducible refine HV.out.mono ?_); rintro ev w6 ⟨⟨b6, n, d, rfl, hr6⟩, hg6⟩; have HR6 := Lib.hid hr6; have HG6 := Lib.hid hg6; clear hr6 hg6)
  go_ret2
  obtain ⟨q1, q2, q3, q4⟩ := HR6.out
  refine ⟨⟨b6, n, d, rfl, q1, part4_plain n n4 (b - a) (t - s) f d4 d HR.out.1.pos HR.out.2.1 q2, ?_, ?_⟩, HG4.out.tr (HG5.out.tr HG6.out)⟩
  · have := HR.out.2.2.1
    rw [show ((1 : Nat) : Int) = 1 from rfl, Int.mul_one] at q3
    omega
  · refine Nat.le_trans q4 ?_
    rw [Int.natAbs_mul, Int.natAbs_mul, Int.natAbs_natCast]
    exact Nat.mul_le_mul_right _ HR.out.2.2.2
end Go.Proofs.YtcjjgdoafkdeaaaGreatDoor
