/- Layer 6: 'months on, months back, with the end kept or not', walked. -/
import Derived.Test.YtgejadnfeeoknaaGreatDoorMd
namespace Go.Proofs.YtgejadnfeeoknaaGreatDoor
open Go.RowKit Go.Extern.Stop Go.Stop Go.Extern
set_option linter.unusedVariables false
set_option linter.unusedSimpArgs false

/-- The error's value and the reference's flag go together. -/
def Pair (E : Value) (b : Bool) : Prop := (E = .nilIface ∧ b = true) ∨ (E = .iface 89 (.int .i64 4) ∧ b = false)
theorem pair_of (y m k : Int) : Pair (ofE y m k) (decide (OkC y m k)) := by
  by_cases h : OkC y m k
  · exact .inl ⟨ofE_ok h, decide_eq_true h⟩
  · exact .inr ⟨ofE_no h, decide_eq_false h⟩
theorem addPair (d y m q k : Int) (en : Bool) (h : IsDay d y m q) : ∃ (V : Int) (E : Value) (b : Bool), Pair E b ∧
    (∀ w, Calls Tryz.prog 31 #[.int .i64 d, .int .i64 k, .bool en] w fun e w' => e = .returned (.tuple #[.int .i64 V, E]) ∧ Gr w w') ∧
    (∀ w, Calls Tryz.prog 32 #[.int .i64 d, .int .i64 k, .bool en] w fun e w' => e = .returned (.tuple #[.int .i64 V, .bool b]) ∧ Gr w w') := by
  by_cases hk : k < -3600 ∨ 3600 < k
  · exact ⟨0, _, false, .inr ⟨rfl, rfl⟩, fun w => madd_far d y m q k en h hk w, fun w => (refAdd_far d k en (isDay_range h) hk w).mono fun e w' hx => ⟨hx.1, hx.2 ▸ Gr.rf w⟩⟩
  · exact ⟨_, _, _, pair_of _ _ _, fun w => madd_calls d y m q k en h (by omega) (by omega) w, fun w => refAdd_calls d y m q k en h (by omega) (by omega) w⟩
theorem betPair (a b y m q : Int) (h : IsDay a y m q) : ∃ V : Int,
    (∀ w, Calls Tryz.prog 37 #[.int .i64 a, .int .i64 b] w fun e w' => e = .returned (.int .i64 V) ∧ Gr w w') ∧
    (∀ w, Calls Tryz.prog 38 #[.int .i64 a, .int .i64 b] w fun e w' => e = .returned (.int .i64 V) ∧ Gr w w') := by
  by_cases hb : 0 ≤ b ∧ b ≤ 109572
  · obtain ⟨y', m', q', h'⟩ := isDay_of b hb.1 hb.2
    exact ⟨_, fun w => between_calls a b y m q y' m' q' h h' w, fun w => refBetween_calls a b y m q y' m' q' h h' w⟩
  · exact ⟨0, fun w => between_far a b y m q h (by omega) w, fun w => (refBetween_far a b (isDay_range h) (by omega) w).mono fun e w' hx => ⟨hx.1, hx.2 ▸ Gr.rf w⟩⟩
theorem and511 (y : Int) : ∃ Y, bits .and .i64 y 511 = Y ∧ 0 ≤ Y ∧ Y ≤ 511 := ⟨_, rfl, (and_bd y 511 (by decide)).1, (and_bd y 511 (by decide)).2⟩
theorem sameNil2_calls (w : World) (hg : Has w) : Calls Tryz.prog 18 #[.nilIface, .int .i64 4] w fun ev w' => ev = .returned (.bool false) ∧ Gr w w' := same6_calls _ _ 4 w hg .nil
set_option maxRecDepth 100000 in
set_option maxHeartbeats 8000000 in
theorem monthAll_core (n k d yy mm q y m tod Y M : Int) (en : Bool) (w : World) (hM : Met2 w) (hd : n % 109573 = d) (h : IsDay d yy mm q) (hY : bits .and .i64 y 511 = Y) (hY0 : 0 ≤ Y) (hY1 : Y ≤ 511) (hMm : m.tmod 15 = M) (hM0 : -15 < M) (hM1 : M < 15) :
    Calls Tryz.prog 10 #[.int .i64 n, .int .i64 k, .bool en, .int .i64 y, .int .i64 m, .int .i64 tod] w fun e w' => e = .returned (.bool true) ∧ Gr w w' := by
  have HB := Lib.hid (begun6_calls w hM)
  have HM := Lib.hid hM
  have hdy := fun w => day6_calls n w
  rw [hd] at hdy
  have HDY := Lib.hid hdy
  obtain ⟨V, E, b, hp, ha, har⟩ := addPair d yy mm q k en h
  obtain ⟨BV, hb, hbr⟩ := betPair d tod yy mm q h
  have hl := fun w => last_calls d yy mm q h w
  have hlr := fun w => refLast_calls d yy mm q h w
  have he := fun w => end_calls (1895 + Y) M (by omega) (by omega) w
  have hL := fun w => lengthR_calls (1895 + Y) M (by omega) (by omega) w
  have ho := fun w => refOf_calls (1895 + Y) M (lenM (1895 + Y) M) w
  have hp2 := pair_of (1895 + Y) M (lenM (1895 + Y) M)
  have hlb := lenM_bd (1895 + Y) M
  generalize decide (q = lenM yy mm) = lb at hl hlr
  generalize ofD (1895 + Y) M (lenM (1895 + Y) M) = V2 at he ho
  generalize ofE (1895 + Y) M (lenM (1895 + Y) M) = E2 at he hp2
  generalize decide (OkC (1895 + Y) M (lenM (1895 + Y) M)) = b2 at ho hp2
  generalize lenM (1895 + Y) M = L at hL ho hlb
  rcases hp with ⟨rfl, rfl⟩ | ⟨rfl, rfl⟩
  all_goals
    rcases hp2 with ⟨rfl, rfl⟩ | ⟨rfl, rfl⟩
    all_goals
      have HA := Lib.hid ha
      have HAR := Lib.hid har
      have HBT := Lib.hid hb
      have HBR := Lib.hid hbr
      have HL := Lib.hid hl
      have HLR := Lib.hid hlr
      have HE := Lib.hid he
      have HLN := Lib.hid hL
      have HO := Lib.hid ho
      clear ha har hb hbr hl hlr he hL ho hdy hd hM h
      go_enter Tryz.func10, Tryz.ntmps10
      go_wp2_with (first | (go_at_call 16; (with_reducible refine HB.out.mono ?_); rintro ev w1 ⟨rfl, hg1⟩) | (go_at_call 25; (with_reducible refine (HDY.out _).mono ?_); rintro ev w2 ⟨rfl, rfl⟩) | (go_at_call 31; (with_reducible refine (HA.out _).mono ?_); rintro ev w2 ⟨rfl, hg2⟩) | (go_at_call 32; (with_reducible refine (HAR.out _).mono ?_); rintro ev w3 ⟨rfl, hg3⟩; have HG3 := Lib.hid ((hg1.tr hg2).tr hg3); clear hg1 hg2 hg3; have HS := Lib.hid (sameDate_calls w3 (HM.out.keep HG3.out).1)))
      first
        | (go_wp2_with (first | (go_at_call 18; (with_reducible refine HS.out.mono ?_); rintro ev w4 ⟨rfl, hg4⟩; have HG4 := Lib.hid (HG3.out.tr hg4); clear hg4) | (go_at_call 33; (with_reducible refine (HE.out _).mono ?_); rintro ev w5 ⟨rfl, hg5⟩))
           have HG5 := Lib.hid (HG4.out.tr hg5))
        | (go_wp2_with (first | (go_at_call 33; (with_reducible refine (HE.out _).mono ?_); rintro ev w5 ⟨rfl, hg5⟩))
           have HG5 := Lib.hid (HG3.out.tr hg5))
      clear hg5
      go_wp2_with (first | (go_at_call 24; (with_reducible refine (HLN.out _).mono ?_); rintro ev w6 ⟨rfl, rfl⟩) | (go_at_call 34; (with_reducible refine (HO.out _).mono ?_); rintro ev w7 ⟨rfl, hg7⟩) | (go_at_call 35; (with_reducible refine (HL.out _).mono ?_); rintro ev w8 ⟨rfl, hg8⟩) | (go_at_call 36; (with_reducible refine (HLR.out _).mono ?_); rintro ev w9 ⟨rfl, hg9⟩) | (go_at_call 37; (with_reducible refine (HBT.out _).mono ?_); rintro ev w10 ⟨rfl, hg10⟩) | (go_at_call 38; (with_reducible refine (HBR.out _).mono ?_); rintro ev w11 ⟨rfl, hg11⟩))
      go_ret
      exact ⟨by first | rfl | simp, HG5.out.tr (hg7.tr (hg8.tr (hg9.tr (hg10.tr hg11))))⟩
theorem monthAll_calls (n k : Int) (en : Bool) (y m tod : Int) (n0 : -9223372036854775808 ≤ n) (n1 : n ≤ 9223372036854775807) (k0 : -9223372036854775808 ≤ k) (k1 : k ≤ 9223372036854775807) (y0 : -9223372036854775808 ≤ y) (y1 : y ≤ 9223372036854775807) (m0 : -9223372036854775808 ≤ m) (m1 : m ≤ 9223372036854775807) (t0 : -9223372036854775808 ≤ tod) (t1 : tod ≤ 9223372036854775807) (w : World) (hM : Met2 w) :
    Calls Tryz.prog 10 #[.int .i64 n, .int .i64 k, .bool en, .int .i64 y, .int .i64 m, .int .i64 tod] w fun e w' => e = .returned (.bool true) ∧ Gr w w' := by
  have hb := day6_bd n
  obtain ⟨yy, mm, q, h⟩ := isDay_of (n % 109573) hb.1 hb.2
  obtain ⟨Y, hY, hY0, hY1⟩ := and511 y
  have h1 := tmod_bd m 15 (by decide)
  exact monthAll_core n k _ yy mm q y m tod Y _ en w hM rfl h hY hY0 hY1 rfl h1.1 h1.2
end Go.Proofs.YtgejadnfeeoknaaGreatDoor
