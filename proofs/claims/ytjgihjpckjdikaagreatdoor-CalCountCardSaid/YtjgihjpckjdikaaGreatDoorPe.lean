/- Layer 6: 'open days of two spans are those of both', walked. -/
import Derived.Test.YtjgihjpckjdikaaGreatDoorKh
namespace Go.Proofs.YtjgihjpckjdikaaGreatDoor
open Go.RowKit Go.Extern.Stop Go.Stop Go.Extern
set_option linter.unusedVariables false
set_option linter.unusedSimpArgs false

theorem and127 (y : Int) : ∃ Y, bits .and .i64 y 127 = Y ∧ 0 ≤ Y ∧ Y ≤ 127 := ⟨_, rfl, (and_bd y 127 (by decide)).1, (and_bd y 127 (by decide)).2⟩
set_option maxRecDepth 100000 in
set_option maxHeartbeats 8000000 in
theorem calCount_calls (rs : List Ru) (v : Value) (a b c : Int) (a0 : -9223372036854775808 ≤ a) (a1 : a ≤ 9223372036854775807) (b0 : -9223372036854775808 ≤ b) (b1 : b ≤ 9223372036854775807) (c0 : -9223372036854775808 ≤ c) (c1 : c ≤ 9223372036854775807) (w : World) (hM : Met2 w)
    (hr : RulesAt w v rs) (hi : ∀ r ∈ rs, RuIn r) (hl : rs.length ≤ 9223372036854775807) :
    Calls Tryz.prog 9 #[v, .int .i64 a, .int .i64 b, .int .i64 c] w fun e w' => e = .returned (.bool true) ∧ Gr w w' := by
  have HBG := Lib.hid (begun6_calls w hM)
  have HM := Lib.hid hM
  have HR := Lib.hid hr
  have HL := Lib.hid hl
  have hd := day6_bd a
  have hdy := fun w => day6_calls a w
  generalize a % 109573 = d at hd hdy
  have HDY := Lib.hid hdy
  have hd0 := hd.1
  have hd1 := hd.2
  obtain ⟨X, hX, hX0, hX1⟩ := and127 b
  obtain ⟨Y, hY, hY0, hY1⟩ := and127 c
  clear hdy hd hM hr hi hl
  go_enter Tryz.func9, Tryz.ntmps9
  go_wp2_with (go_at_call 18; (with_reducible refine HBG.out.mono ?_); rintro ev w1 ⟨rfl, hg1⟩)
  refine (rules_calls rs v w1 (HR.out.gr hg1) HL.out).mono ?_
  rintro ev w2 ⟨⟨u, rfl, hu⟩, hg2⟩
  have HU := Lib.hid hu
  have HG2 := Lib.hid (hg1.tr hg2)
  clear hu hg1 hg2
  go_wp2_with fail
  refine (newR_calls rs u w2 HU.out).mono ?_
  rintro ev w3 ⟨⟨p, b0, nn, S, rfl, hci, hsb, hnn⟩, hg3⟩
  have HG3 := Lib.hid (HG2.out.tr hg3)
  have HCA := Lib.hid hci.at_
  have HSD := Lib.hid (sameDate_calls w3 (HM.out.keep HG3.out).1)
  have HO := Lib.hid (fun (x : Int) q1 q2 => open_calls (.pointer (some ⟨p, 0, none⟩)) S x q1 q2 w3 hci.at_)
  have hk1 := count_calls (.pointer (some ⟨p, 0, none⟩)) S d (d + X) (by omega) (by omega) (by omega) (by omega) w3 hci.at_
  have hk2 := count_calls (.pointer (some ⟨p, 0, none⟩)) S (d + X) (d + X + Y) (by omega) (by omega) (by omega) (by omega) w3 hci.at_
  have hk3 := count_calls (.pointer (some ⟨p, 0, none⟩)) S d (d + X + Y) (by omega) (by omega) (by omega) (by omega) w3 hci.at_
  have hk4 := count_calls (.pointer (some ⟨p, 0, none⟩)) S (d + X + Y) d (by omega) (by omega) (by omega) (by omega) w3 hci.at_
  rw [cntV_lt (by omega)] at hk1 hk2 hk3
  rw [cntV_ge (by omega)] at hk4
  have m1 := opU_mono S (show d ≤ d + X by omega)
  have m2 := opU_mono S (show d + X ≤ d + X + Y by omega)
  have HK1 := Lib.hid hk1
  have HK2 := Lib.hid hk2
  have HK3 := Lib.hid hk3
  have HK4 := Lib.hid hk4
  clear hci hsb hnn hg3 hk1 hk2 hk3 hk4
  go_wp2_with (go_at_call 26; (with_reducible refine (HDY.out _).mono ?_); rintro ev w4 ⟨rfl, rfl⟩)
  go_loopg [12, 13] (X + Y).toNat (fun g s12 s13 wr => ∃ x : Int, g = (d + X + Y - x).toNat ∧ d ≤ x ∧ x ≤ d + X + Y ∧ s13 = .int .i64 x ∧ s12 = .int .i64 (opU S x - opU S d) ∧ wr = w3)
  case atStart => exact ⟨d, by omega, Int.le_refl _, by omega, rfl, by rw [Int.sub_self], rfl⟩
  case round =>
    obtain ⟨x, hg, hx0, hx1, rfl, rfl, rfl⟩ := hrel
    have HGX := Lib.hid hg
    have hm := opU_mono S hx0
    clear hg
    by_cases hlt : x < d + X + Y
    · have ho := HO.out x (by omega) (by omega)
      have bl : decide (x < d + X + Y) = true := decide_eq_true hlt
      cases hop : openB S x with
      | true =>
        rw [hop] at ho
        have HOP := Lib.hid ho
        have HS := Lib.hid (opU_on hop)
        clear ho hop
        go_wp2_with (go_at_call 27; (with_reducible refine HOP.out.mono ?_); rintro ev w5 ⟨rfl, rfl⟩)
        go_roundg (gk - 1)
        case measure => have := HGX.out; omega
        case rel => exact ⟨x + 1, by have := HGX.out; omega, by omega, by omega, rfl, by rw [HS.out]; congr 1; omega, rfl⟩
      | false =>
        rw [hop] at ho
        have HOP := Lib.hid ho
        have HS := Lib.hid (opU_off hop)
        clear ho hop
        go_wp2_with (go_at_call 27; (with_reducible refine HOP.out.mono ?_); rintro ev w5 ⟨rfl, rfl⟩)
        go_roundg (gk - 1)
        case measure => have := HGX.out; omega
        case rel => exact ⟨x + 1, by have := HGX.out; omega, by omega, by omega, rfl, by rw [HS.out], rfl⟩
    · have hxe : x = d + X + Y := by omega
      subst hxe
      have bl : decide (d + X + Y < d + X + Y) = false := decide_eq_false hlt
      generalize opU S (d + X + Y) = u3 at *
      generalize opU S (d + X) = u2 at *
      generalize opU S d = u1 at *
      have be : (u2 - u1 + (u3 - u2) == u3 - u1) = true := beq_iff_eq.2 (by omega)
      go_wp2_with (first | (go_at_call 36; (with_reducible refine HK1.out.mono ?_); rintro ev w6 ⟨rfl, rfl⟩) | (go_at_call 36; (with_reducible refine HK2.out.mono ?_); rintro ev w6 ⟨rfl, rfl⟩) | (go_at_call 36; (with_reducible refine HK3.out.mono ?_); rintro ev w6 ⟨rfl, rfl⟩) | (go_at_call 36; (with_reducible refine HK4.out.mono ?_); rintro ev w6 ⟨rfl, rfl⟩))
      go_ret
      exact ⟨by first | rfl | simp, HG3.out⟩
end Go.Proofs.YtjgihjpckjdikaaGreatDoor
