/- Layer 4: differences and products of fractions by contract. -/
import Derived.Test.YtcjjgdoafkdeaaaGreatDoorWc
import Derived.Test.YtcjjgdoafkdeaaaGreatDoorQh
namespace Go.Proofs.YtcjjgdoafkdeaaaGreatDoor
open Go.RowKit Go.Extern.Stop Go.Stop Go.Extern Go.Sort
set_option linter.unusedVariables false
set_option linter.unusedSimpArgs false

theorem IntAt.ptr {w : World} {v : Value} {z : Int} (h : IntAt w v z) : ∃ p, v = .pointer p ∧ (z ≠ 0 → p ≠ none) := by
  rcases h with ⟨h1, h2⟩ | ⟨b, neg, p, m, hv, _⟩
  · exact ⟨none, h1, fun h => absurd h2 h⟩
  · exact ⟨_, hv, fun _ => by simp⟩
set_option maxRecDepth 100000 in
set_option maxHeartbeats 4000000 in
/-- (*Rat).Sub. -/
theorem subRat_calls (x y : Value) (n1 n2 : Int) (d1 d2 : Nat) (w : World) (hT : BitTab w) (hx : RatAt w x n1 d1) (hy : RatAt w y n2 d2) (k : Nat) (h1 : n1.natAbs < B ^ k) (h2 : n2.natAbs < B ^ k) (h3 : d1 < B ^ k) (h4 : d2 < B ^ k) (hk : k ≤ 400) :
    Calls Tryz.prog 31 #[x, y] w fun e w' => (∃ b n d, e = .returned (.pointer (some ⟨b, 0, none⟩)) ∧ RatAt w' (.pointer (some ⟨b, 0, none⟩)) n d ∧ n * ((d1 : Int) * (d2 : Int)) = (n1 * (d2 : Int) + -n2 * (d1 : Int)) * (d : Int) ∧ n.natAbs < B ^ (2 * k + 1) ∧ d < B ^ (2 * k)) ∧ Gr w w' := by
  have HX := Lib.hid hx
  have HY := Lib.hid hy
  have HT := Lib.hid hT
  have HN1 := Lib.hid (num_calls y n2 d2 w hy)
  have HB := Lib.hid (And.intro (And.intro h1 (show (-n2).natAbs < B ^ k by rw [Int.natAbs_neg]; exact h2)) (And.intro h3 h4))
  clear hx hy hT h1 h2 h3 h4
  go_enter Tryz.func31, Tryz.ntmps31
  go_wp2_with fail
  refine HN1.out.mono ?_
  rintro ev w1 ⟨⟨r1, rfl, hr1⟩, hg1⟩
  have HG1 := Lib.hid hg1
  have HN2 := Lib.hid (neg_calls r1 n2 w1 hr1)
  clear hr1 hg1
  go_wp2_with fail
  refine HN2.out.mono ?_
  rintro ev w2 ⟨⟨r2, rfl, hr2⟩, hg2⟩
  have HR2 := Lib.hid hr2
  have HG2 := Lib.hid (HG1.out.tr hg2)
  have HN3 := Lib.hid (den_calls y n2 d2 w2 (HY.out.gr HG2.out))
  clear hr2 hg2
  go_wp2_with fail
  refine HN3.out.mono ?_
  rintro ev w3 ⟨⟨r3, rfl, hr3⟩, hg3⟩
  have HR3 := Lib.hid hr3
  have HRN := Lib.hid (HR2.out.gr hg3)
  have HG3 := Lib.hid (HG2.out.tr hg3)
  obtain ⟨p2, rfl, _⟩ := IntAt.ptr HRN.out.at_
  obtain ⟨p3, rfl, hp3⟩ := IntAt.ptr HR3.out
  have hp3 := hp3 (by have := HY.out.pos; omega)
  have hga : Gr w3 (w3.alloc (.cells #[.pointer p2, .pointer p3] 93)) := gr_al (Gr.rf w3)
  have hq : RatAt (w3.alloc (.cells #[.pointer p2, .pointer p3] 93)) (.pointer (some ⟨w3.heap.size, 0, none⟩)) (-n2) d2 := by
    refine .inr ⟨_, p2, p3, rfl, ?_, ?_, (HRN.out.at_.gr hga), .inr ⟨hp3, HR3.out.gr hga⟩, HY.out.pos, by rw [Int.natAbs_neg]; exact HY.out.cop⟩
    · exact heap_cell (heap_alloc_new w3 _) 0
    · exact heap_cell (heap_alloc_new w3 _) 1
  have HAD := Lib.hid (addRat_calls x _ n1 (-n2) d1 d2 _ (HT.out.gr (HG3.out.tr hga)) (HX.out.gr (HG3.out.tr hga)) hq k HB.out.1.1 HB.out.1.2 HB.out.2.1 HB.out.2.2 hk)
  have HGA := Lib.hid (HG3.out.tr hga)
  clear hr3 hg3 hga hq
  go_wp2_with fail
  refine HAD.out.mono ?_
  rintro ev w4 ⟨⟨b, n, d, rfl, hq⟩, hg4⟩
  have HQ := Lib.hid hq
  have HG4 := Lib.hid (HGA.out.tr hg4)
  clear hq hg4
  go_wp2
  go_ret
  exact ⟨⟨b, n, d, rfl, HQ.out⟩, HG4.out⟩
set_option maxRecDepth 100000 in
set_option maxHeartbeats 4000000 in
/-- (*Rat).Mul. -/
theorem mulRat_calls (x y : Value) (n1 n2 : Int) (d1 d2 : Nat) (w : World) (hT : BitTab w) (hx : RatAt w x n1 d1) (hy : RatAt w y n2 d2) (k : Nat) (h1 : n1.natAbs < B ^ k) (h2 : n2.natAbs < B ^ k) (h3 : d1 < B ^ k) (h4 : d2 < B ^ k) (hk : k ≤ 400) :
    Calls Tryz.prog 34 #[x, y] w fun e w' => (∃ b n d, e = .returned (.pointer (some ⟨b, 0, none⟩)) ∧ RatAt w' (.pointer (some ⟨b, 0, none⟩)) n d ∧ n * ((d1 : Int) * (d2 : Int)) = n1 * n2 * (d : Int) ∧ n.natAbs < B ^ (k + k) ∧ d < B ^ (k + k)) ∧ Gr w w' := by
  have HX := Lib.hid hx
  have HY := Lib.hid hy
  have HT := Lib.hid hT
  have HN1 := Lib.hid (num_calls x n1 d1 w hx)
  have HB := Lib.hid (And.intro (And.intro h1 h2) (And.intro h3 h4))
  have hz := mul_abs_lt h1 h2 rfl
  have he := mul_abs_lt (a := (d1 : Int)) (b := (d2 : Int)) (by rw [Int.natAbs_natCast]; exact h3) (by rw [Int.natAbs_natCast]; exact h4) rfl
  have hne : (d1 : Int) * (d2 : Int) ≠ 0 := Int.mul_ne_zero (by have := hx.pos; omega) (by have := hy.pos; omega)
  have HZ := Lib.hid (And.intro hz (And.intro he hne))
  clear hx hy hT h1 h2 h3 h4 hz he hne
  go_enter Tryz.func34, Tryz.ntmps34
  go_wp2_with fail
  refine HN1.out.mono ?_
  rintro ev w1 ⟨⟨r1, rfl, hr1⟩, hg1⟩
  have HR1 := Lib.hid hr1
  have HG1 := Lib.hid hg1
  have HN2 := Lib.hid (num_calls y n2 d2 w1 (HY.out.gr hg1))
  clear hr1 hg1
  go_wp2_with fail
  refine HN2.out.mono ?_
  rintro ev w2 ⟨⟨r2, rfl, hr2⟩, hg2⟩
  have HM3 := Lib.hid (mul_int r1 r2 n1 n2 w2 (HR1.out.gr hg2) hr2 k HB.out.1.1 HB.out.1.2 (by omega))
  have HG2 := Lib.hid (HG1.out.tr hg2)
  clear hr2 hg2
  go_wp2_with fail
  refine HM3.out.mono ?_
  rintro ev w3 ⟨⟨r3, rfl, hr3⟩, hg3⟩
  have HR3 := Lib.hid hr3
  have HG3 := Lib.hid (HG2.out.tr hg3)
  have HD4 := Lib.hid (den_calls x n1 d1 w3 (HX.out.gr HG3.out))
  clear hr3 hg3
  go_wp2_with fail
  refine HD4.out.mono ?_
  rintro ev w4 ⟨⟨r4, rfl, hr4⟩, hg4⟩
  have HR4 := Lib.hid hr4
  have HG4 := Lib.hid hg4
  have HD5 := Lib.hid (den_calls y n2 d2 w4 (HY.out.gr (HG3.out.tr hg4)))
  clear hr4 hg4
  go_wp2_with fail
  refine HD5.out.mono ?_
  rintro ev w5 ⟨⟨r5, rfl, hr5⟩, hg5⟩
  have HM6 := Lib.hid (mul_int r4 r5 (d1 : Int) (d2 : Int) w5 (HR4.out.gr hg5) hr5 k (by rw [Int.natAbs_natCast]; exact HB.out.2.1) (by rw [Int.natAbs_natCast]; exact HB.out.2.2) (by omega))
  have HG5 := Lib.hid (HG4.out.tr hg5)
  clear hr5 hg5
  go_wp2_with fail
  refine HM6.out.mono ?_
  rintro ev w6 ⟨⟨r6, rfl, hr6⟩, hg6⟩
  have HG6 := Lib.hid (HG5.out.tr hg6)
  have HS := Lib.hid (sure_calls r3 r6 (n1 * n2) ((d1 : Int) * (d2 : Int)) w6 (HT.out.gr (HG3.out.tr HG6.out)) (HR3.out.at_.gr HG6.out) hr6.at_ (k + k) HZ.out.1 HZ.out.2.1 (by omega) HZ.out.2.2)
  clear hr6 hg6
  go_wp2_with fail
  refine HS.out.mono ?_
  rintro ev w7 ⟨⟨b, n, d, rfl, hq, q1, q2, q3⟩, hg7⟩
  have HQ := Lib.hid (And.intro hq (And.intro q1 (And.intro q2 q3)))
  have HG7 := Lib.hid (HG3.out.tr (HG6.out.tr hg7))
  clear hq q1 q2 q3 hg7
  go_wp2
  go_ret
  exact ⟨⟨b, n, d, rfl, HQ.out.1, HQ.out.2.1, Nat.lt_of_le_of_lt HQ.out.2.2.1 HZ.out.1, Nat.lt_of_le_of_lt HQ.out.2.2.2 (by have := HZ.out.2.1; exact this)⟩, HG7.out⟩
end Go.Proofs.YtcjjgdoafkdeaaaGreatDoor
