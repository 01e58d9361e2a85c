/- Layer 4: 'texts of fractions of other forms are none', walked. -/
import Derived.Test.YtcjjgdoafkdeaaaGreatDoorWk
import Derived.Test.YtcjjgdoafkdeaaaGreatDoorWp
import Derived.Test.YtcjjgdoafkdeaaaGreatDoorQk
namespace Go.Proofs.YtcjjgdoafkdeaaaGreatDoor
open Go.RowKit Go.Extern.Stop Go.Stop Go.Extern Go.Sort
set_option linter.unusedVariables false
set_option linter.unusedSimpArgs false

theorem texts_sel (X Y : ByteArray) (hX : X.size ≤ 100) (hY : Y.size ≤ 100) (R : Nat) (hR : R < 11) : ∃ Z : ByteArray, Z.size ≤ 240 ∧
    (#[.string (X ++ ⟨#[47, 45]⟩ ++ Y), .string (X ++ ⟨#[47, 48]⟩), .string (⟨#[43]⟩ ++ X), .string (X ++ ⟨#[47]⟩ ++ Y ++ ⟨#[48]⟩), .string (⟨#[48]⟩ ++ X), .string (X ++ ⟨#[47, 49]⟩), .string (X ++ ⟨#[32, 47]⟩ ++ Y), .string ⟨#[45, 48]⟩, .string (X ++ ⟨#[47]⟩ ++ Y ++ ⟨#[47, 50]⟩), .string (⟨#[47]⟩ ++ Y), .string (X ++ ⟨#[47]⟩)] : Array Value)[R]? = some (.string Z) := by
  have h2 : ∀ a b : UInt8, (⟨#[a, b]⟩ : ByteArray).size = 2 := fun _ _ => rfl
  have h1 : ∀ a : UInt8, (⟨#[a]⟩ : ByteArray).size = 1 := fun _ => rfl
  rcases (show R = 0 ∨ R = 1 ∨ R = 2 ∨ R = 3 ∨ R = 4 ∨ R = 5 ∨ R = 6 ∨ R = 7 ∨ R = 8 ∨ R = 9 ∨ R = 10 by omega) with rfl | rfl | rfl | rfl | rfl | rfl | rfl | rfl | rfl | rfl | rfl
  all_goals
    refine ⟨_, ?_, rfl⟩
    simp only [ByteArray.size_append, h1, h2]
    omega
set_option maxRecDepth 100000 in
set_option maxHeartbeats 8000000 in
theorem ratTexts_calls (n d q : Int) (n0 : -9223372036854775808 ≤ n) (n1 : n ≤ 9223372036854775807) (d0 : -9223372036854775808 ≤ d) (d1 : d ≤ 9223372036854775807) (q0 : -9223372036854775808 ≤ q) (q1 : q ≤ 9223372036854775807) (w : World) (hM : Met2 w) :
    Calls Tryz.prog 9 #[.int .i64 n, .int .i64 d, .int .i64 q] w fun e w' => e = .returned (.bool true) ∧ Gr w w' := by
  have HM := Lib.hid hM
  have HBG := Lib.hid (begun_met w hM)
  obtain ⟨R, r1, r2, r3, r4, r5⟩ := rem_nat d 1000 (by decide)
  obtain ⟨K, k1, k2, k3, k4, k5⟩ := rem_nat q 11 (by decide)
  have z0 := Int.lt_tmod_of_pos n (show (0 : Int) < 100000 by decide)
  have z1 := Int.tmod_lt_of_pos n (show (0 : Int) < 100000 by decide)
  obtain ⟨z, hz⟩ : ∃ z, n.tmod 100000 = z := ⟨_, rfl⟩
  rw [hz] at z0 z1
  have hw1 : IntKind.i64.wrap (2 + (R : Int)) = 2 + (R : Int) := by rw [IntKind.wrap_i64]; omega
  have HZ := Lib.hid (And.intro z0 (And.intro z1 (And.intro r3 k3)))
  clear n0 n1 d0 d1 q0 q1 hM
  go_enter Tryz.func9, Tryz.ntmps9
  go_wp2_with (go_at_call 11; (with_reducible refine HBG.out.mono ?_); rintro ev w1 ⟨rfl, hg1⟩; have HG1 := Lib.hid hg1; clear hg1)
  have HOF := Lib.hid (ofRat_calls z (2 + (R : Int)) w1 (HM.out.gr HG1.out).2.1 (by have := HZ.out; omega) (by have := HZ.out; omega) (by omega) (by have := HZ.out; omega))
  go_wp2_with fail
  refine HOF.out.mono ?_
  rintro ev w2 ⟨⟨_, hof⟩, hg2⟩
  obtain ⟨b2, n2, d2, rfl, hr2, _, hn2, hd2⟩ := hof (by omega)
  have HR2 := Lib.hid hr2
  have HND := Lib.hid (And.intro (show n2.natAbs < 100000 by have := HZ.out; omega) (show d2 < 2000 by have := HZ.out; omega))
  have HG2 := Lib.hid (HG1.out.tr hg2)
  clear hof hr2 hn2 hd2 hg2
  have HC3 := Lib.hid (num_calls _ n2 d2 w2 HR2.out)
  go_wp2_with fail
  refine HC3.out.mono ?_
  rintro ev w3 ⟨⟨r3, rfl, hr3⟩, hg3⟩
  have HR3 := Lib.hid hr3
  have HG3 := Lib.hid hg3
  clear hr3 hg3
  obtain ⟨X, hX⟩ : ∃ X : ByteArray, X = ⟨(Lib.itoa n2).toArray⟩ := ⟨_, rfl⟩
  have hXs : X.size ≤ 100 := by
    rw [hX, (ba_lists _).2, itoa_sign]
    have := nd_le 5 n2.natAbs (by decide) HND.out.1
    split
    · rw [List.length_cons]; omega
    · omega
  have ht4 := text_int r3 n2 w3 HR3.out 1 (by rw [Nat.pow_one, B_eq]; have := HND.out.1; omega) (by decide) (by decide) (HM.out.gr (HG2.out.tr HG3.out)).2.2
  rw [← hX] at ht4
  have HC4 := Lib.hid ht4
  clear ht4 hX
  go_wp2_with fail
  refine HC4.out.mono ?_
  rintro ev w4 ⟨rfl, hg4⟩
  have HG4 := Lib.hid (HG3.out.tr hg4)
  clear hg4
  have HC5 := Lib.hid (den_calls _ n2 d2 w4 (HR2.out.gr HG4.out))
  go_wp2_with fail
  refine HC5.out.mono ?_
  rintro ev w5 ⟨⟨r5, rfl, hr5⟩, hg5⟩
  have HR5 := Lib.hid hr5
  have HG5 := Lib.hid (HG2.out.tr (HG4.out.tr hg5))
  clear hr5 hg5
  obtain ⟨Y, hY⟩ : ∃ Y : ByteArray, Y = ⟨(Lib.itoa (d2 : Int)).toArray⟩ := ⟨_, rfl⟩
  have hYs : Y.size ≤ 100 := by
    rw [hY, (ba_lists _).2, itoa_nat]
    have := nd_le 4 d2 (by decide) (by have := HND.out.2; omega)
    omega
  have ht6 := text_int r5 (d2 : Int) w5 HR5.out 1 (by rw [Nat.pow_one, B_eq, Int.natAbs_natCast]; have := HND.out.2; omega) (by decide) (by decide) (HM.out.gr HG5.out).2.2
  rw [← hY] at ht6
  have HC6 := Lib.hid ht6
  clear ht6 hY
  obtain ⟨Z, hZs, hZ⟩ := texts_sel X Y hXs hYs K (by omega)
  have HZS := Lib.hid hZs
  have HZZ := Lib.hid hZ
  clear hZs hZ
  go_wp2_with fail
  refine HC6.out.mono ?_
  rintro ev w6 ⟨rfl, hg6⟩
  have HG6 := Lib.hid (HG5.out.tr hg6)
  clear hg6
  have hcell : (w6.alloc (.cells #[.string (X ++ ⟨#[47, 45]⟩ ++ Y), .string (X ++ ⟨#[47, 48]⟩), .string (⟨#[43]⟩ ++ X), .string (X ++ ⟨#[47]⟩ ++ Y ++ ⟨#[48]⟩), .string (⟨#[48]⟩ ++ X), .string (X ++ ⟨#[47, 49]⟩), .string (X ++ ⟨#[32, 47]⟩ ++ Y), .string ⟨#[45, 48]⟩, .string (X ++ ⟨#[47]⟩ ++ Y ++ ⟨#[47, 50]⟩), .string (⟨#[47]⟩ ++ Y), .string (X ++ ⟨#[47]⟩)] 9)).cell? ⟨w6.heap.size, K, none⟩ = some (.string Z) := (heap_cell (heap_alloc_new w6 (.cells #[.string (X ++ ⟨#[47, 45]⟩ ++ Y), .string (X ++ ⟨#[47, 48]⟩), .string (⟨#[43]⟩ ++ X), .string (X ++ ⟨#[47]⟩ ++ Y ++ ⟨#[48]⟩), .string (⟨#[48]⟩ ++ X), .string (X ++ ⟨#[47, 49]⟩), .string (X ++ ⟨#[32, 47]⟩ ++ Y), .string ⟨#[45, 48]⟩, .string (X ++ ⟨#[47]⟩ ++ Y ++ ⟨#[47, 50]⟩), .string (⟨#[47]⟩ ++ Y), .string (X ++ ⟨#[47]⟩)] 9)) K).trans HZZ.out
  have hga : Gr w6 (w6.alloc (.cells #[.string (X ++ ⟨#[47, 45]⟩ ++ Y), .string (X ++ ⟨#[47, 48]⟩), .string (⟨#[43]⟩ ++ X), .string (X ++ ⟨#[47]⟩ ++ Y ++ ⟨#[48]⟩), .string (⟨#[48]⟩ ++ X), .string (X ++ ⟨#[47, 49]⟩), .string (X ++ ⟨#[32, 47]⟩ ++ Y), .string ⟨#[45, 48]⟩, .string (X ++ ⟨#[47]⟩ ++ Y ++ ⟨#[47, 50]⟩), .string (⟨#[47]⟩ ++ Y), .string (X ++ ⟨#[47]⟩)] 9)) := (Gr.rf w6).alloc (Nat.le_refl _) _
  have HGA := Lib.hid (HG6.out.tr hga)
  clear hga
  go_wp2_with fail
  clear hcell
  generalize w6.alloc (.cells #[.string (X ++ ⟨#[47, 45]⟩ ++ Y), .string (X ++ ⟨#[47, 48]⟩), .string (⟨#[43]⟩ ++ X), .string (X ++ ⟨#[47]⟩ ++ Y ++ ⟨#[48]⟩), .string (⟨#[48]⟩ ++ X), .string (X ++ ⟨#[47, 49]⟩), .string (X ++ ⟨#[32, 47]⟩ ++ Y), .string ⟨#[45, 48]⟩, .string (X ++ ⟨#[47]⟩ ++ Y ++ ⟨#[47, 50]⟩), .string (⟨#[47]⟩ ++ Y), .string (X ++ ⟨#[47]⟩)] 9) = w7 at *
  obtain ⟨t, u, hc⟩ := cutQ_ex Z
  obtain ⟨t2, neg, hp⟩ := parts_ex t
  have HA := Lib.hid (ratGet_calls Z t t2 u neg HZS.out hc hp w7 (HM.out.gr HGA.out).2.1 (HM.out.gr HGA.out).2.2)
  have HB := Lib.hid (fun w => rgetQ_calls Z t t2 u neg HZS.out hc hp w)
  clear hc hp
  by_cases hq : QT Z t2 u neg
  · have HQ := Lib.hid hq
    clear hq
    refine HA.out.mono ?_
    rintro ev w8 ⟨⟨hr, _⟩, hg8⟩
    obtain ⟨b8, rfl, _⟩ := hr HQ.out
    have HG8 := Lib.hid (HGA.out.tr hg8)
    clear hr hg8
    go_wp2_with fail
    refine (HB.out _).mono ?_
    rintro ev w9 ⟨⟨hr, _⟩, hg9⟩
    obtain ⟨x1, x2, x3, x4, x5, x6, x7, rfl⟩ := hr HQ.out
    have HG9 := Lib.hid (HG8.out.tr hg9)
    clear hr hg9
    go_wp2
    go_ret
    exact ⟨by first | rfl | simp, Gr.tr HG9.out (gr_al (Gr.rf _))⟩
  · have HQ := Lib.hid hq
    clear hq
    refine HA.out.mono ?_
    rintro ev w8 ⟨⟨_, hr⟩, hg8⟩
    obtain rfl := hr HQ.out
    have HG8 := Lib.hid (HGA.out.tr hg8)
    clear hr hg8
    go_wp2_with fail
    refine (HB.out _).mono ?_
    rintro ev w9 ⟨⟨_, hr⟩, hg9⟩
    obtain ⟨x1, x2, x3, x4, x5, x6, x7, rfl⟩ := hr HQ.out
    have HG9 := Lib.hid (HG8.out.tr hg9)
    clear hr hg9
    have HSO := Lib.hid (fun w' (hg : Gr w9 w') => same_own 1 w' (HM.out.gr (HG9.out.tr hg)).1)
    go_wp2_with (go_at_call 20; (with_reducible refine (HSO.out _ (gr_al (Gr.rf _))).mono ?_); rintro ev w4 ⟨rfl, hg4⟩)
    go_ret
    exact ⟨by first | rfl | simp, Gr.tr HG9.out (Gr.tr (gr_al (Gr.rf _)) hg4)⟩
end Go.Proofs.YtcjjgdoafkdeaaaGreatDoor
