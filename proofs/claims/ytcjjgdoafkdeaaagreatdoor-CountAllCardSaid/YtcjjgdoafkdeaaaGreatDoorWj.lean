/- Layer 4: rat.Get of a text. -/
import Derived.Test.YtcjjgdoafkdeaaaGreatDoorWa
import Derived.Test.YtcjjgdoafkdeaaaGreatDoorQg
namespace Go.Proofs.YtcjjgdoafkdeaaaGreatDoor
open Go.RowKit Go.Extern.Stop Go.Stop Go.Extern Go.Sort
set_option linter.unusedVariables false
set_option linter.unusedSimpArgs false

/-- A text parted at its first stroke. -/
def CutQ (s t u : ByteArray) : Prop := (∃ i : Nat, Lib.indexByte s.data.toList 47 = (i : Int) ∧ i < s.size ∧ t = s.extract 0 i ∧ u = s.extract (i + 1) s.size) ∨ (Lib.indexByte s.data.toList 47 = -1 ∧ t = s ∧ u = ⟨#[49]⟩)
theorem cutQ_ex (s : ByteArray) : ∃ t u, CutQ s t u := by
  have hge := Lib.indexByte_ge s.data.toList 47
  rcases Int.lt_or_le (Lib.indexByte s.data.toList 47) 0 with h | h
  · exact ⟨_, _, .inr ⟨by omega, rfl, rfl⟩⟩
  · obtain ⟨i, hi⟩ : ∃ i : Nat, Lib.indexByte s.data.toList 47 = (i : Int) := ⟨(Lib.indexByte s.data.toList 47).toNat, by omega⟩
    have h2 := (Lib.indexByte_some hi).1
    have h3 := (List.getElem?_eq_some_iff.1 h2).1
    exact ⟨_, _, .inl ⟨i, hi, by rw [Lib.size_eq]; exact h3, rfl, rfl⟩⟩
theorem cutQ_size {s t u : ByteArray} (h : CutQ s t u) : t.size ≤ s.size ∧ u.size ≤ s.size + 1 := by
  rcases h with ⟨i, _, hi, rfl, rfl⟩ | ⟨_, rfl, rfl⟩
  · rw [ByteArray.size_extract, ByteArray.size_extract]; omega
  · exact ⟨Nat.le_refl _, Nat.le_add_left _ _⟩
/-- Which texts are fractions. -/
def QT (s t u : ByteArray) (neg : Bool) : Prop := IntT t neg ∧ NumT u ∧ dv u.data.toList ≠ 0 ∧ ratText (sgn neg (dv t.data.toList / Nat.gcd (dv t.data.toList) (dv u.data.toList))) (dv u.data.toList / Nat.gcd (dv t.data.toList) (dv u.data.toList)) = s.data.toList
theorem dv_B (t : ByteArray) (h : Dig t.data.toList) (hs : t.size ≤ 250) : dv t.data.toList < B ^ 20 := by
  refine Nat.lt_of_lt_of_le (dv_lt _ h) ?_
  rw [← Lib.size_eq]
  exact Nat.le_trans (Nat.pow_le_pow_right (by decide) hs) (by decide)
theorem low_is (neg : Bool) (A D : Nat) (hD : D ≠ 0) (n : Int) (d : Nat) (h : n * (D : Int) = sgn neg A * (d : Int)) (hd : 0 < d) (hc : Nat.gcd n.natAbs d = 1) : n = sgn neg (A / Nat.gcd A D) ∧ d = D / Nat.gcd A D := by
  have hg : 0 < Nat.gcd A D := Nat.gcd_pos_of_pos_right _ (by omega)
  have hA := Nat.mul_div_cancel' (Nat.gcd_dvd_left A D)
  have hDD := Nat.mul_div_cancel' (Nat.gcd_dvd_right A D)
  have hcp : Nat.gcd (A / Nat.gcd A D) (D / Nat.gcd A D) = 1 := Nat.coprime_div_gcd_div_gcd hg
  have hDp : 0 < D / Nat.gcd A D := Nat.div_pos (Nat.gcd_le_right _ (by omega)) hg
  generalize A / Nat.gcd A D = a at *
  generalize D / Nat.gcd A D = e at *
  generalize Nat.gcd A D = g at *
  subst hA hDD
  refine rat_unique n (sgn neg a) (sgn neg (g * a)) ((g * e : Nat) : Int) d e (by omega) h ?_ hd hDp hc (by rw [sgn_abs]; exact hcp)
  cases neg
  · show (a : Int) * ((g * e : Nat) : Int) = ((g * a : Nat) : Int) * (e : Int)
    rw [Int.natCast_mul, Int.natCast_mul]; ac_rfl
  · show -(a : Int) * ((g * e : Nat) : Int) = -((g * a : Nat) : Int) * (e : Int)
    rw [Int.natCast_mul, Int.natCast_mul, Int.neg_mul, Int.neg_mul]; congr 1; ac_rfl
theorem str_ne {a b : ByteArray} (h : a ≠ b) : (a.toList == b.toList) = false := beq_eq_false_iff_ne.2 fun e => h (ba_ext (by rw [← Lib.toList_data, ← Lib.toList_data]; exact e))
/-- strings.Cut at the stroke. -/
theorem cutQ_calls (s t u : ByteArray) (hc : CutQ s t u) (hs : s.size ≤ 240) (w : World) :
    Calls Tryz.prog 75 #[.string s, .string ⟨#[47]⟩] w fun e w' => (∃ u' is, e = .returned (.tuple #[.string t, .string u', .bool is]) ∧ ((is = true ∧ u' = u) ∨ (is = false ∧ u = ⟨#[49]⟩))) ∧ Gr w w' := by
  rcases hc with ⟨i, hi, hlt, rfl, rfl⟩ | ⟨hi, rfl, rfl⟩
  · refine (cut_has s 47 i hi hlt (by omega) w).mono ?_
    rintro e w' ⟨rfl, hg⟩
    exact ⟨⟨_, _, rfl, .inl ⟨rfl, rfl⟩⟩, hg⟩
  · refine (cut_none t 47 hi w).mono ?_
    rintro e w' ⟨rfl, hg⟩
    exact ⟨⟨_, _, rfl, .inr ⟨rfl, rfl⟩⟩, hg⟩
set_option maxRecDepth 100000 in
set_option maxHeartbeats 8000000 in
/-- rat.Get. -/
theorem ratGet_calls (s t t2 u : ByteArray) (neg : Bool) (hs : s.size ≤ 240) (hc : CutQ s t u) (hp : Parts t t2 neg) (w : World) (hB : BitTab w) (hP : PowTab w) :
    Calls Tryz.prog 39 #[.string s] w fun e w' => ((QT s t2 u neg → ∃ b, e = .returned (.tuple #[.pointer (some ⟨b, 0, none⟩), .nilIface]) ∧ RatAt w' (.pointer (some ⟨b, 0, none⟩)) (sgn neg (dv t2.data.toList / Nat.gcd (dv t2.data.toList) (dv u.data.toList))) (dv u.data.toList / Nat.gcd (dv t2.data.toList) (dv u.data.toList))) ∧ (¬ QT s t2 u neg → e = .returned (.tuple #[.pointer none, .iface 169 (.int .i64 1)]))) ∧ Gr w w' := by
  obtain ⟨z1, z2⟩ := cutQ_size hc
  have z3 := size_parts hp
  have HCT := Lib.hid (cutQ_calls s t u hc hs w)
  have HNG := Lib.hid (fun w => numGet_calls t t2 neg w (by omega) hp)
  have HGN := Lib.hid (fun w => natGet_calls u w (by omega))
  have HO := Lib.hid (of_calls 1 rfl)
  have HTB := Lib.hid (And.intro hB hP)
  have HZ := Lib.hid (And.intro z2 z3)
  have HS := Lib.hid (And.intro hs z1)
  clear hc hp hB hP z1 z2 z3 hs
  by_cases hi : IntT t2 neg
  case neg =>
    have HI := Lib.hid hi
    have HQ := Lib.hid (show ¬ QT s t2 u neg from fun h => hi h.1)
    clear hi
    have hgx : ∀ w', Calls Tryz.prog 53 #[.string u] w' fun e w2 => (∃ r v, e = .returned (.tuple #[r, v])) ∧ Gr w' w2 := fun w' => (HGN.out w').mono (by
      rintro e w2 ⟨⟨h1, h2⟩, hg⟩
      refine ⟨?_, hg⟩
      by_cases hn : NumT u
      · obtain ⟨r, h, _⟩ := h1 hn
        exact ⟨_, _, h⟩
      · exact ⟨_, _, h2 hn⟩)
    have HGX := Lib.hid hgx
    clear hgx
    go_enter Tryz.func39, Tryz.ntmps39
    go_wp2_with fail
    refine HCT.out.mono ?_
    rintro ev w1 ⟨⟨u', is, rfl, hu⟩, hg1⟩
    have HG1 := Lib.hid hg1
    clear hg1
    rcases hu with ⟨rfl, rfl⟩ | ⟨rfl, rfl⟩
    all_goals
      go_wp2_with (go_at_call 94; (with_reducible refine (HNG.out _).mono ?_); rintro ev w2 ⟨⟨_, hr⟩, hg2⟩; obtain rfl := hr HI.out; have HG2 := Lib.hid hg2; clear hr hg2)
      go_wp2_with (first | (go_at_call 53; (with_reducible refine (HGX.out _).mono ?_); rintro ev w3 ⟨⟨r3, v3, rfl⟩, hg3⟩; have HG3 := Lib.hid hg3; clear hg3) | (go_at_call 68; (with_reducible refine (HO.out _).mono ?_); rintro ev w4 ⟨rfl, rfl⟩))
      go_ret2
      exact ⟨⟨fun h => absurd h HQ.out, fun _ => rfl⟩, HG1.out.tr (HG2.out.tr HG3.out)⟩
  case pos =>
    have HI := Lib.hid hi
    by_cases hn : NumT u
    case neg =>
      have HN := Lib.hid hn
      have HQ := Lib.hid (show ¬ QT s t2 u neg from fun h => hn h.2.1)
      clear hi hn
      go_enter Tryz.func39, Tryz.ntmps39
      go_wp2_with fail
      refine HCT.out.mono ?_
      rintro ev w1 ⟨⟨u', is, rfl, hu⟩, hg1⟩
      have HG1 := Lib.hid hg1
      clear hg1
      rcases hu with ⟨rfl, rfl⟩ | ⟨rfl, rfl⟩
      all_goals
        go_wp2_with (go_at_call 94; (with_reducible refine (HNG.out _).mono ?_); rintro ev w2 ⟨⟨hr, _⟩, hg2⟩; obtain ⟨r2, rfl, hr2⟩ := hr HI.out; have HG2 := Lib.hid hg2; clear hr hg2 hr2)
        go_wp2_with fail
        refine (HGN.out _).mono ?_
        rintro ev w3 ⟨⟨_, hr2⟩, hg3⟩
        have HG3 := Lib.hid hg3
        obtain rfl := hr2 HN.out
        clear hr2 hg3
        go_wp2_with (go_at_call 68; (with_reducible refine (HO.out _).mono ?_); rintro ev w4 ⟨rfl, rfl⟩)
        go_ret2
        exact ⟨⟨fun h => absurd h HQ.out, fun _ => rfl⟩, HG1.out.tr (HG2.out.tr HG3.out)⟩
    case pos =>
      have HN := Lib.hid hn
      have hDu := dv_B u hn.2.2.2 (by have := HS.out; have := HZ.out; omega)
      have hDt := dv_B t2 hi.1.2.2.2 (by have := HS.out; have := HZ.out; omega)
      have HQD := Lib.hid (show QT s t2 u neg ↔ (dv u.data.toList ≠ 0 ∧ ratText (sgn neg (dv t2.data.toList / Nat.gcd (dv t2.data.toList) (dv u.data.toList))) (dv u.data.toList / Nat.gcd (dv t2.data.toList) (dv u.data.toList)) = s.data.toList) from ⟨fun h => h.2.2, fun h => ⟨hi, hn, h⟩⟩)
      generalize dv u.data.toList = D at *
      generalize dv t2.data.toList = A at *
      have HBD := Lib.hid (And.intro hDu hDt)
      clear hi hn hDu hDt
      by_cases hD : D = 0
      · have hz0 : (D == 0) = true := beq_iff_eq.2 hD
        have HQ := Lib.hid (show ¬ QT s t2 u neg from fun h => (HQD.out.1 h).1 hD)
        clear hD
        go_enter Tryz.func39, Tryz.ntmps39
        go_wp2_with fail
        refine HCT.out.mono ?_
        rintro ev w1 ⟨⟨u', is, rfl, hu⟩, hg1⟩
        have HG1 := Lib.hid hg1
        clear hg1
        rcases hu with ⟨rfl, rfl⟩ | ⟨rfl, rfl⟩
        all_goals
          go_wp2_with (go_at_call 94; (with_reducible refine (HNG.out _).mono ?_); rintro ev w2 ⟨⟨hr, _⟩, hg2⟩; obtain ⟨r2, rfl, hr2⟩ := hr HI.out; have HG2 := Lib.hid hg2; clear hr hg2 hr2)
          go_wp2_with fail
          refine (HGN.out _).mono ?_
          rintro ev w3 ⟨⟨hr2, _⟩, hg3⟩
          have HG3 := Lib.hid hg3
          obtain ⟨r3, rfl, hr3⟩ := hr2 HN.out
          have hzz := zero_calls r3 D w3 hr3.at_
          rw [hz0] at hzz
          have HZR := Lib.hid hzz
          clear hr2 hg3 hr3 hzz
          go_wp2_with (first | (go_at_call 78; (with_reducible refine HZR.out.mono ?_); rintro ev w5 ⟨rfl, rfl⟩) | (go_at_call 68; (with_reducible refine (HO.out _).mono ?_); rintro ev w4 ⟨rfl, rfl⟩))
          go_ret2
          exact ⟨⟨fun h => absurd h HQ.out, fun _ => rfl⟩, HG1.out.tr (HG2.out.tr HG3.out)⟩
      · have hz0 : (D == 0) = false := beq_eq_false_iff_ne.2 hD
        have HDN := Lib.hid hD
        obtain ⟨T, hT⟩ : ∃ T : ByteArray, T = ⟨(ratText (sgn neg (A / Nat.gcd A D)) (D / Nat.gcd A D)).toArray⟩ := ⟨_, rfl⟩
        have HTT := Lib.hid hT
        have hTl : T.data.toList = ratText (sgn neg (A / Nat.gcd A D)) (D / Nat.gcd A D) := by rw [hT]
        by_cases hTs : T = s
        · have HQ := Lib.hid (show QT s t2 u neg from HQD.out.2 ⟨hD, by rw [← hTl, hTs]⟩)
          subst hTs
          clear hT hTl hD
          go_enter Tryz.func39, Tryz.ntmps39
          go_wp2_with fail
          refine HCT.out.mono ?_
          rintro ev w1 ⟨⟨u', is, rfl, hu⟩, hg1⟩
          have HG1 := Lib.hid hg1
          clear hg1
          rcases hu with ⟨rfl, rfl⟩ | ⟨rfl, rfl⟩
          all_goals
            go_wp2_with (go_at_call 94; (with_reducible refine (HNG.out _).mono ?_); rintro ev w2 ⟨⟨hr, _⟩, hg2⟩; obtain ⟨r2, rfl, hr2⟩ := hr HI.out; have HR2 := Lib.hid hr2; have HG2 := Lib.hid hg2; clear hr hg2 hr2)
            go_wp2_with fail
            refine (HGN.out _).mono ?_
            rintro ev w3 ⟨⟨hr2, _⟩, hg3⟩
            have HG3 := Lib.hid hg3
            obtain ⟨r3, rfl, hr3⟩ := hr2 HN.out
            have HR3 := Lib.hid hr3
            have hzz := zero_calls r3 D w3 hr3.at_
            rw [hz0] at hzz
            have HZR := Lib.hid hzz
            clear hr2 hg3 hr3 hzz
            go_wp2_with (go_at_call 78; (with_reducible refine HZR.out.mono ?_); rintro ev w5 ⟨rfl, rfl⟩)
            have HNW := Lib.hid (newInt_calls false r3 D w3 HR3.out.at_)
            go_wp2_with (go_at_call 66; (with_reducible refine HNW.out.mono ?_); rintro ev w6 ⟨⟨b6, rfl, hr6⟩, hg6⟩; have HR6 := Lib.hid hr6; have HG6 := Lib.hid hg6; clear hr6 hg6)
            have HG36 := Lib.hid (HG1.out.tr (HG2.out.tr (HG3.out.tr HG6.out)))
            have HNR := Lib.hid (newG_calls r2 _ (sgn neg A) (sgn false D) w6 (HTB.out.1.gr HG36.out) (HR2.out.at_.gr (HG3.out.tr HG6.out)) HR6.out 20 (by rw [sgn_abs]; exact HBD.out.2) (by rw [sgn_abs]; exact HBD.out.1) (by decide))
            go_wp2_with (go_at_call 65; (with_reducible refine HNR.out.mono ?_); rintro ev w7 ⟨⟨_, hnw⟩, hg7⟩; obtain ⟨b7, n7, d7, rfl, hq7⟩ := hnw (by have := HDN.out; show (D : Int) ≠ 0; omega); have HQ7 := Lib.hid hq7; have HG7 := Lib.hid hg7; clear hnw hq7 hg7)
            have hlow := low_is neg A D HDN.out n7 d7 HQ7.out.2.1 HQ7.out.1.pos HQ7.out.1.cop
            have HRV := Lib.hid (show RatAt w7 (.pointer (some ⟨b7, 0, none⟩)) (sgn neg (A / Nat.gcd A D)) (D / Nat.gcd A D) from by rw [← hlow.1, ← hlow.2]; exact HQ7.out.1)
            have htx := textRat_calls _ n7 d7 w7 HQ7.out.1 20 (Nat.lt_of_le_of_lt HQ7.out.2.2.1 (by rw [sgn_abs]; exact HBD.out.2)) (Nat.lt_of_le_of_lt HQ7.out.2.2.2 (by rw [sgn_abs]; exact HBD.out.1)) (by decide) (by decide) (HTB.out.2.gr (HG36.out.tr HG7.out))
            rw [hlow.1, hlow.2, ← HTT.out] at htx
            have HTX := Lib.hid htx
            clear htx hlow
            go_wp2_with (go_at_call 18; (with_reducible refine HTX.out.mono ?_); rintro ev w8 ⟨rfl, hg8⟩; have HG8 := Lib.hid hg8; clear hg8)
            go_ret2
            exact ⟨⟨fun _ => ⟨_, rfl, HRV.out.gr HG8.out⟩, fun h => absurd HQ.out h⟩, HG36.out.tr (HG7.out.tr HG8.out)⟩
        · have e1 := str_ne hTs
          have HQ := Lib.hid (show ¬ QT s t2 u neg from fun h => hTs (ba_ext (by rw [hTl]; exact (HQD.out.1 h).2)))
          clear hT hTl hD
          go_enter Tryz.func39, Tryz.ntmps39
          go_wp2_with fail
          refine HCT.out.mono ?_
          rintro ev w1 ⟨⟨u', is, rfl, hu⟩, hg1⟩
          have HG1 := Lib.hid hg1
          clear hg1
          rcases hu with ⟨rfl, rfl⟩ | ⟨rfl, rfl⟩
          all_goals
            go_wp2_with (go_at_call 94; (with_reducible refine (HNG.out _).mono ?_); rintro ev w2 ⟨⟨hr, _⟩, hg2⟩; obtain ⟨r2, rfl, hr2⟩ := hr HI.out; have HR2 := Lib.hid hr2; have HG2 := Lib.hid hg2; clear hr hg2 hr2)
            go_wp2_with fail
            refine (HGN.out _).mono ?_
            rintro ev w3 ⟨⟨hr2, _⟩, hg3⟩
            have HG3 := Lib.hid hg3
            obtain ⟨r3, rfl, hr3⟩ := hr2 HN.out
            have HR3 := Lib.hid hr3
            have hzz := zero_calls r3 D w3 hr3.at_
            rw [hz0] at hzz
            have HZR := Lib.hid hzz
            clear hr2 hg3 hr3 hzz
            go_wp2_with (go_at_call 78; (with_reducible refine HZR.out.mono ?_); rintro ev w5 ⟨rfl, rfl⟩)
            have HNW := Lib.hid (newInt_calls false r3 D w3 HR3.out.at_)
            go_wp2_with (go_at_call 66; (with_reducible refine HNW.out.mono ?_); rintro ev w6 ⟨⟨b6, rfl, hr6⟩, hg6⟩; have HR6 := Lib.hid hr6; have HG6 := Lib.hid hg6; clear hr6 hg6)
            have HG36 := Lib.hid (HG1.out.tr (HG2.out.tr (HG3.out.tr HG6.out)))
            have HNR := Lib.hid (newG_calls r2 _ (sgn neg A) (sgn false D) w6 (HTB.out.1.gr HG36.out) (HR2.out.at_.gr (HG3.out.tr HG6.out)) HR6.out 20 (by rw [sgn_abs]; exact HBD.out.2) (by rw [sgn_abs]; exact HBD.out.1) (by decide))
            go_wp2_with (go_at_call 65; (with_reducible refine HNR.out.mono ?_); rintro ev w7 ⟨⟨_, hnw⟩, hg7⟩; obtain ⟨b7, n7, d7, rfl, hq7⟩ := hnw (by have := HDN.out; show (D : Int) ≠ 0; omega); have HQ7 := Lib.hid hq7; have HG7 := Lib.hid hg7; clear hnw hq7 hg7)
            have hlow := low_is neg A D HDN.out n7 d7 HQ7.out.2.1 HQ7.out.1.pos HQ7.out.1.cop
            have htx := textRat_calls _ n7 d7 w7 HQ7.out.1 20 (Nat.lt_of_le_of_lt HQ7.out.2.2.1 (by rw [sgn_abs]; exact HBD.out.2)) (Nat.lt_of_le_of_lt HQ7.out.2.2.2 (by rw [sgn_abs]; exact HBD.out.1)) (by decide) (by decide) (HTB.out.2.gr (HG36.out.tr HG7.out))
            rw [hlow.1, hlow.2, ← HTT.out] at htx
            have HTX := Lib.hid htx
            clear htx hlow
            go_wp2_with (first | (go_at_call 18; (with_reducible refine HTX.out.mono ?_); rintro ev w8 ⟨rfl, hg8⟩; have HG8 := Lib.hid hg8; clear hg8) | (go_at_call 68; (with_reducible refine (HO.out _).mono ?_); rintro ev w9 ⟨rfl, rfl⟩))
            go_ret2
            exact ⟨⟨fun h => absurd h HQ.out, fun _ => rfl⟩, HG36.out.tr (HG7.out.tr HG8.out)⟩
end Go.Proofs.YtcjjgdoafkdeaaaGreatDoor
