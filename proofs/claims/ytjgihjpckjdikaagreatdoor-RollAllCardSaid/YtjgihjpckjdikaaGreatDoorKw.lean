/- Layer 6: the reference's Roll by contract. -/
import Derived.Test.YtjgihjpckjdikaaGreatDoorKv
import Derived.Test.YtjgihjpckjdikaaGreatDoorKn
namespace Go.Proofs.YtjgihjpckjdikaaGreatDoor
open Go.RowKit Go.Extern.Stop Go.Stop Go.Extern
set_option linter.unusedVariables false
set_option linter.unusedSimpArgs false

/-- What the reference's Roll answers. -/
def rollE (r : Int) : Ending := if r = -1 then .returned (.tuple #[.int .i64 0, .int .i64 4]) else .returned (.tuple #[.int .i64 r, .int .i64 0])
theorem rollE_no : rollE (-1) = .returned (.tuple #[.int .i64 0, .int .i64 4]) := rfl
theorem rollE_ok {r : Int} (h : r ≠ -1) : rollE r = .returned (.tuple #[.int .i64 r, .int .i64 0]) := if_neg h
theorem up_same {rs : List Ru} {ms : List Int} {S : Int → Bool} (h : ShutBy rs ms S) (hr : rs.length ≤ 8) (hm : ms.length ≤ 8) {d u y m k y' k' : Int} (hd : IsDay d y m k) (hu : IsDay u y' m k') (hU : UpR S d u) : SameM u d := by
  have hne : u ≠ -1 := by have := isDay_range hu; omega
  rcases hU with ⟨a, _⟩ | ⟨a, b, c, e⟩
  · exact absurd a hne
  · have hy := same_year h hr hm hd hu (opU_none e) (fun e h1 h2 => by omega)
    subst hy
    exact ⟨y, m, k', k, hu, hd⟩
theorem dn_same {rs : List Ru} {ms : List Int} {S : Int → Bool} (h : ShutBy rs ms S) (hr : rs.length ≤ 8) (hm : ms.length ≤ 8) {d u y m k y' k' : Int} (hd : IsDay d y m k) (hu : IsDay u y' m k') (hU : DnR S d u) : SameM u d := by
  have hne : u ≠ -1 := by have := isDay_range hu; omega
  rcases hU with ⟨a, _⟩ | ⟨a, b, c, e⟩
  · exact absurd a hne
  · have hy := same_year h hr hm hd hu (fun e h1 h2 => by omega) (fun x h1 h2 => opU_none (a := u + 1) (b := d + 1) e.symm x (by omega) (by omega))
    subst hy
    exact ⟨y, m, k', k, hu, hd⟩
set_option maxRecDepth 100000 in
theorem rroll_form (v : Value) (d rule : Int) (hr : rule < 0 ∨ 4 < rule) (w : World) :
    Calls Tryz.prog 30 #[v, .int .i64 d, .int .i64 rule] w fun e w' => e = .returned (.tuple #[.int .i64 0, .int .i64 1]) ∧ w = w' := by
  rcases hr with hr | hr
  · have b1 : decide (rule < 0) = true := decide_eq_true hr
    go_enter Tryz.func30, Tryz.ntmps30
    go_wp2
    go_ret2
    exact ⟨rfl, rfl⟩
  · have b1 : decide (rule < 0) = false := decide_eq_false (by omega)
    have b2 : decide (4 < rule) = true := decide_eq_true hr
    go_enter Tryz.func30, Tryz.ntmps30
    go_wp2
    go_ret2
    exact ⟨rfl, rfl⟩
set_option maxRecDepth 100000 in
theorem rroll_date (v : Value) (d rule : Int) (r0 : 0 ≤ rule) (r1 : rule ≤ 4) (hd : d < 0 ∨ 109572 < d) (w : World) :
    Calls Tryz.prog 30 #[v, .int .i64 d, .int .i64 rule] w fun e w' => e = .returned (.tuple #[.int .i64 0, .int .i64 4]) ∧ w = w' := by
  have hI := fun w => refIs_calls d w
  rw [decide_eq_false (show ¬ (0 ≤ d ∧ d ≤ 109572) by omega)] at hI
  have HI := Lib.hid hI
  clear hI hd
  go_enter Tryz.func30, Tryz.ntmps30
  go_wp2_with (go_at_call 20; (with_reducible refine (HI.out _).mono ?_); rintro ev w1 ⟨rfl, rfl⟩)
  go_ret2
  exact ⟨rfl, rfl⟩
set_option maxRecDepth 100000 in
set_option maxHeartbeats 8000000 in
/-- The reference's Roll. -/
theorem rroll_calls (cs : List (List Ru × List Int)) (v : Value) (S : Int → Bool) (hS : ShutC cs S) (rs : List Ru) (ms : List Int) (hB : ShutBy rs ms S) (hl8 : rs.length ≤ 8) (hm8 : ms.length ≤ 8) (d rule : Int) (h0 : 0 ≤ d) (h1 : d ≤ 109572) (r0 : 0 ≤ rule) (r1 : rule ≤ 4) (w : World) (hr : RCals w v cs) (hl : cs.length ≤ 100) :
    Calls Tryz.prog 30 #[v, .int .i64 d, .int .i64 rule] w fun e w' => (∃ r, RollR S d rule r ∧ e = rollE r) ∧ Gr w w' := by
  obtain ⟨y, m, k, hday⟩ := isDay_of d h0 h1
  have hI := fun w => refIs_calls d w
  rw [decide_eq_true (And.intro h0 h1)] at hI
  have HI := Lib.hid hI
  have HUP := Lib.hid (fun w hr => rnext_up cs v S hS d h0 (by omega) w hr hl)
  have HDN := Lib.hid (fun w hr => rnext_dn cs v S hS d (by omega) h1 w hr hl)
  have HUS := Lib.hid (fun u y' k' (hu : IsDay u y' m k') hU => up_same hB hl8 hm8 hday hu hU)
  have HDS := Lib.hid (fun u y' k' (hu : IsDay u y' m k') hU => dn_same hB hl8 hm8 hday hu hU)
  have HCD := Lib.hid (fun w => refCivil_calls d y m k hday w)
  have hfd := runCiv1 y m k
  have HDAY := Lib.hid hday
  have HR := Lib.hid hr
  clear hI hS hB hday hr
  rcases (by omega : rule = 0 ∨ rule = 1 ∨ rule = 3 ∨ rule = 2 ∨ rule = 4) with rfl | rfl | rfl | rfl | rfl
  · have HNE := Lib.hid (show d ≠ -1 by omega)
    go_enter Tryz.func30, Tryz.ntmps30
    go_wp2_with (go_at_call 20; (with_reducible refine (HI.out _).mono ?_); rintro ev w1 ⟨rfl, rfl⟩)
    go_ret2
    exact ⟨⟨d, .inl ⟨rfl, rfl⟩, (rollE_ok HNE.out).symm⟩, Gr.rf _⟩
  · have HN1 := Lib.hid (HUP.out w HR.out)
    go_enter Tryz.func30, Tryz.ntmps30
    go_wp2_with (go_at_call 20; (with_reducible refine (HI.out _).mono ?_); rintro ev w1 ⟨rfl, rfl⟩)
    refine HN1.out.mono ?_
    rintro ev w1 ⟨⟨u, he2, hv2⟩, hg1⟩
    by_cases hne2 : u = -1
    · rw [hne2, nextE_no] at he2
      subst he2
      have HRL := Lib.hid hv2
      rw [hne2] at HRL
      clear hv2 hne2
      go_wp2
      go_ret2
      exact ⟨⟨-1, .inr (.inl ⟨rfl, HRL.out⟩), rfl⟩, hg1⟩
    · rw [nextE_ok hne2] at he2
      subst he2
      have HRL := Lib.hid hv2
      have HNE := Lib.hid hne2
      clear hv2 hne2
      go_wp2
      go_ret2
      exact ⟨⟨u, .inr (.inl ⟨rfl, HRL.out⟩), (rollE_ok HNE.out).symm⟩, hg1⟩
  · have HN1 := Lib.hid (HDN.out w HR.out)
    go_enter Tryz.func30, Tryz.ntmps30
    go_wp2_with (go_at_call 20; (with_reducible refine (HI.out _).mono ?_); rintro ev w1 ⟨rfl, rfl⟩)
    refine HN1.out.mono ?_
    rintro ev w1 ⟨⟨u, he2, hv2⟩, hg1⟩
    by_cases hne2 : u = -1
    · rw [hne2, nextE_no] at he2
      subst he2
      have HRL := Lib.hid hv2
      rw [hne2] at HRL
      clear hv2 hne2
      go_wp2
      go_ret2
      exact ⟨⟨-1, .inr (.inr (.inl ⟨rfl, HRL.out⟩)), rfl⟩, hg1⟩
    · rw [nextE_ok hne2] at he2
      subst he2
      have HRL := Lib.hid hv2
      have HNE := Lib.hid hne2
      clear hv2 hne2
      go_wp2
      go_ret2
      exact ⟨⟨u, .inr (.inr (.inl ⟨rfl, HRL.out⟩)), (rollE_ok HNE.out).symm⟩, hg1⟩
  · have HN1 := Lib.hid (HUP.out w HR.out)
    go_enter Tryz.func30, Tryz.ntmps30
    go_wp2_with (go_at_call 20; (with_reducible refine (HI.out _).mono ?_); rintro ev w1 ⟨rfl, rfl⟩)
    refine HN1.out.mono ?_
    rintro ev w1 ⟨⟨u, he, hu⟩, hg1⟩
    have HR1 := Lib.hid (HR.out.gr hg1)
    by_cases hne : u = -1
    · rw [hne, nextE_no] at he
      subst he
      have HU := Lib.hid hu
      rw [hne] at HU
      have HN2 := Lib.hid (HDN.out w1 HR1.out)
      clear hu hne
      go_wp2_with fail
      refine HN2.out.mono ?_
      rintro ev w2 ⟨⟨t, he2, hv2⟩, hg2⟩
      by_cases hne2 : t = -1
      · rw [hne2, nextE_no] at he2
        subst he2
        have HRL := Lib.hid hv2
        rw [hne2] at HRL
        clear hv2 hne2
        go_wp2
        go_ret2
        exact ⟨⟨-1, .inr (.inr (.inr (.inl ⟨rfl, -1, HU.out, .inr ⟨sameM_no d, HRL.out⟩⟩))), rfl⟩, hg1.tr hg2⟩
      · rw [nextE_ok hne2] at he2
        subst he2
        have HRL := Lib.hid hv2
        have HNE := Lib.hid hne2
        clear hv2 hne2
        go_wp2
        go_ret2
        exact ⟨⟨t, .inr (.inr (.inr (.inl ⟨rfl, -1, HU.out, .inr ⟨sameM_no d, HRL.out⟩⟩))), (rollE_ok HNE.out).symm⟩, hg1.tr hg2⟩
    · rw [nextE_ok hne] at he
      subst he
      have hur : 0 ≤ u ∧ u ≤ 109572 := openB_range (upR_open hu hne)
      obtain ⟨yu, mu, ku, hdu⟩ := isDay_of u hur.1 hur.2
      have HU := Lib.hid hu
      have HNU := Lib.hid hne
      have hfu := runCiv1 yu mu ku
      have HCU := Lib.hid (fun w => refCivil_calls u yu mu ku hdu w)
      have HDU := Lib.hid hdu
      clear hu hne hdu hur
      go_wp2_with fail
      refine (HCU.out _).mono ?_
      rintro ev w2 ⟨rfl, hg2⟩
      go_wp2_with fail
      refine (HCD.out _).mono ?_
      rintro ev w3 ⟨rfl, hg3⟩
      have HG3 := Lib.hid ((hg1.tr hg2).tr hg3)
      clear hg2 hg3
      by_cases hmm : mu = m
      · subst hmm
        have HSM := Lib.hid (HUS.out u yu ku HDU.out HU.out)
        go_wp2
        go_ret2
        exact ⟨⟨u, .inr (.inr (.inr (.inl ⟨rfl, u, HU.out, .inl ⟨HSM.out, rfl⟩⟩))), (rollE_ok HNU.out).symm⟩, HG3.out⟩
      · have bm : (mu != m) = true := by simp [hmm]
        have HSM := Lib.hid (show ¬ SameM u d from fun e => hmm ((sameM_iff HDU.out HDAY.out).1 e).2)
        have HN2 := Lib.hid (HDN.out w3 (HR.out.gr HG3.out))
        clear hmm
        go_wp2_with fail
        refine HN2.out.mono ?_
        rintro ev w4 ⟨⟨t, he2, hv2⟩, hg4⟩
        by_cases hne2 : t = -1
        · rw [hne2, nextE_no] at he2
          subst he2
          have HRL := Lib.hid hv2
          rw [hne2] at HRL
          clear hv2 hne2
          go_wp2
          go_ret2
          exact ⟨⟨-1, .inr (.inr (.inr (.inl ⟨rfl, u, HU.out, .inr ⟨HSM.out, HRL.out⟩⟩))), rfl⟩, HG3.out.tr hg4⟩
        · rw [nextE_ok hne2] at he2
          subst he2
          have HRL := Lib.hid hv2
          have HNE := Lib.hid hne2
          clear hv2 hne2
          go_wp2
          go_ret2
          exact ⟨⟨t, .inr (.inr (.inr (.inl ⟨rfl, u, HU.out, .inr ⟨HSM.out, HRL.out⟩⟩))), (rollE_ok HNE.out).symm⟩, HG3.out.tr hg4⟩
  · have HN1 := Lib.hid (HDN.out w HR.out)
    go_enter Tryz.func30, Tryz.ntmps30
    go_wp2_with (go_at_call 20; (with_reducible refine (HI.out _).mono ?_); rintro ev w1 ⟨rfl, rfl⟩)
    refine HN1.out.mono ?_
    rintro ev w1 ⟨⟨u, he, hu⟩, hg1⟩
    have HR1 := Lib.hid (HR.out.gr hg1)
    by_cases hne : u = -1
    · rw [hne, nextE_no] at he
      subst he
      have HU := Lib.hid hu
      rw [hne] at HU
      have HN2 := Lib.hid (HUP.out w1 HR1.out)
      clear hu hne
      go_wp2_with fail
      refine HN2.out.mono ?_
      rintro ev w2 ⟨⟨t, he2, hv2⟩, hg2⟩
      by_cases hne2 : t = -1
      · rw [hne2, nextE_no] at he2
        subst he2
        have HRL := Lib.hid hv2
        rw [hne2] at HRL
        clear hv2 hne2
        go_wp2
        go_ret2
        exact ⟨⟨-1, .inr (.inr (.inr (.inr ⟨rfl, -1, HU.out, .inr ⟨sameM_no d, HRL.out⟩⟩))), rfl⟩, hg1.tr hg2⟩
      · rw [nextE_ok hne2] at he2
        subst he2
        have HRL := Lib.hid hv2
        have HNE := Lib.hid hne2
        clear hv2 hne2
        go_wp2
        go_ret2
        exact ⟨⟨t, .inr (.inr (.inr (.inr ⟨rfl, -1, HU.out, .inr ⟨sameM_no d, HRL.out⟩⟩))), (rollE_ok HNE.out).symm⟩, hg1.tr hg2⟩
    · rw [nextE_ok hne] at he
      subst he
      have hur : 0 ≤ u ∧ u ≤ 109572 := openB_range (dnR_open hu hne)
      obtain ⟨yu, mu, ku, hdu⟩ := isDay_of u hur.1 hur.2
      have HU := Lib.hid hu
      have HNU := Lib.hid hne
      have hfu := runCiv1 yu mu ku
      have HCU := Lib.hid (fun w => refCivil_calls u yu mu ku hdu w)
      have HDU := Lib.hid hdu
      clear hu hne hdu hur
      go_wp2_with fail
      refine (HCU.out _).mono ?_
      rintro ev w2 ⟨rfl, hg2⟩
      go_wp2_with fail
      refine (HCD.out _).mono ?_
      rintro ev w3 ⟨rfl, hg3⟩
      have HG3 := Lib.hid ((hg1.tr hg2).tr hg3)
      clear hg2 hg3
      by_cases hmm : mu = m
      · subst hmm
        have HSM := Lib.hid (HDS.out u yu ku HDU.out HU.out)
        go_wp2
        go_ret2
        exact ⟨⟨u, .inr (.inr (.inr (.inr ⟨rfl, u, HU.out, .inl ⟨HSM.out, rfl⟩⟩))), (rollE_ok HNU.out).symm⟩, HG3.out⟩
      · have bm : (mu != m) = true := by simp [hmm]
        have HSM := Lib.hid (show ¬ SameM u d from fun e => hmm ((sameM_iff HDU.out HDAY.out).1 e).2)
        have HN2 := Lib.hid (HUP.out w3 (HR.out.gr HG3.out))
        clear hmm
        go_wp2_with fail
        refine HN2.out.mono ?_
        rintro ev w4 ⟨⟨t, he2, hv2⟩, hg4⟩
        by_cases hne2 : t = -1
        · rw [hne2, nextE_no] at he2
          subst he2
          have HRL := Lib.hid hv2
          rw [hne2] at HRL
          clear hv2 hne2
          go_wp2
          go_ret2
          exact ⟨⟨-1, .inr (.inr (.inr (.inr ⟨rfl, u, HU.out, .inr ⟨HSM.out, HRL.out⟩⟩))), rfl⟩, HG3.out.tr hg4⟩
        · rw [nextE_ok hne2] at he2
          subst he2
          have HRL := Lib.hid hv2
          have HNE := Lib.hid hne2
          clear hv2 hne2
          go_wp2
          go_ret2
          exact ⟨⟨t, .inr (.inr (.inr (.inr ⟨rfl, u, HU.out, .inr ⟨HSM.out, HRL.out⟩⟩))), (rollE_ok HNE.out).symm⟩, HG3.out.tr hg4⟩
end Go.Proofs.YtjgihjpckjdikaaGreatDoor
