/- Layer 6: roll.Day by every rule, (*Cal).Add, by contract. -/
import Derived.Test.YtjgihjpckjdikaaGreatDoorKc
namespace Go.Proofs.YtjgihjpckjdikaaGreatDoor
open Go.RowKit Go.Extern.Stop Go.Stop Go.Extern
set_option linter.unusedVariables false
set_option linter.unusedSimpArgs false

set_option maxRecDepth 100000 in
theorem stays_none (d y' m' k' : Int) (h' : IsDay d y' m' k') (w : World) :
    Calls Tryz.prog 65 #[.int .i64 (-1), .int .i64 d] w fun e w' => e = .returned (.bool false) ∧ Gr w w' := by
  have HC := Lib.hid (fun w => civil_no (-1) w (by omega))
  have HD := Lib.hid (fun w => civil_calls d y' m' k' h' w)
  clear h'
  go_enter Tryz.func65, Tryz.ntmps65
  go_wp2_with ((go_at_call 17; (with_reducible refine (HC.out _).mono ?_); rintro ev w1 ⟨rfl, hg1⟩))
  have hga : Gr w (w1.alloc (.cells #[.int .i64 0, .int .i64 0, .int .i64 0] 23)) := hg1.tr ((Gr.rf w1).alloc (Nat.le_refl _) _)
  generalize w1.alloc (.cells #[.int .i64 0, .int .i64 0, .int .i64 0] 23) = W1 at hga ⊢
  have HGA := Lib.hid hga
  clear hga hg1
  go_wp2_with fail
  refine (HD.out _).mono ?_
  rintro ev w2 ⟨rfl, hg2⟩
  have HG2 := Lib.hid hg2
  clear hg2
  go_wp2
  go_ret
  exact ⟨by first | rfl | simp, (HGA.out.tr HG2.out).tr ((Gr.rf w2).alloc (Nat.le_refl _) _)⟩
theorem stays_any (u d : Int) (hu : u = -1 ∨ (0 ≤ u ∧ u ≤ 109572)) (h0 : 0 ≤ d) (h1 : d ≤ 109572) (w : World) :
    Calls Tryz.prog 65 #[.int .i64 u, .int .i64 d] w fun e w' => (∃ b : Bool, e = .returned (.bool b) ∧ (b = true ↔ SameM u d)) ∧ Gr w w' := by
  obtain ⟨y', m', k', h'⟩ := isDay_of d h0 h1
  rcases hu with rfl | hu
  · exact (stays_none d y' m' k' h' w).mono fun e w' h => ⟨⟨false, h.1, ⟨fun h => (by cases h), fun h => absurd h (sameM_no d)⟩⟩, h.2⟩
  · obtain ⟨y, m, k, h⟩ := isDay_of u hu.1 hu.2
    exact (stays_days u d y m k y' m' k' h h' w).mono fun e w' hh => ⟨⟨_, hh.1, by rw [decide_eq_true_iff, sameM_iff h h']⟩, hh.2⟩
set_option maxRecDepth 100000 in
set_option maxHeartbeats 2000000 in
/-- roll.Day. -/
theorem roll_calls (c : Value) (S : Int → Bool) (d rule : Int) (h0 : 0 ≤ d) (h1 : d ≤ 109572) (r0 : 0 ≤ rule) (r1 : rule ≤ 4) (w : World) (h : CalAt w c S) :
    Calls Tryz.prog 29 #[c, .int .i64 d, .int .i64 rule] w fun e w' => (∃ r, RollR S d rule r ∧ e = atE r) ∧ Gr w w' := by
  have HE := Lib.hid (fun w => errDate_calls w)
  have hw := fun w => weekday_calls d w h0 h1
  have hz0 := Int.emod_nonneg (d + 1) (show (7 : Int) ≠ 0 by decide)
  generalize (d + 1) % 7 = z at hw hz0
  have HW := Lib.hid hw
  have bz : decide (z < 0) = false := decide_eq_false (by omega)
  have HU := Lib.hid (fun w (hh : CalAt w c S) => towUp_calls c S d h0 (by omega) w hh)
  have HV := Lib.hid (fun w (hh : CalAt w c S) => towDn_calls c S d h0 h1 w hh)
  have HS := Lib.hid (fun (u : Int) hu w => stays_any u d hu h0 h1 w)
  have HH := Lib.hid h
  clear hw h
  rcases (by omega : rule = 0 ∨ rule = 1 ∨ rule = 3 ∨ rule = 2 ∨ rule = 4) with rfl | rfl | rfl | rfl | rfl
  · have br : (d == -1) = false := beq_eq_false_iff_ne.2 (by omega)
    have HN := Lib.hid (show d ≠ -1 by omega)
    go_enter Tryz.func29, Tryz.ntmps29
    go_wp2_with ((go_at_call 46; (with_reducible refine (HW.out _).mono ?_); rintro ev w1 ⟨rfl, rfl⟩))
    go_ret2
    exact ⟨⟨d, .inl ⟨rfl, rfl⟩, (atE_ok HN.out).symm⟩, Gr.rf _⟩
  · have HT := Lib.hid (HU.out w HH.out)
    go_enter Tryz.func29, Tryz.ntmps29
    go_wp2_with ((go_at_call 46; (with_reducible refine (HW.out _).mono ?_); rintro ev w1 ⟨rfl, rfl⟩))
    refine HT.out.mono ?_
    rintro ev w1 ⟨⟨u, rfl, hu, hur⟩, rfl⟩
    have HR := Lib.hid hu
    clear hu
    by_cases hne : u = -1
    · subst hne
      go_wp2_with (go_at_call 47; (with_reducible refine (HE.out _).mono ?_); rintro ev w8 ⟨rfl, rfl⟩)
      go_ret2
      exact ⟨⟨-1, .inr (.inl ⟨rfl, HR.out⟩), rfl⟩, Gr.rf _⟩
    · have br : (u == -1) = false := beq_eq_false_iff_ne.2 hne
      have HNE := Lib.hid hne
      clear hne
      go_wp2
      go_ret2
      exact ⟨⟨u, .inr (.inl ⟨rfl, HR.out⟩), (atE_ok HNE.out).symm⟩, Gr.rf _⟩
  · have HT := Lib.hid (HV.out w HH.out)
    go_enter Tryz.func29, Tryz.ntmps29
    go_wp2_with ((go_at_call 46; (with_reducible refine (HW.out _).mono ?_); rintro ev w1 ⟨rfl, rfl⟩))
    refine HT.out.mono ?_
    rintro ev w1 ⟨⟨u, rfl, hu, hur⟩, rfl⟩
    have HR := Lib.hid hu
    clear hu
    by_cases hne : u = -1
    · subst hne
      go_wp2_with (go_at_call 47; (with_reducible refine (HE.out _).mono ?_); rintro ev w8 ⟨rfl, rfl⟩)
      go_ret2
      exact ⟨⟨-1, .inr (.inr (.inl ⟨rfl, HR.out⟩)), rfl⟩, Gr.rf _⟩
    · have br : (u == -1) = false := beq_eq_false_iff_ne.2 hne
      have HNE := Lib.hid hne
      clear hne
      go_wp2
      go_ret2
      exact ⟨⟨u, .inr (.inr (.inl ⟨rfl, HR.out⟩)), (atE_ok HNE.out).symm⟩, Gr.rf _⟩
  · have HT := Lib.hid (HU.out w HH.out)
    go_enter Tryz.func29, Tryz.ntmps29
    go_wp2_with ((go_at_call 46; (with_reducible refine (HW.out _).mono ?_); rintro ev w1 ⟨rfl, rfl⟩))
    refine HT.out.mono ?_
    rintro ev w1 ⟨⟨u, rfl, hu, hur⟩, rfl⟩
    have HR := Lib.hid hu
    clear hu
    have HST := Lib.hid (HS.out u hur w)
    go_wp2_with fail
    refine HST.out.mono ?_
    rintro ev w2 ⟨⟨b, rfl, hb⟩, hg2⟩
    have HG2 := Lib.hid hg2
    cases b with
    | true =>
      have HSM := Lib.hid (hb.1 rfl)
      have hne : u ≠ -1 := fun e => by have := HSM.out; rw [e] at this; exact sameM_no d this
      have br : (u == -1) = false := beq_eq_false_iff_ne.2 hne
      have HNE := Lib.hid hne
      clear hb hg2 hne
      go_wp2
      go_ret2
      exact ⟨⟨u, .inr (.inr (.inr (.inl ⟨rfl, u, HR.out, .inl ⟨HSM.out, rfl⟩⟩))), (atE_ok HNE.out).symm⟩, HG2.out⟩
    | false =>
      have HSM := Lib.hid (show ¬ SameM u d from fun e => by cases hb.2 e)
      have HT2 := Lib.hid (HV.out w2 (HH.out.gr hg2))
      clear hb hg2
      go_wp2_with fail
      refine HT2.out.mono ?_
      rintro ev w3 ⟨⟨v, rfl, hv, hvr⟩, rfl⟩
      have HR2 := Lib.hid hv
      clear hv
      by_cases hne : v = -1
      · subst hne
        go_wp2_with (go_at_call 47; (with_reducible refine (HE.out _).mono ?_); rintro ev w8 ⟨rfl, rfl⟩)
        go_ret2
        exact ⟨⟨-1, .inr (.inr (.inr (.inl ⟨rfl, u, HR.out, .inr ⟨HSM.out, HR2.out⟩⟩))), rfl⟩, HG2.out⟩
      · have br : (v == -1) = false := beq_eq_false_iff_ne.2 hne
        have HNE := Lib.hid hne
        clear hne
        go_wp2
        go_ret2
        exact ⟨⟨v, .inr (.inr (.inr (.inl ⟨rfl, u, HR.out, .inr ⟨HSM.out, HR2.out⟩⟩))), (atE_ok HNE.out).symm⟩, HG2.out⟩
  · have HT := Lib.hid (HV.out w HH.out)
    go_enter Tryz.func29, Tryz.ntmps29
    go_wp2_with ((go_at_call 46; (with_reducible refine (HW.out _).mono ?_); rintro ev w1 ⟨rfl, rfl⟩))
    refine HT.out.mono ?_
    rintro ev w1 ⟨⟨u, rfl, hu, hur⟩, rfl⟩
    have HR := Lib.hid hu
    clear hu
    have HST := Lib.hid (HS.out u hur w)
    go_wp2_with fail
    refine HST.out.mono ?_
    rintro ev w2 ⟨⟨b, rfl, hb⟩, hg2⟩
    have HG2 := Lib.hid hg2
    cases b with
    | true =>
      have HSM := Lib.hid (hb.1 rfl)
      have hne : u ≠ -1 := fun e => by have := HSM.out; rw [e] at this; exact sameM_no d this
      have br : (u == -1) = false := beq_eq_false_iff_ne.2 hne
      have HNE := Lib.hid hne
      clear hb hg2 hne
      go_wp2
      go_ret2
      exact ⟨⟨u, .inr (.inr (.inr (.inr ⟨rfl, u, HR.out, .inl ⟨HSM.out, rfl⟩⟩))), (atE_ok HNE.out).symm⟩, HG2.out⟩
    | false =>
      have HSM := Lib.hid (show ¬ SameM u d from fun e => by cases hb.2 e)
      have HT2 := Lib.hid (HU.out w2 (HH.out.gr hg2))
      clear hb hg2
      go_wp2_with fail
      refine HT2.out.mono ?_
      rintro ev w3 ⟨⟨v, rfl, hv, hvr⟩, rfl⟩
      have HR2 := Lib.hid hv
      clear hv
      by_cases hne : v = -1
      · subst hne
        go_wp2_with (go_at_call 47; (with_reducible refine (HE.out _).mono ?_); rintro ev w8 ⟨rfl, rfl⟩)
        go_ret2
        exact ⟨⟨-1, .inr (.inr (.inr (.inr ⟨rfl, u, HR.out, .inr ⟨HSM.out, HR2.out⟩⟩))), rfl⟩, HG2.out⟩
      · have br : (v == -1) = false := beq_eq_false_iff_ne.2 hne
        have HNE := Lib.hid hne
        clear hne
        go_wp2
        go_ret2
        exact ⟨⟨v, .inr (.inr (.inr (.inr ⟨rfl, u, HR.out, .inr ⟨HSM.out, HR2.out⟩⟩))), (atE_ok HNE.out).symm⟩, HG2.out⟩
theorem roll_form (c : Value) (d rule : Int) (hr : rule < 0 ∨ 4 < rule) (w : World) :
    Calls Tryz.prog 29 #[c, .int .i64 d, .int .i64 rule] w fun e w' => e = .returned (.tuple #[.int .i64 0, .iface 97 (.int .i64 1)]) ∧ w = w' := by
  have HE := Lib.hid (fun w => show Calls Tryz.prog 47 #[.int .i64 1] w fun e w' => e = .returned (.iface 97 (.int .i64 1)) ∧ w = w' from of_calls 1 (by decide) w)
  rcases hr with hr | hr
  · have b1 : decide (rule < 0) = true := decide_eq_true hr
    go_enter Tryz.func29, Tryz.ntmps29
    go_wp2_with (go_at_call 47; (with_reducible refine (HE.out _).mono ?_); rintro ev w8 ⟨rfl, rfl⟩)
    go_ret2
    exact ⟨rfl, rfl⟩
  · have b1 : decide (rule < 0) = false := decide_eq_false (by omega)
    have b2 : decide (4 < rule) = true := decide_eq_true hr
    go_enter Tryz.func29, Tryz.ntmps29
    go_wp2_with (go_at_call 47; (with_reducible refine (HE.out _).mono ?_); rintro ev w8 ⟨rfl, rfl⟩)
    go_ret2
    exact ⟨rfl, rfl⟩
theorem roll_date (c : Value) (d rule : Int) (r0 : 0 ≤ rule) (r1 : rule ≤ 4) (hd : d < 0 ∨ 109572 < d) (w : World) :
    Calls Tryz.prog 29 #[c, .int .i64 d, .int .i64 rule] w fun e w' => e = .returned (.tuple #[.int .i64 0, .iface 97 (.int .i64 4)]) ∧ w = w' := by
  have HE := Lib.hid (fun w => errDate_calls w)
  have HW := Lib.hid (fun w => weekday_no d w hd)
  clear hd
  go_enter Tryz.func29, Tryz.ntmps29
  go_wp2_with (first | (go_at_call 46; (with_reducible refine (HW.out _).mono ?_); rintro ev w1 ⟨rfl, rfl⟩) | (go_at_call 47; (with_reducible refine (HE.out _).mono ?_); rintro ev w8 ⟨rfl, rfl⟩))
  go_ret2
  exact ⟨rfl, rfl⟩
/-- Under way on: x, m still to go. -/
def UpI (S : Int → Bool) (d n m x : Int) : Prop := (0 ≤ x ∧ x ≤ 109572 ∧ ((m = n ∧ x = d) ∨ (m < n ∧ d < x ∧ openB S x = true ∧ opU S (x + 1) - opU S (d + 1) = n - m))) ∨ (x = 109573 ∧ m < n ∧ opU S 109573 - opU S (d + 1) = n - m - 1)
def DnI (S : Int → Bool) (d n m x : Int) : Prop := (0 ≤ x ∧ x ≤ 109572 ∧ ((m = n ∧ x = d) ∨ (m < n ∧ x < d ∧ openB S x = true ∧ opU S d - opU S x = n - m))) ∨ (x = -1 ∧ m < n ∧ opU S d = n - m - 1)
theorem upI_open {S : Int → Bool} {d n m x z : Int} (h : UpI S d n m x) (hx : x ≤ 109572) (hz : x < z) (ho : openB S z = true) (hc : opU S z = opU S (x + 1)) : UpI S d n (m - 1) z := by
  have e := opU_on ho
  have r := openB_range ho
  rcases h with ⟨h1, h2, ⟨h3, h4⟩ | ⟨h3, h4, h5, h6⟩⟩ | ⟨h1, h2, h3⟩
  · subst h4; exact .inl ⟨r.1, r.2, .inr ⟨by omega, by omega, ho, by omega⟩⟩
  · exact .inl ⟨r.1, r.2, .inr ⟨by omega, by omega, ho, by omega⟩⟩
  · omega
theorem upI_out {S : Int → Bool} {d n m x : Int} (h : UpI S d n m x) (hx : x ≤ 109572) (hc : opU S 109573 = opU S (x + 1)) : UpI S d n (m - 1) 109573 := by
  rcases h with ⟨h1, h2, ⟨h3, h4⟩ | ⟨h3, h4, h5, h6⟩⟩ | ⟨h1, h2, h3⟩
  · subst h4; exact .inr ⟨rfl, by omega, by omega⟩
  · exact .inr ⟨rfl, by omega, by omega⟩
  · omega
theorem upI_done {S : Int → Bool} {d n x : Int} (h : UpI S d n 0 x) (hx : x ≤ 109572) (hn : 0 ≤ n) : AddR S d n x := by
  rcases h with ⟨h1, h2, ⟨h3, h4⟩ | ⟨h3, h4, h5, h6⟩⟩ | ⟨h1, h2, h3⟩
  · exact .inl ⟨h3.symm, h4⟩
  · exact .inr (.inl ⟨by omega, h4, h5, by omega⟩)
  · omega
theorem upI_none {S : Int → Bool} {d n m : Int} (h : UpI S d n m 109573) (hm : 0 ≤ m) : AddR S d n (-1) := by
  rcases h with ⟨h1, h2, ⟨h3, h4⟩ | ⟨h3, h4, h5, h6⟩⟩ | ⟨h1, h2, h3⟩
  · omega
  · omega
  · exact .inr (.inr (.inl ⟨by omega, rfl, by omega⟩))
theorem dnI_open {S : Int → Bool} {d n m x z : Int} (h : DnI S d n m x) (hx : 0 ≤ x) (hz : z < x) (ho : openB S z = true) (hc : opU S (z + 1) = opU S x) : DnI S d n (m - 1) z := by
  have e := opU_on ho
  have r := openB_range ho
  rcases h with ⟨h1, h2, ⟨h3, h4⟩ | ⟨h3, h4, h5, h6⟩⟩ | ⟨h1, h2, h3⟩
  · subst h4; exact .inl ⟨r.1, r.2, .inr ⟨by omega, by omega, ho, by omega⟩⟩
  · exact .inl ⟨r.1, r.2, .inr ⟨by omega, by omega, ho, by omega⟩⟩
  · omega
theorem dnI_out {S : Int → Bool} {d n m x : Int} (h : DnI S d n m x) (hx : 0 ≤ x) (hc : opU S (-1 + 1) = opU S x) : DnI S d n (m - 1) (-1) := by
  rw [opU_zero S (-1 + 1) (by omega)] at hc
  rcases h with ⟨h1, h2, ⟨h3, h4⟩ | ⟨h3, h4, h5, h6⟩⟩ | ⟨h1, h2, h3⟩
  · subst h4; exact .inr ⟨rfl, by omega, by omega⟩
  · exact .inr ⟨rfl, by omega, by omega⟩
  · omega
theorem dnI_done {S : Int → Bool} {d n x : Int} (h : DnI S d n 0 x) (hx : 0 ≤ x) (hn : 0 < n) : AddR S d (-n) x := by
  rcases h with ⟨h1, h2, ⟨h3, h4⟩ | ⟨h3, h4, h5, h6⟩⟩ | ⟨h1, h2, h3⟩
  · omega
  · exact .inr (.inr (.inr (.inl ⟨by omega, h4, h5, by omega⟩)))
  · omega
theorem dnI_none {S : Int → Bool} {d n m : Int} (h : DnI S d n m (-1)) (hm : 0 ≤ m) (hn : 0 < n) : AddR S d (-n) (-1) := by
  rcases h with ⟨h1, h2, ⟨h3, h4⟩ | ⟨h3, h4, h5, h6⟩⟩ | ⟨h1, h2, h3⟩
  · omega
  · omega
  · exact .inr (.inr (.inr (.inr ⟨by omega, rfl, by omega⟩)))
set_option maxRecDepth 100000 in
set_option maxHeartbeats 4000000 in
theorem cadd_up (c : Value) (S : Int → Bool) (d n : Int) (h0 : 0 ≤ d) (h1 : d ≤ 109572) (n0 : 0 ≤ n) (n1 : n ≤ 1000) (w : World) (h : CalAt w c S) :
    Calls Tryz.prog 40 #[c, .int .i64 d, .int .i64 n] w fun e w' => (∃ r, AddR S d n r ∧ e = atE r) ∧ w = w' := by
  have HO := Lib.hid (fun (x : Int) a b => open_calls c S x a b w h)
  have HE := Lib.hid (fun w => errDate_calls w)
  have HN := Lib.hid (fun w => weekday_no 109573 w (by omega))
  clear h
  go_enter Tryz.func40, Tryz.ntmps40
  go_wp2
  go_loopg [1, 2] n.toNat (fun g s1 s2 wr => ∃ x m : Int, g = m.toNat ∧ 0 ≤ m ∧ m ≤ n ∧ (0 ≤ x ∧ x ≤ 109573) ∧ s1 = .int .i64 x ∧ s2 = .int .i64 m ∧ Hid (UpI S d n m x) ∧ wr = w)
  case atStart => exact ⟨d, n, rfl, by omega, Int.le_refl _, by omega, rfl, rfl, Lib.hid (.inl ⟨h0, h1, .inl ⟨rfl, rfl⟩⟩), rfl⟩
  case round =>
    obtain ⟨x, m, hg, hm0, hm1, hxr, rfl, rfl, HI, rfl⟩ := hrel
    have HGM := Lib.hid hg
    clear hg
    by_cases hout : x = 109573
    · subst hout
      have HR := Lib.hid (upI_none HI.out hm0)
      by_cases hm : 0 < m
      · have bm : decide (0 < m) = true := decide_eq_true hm
        go_wp2_with (first | (go_at_call 46; (with_reducible refine (HN.out _).mono ?_); rintro ev w1 ⟨rfl, rfl⟩) | (go_at_call 47; (with_reducible refine (HE.out _).mono ?_); rintro ev w8 ⟨rfl, rfl⟩))
        go_ret2
        exact ⟨⟨-1, HR.out, rfl⟩, rfl⟩
      · have bm : decide (0 < m) = false := decide_eq_false hm
        go_wp2_with (first | (go_at_call 46; (with_reducible refine (HN.out _).mono ?_); rintro ev w1 ⟨rfl, rfl⟩) | (go_at_call 47; (with_reducible refine (HE.out _).mono ?_); rintro ev w8 ⟨rfl, rfl⟩))
        go_ret2
        exact ⟨⟨-1, HR.out, rfl⟩, rfl⟩
    · have hx0 : 0 ≤ x := by omega
      have hx1 : x ≤ 109572 := by omega
      have hw := fun w => weekday_calls x w hx0 hx1
      have hz0 := Int.emod_nonneg (x + 1) (show (7 : Int) ≠ 0 by decide)
      generalize (x + 1) % 7 = q at hw hz0
      have HW := Lib.hid hw
      have bz : decide (q < 0) = false := decide_eq_false (by omega)
      have bz2 : decide (0 ≤ q) = true := decide_eq_true hz0
      have HX := Lib.hid hout
      clear hw hout hxr
      by_cases hm : 0 < m
      · have bm : decide (0 < m) = true := decide_eq_true hm
        go_wp2_with (go_at_call 46; (with_reducible refine (HW.out _).mono ?_); rintro ev w1 ⟨rfl, rfl⟩)
        clear bz bz2 hz0
        go_loopg [1] (109573 - (x + 1)).toNat (fun g s1 wq => ∃ z : Int, g = (109573 - z).toNat ∧ (x + 1 ≤ z ∧ z ≤ 109573) ∧ s1 = .int .i64 z ∧ Hid (opU S z = opU S (x + 1)) ∧ wq = wr)
        case atStart => exact ⟨x + 1, rfl, by omega, rfl, Lib.hid (by rfl), rfl⟩
        case round =>
          obtain ⟨z, hg2, hzr, rfl, HC, rfl⟩ := hrel
          have HGZ := Lib.hid hg2
          clear hg2
          by_cases hz : z ≤ 109572
          · have hzw := fun w => weekday_calls z w (by omega) (by omega)
            have hz1 := Int.emod_nonneg (z + 1) (show (7 : Int) ≠ 0 by decide)
            generalize (z + 1) % 7 = p at hzw hz1
            have HWZ := Lib.hid hzw
            have bp : decide (0 ≤ p) = true := decide_eq_true hz1
            have ho := HO.out z (by omega) (by omega)
            clear hzw
            cases hop : openB S z with
            | true =>
              rw [hop] at ho
              have HOP := Lib.hid ho
              have HI2 := Lib.hid (upI_open HI.out (by omega) (by omega) hop HC.out)
              clear ho hop
              go_wp2_with (first | (go_at_call 46; (with_reducible refine (HWZ.out _).mono ?_); rintro ev w1 ⟨rfl, rfl⟩) | (go_at_call 27; (with_reducible refine HOP.out.mono ?_); rintro ev w1 ⟨rfl, rfl⟩))
              go_roundg (m - 1).toNat
              case measure => have := HGM.out; omega
              case rel => exact ⟨z, m - 1, rfl, by omega, by omega, by omega, rfl, rfl, HI2, rfl⟩
            | false =>
              rw [hop] at ho
              have HOP := Lib.hid ho
              have HC2 := Lib.hid (show opU S (z + 1) = opU S (x + 1) by rw [opU_off hop]; exact HC.out)
              clear ho hop
              go_wp2_with (first | (go_at_call 46; (with_reducible refine (HWZ.out _).mono ?_); rintro ev w1 ⟨rfl, rfl⟩) | (go_at_call 27; (with_reducible refine HOP.out.mono ?_); rintro ev w1 ⟨rfl, rfl⟩))
              go_roundg (gk - 1)
              case measure => have := HGZ.out; omega
              case rel => exact ⟨z + 1, by have := HGZ.out; omega, by omega, rfl, HC2, rfl⟩
          · have hze : z = 109573 := by omega
            subst hze
            have HI2 := Lib.hid (upI_out HI.out (by omega) HC.out)
            go_wp2_with (go_at_call 46; (with_reducible refine (HN.out _).mono ?_); rintro ev w1 ⟨rfl, rfl⟩)
            go_roundg (m - 1).toNat
            case measure => have := HGM.out; omega
            case rel => exact ⟨109573, m - 1, rfl, by omega, by omega, by omega, rfl, rfl, HI2, rfl⟩
      · have hme : m = 0 := by omega
        subst hme
        have HR := Lib.hid (upI_done HI.out (by omega) n0)
        have HNE := Lib.hid (show x ≠ -1 by omega)
        go_wp2_with (go_at_call 46; (with_reducible refine (HW.out _).mono ?_); rintro ev w1 ⟨rfl, rfl⟩)
        go_ret2
        exact ⟨⟨x, HR.out, (atE_ok HNE.out).symm⟩, rfl⟩
set_option maxRecDepth 100000 in
set_option maxHeartbeats 4000000 in
theorem cadd_dn (c : Value) (S : Int → Bool) (d n : Int) (h0 : 0 ≤ d) (h1 : d ≤ 109572) (n0 : 0 < n) (n1 : n ≤ 1000) (w : World) (h : CalAt w c S) :
    Calls Tryz.prog 40 #[c, .int .i64 d, .int .i64 (-n)] w fun e w' => (∃ r, AddR S d (-n) r ∧ e = atE r) ∧ w = w' := by
  have HO := Lib.hid (fun (x : Int) a b => open_calls c S x a b w h)
  have HE := Lib.hid (fun w => errDate_calls w)
  have HN := Lib.hid (fun w => weekday_no (-1) w (by omega))
  clear h
  go_enter Tryz.func40, Tryz.ntmps40
  go_wp2
  go_loopg [1, 2] n.toNat (fun g s1 s2 wr => ∃ x m : Int, g = m.toNat ∧ 0 ≤ m ∧ m ≤ n ∧ (-1 ≤ x ∧ x ≤ 109572) ∧ s1 = .int .i64 x ∧ s2 = .int .i64 m ∧ Hid (DnI S d n m x) ∧ wr = w)
  case atStart => exact ⟨d, n, rfl, by omega, Int.le_refl _, by omega, rfl, rfl, Lib.hid (.inl ⟨h0, h1, .inl ⟨rfl, rfl⟩⟩), rfl⟩
  case round =>
    obtain ⟨x, m, hg, hm0, hm1, hxr, rfl, rfl, HI, rfl⟩ := hrel
    have HGM := Lib.hid hg
    clear hg
    by_cases hout : x = -1
    · subst hout
      have HR := Lib.hid (dnI_none HI.out hm0 n0)
      by_cases hm : 0 < m
      · have bm : decide (0 < m) = true := decide_eq_true hm
        go_wp2_with (first | (go_at_call 46; (with_reducible refine (HN.out _).mono ?_); rintro ev w1 ⟨rfl, rfl⟩) | (go_at_call 47; (with_reducible refine (HE.out _).mono ?_); rintro ev w8 ⟨rfl, rfl⟩))
        go_ret2
        exact ⟨⟨-1, HR.out, rfl⟩, rfl⟩
      · have bm : decide (0 < m) = false := decide_eq_false hm
        go_wp2_with (first | (go_at_call 46; (with_reducible refine (HN.out _).mono ?_); rintro ev w1 ⟨rfl, rfl⟩) | (go_at_call 47; (with_reducible refine (HE.out _).mono ?_); rintro ev w8 ⟨rfl, rfl⟩))
        go_ret2
        exact ⟨⟨-1, HR.out, rfl⟩, rfl⟩
    · have hx0 : 0 ≤ x := by omega
      have hx1 : x ≤ 109572 := by omega
      have hw := fun w => weekday_calls x w hx0 hx1
      have hz0 := Int.emod_nonneg (x + 1) (show (7 : Int) ≠ 0 by decide)
      generalize (x + 1) % 7 = q at hw hz0
      have HW := Lib.hid hw
      have bz : decide (q < 0) = false := decide_eq_false (by omega)
      have bz2 : decide (0 ≤ q) = true := decide_eq_true hz0
      have HX := Lib.hid hout
      clear hw hout hxr
      by_cases hm : 0 < m
      · have bm : decide (0 < m) = true := decide_eq_true hm
        go_wp2_with (go_at_call 46; (with_reducible refine (HW.out _).mono ?_); rintro ev w1 ⟨rfl, rfl⟩)
        clear bz bz2 hz0
        go_loopg [1] (x - 1 + 1).toNat (fun g s1 wq => ∃ z : Int, g = (z + 1).toNat ∧ (-1 ≤ z ∧ z ≤ x - 1) ∧ s1 = .int .i64 z ∧ Hid (opU S (z + 1) = opU S x) ∧ wq = wr)
        case atStart => exact ⟨x - 1, rfl, by omega, rfl, Lib.hid (by rw [show x - 1 + 1 = x by omega]), rfl⟩
        case round =>
          obtain ⟨z, hg2, hzr, rfl, HC, rfl⟩ := hrel
          have HGZ := Lib.hid hg2
          clear hg2
          by_cases hz : 0 ≤ z
          · have hzw := fun w => weekday_calls z w (by omega) (by omega)
            have hz1 := Int.emod_nonneg (z + 1) (show (7 : Int) ≠ 0 by decide)
            generalize (z + 1) % 7 = p at hzw hz1
            have HWZ := Lib.hid hzw
            have bp : decide (0 ≤ p) = true := decide_eq_true hz1
            have ho := HO.out z (by omega) (by omega)
            clear hzw
            cases hop : openB S z with
            | true =>
              rw [hop] at ho
              have HOP := Lib.hid ho
              have HI2 := Lib.hid (dnI_open HI.out (by omega) (by omega) hop HC.out)
              clear ho hop
              go_wp2_with (first | (go_at_call 46; (with_reducible refine (HWZ.out _).mono ?_); rintro ev w1 ⟨rfl, rfl⟩) | (go_at_call 27; (with_reducible refine HOP.out.mono ?_); rintro ev w1 ⟨rfl, rfl⟩))
              go_roundg (m - 1).toNat
              case measure => have := HGM.out; omega
              case rel => exact ⟨z, m - 1, rfl, by omega, by omega, by omega, rfl, rfl, HI2, rfl⟩
            | false =>
              rw [hop] at ho
              have HOP := Lib.hid ho
              have HC2 := Lib.hid (show opU S (z - 1 + 1) = opU S x by rw [show z - 1 + 1 = z by omega, ← opU_off hop]; exact HC.out)
              clear ho hop
              go_wp2_with (first | (go_at_call 46; (with_reducible refine (HWZ.out _).mono ?_); rintro ev w1 ⟨rfl, rfl⟩) | (go_at_call 27; (with_reducible refine HOP.out.mono ?_); rintro ev w1 ⟨rfl, rfl⟩))
              go_roundg (gk - 1)
              case measure => have := HGZ.out; omega
              case rel => exact ⟨z - 1, by have := HGZ.out; omega, by omega, rfl, HC2, rfl⟩
          · have hze : z = -1 := by omega
            subst hze
            have HI2 := Lib.hid (dnI_out HI.out (by omega) HC.out)
            go_wp2_with (go_at_call 46; (with_reducible refine (HN.out _).mono ?_); rintro ev w1 ⟨rfl, rfl⟩)
            go_roundg (m - 1).toNat
            case measure => have := HGM.out; omega
            case rel => exact ⟨-1, m - 1, rfl, by omega, by omega, by omega, rfl, rfl, HI2, rfl⟩
      · have hme : m = 0 := by omega
        subst hme
        have HR := Lib.hid (dnI_done HI.out (by omega) n0)
        have HNE := Lib.hid (show x ≠ -1 by omega)
        go_wp2_with (go_at_call 46; (with_reducible refine (HW.out _).mono ?_); rintro ev w1 ⟨rfl, rfl⟩)
        go_ret2
        exact ⟨⟨x, HR.out, (atE_ok HNE.out).symm⟩, rfl⟩
theorem cadd_calls (c : Value) (S : Int → Bool) (d n : Int) (h0 : 0 ≤ d) (h1 : d ≤ 109572) (n0 : -1000 ≤ n) (n1 : n ≤ 1000) (w : World) (h : CalAt w c S) :
    Calls Tryz.prog 40 #[c, .int .i64 d, .int .i64 n] w fun e w' => (∃ r, AddR S d n r ∧ e = atE r) ∧ w = w' := by
  by_cases hn : 0 ≤ n
  · exact cadd_up c S d n h0 h1 hn n1 w h
  · have := cadd_dn c S d (-n) h0 h1 (by omega) (by omega) w h
    rw [Int.neg_neg] at this
    exact this
theorem cadd_far (c : Value) (d n : Int) (hn : 1000 < n) (w : World) :
    Calls Tryz.prog 40 #[c, .int .i64 d, .int .i64 n] w fun e w' => e = .returned (.tuple #[.int .i64 0, .iface 97 (.int .i64 2)]) ∧ w = w' := by
  have HE := Lib.hid (fun w => show Calls Tryz.prog 47 #[.int .i64 2] w fun e w' => e = .returned (.iface 97 (.int .i64 2)) ∧ w = w' from of_calls 2 (by decide) w)
  have b1 : decide (n < -1000) = false := decide_eq_false (by omega)
  have b2 : decide (1000 < n) = true := decide_eq_true hn
  go_enter Tryz.func40, Tryz.ntmps40
  go_wp2_with (go_at_call 47; (with_reducible refine (HE.out _).mono ?_); rintro ev w8 ⟨rfl, rfl⟩)
  go_ret2
  exact ⟨rfl, rfl⟩
theorem cadd_no (c : Value) (d : Int) (hd : d < 0 ∨ 109572 < d) (w : World) :
    Calls Tryz.prog 40 #[c, .int .i64 d, .int .i64 0] w fun e w' => e = .returned (.tuple #[.int .i64 0, .iface 97 (.int .i64 4)]) ∧ w = w' := by
  have HE := Lib.hid (fun w => errDate_calls w)
  have HW := Lib.hid (fun w => weekday_no d w hd)
  clear hd
  go_enter Tryz.func40, Tryz.ntmps40
  go_wp2
  refine wp_loop_rounds 1 ?_
  rw [rounds_succ]
  go_wp2_with (first | (go_at_call 46; (with_reducible refine (HW.out _).mono ?_); rintro ev w1 ⟨rfl, rfl⟩) | (go_at_call 47; (with_reducible refine (HE.out _).mono ?_); rintro ev w8 ⟨rfl, rfl⟩))
  go_ret2
  exact ⟨rfl, rfl⟩
end Go.Proofs.YtjgihjpckjdikaaGreatDoor
