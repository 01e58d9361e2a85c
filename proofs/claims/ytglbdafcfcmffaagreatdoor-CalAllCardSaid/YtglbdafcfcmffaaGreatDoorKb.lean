/- Layer 6: a rule's days lie near its year; what a calendar shuts, by the day's own year; one month; a day rolled: plain. -/
import Derived.Test.YtglbdafcfcmffaaGreatDoorKa
import Derived.Test.YtglbdafcfcmffaaGreatDoorHf
namespace Go.Proofs.YtglbdafcfcmffaaGreatDoor
open Go.RowKit Go.Extern.Stop Go.Stop Go.Extern
set_option linter.unusedVariables false
set_option linter.unusedSimpArgs false

theorem near_year {d e y y' m k m' k' n : Int} (h : IsDay d y m k) (h' : IsDay e y' m' k') (hn : d = e + n) (h0 : -360 ≤ n) (h1 : n ≤ 360) : y - 1 ≤ y' ∧ y' ≤ y + 1 := by
  have a := isDay_in_year h
  have b := isDay_in_year h'
  refine ⟨?_, ?_⟩
  · by_cases c : y' + 2 ≤ y
    · have h2 := befY_mono (y' + 2) y c
      have h3 := befY_mono (y' + 1) (y' + 2) (by omega)
      omega
    · omega
  · by_cases c : y + 2 ≤ y'
    · have h2 := befY_mono (y + 2) y' c
      have h3 := befY_mono (y + 1) (y + 2) (by omega)
      omega
    · omega
theorem shiftD_near (d : Int) : d - 1 ≤ shiftD d ∧ shiftD d ≤ d + 1 := by
  unfold shiftD
  split
  · omega
  · split <;> omega
theorem raw_near {r : Ru} {y d : Int} (hm : mayR r = true) (h : rawD r y = some d) : ∃ e m k, IsDay e y m k ∧ -100 ≤ d - e ∧ d - e ≤ 100 := by
  unfold mayR at hm
  unfold rawD at h
  by_cases k1 : r.kind = 1
  · rw [if_pos k1] at h
    split at h
    · rename_i hok
      refine ⟨_, _, _, okC_day hok, ?_⟩
      have hs := shiftD_near (dayN y r.month r.day)
      have he := Option.some.inj h
      split at he <;> omega
    · cases h
  · rw [if_neg k1] at h hm
    by_cases k2 : r.kind = 2
    · rw [if_pos k2] at h hm
      simp at hm
      split at h
      · rename_i hy
        split at h
        · have he := Option.some.inj h
          refine ⟨_, _, _, endN_day y r.month hy.1 hy.2 (by omega) (by omega), ?_⟩
          unfold lastWd at he
          omega
        · split at h
          · have he := Option.some.inj h
            refine ⟨_, _, _, firstN_day y r.month hy.1 hy.2 (by omega) (by omega), ?_⟩
            unfold nthWd at he
            omega
          · cases h
      · cases h
    · rw [if_neg k2] at h hm
      by_cases k3 : r.kind = 3
      · rw [if_pos k3] at hm
        simp at hm
        split at h
        · rename_i hy
          have he := Option.some.inj h
          refine ⟨_, _, _, eastN_day y hy.1 hy.2, ?_⟩
          omega
        · cases h
      · rw [if_neg k3] at hm
        cases hm
theorem holD_may_raw {r : Ru} {y d : Int} (h : holD r y = some d) : mayR r = true ∧ rawD r y = some d := by
  unfold holD at h
  split at h
  · rename_i hm
    refine ⟨hm, ?_⟩
    cases hr : rawD r y with
    | none => rw [hr] at h; cases h
    | some x =>
      rw [hr] at h
      simp only [Option.bind_some] at h
      split at h
      · exact h
      · cases h
  · cases h
/-- A rule's day is one of its year, or of the year ahead or behind. -/
theorem holD_near {r : Ru} {y d yd m k : Int} (h : holD r y = some d) (hd : IsDay d yd m k) : (yd - 1 ≤ y ∧ y ≤ yd + 1) ∧ 1900 ≤ y ∧ y ≤ 2199 := by
  obtain ⟨hm, hr⟩ := holD_may_raw h
  obtain ⟨e, m', k', he, h0, h1⟩ := raw_near hm hr
  exact ⟨near_year (n := d - e) hd he (by omega) (by omega) (by omega), he.1, he.2.1⟩
theorem isR_iff {r : Ru} {y d : Int} : isR r y d = true ↔ ∃ j, y - 1 ≤ j ∧ j ≤ y + 1 ∧ holD r j = some d := by
  refine ⟨fun h => ?_, fun ⟨j, h0, h1, h⟩ => isR_yes h0 h1 h⟩
  unfold isR at h
  rcases of_decide_eq_true h with h | h | h
  · exact ⟨_, by omega, by omega, h⟩
  · exact ⟨_, by omega, by omega, h⟩
  · exact ⟨_, by omega, by omega, h⟩
/-- Is a day shut by rules, days? By its own year. -/
def shutR (rs : List Ru) (ms : List Int) (y d : Int) : Bool := (rs.any fun r => isR r y d) || ms.any fun x => x == d
theorem shut_is {rs : List Ru} {ms : List Int} {S : Int → Bool} (h : ShutBy rs ms S) {d y m k : Int} (hd : IsDay d y m k) : S d = shutR rs ms y d := by
  rw [Bool.eq_iff_iff, h d]
  unfold shutR
  rw [Bool.or_eq_true, List.any_eq_true, List.any_eq_true]
  refine ⟨fun h => h.elim (fun h => .inr ⟨d, h, beq_self_eq_true d⟩) fun ⟨r, hr, j, h0, h1, h2⟩ => .inl ⟨r, hr, isR_iff.2 ⟨j, (holD_near h2 hd).1.1, (holD_near h2 hd).1.2, h2⟩⟩, fun h => h.elim (fun ⟨r, hr, h2⟩ => ?_) fun ⟨x, hx, h2⟩ => .inl ?_⟩
  · obtain ⟨j, h0, h1, h2⟩ := isR_iff.1 h2
    exact .inr ⟨r, hr, j, (holD_near h2 hd).2.1, (holD_near h2 hd).2.2, h2⟩
  · rw [← eq_of_beq h2]; exact hx
/-- Two days of one month. -/
def SameM (a d : Int) : Prop := ∃ y m k k', IsDay a y m k ∧ IsDay d y m k'
theorem sameM_self {d : Int} (h0 : 0 ≤ d) (h1 : d ≤ 109572) : SameM d d := by
  obtain ⟨y, m, k, h⟩ := isDay_of d h0 h1
  exact ⟨y, m, k, k, h, h⟩
theorem sameM_iff {a d y m k y' m' k' : Int} (h : IsDay a y m k) (h' : IsDay d y' m' k') : SameM a d ↔ (y = y' ∧ m = m') := by
  refine ⟨fun ⟨y2, m2, k2, k3, h2, h3⟩ => ?_, fun ⟨e1, e2⟩ => ?_⟩
  · have a := isDay_unique h h2
    have b := isDay_unique h' h3
    omega
  · subst e1; subst e2; exact ⟨y, m, k, k', h, h'⟩
theorem sameM_no (d : Int) : ¬ SameM (-1) d := fun ⟨y, m, k, k', h, _⟩ => by have := isDay_range h; omega
theorem month_in {y m e : Int} (h0 : 1900 ≤ y) (h1 : y ≤ 2199) (h2 : 1 ≤ m) (h3 : m ≤ 12) (a : dayN y m 1 ≤ e) (b : e ≤ endN y m) : IsDay e y m (e - dayN y m 1 + 1) := by
  have hf := endN_first y m
  refine ⟨h0, h1, h2, h3, by omega, by omega, ?_⟩
  unfold dayN
  omega
theorem month_of_day {d y m k : Int} (h : IsDay d y m k) : dayN y m 1 ≤ d ∧ d ≤ endN y m := by
  have h5 := h.2.2.2.2.1
  have h6 := h.2.2.2.2.2.1
  have h7 := h.2.2.2.2.2.2
  unfold endN dayN
  omega
/-- Where a day is rolled to by a rule; -1: nowhere. -/
def RollR (S : Int → Bool) (d rule r : Int) : Prop :=
  (rule = 0 ∧ r = d) ∨ (rule = 1 ∧ UpR S d r) ∨ (rule = 3 ∧ DnR S d r) ∨ (rule = 2 ∧ ∃ u, UpR S d u ∧ ((SameM u d ∧ r = u) ∨ (¬ SameM u d ∧ DnR S d r))) ∨ (rule = 4 ∧ ∃ u, DnR S d u ∧ ((SameM u d ∧ r = u) ∨ (¬ SameM u d ∧ UpR S d r)))
theorem rollR_uniq {S : Int → Bool} {d rule r r' : Int} (h : RollR S d rule r) (h' : RollR S d rule r') : r = r' := by
  rcases h with ⟨a, b⟩ | ⟨a, b⟩ | ⟨a, b⟩ | ⟨a, u, b, c⟩ | ⟨a, u, b, c⟩
  · rcases h' with ⟨a', b'⟩ | ⟨a', b'⟩ | ⟨a', b'⟩ | ⟨a', u', b', c'⟩ | ⟨a', u', b', c'⟩ <;> omega
  · rcases h' with ⟨a', b'⟩ | ⟨a', b'⟩ | ⟨a', b'⟩ | ⟨a', u', b', c'⟩ | ⟨a', u', b', c'⟩ <;> first | omega | exact upR_uniq b b'
  · rcases h' with ⟨a', b'⟩ | ⟨a', b'⟩ | ⟨a', b'⟩ | ⟨a', u', b', c'⟩ | ⟨a', u', b', c'⟩ <;> first | omega | exact dnR_uniq b b'
  · rcases h' with ⟨a', b'⟩ | ⟨a', b'⟩ | ⟨a', b'⟩ | ⟨a', u', b', c'⟩ | ⟨a', u', b', c'⟩ <;> first | omega | skip
    obtain rfl := upR_uniq b b'
    rcases c with ⟨c1, c2⟩ | ⟨c1, c2⟩
    · rcases c' with ⟨d1, d2⟩ | ⟨d1, d2⟩
      · rw [c2, d2]
      · exact absurd c1 d1
    · rcases c' with ⟨d1, d2⟩ | ⟨d1, d2⟩
      · exact absurd d1 c1
      · exact dnR_uniq c2 d2
  · rcases h' with ⟨a', b'⟩ | ⟨a', b'⟩ | ⟨a', b'⟩ | ⟨a', u', b', c'⟩ | ⟨a', u', b', c'⟩ <;> first | omega | skip
    obtain rfl := dnR_uniq b b'
    rcases c with ⟨c1, c2⟩ | ⟨c1, c2⟩
    · rcases c' with ⟨d1, d2⟩ | ⟨d1, d2⟩
      · rw [c2, d2]
      · exact absurd c1 d1
    · rcases c' with ⟨d1, d2⟩ | ⟨d1, d2⟩
      · exact absurd d1 c1
      · exact upR_uniq c2 d2
theorem rollR_here {S : Int → Bool} {d rule : Int} (ho : openB S d = true) (h0 : 0 ≤ rule) (h1 : rule ≤ 4) : RollR S d rule d := by
  have hs := sameM_self (openB_range ho).1 (openB_range ho).2
  rcases (by omega : rule = 0 ∨ rule = 1 ∨ rule = 3 ∨ rule = 2 ∨ rule = 4) with e | e | e | e | e
  · exact .inl ⟨e, rfl⟩
  · exact .inr (.inl ⟨e, upR_here ho⟩)
  · exact .inr (.inr (.inl ⟨e, dnR_here ho⟩))
  · exact .inr (.inr (.inr (.inl ⟨e, d, upR_here ho, .inl ⟨hs, rfl⟩⟩)))
  · exact .inr (.inr (.inr (.inr ⟨e, d, dnR_here ho, .inl ⟨hs, rfl⟩⟩)))
theorem upR_open {S : Int → Bool} {d r : Int} (h : UpR S d r) (hne : r ≠ -1) : openB S r = true := h.elim (fun h => absurd h.1 hne) fun h => h.2.2.1
theorem dnR_open {S : Int → Bool} {d r : Int} (h : DnR S d r) (hne : r ≠ -1) : openB S r = true := h.elim (fun h => absurd h.1 hne) fun h => h.2.2.1
theorem rollR_open {S : Int → Bool} {d rule r : Int} (h : RollR S d rule r) (hr : rule ≠ 0) (hne : r ≠ -1) : openB S r = true := by
  rcases h with ⟨a, b⟩ | ⟨a, b⟩ | ⟨a, b⟩ | ⟨a, u, b, c⟩ | ⟨a, u, b, c⟩
  · exact absurd a hr
  · exact upR_open b hne
  · exact dnR_open b hne
  · rcases c with ⟨c1, rfl⟩ | ⟨c1, c2⟩
    · exact upR_open b hne
    · exact dnR_open c2 hne
  · rcases c with ⟨c1, rfl⟩ | ⟨c1, c2⟩
    · exact dnR_open b hne
    · exact upR_open c2 hne
/-- Rolled twice is rolled once. -/
theorem rollR_twice {S : Int → Bool} {d rule a b : Int} (h : RollR S d rule a) (hne : a ≠ -1) (h0 : 0 ≤ rule) (h1 : rule ≤ 4) (h' : RollR S a rule b) : b = a := by
  by_cases hr : rule = 0
  · rcases h' with ⟨a', b'⟩ | ⟨a', b'⟩ | ⟨a', b'⟩ | ⟨a', u', b', c'⟩ | ⟨a', u', b', c'⟩ <;> omega
  · exact rollR_uniq h' (rollR_here (rollR_open h hr hne) h0 h1)
theorem rollR_range {S : Int → Bool} {d rule r : Int} (h0 : 0 ≤ d) (h1 : d ≤ 109572) (h : RollR S d rule r) : r = -1 ∨ (0 ≤ r ∧ r ≤ 109572) := by
  by_cases hr : rule = 0
  · rcases h with ⟨a', b'⟩ | ⟨a', b'⟩ | ⟨a', b'⟩ | ⟨a', u', b', c'⟩ | ⟨a', u', b', c'⟩ <;> omega
  · by_cases hne : r = -1
    · exact .inl hne
    · exact .inr (openB_range (rollR_open h hr hne))
/-- No open day of the month: as the law counts them. -/
theorem up_shut {S : Int → Bool} {d u y m k : Int} (hd : IsDay d y m k) (hu : UpR S d u) (hn : ¬ SameM u d) : opU S (endN y m + 1) = opU S d := by
  have hb := month_of_day hd
  refine opU_shut (by omega) fun e h1 h2 => ?_
  rcases hu with ⟨a, b⟩ | ⟨a, b, c, f⟩
  · exact opU_none (b := 109573) b e h1 (by have := isDay_range (endN_day y m hd.1 hd.2.1 hd.2.2.1 hd.2.2.2.1); omega)
  · refine opU_none f e h1 ?_
    rcases (by omega : e < u ∨ u ≤ e) with g | g
    · exact g
    · exact absurd ⟨y, m, _, _, month_in hd.1 hd.2.1 hd.2.2.1 hd.2.2.2.1 (by omega) (by omega), hd⟩ hn
theorem dn_shut {S : Int → Bool} {d u y m k : Int} (hd : IsDay d y m k) (hu : DnR S d u) (hn : ¬ SameM u d) : opU S (d + 1) = opU S (dayN y m 1) := by
  have hb := month_of_day hd
  have hf := isDay_range (firstN_day y m hd.1 hd.2.1 hd.2.2.1 hd.2.2.2.1)
  refine opU_shut (by omega) fun e h1 h2 => ?_
  rcases hu with ⟨a, b⟩ | ⟨a, b, c, f⟩
  · refine opU_none (a := 0) (b := d + 1) (by rw [b, opU_zero S 0 (by omega)]) e (by omega) h2
  · refine opU_none f.symm e ?_ h2
    rcases (by omega : u + 1 ≤ e ∨ e ≤ u) with g | g
    · exact g
    · exact absurd ⟨y, m, _, _, month_in hd.1 hd.2.1 hd.2.2.1 hd.2.2.2.1 (by omega) (by omega), hd⟩ hn
theorem rollR_month {S : Int → Bool} {d rule a y m k : Int} (hd : IsDay d y m k) (h : RollR S d rule a) (hr : rule = 2 ∨ rule = 4) (hn : ¬ SameM a d) : opU S (endN y m + 1) = opU S (dayN y m 1) := by
  have hb := month_of_day hd
  have key : ∀ u v, UpR S d u → DnR S d v → ¬ SameM u d → ¬ SameM v d → opU S (endN y m + 1) = opU S (dayN y m 1) := fun u v hu hv nu nv => by
    have h1 := up_shut hd hu nu
    have h2 := dn_shut hd hv nv
    have h3 := (opU_mono S (show d ≤ d + 1 by omega)).1
    have h4 := (opU_mono S (show dayN y m 1 ≤ d by omega)).1
    omega
  rcases h with ⟨a', b⟩ | ⟨a', b⟩ | ⟨a', b⟩ | ⟨a', u, b, c⟩ | ⟨a', u, b, c⟩
  · omega
  · omega
  · omega
  · rcases c with ⟨c1, rfl⟩ | ⟨c1, c2⟩
    · exact absurd c1 hn
    · exact key _ _ b c2 c1 hn
  · rcases c with ⟨c1, rfl⟩ | ⟨c1, c2⟩
    · exact absurd c1 hn
    · exact key _ _ c2 b hn c1
end Go.Proofs.YtglbdafcfcmffaaGreatDoor
