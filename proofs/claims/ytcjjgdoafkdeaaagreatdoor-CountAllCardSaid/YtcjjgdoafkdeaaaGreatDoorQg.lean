/- Layer 3: num.Get, the reference's GetI, by contract. -/
import Derived.Test.YtcjjgdoafkdeaaaGreatDoorJe
import Derived.Laws.Strings
namespace Go.Proofs.YtcjjgdoafkdeaaaGreatDoor
open Go.RowKit Go.Extern.Stop Go.Stop Go.Extern Go.Sort
set_option linter.unusedVariables false
set_option linter.unusedSimpArgs false

/-- A text's sign and what is behind it. -/
def Parts (s t : ByteArray) (neg : Bool) : Prop :=
  (neg = true ∧ ∃ h : 0 < s.size, (s[0]'h).toNat = 45 ∧ t = s.extract 1 s.size) ∨ (neg = false ∧ t = s ∧ ∀ h : 0 < s.size, (s[0]'h).toNat ≠ 45)
theorem parts_ex (s : ByteArray) : ∃ t neg, Parts s t neg := by
  by_cases h : ∃ h : 0 < s.size, (s[0]'h).toNat = 45
  · obtain ⟨h1, h2⟩ := h
    exact ⟨_, true, .inl ⟨rfl, h1, h2, rfl⟩⟩
  · exact ⟨s, false, .inr ⟨rfl, rfl, fun h1 h2 => h ⟨h1, h2⟩⟩⟩
theorem parts_head (s : ByteArray) (h : 0 < s.size) : s.data.toList = s[0]'h :: s.data.toList.drop 1 := by
  have hl : 0 < s.data.toList.length := by rw [← Lib.size_eq]; exact h
  rw [← at_list s 0 h hl, ← List.drop_eq_getElem_cons hl, List.drop_zero]
theorem cut_pre (s t : ByteArray) (neg : Bool) (h : Parts s t neg) : (⟨(Lib.trimPrefix s.data.toList [45]).toArray⟩ : ByteArray) = t ∧ Lib.hasPrefix s.data.toList [45] = neg := by
  rcases h with ⟨rfl, h1, h2, rfl⟩ | ⟨rfl, rfl, h1⟩
  · have e : s[0]'h1 = 45 := UInt8.toNat_inj.1 h2
    have hp := (piece s 1 (by omega)).2.1
    have hh : Lib.hasPrefix s.data.toList [45] = true := by
      rw [parts_head s h1, e]; simp [Lib.hasPrefix]
    refine ⟨?_, hh⟩
    have ht : Lib.trimPrefix s.data.toList [45] = s.data.toList.drop 1 := by
      unfold Lib.trimPrefix
      rw [hh]
      simp
    rw [ht, ← hp]
  · have hh : Lib.hasPrefix t.data.toList [45] = false := by
      by_cases hz : 0 < t.size
      · have := h1 hz
        rw [parts_head t hz]
        have e : t[0]'hz ≠ 45 := fun e => this (by rw [e]; rfl)
        show ((45 : UInt8) == t[0]'hz && ([] : List UInt8).isPrefixOf (t.data.toList.drop 1)) = false
        rw [beq_eq_false_iff_ne.2 (Ne.symm e)]; rfl
      · have : t.data.toList = [] := List.eq_nil_of_length_eq_zero (by rw [← Lib.size_eq]; omega)
        rw [this]; rfl
    refine ⟨?_, hh⟩
    have ht : Lib.trimPrefix t.data.toList [45] = t.data.toList := by
      unfold Lib.trimPrefix
      rw [hh]
      simp
    rw [ht]
/-- Which texts are integers. -/
def IntT (t : ByteArray) (neg : Bool) : Prop := NumT t ∧ (neg = true → dv t.data.toList ≠ 0)
theorem size_parts {s t : ByteArray} {neg : Bool} (h : Parts s t neg) : t.size ≤ s.size := by
  rcases h with ⟨_, h1, _, rfl⟩ | ⟨_, rfl, _⟩
  · rw [ByteArray.size_extract]; omega
  · exact Nat.le_refl _
theorem itoa_own (s t : ByteArray) (neg : Bool) (h : Parts s t neg) (hi : IntT t neg) : Lib.itoa (sgn neg (dv t.data.toList)) = s.data.toList := by
  have ho := numT_own t hi.1
  rcases h with ⟨rfl, h1, h2, rfl⟩ | ⟨rfl, rfl, h1⟩
  · have hz := hi.2 rfl
    unfold sgn
    rw [if_pos rfl, Lib.itoa_neg _ (by omega), ho, (piece s 1 (by omega)).2.1]
    conv => rhs; rw [parts_head s h1]
    rw [show s[0]'h1 = 45 from UInt8.toNat_inj.1 h2]
  · unfold sgn
    rw [if_neg (by decide), Lib.itoa_nonneg, ho]

set_option maxRecDepth 100000 in
set_option maxHeartbeats 4000000 in
/-- num.Get. -/
theorem numGet_calls (s t : ByteArray) (neg : Bool) (w : World) (hs : s.size ≤ 9223372036854775807) (h : Parts s t neg) :
    Calls Tryz.prog 94 #[.string s] w fun e w' => ((IntT t neg → ∃ r, e = .returned (.tuple #[r, .nilIface]) ∧ IntP w' r (sgn neg (dv t.data.toList))) ∧ (¬ IntT t neg → e = .returned (.tuple #[.pointer none, .iface 169 (.int .i64 1)]))) ∧ Gr w w' := by
  have hcp := Tryz.strings_CutPrefix s ⟨#[45]⟩ w
  rw [show (⟨#[45]⟩ : ByteArray).data.toList = [45] from rfl, (cut_pre s t neg h).1, (cut_pre s t neg h).2] at hcp
  have HCP := Lib.hid hcp
  have HO := Lib.hid (of_calls 1 rfl)
  have HNG := Lib.hid (natGet_calls t w (Nat.le_trans (size_parts h) hs))
  clear hcp h
  by_cases hn : NumT t
  · have HN := Lib.hid hn
    clear hn
    cases neg with
    | false =>
      have HI := Lib.hid (show IntT t false from ⟨HN.out, fun h => by cases h⟩)
      go_enter Tryz.func94, Tryz.ntmps94
      go_wp2_with (go_at_call 74; (with_reducible refine HCP.out.mono ?_); rintro ev w1 ⟨rfl, rfl⟩)
      go_wp2_with (go_at_call 53; (with_reducible refine HNG.out.mono ?_); rintro ev w2 ⟨⟨hr, _⟩, hg2⟩; obtain ⟨r2, rfl, hr2⟩ := hr HN.out)
      have HNW := Lib.hid (newP_calls false r2 _ w2 hr2.at_)
      clear hr hr2
      go_wp2_with (go_at_call 66; (with_reducible refine HNW.out.mono ?_); rintro ev w3 ⟨⟨r3, rfl, hr3⟩, hg3⟩)
      go_ret2
      exact ⟨⟨fun _ => ⟨_, rfl, hr3⟩, fun h => absurd HI.out h⟩, hg2.tr hg3⟩
    | true =>
      by_cases hz : dv t.data.toList = 0
      · have HI := Lib.hid (show ¬ IntT t true from fun h => h.2 rfl hz)
        have HZ := Lib.hid hz
        clear hz
        go_enter Tryz.func94, Tryz.ntmps94
        go_wp2_with (go_at_call 74; (with_reducible refine HCP.out.mono ?_); rintro ev w1 ⟨rfl, rfl⟩)
        go_wp2_with (go_at_call 53; (with_reducible refine HNG.out.mono ?_); rintro ev w2 ⟨⟨hr, _⟩, hg2⟩; obtain ⟨r2, rfl, hr2⟩ := hr HN.out)
        have hzc := zero_calls r2 _ w2 hr2.at_
        rw [HZ.out] at hzc
        have HZC := Lib.hid hzc
        clear hr hr2 hzc
        go_wp2_with (first | (go_at_call 78; (with_reducible refine HZC.out.mono ?_); rintro ev w3 ⟨rfl, rfl⟩) | (go_at_call 68; (with_reducible refine (HO.out _).mono ?_); rintro ev w4 ⟨rfl, rfl⟩))
        go_ret2
        exact ⟨⟨fun h => absurd h HI.out, fun _ => rfl⟩, hg2⟩
      · have HI := Lib.hid (show IntT t true from ⟨HN.out, fun _ => hz⟩)
        have hzb : (dv t.data.toList == 0) = false := beq_eq_false_iff_ne.2 hz
        have HZB := Lib.hid hzb
        clear hz hzb
        go_enter Tryz.func94, Tryz.ntmps94
        go_wp2_with (go_at_call 74; (with_reducible refine HCP.out.mono ?_); rintro ev w1 ⟨rfl, rfl⟩)
        go_wp2_with (go_at_call 53; (with_reducible refine HNG.out.mono ?_); rintro ev w2 ⟨⟨hr, _⟩, hg2⟩; obtain ⟨r2, rfl, hr2⟩ := hr HN.out)
        have hzc := zero_calls r2 _ w2 hr2.at_
        rw [HZB.out] at hzc
        have HZC := Lib.hid hzc
        have HNW := Lib.hid (newP_calls true r2 _ w2 hr2.at_)
        clear hr hr2 hzc
        go_wp2_with (first | (go_at_call 78; (with_reducible refine HZC.out.mono ?_); rintro ev w3 ⟨rfl, rfl⟩) | (go_at_call 66; (with_reducible refine HNW.out.mono ?_); rintro ev w3 ⟨⟨r3, rfl, hr3⟩, hg3⟩))
        go_ret2
        exact ⟨⟨fun _ => ⟨_, rfl, hr3⟩, fun h => absurd HI.out h⟩, hg2.tr hg3⟩
  · have HN := Lib.hid hn
    have HI := Lib.hid (show ¬ IntT t neg from fun h => hn h.1)
    clear hn
    go_enter Tryz.func94, Tryz.ntmps94
    go_wp2_with (go_at_call 74; (with_reducible refine HCP.out.mono ?_); rintro ev w1 ⟨rfl, rfl⟩)
    go_wp2_with (go_at_call 53; (with_reducible refine HNG.out.mono ?_); rintro ev w2 ⟨⟨_, hr⟩, hg2⟩; obtain rfl := hr HN.out)
    clear hr
    go_wp2_with (go_at_call 68; (with_reducible refine (HO.out _).mono ?_); rintro ev w4 ⟨rfl, rfl⟩)
    go_ret2
    exact ⟨⟨fun h => absurd h HI.out, fun _ => rfl⟩, hg2⟩
end Go.Proofs.YtcjjgdoafkdeaaaGreatDoor
