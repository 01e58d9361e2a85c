/- Layer 2's reference: GetN by contract. -/
import Derived.Test.YtglbdafcfcmffaaGreatDoorQb
namespace Go.Proofs.YtglbdafcfcmffaaGreatDoor
open Go.RowKit Go.Extern.Stop Go.Stop Go.Extern Go.Sort
set_option linter.unusedVariables false
set_option linter.unusedSimpArgs false

theorem at_list (s : ByteArray) (i : Nat) (h : i < s.size) (h2 : i < s.data.toList.length) : s.data.toList[i] = s[i]'h := by
  rw [Array.getElem_toList]; rfl
set_option maxRecDepth 100000 in
set_option maxHeartbeats 8000000 in
/-- GetN of a text whose head is no fault. -/
theorem rgetN_pass (s : ByteArray) (w : World) (hne : 0 < s.size) (hlen : s.size ≤ 4000) (h0 : s.size = 1 ∨ ∀ h : 0 < s.size, (s[0]'h).toNat ≠ 48) :
    Calls Tryz.prog 72 #[.string s] w fun e w' => ((Dig s.data.toList → ∃ r, e = .returned (.tuple #[r, .bool true]) ∧ RN w' r (dv s.data.toList)) ∧ (¬ Dig s.data.toList → e = .returned (.tuple #[.slice none 0 0, .bool false]))) ∧ Gr w w' := by
  obtain ⟨i0, hi, hz0, hz1, hz2⟩ := info_parts info45
  have e1 : decide ((s.size : Int) < 1) = false := decide_eq_false (by omega)
  have e2 : decide ((4000 : Int) < (s.size : Int)) = false := decide_eq_false (by omega)
  have e3 : (s.size = 1 ∧ decide ((1 : Int) < (s.size : Int)) = false) ∨ (decide ((1 : Int) < (s.size : Int)) = true ∧ ∀ h : 0 < s.size, (((s[0]'h).toNat : Int) == 48) = false) := by
    by_cases h1 : s.size = 1
    · exact .inl ⟨h1, decide_eq_false (by omega)⟩
    · refine .inr ⟨decide_eq_true (by omega), fun h => beq_eq_false_iff_ne.2 ?_⟩
      have := h0.resolve_left h1 h
      omega
  have hLs : s.data.toList.length = s.size := (Lib.size_eq s).symm
  clear h0
  rcases e3 with ⟨hs1, b3⟩ | ⟨b3, b4⟩
  case' inl => have HS1 := Lib.hid hs1; clear hs1
  case' inr => have b5 := b4 hne; clear b4
  all_goals
    go_enter Tryz.func72, Tryz.ntmps72
    go_wp2
    go_loopg [4, 5] s.size (fun g sn se wr => ∃ (e : Int) (p : List Nat), g = e.toNat ∧ se = .int .i64 e ∧ e ≤ s.size ∧ -9 ≤ e ∧ Hid (0 ≤ e → e + 9 * p.length = s.size) ∧ Hid (9 * p.length ≤ s.size + 8) ∧ Hid (Dg.Limbs p) ∧ Hid (Dg.val p = dv (s.data.toList.drop e.toNat)) ∧ Hid (Dig (s.data.toList.drop e.toNat)) ∧ Hid (wr.ownsRow w.heap.size 60 1 sn p.length (p.map U)) ∧ Hid (Gr w wr))
    case atStart =>
      have hd0 : s.data.toList.drop (s.size : Int).toNat = [] := List.drop_of_length_le (by rw [hLs]; omega)
      exact ⟨(s.size : Int), [], by omega, rfl, Int.le_refl _, by omega, Lib.hid (fun _ => by simp), Lib.hid (by simp), Lib.hid (fun x hx => by cases hx), Lib.hid (by rw [hd0]; rfl), Lib.hid (by rw [hd0]; intro c hc; cases hc), Lib.hid (World.ownsRow_nil _ _ _ _), Lib.hid (Gr.rf w)⟩
    case round =>
      obtain ⟨e, p, hg, rfl, he1, he0, HE, HP9, HPL, HPV, HPD, HOW, HG⟩ := hrel
      have HGG := Lib.hid hg
      clear hg
      by_cases hpos : 0 < e
      · obtain ⟨E, rfl⟩ : ∃ E : Nat, e = (E : Int) := ⟨e.toNat, by omega⟩
        have b1 : decide ((0 : Int) < (E : Int)) = true := decide_eq_true (by omega)
        have b1n : decide (0 < E) = true := decide_eq_true (by omega)
        obtain ⟨lo, hlo, hlo1, hlo2, hlo3⟩ : ∃ lo : Nat, max ((E : Int) - 9) 0 = (lo : Int) ∧ lo ≤ E ∧ E ≤ lo + 9 ∧ ((E : Int) - 9).toNat = lo := ⟨E - 9, by omega, by omega, by omega, by omega⟩
        have HE9 := Lib.hid (HE.out (by omega))
        go_wp2
        go_loopg [6, 7] (E - lo) (fun g2 sd si wr2 => ∃ j : Nat, g2 = E - j ∧ lo ≤ j ∧ j ≤ E ∧ sd = .int .u64 ((dw s.data.toList lo j : Nat) : Int) ∧ si = .int .i64 (j : Int) ∧ Hid (DigW s.data.toList lo j) ∧ wr = wr2)
        case atStart => exact ⟨lo, rfl, Nat.le_refl _, hlo1, by rw [dw_start]; rfl, by first | rfl | (rw [hlo]) | simp [hlo], Lib.hid (digW_start _ _), rfl⟩
        case round =>
          obtain ⟨j, hg2, hj1, hj2, rfl, rfl, HDW, rfl⟩ := hrel
          have HG2 := Lib.hid hg2
          clear hg2
          have hy9 := dw_lt s.data.toList lo j HDW.out hj1 (by omega)
          generalize hy : dw s.data.toList lo j = y at hy9 ⊢
          have HY := Lib.hid hy
          clear hy
          by_cases hjl : j < E
          · have b2 : decide ((j : Int) < (E : Int)) = true := decide_eq_true (by omega)
            have b2n : decide (j < E) = true := decide_eq_true hjl
            have hjs : j < s.size := by omega
            have HSL := Lib.hid (at_list s j hjs (by omega))
            have hx0 : ((s[j]'hjs).toNat : Int) < 256 := by have := (s[j]'hjs).toNat_lt; omega
            by_cases c1 : ((s[j]'hjs).toNat : Int) < 48
            · have b3 : decide (((s[j]'hjs).toNat : Int) < 48) = true := decide_eq_true c1
              have HND := Lib.hid (not_dig s.data.toList j (by omega) (by rw [HSL.out]; omega))
              go_wp2
              go_ret2
              exact ⟨⟨fun h => absurd h HND.out, fun _ => rfl⟩, HG.out⟩
            · have b3 : decide (((s[j]'hjs).toNat : Int) < 48) = false := decide_eq_false c1
              by_cases c2 : 57 < ((s[j]'hjs).toNat : Int)
              · have b4 : decide (57 < ((s[j]'hjs).toNat : Int)) = true := decide_eq_true c2
                have HND := Lib.hid (not_dig s.data.toList j (by omega) (by rw [HSL.out]; omega))
                go_wp2
                go_ret2
                exact ⟨⟨fun h => absurd h HND.out, fun _ => rfl⟩, HG.out⟩
              · have b4 : decide (57 < ((s[j]'hjs).toNat : Int)) = false := decide_eq_false c2
                have HNX := Lib.hid (dw_next s.data.toList lo j hj1 (by omega))
                have HDX := Lib.hid (digW_next s.data.toList lo j hj1 (by omega) HDW.out (by rw [HSL.out]; omega) (by rw [HSL.out]; omega))
                go_wp2
                go_roundg (E - (j + 1))
                case measure => have := HG2.out; omega
                case rel => exact ⟨j + 1, rfl, by omega, by omega, by
                  rw [HNX.out, HY.out, HSL.out]
                  first | (congr 1; omega) | (generalize (s[j]'hjs).toNat = q at *; congr 1; omega), by go_num, HDX, rfl⟩
          · have hje : j = E := by omega
            subst hje
            have b2 : decide ((j : Int) < (j : Int)) = false := decide_eq_false (by omega)
            have b2n : decide (j < j) = false := decide_eq_false (by omega)
            have hs := HG.out.size
            have hp9 := HP9.out
            go_wp2_with (at_builtin; refine wpList_append_own _ rfl _ _ 48 rfl w.heap.size 60 i0 (.int .u64 0) 1 8 underN hi hz0 hz1 hz2 rfl (by decide) _ _ _ rfl (HOW.out.alloc _) ⟨wr.heap.size, 0, none⟩ 1 1 [.int .u64 (y : Int)] rfl rfl (cell_one_new _ _ _) (fun x hx => by simp at hx; subst hx; rfl) (by simp only [maxLen]; omega) (by omega) (by simp; omega) ?_; intro v' w2 hown1 hgrow _)
            have HOW2 := Lib.hid hown1
            have HGW := Lib.hid (show Gr w w2 from Below.grown (HG.out.tr ((Gr.rf wr).alloc (Nat.le_refl _) _)) hgrow (by have := HG.out.size; simp; omega) (fun j hj => (HOW.out.lt j hj).1))
            clear hown1 hgrow
            go_wp2
            go_roundg ((j : Int) - 9).toNat
            case measure => have := HGG.out; omega
            case rel => exact ⟨(j : Int) - 9, p ++ [y], rfl, by first | rfl | go_num, by omega, by omega,
              Lib.hid (fun h => by rw [List.length_append, List.length_singleton]; have := HE9.out; omega),
              Lib.hid (by rw [List.length_append, List.length_singleton]; have := HE9.out; omega),
              Lib.hid (fun x hx => by
                rcases List.mem_append.1 hx with hx | hx
                · exact HPL.out x hx
                · rw [List.mem_singleton.1 hx]; exact hy9),
              Lib.hid (by rw [hlo3, ← HY.out]; exact group_val _ p lo j hlo1 (by rw [hLs]; have := HE9.out; omega) (by have := HPV.out; rwa [Int.toNat_natCast] at this)),
              Lib.hid (by rw [hlo3]; exact group_dig _ lo j hlo1 (by have := HPD.out; rwa [Int.toNat_natCast] at this) HDW.out),
              Lib.hid (by rw [List.map_append, List.length_append]; exact HOW2.out), HGW⟩
      · have b1 : decide ((0 : Int) < e) = false := decide_eq_false (by omega)
        have ht : e.toNat = 0 := by omega
        have HV := Lib.hid (show Dg.val p = dv s.data.toList by have := HPV.out; rwa [ht, List.drop_zero] at this)
        have HDI := Lib.hid (show Dig s.data.toList by have := HPD.out; rwa [ht, List.drop_zero] at this)
        have HT := Lib.hid (rtrim_calls _ p _ (lim_own HOW.out (Dg.limbs_B HPL.out)) HPL.out (by have := HP9.out; omega))
        rw [HV.out] at HT
        clear ht
        go_wp2_with (go_at_call 124; (with_reducible refine HT.out.mono ?_); rintro ev w1 ⟨⟨r, rfl, hr⟩, rfl⟩; have HR := Lib.hid hr; clear hr)
        go_ret2
        exact ⟨⟨fun _ => ⟨_, rfl, HR.out⟩, fun h => absurd HDI.out h⟩, HG.out⟩
set_option maxRecDepth 100000 in
set_option maxHeartbeats 2000000 in
/-- GetN of a text whose head is a fault. -/
theorem rgetN_head (s : ByteArray) (w : World) (h : s.size = 0 ∨ 4000 < s.size ∨ (1 < s.size ∧ ∀ h : 0 < s.size, (s[0]'h).toNat = 48)) :
    Calls Tryz.prog 72 #[.string s] w fun e w' => e = .returned (.tuple #[.slice none 0 0, .bool false]) ∧ Gr w w' := by
  by_cases c1 : s.size = 0
  · have e1 : decide ((s.size : Int) < 1) = true := decide_eq_true (by omega)
    clear h
    go_enter Tryz.func72, Tryz.ntmps72
    go_wp2
    go_ret2
    exact ⟨rfl, Gr.rf _⟩
  · have e1 : decide ((s.size : Int) < 1) = false := decide_eq_false (by omega)
    have hpos : 0 < s.size := by omega
    by_cases c2 : 4000 < s.size
    · have e2 : decide ((4000 : Int) < (s.size : Int)) = true := decide_eq_true (by omega)
      clear h
      go_enter Tryz.func72, Tryz.ntmps72
      go_wp2
      go_ret2
      exact ⟨rfl, Gr.rf _⟩
    · have e2 : decide ((4000 : Int) < (s.size : Int)) = false := decide_eq_false (by omega)
      obtain ⟨h1, h2⟩ := (h.resolve_left c1).resolve_left c2
      have h3 := h2 hpos
      have e3 : decide ((1 : Int) < (s.size : Int)) = true := decide_eq_true (by omega)
      have e4 : (((s[0]'hpos).toNat : Int) == 48) = true := beq_iff_eq.2 (by omega)
      clear h h2 h3
      go_enter Tryz.func72, Tryz.ntmps72
      go_wp2
      go_ret2
      exact ⟨rfl, Gr.rf _⟩
/-- Which texts are numbers. -/
def NumT (s : ByteArray) : Prop := 0 < s.size ∧ s.size ≤ 4000 ∧ (s.size = 1 ∨ ∀ h : 0 < s.size, (s[0]'h).toNat ≠ 48) ∧ Dig s.data.toList
/-- GetN of whatever text. -/
theorem rgetN_calls (s : ByteArray) (w : World) :
    Calls Tryz.prog 72 #[.string s] w fun e w' => ((NumT s → ∃ r, e = .returned (.tuple #[r, .bool true]) ∧ RN w' r (dv s.data.toList)) ∧ (¬ NumT s → e = .returned (.tuple #[.slice none 0 0, .bool false]))) ∧ Gr w w' := by
  by_cases hh : 0 < s.size ∧ s.size ≤ 4000 ∧ (s.size = 1 ∨ ∀ h : 0 < s.size, (s[0]'h).toNat ≠ 48)
  · refine (rgetN_pass s w hh.1 hh.2.1 hh.2.2).mono ?_
    rintro e w' ⟨⟨h1, h2⟩, hg⟩
    exact ⟨⟨fun h => h1 h.2.2.2, fun h => h2 (fun hd => h ⟨hh.1, hh.2.1, hh.2.2, hd⟩)⟩, hg⟩
  · refine (rgetN_head s w ?_).mono ?_
    · by_cases c1 : s.size = 0
      · exact .inl c1
      · by_cases c2 : 4000 < s.size
        · exact .inr (.inl c2)
        · refine .inr (.inr ⟨?_, fun h => ?_⟩)
          · by_cases c3 : s.size = 1
            · exact absurd ⟨by omega, by omega, .inl c3⟩ hh
            · omega
          · by_cases c4 : (s[0]'h).toNat = 48
            · exact c4
            · exact absurd ⟨h, by omega, .inr fun _ => c4⟩ hh
    · rintro e w' ⟨rfl, hg⟩
      exact ⟨⟨fun h => absurd ⟨h.1, h.2.1, h.2.2.1⟩ hh, fun _ => rfl⟩, hg⟩
end Go.Proofs.YtglbdafcfcmffaaGreatDoor
