/- Layer 6: 'which calendars may be', walked. -/
import Derived.Test.YtjgihjpckjdikaaGreatDoorKx
import Derived.Deep.QuietTactic
import Derived.BigQuiet
namespace Go.Proofs.YtjgihjpckjdikaaGreatDoor
open Go.RowKit Go.Extern.Stop Go.Stop Go.Extern Go.Deep Go.ChangeShapes
set_option linter.unusedVariables false
set_option linter.unusedSimpArgs false

def flagN (b : Bool) (c z : Int) : Int := if b = true then c else z
theorem any_takeT {α : Type} {l : List α} {f : α → Bool} {k : Nat} {x : α} (hx : l[k]? = some x) : (l.take (k + 1)).any f = ((l.take k).any f || f x) := by
  have hl := (List.getElem?_eq_some_iff.1 hx).1
  have he := (List.getElem?_eq_some_iff.1 hx).2
  rw [List.take_succ_eq_append_getElem hl, he, List.any_append]
  simp
theorem any_takeL {α : Type} {l : List α} {f : α → Bool} {k : Nat} (hk : k = l.length) : (l.take k).any f = l.any f := by subst hk; rw [List.take_length]
set_option maxRecDepth 100000 in
set_option maxHeartbeats 16000000 in
theorem calNew_core (rs : List Ru) (ms : List Int) (ao : Option Addr) (c : Nat) (ao2 : Option Addr) (c2 : Nat) (w : World) (hM : Met2 w) (hc : rs.length ≤ c) (hcm : c ≤ 9223372036854775807) (hc2 : ms.length ≤ c2) (hcm2 : c2 ≤ 9223372036854775807)
    (hr : RulesAt w (.slice ao rs.length c) rs) (hr2 : DaysAt w (.slice ao2 ms.length c2) ms) :
    Calls Tryz.prog 4 #[.slice ao rs.length c, .slice ao2 ms.length c2] w fun e w' => e = .returned (.bool true) ∧ Gr w w' := by
  have HBG := Lib.hid (begun6_calls w hM)
  have HM := Lib.hid hM
  have HR1 := Lib.hid (hr.head 25 c)
  have HR2 := Lib.hid (hr2.head 110 c2)
  have hl1 : (rs.take 25).length = min rs.length 25 := by rw [List.length_take]; omega
  have hl2 : (ms.take 110).length = min ms.length 110 := by rw [List.length_take]; omega
  have HE1 := Lib.hid (show (min (rs.length : Int) 25).toNat = (rs.take 25).length by rw [hl1]; omega)
  have HE2 := Lib.hid (show (min (ms.length : Int) 110).toNat = (ms.take 110).length by rw [hl2]; omega)
  have z3 : (rs.length : Int) ≤ (c : Int) := by omega
  have z4 : (ms.length : Int) ≤ (c2 : Int) := by omega
  have hb1 : (rs.take 25).length ≤ 25 := by omega
  have hb2 : (ms.take 110).length ≤ 110 := by omega
  clear hr hr2 hM hl1 hl2
  go_enter Tryz.func4, Tryz.ntmps4
  go_wp2_with (go_at_call 18; (with_reducible refine HBG.out.mono ?_); rintro ev w1 ⟨rfl, hg1⟩)
  go_quiet (fail)
  rw [HE1.out, HE2.out]
  have HG2 := Lib.hid (hg1.tr (grDrew (Gr.rf w1) nq))
  generalize w1.drewN nq = w2 at HG2 ⊢
  generalize rs.take 25 = rs1 at HR1 hb1 ⊢
  generalize ms.take 110 = ms1 at HR2 hb2 ⊢
  have HN := Lib.hid (newAny_calls rs1 _ ms1 _ w2 (HR1.out.gr HG2.out) (HR2.out.gr HG2.out) (by omega) (by omega))
  clear hg1 z3 z4 hc hcm hc2 hcm2 HE1 HE2
  go_wp2_with fail
  refine HN.out.mono ?_
  rintro ev w3 ⟨⟨a, rfl, ha⟩, hg3⟩
  have HA := Lib.hid ha
  have HG3 := Lib.hid (HG2.out.tr hg3)
  clear ha hg3
  obtain ⟨EV, hEV⟩ : ∃ EV, errV (wantN rs1 ms1) = EV := ⟨_, rfl⟩
  have HEV := Lib.hid hEV
  rw [hEV]
  clear hEV
  obtain ⟨ao1, cc1, hv1, hc1⟩ := HR1.out.view
  obtain ⟨ao3, cc3, hv3, hc3⟩ := HR2.out.view
  injection hv1 with hv1 _ _
  injection hv3 with hv3 _ _
  subst hv1 hv3
  have HC1 := Lib.hid hc1
  have HC3 := Lib.hid hc3
  have HI := Lib.hid (fun x w => refIs_calls x w)
  have HMY := Lib.hid (fun r w => rmay_calls r w)
  unfold ruV at HMY
  clear hc1 hc3
  go_wp2
  go_loopg [8, 32] ms1.length (fun g s8 s32 wr => ∃ (k : Nat) (z : Int), k ≤ ms1.length ∧ g = ms1.length - k ∧ s32 = .int .i64 k ∧ s8 = .int .i64 z ∧ Hid (z = flagN ((ms1.take k).any fun d => badD d) 4 0) ∧ Hid (Gr w wr))
  case atStart => exact ⟨0, 0, Nat.zero_le _, by omega, rfl, rfl, Lib.hid rfl, HG3⟩
  case round =>
    clear HG3
    obtain ⟨k, z, hk, hgg, rfl, rfl, HZ, HG⟩ := hrel
    have HGG := Lib.hid hgg
    clear hgg
    by_cases hlt : k < ms1.length
    · have hltz : (k : Int) < (ms1.length : Int) := by omega
      have hj : ms1[k]? = some ms1[k] := List.getElem?_eq_getElem hlt
      obtain ⟨b3, off3, ham, hb3, c0⟩ := HC3.out k _ hj
      generalize ms1[k] = x at hj c0
      subst ham
      have f0 := cell_gr HG.out hb3 c0
      have HJ := Lib.hid hj
      have hi := fun w => HI.out x w
      clear c0 hj
      by_cases hx : 0 ≤ x ∧ x ≤ 109572
      · rw [decide_eq_true hx] at hi
        have HIX := Lib.hid hi
        have HZ2 : Hid (z = flagN ((ms1.take (k + 1)).any fun d => badD d) 4 0) := Lib.hid (by rw [any_takeT HJ.out, show badD x = false by unfold badD; rw [decide_eq_true hx]; rfl, Bool.or_false]; exact HZ.out)
        clear hi hx
        go_wp2_with (go_at_call 20; (with_reducible refine (HIX.out _).mono ?_); rintro ev w5 ⟨rfl, rfl⟩)
        go_roundg (ms1.length - (k + 1))
        case measure => have := HGG.out; omega
        case rel => exact ⟨k + 1, z, by omega, rfl, by go_num, rfl, HZ2, HG⟩
      · rw [decide_eq_false hx] at hi
        have HIX := Lib.hid hi
        have HZ2 : Hid (4 = flagN ((ms1.take (k + 1)).any fun d => badD d) 4 0) := Lib.hid (by rw [any_takeT HJ.out, show badD x = true by unfold badD; rw [decide_eq_false hx]; rfl, Bool.or_true]; rfl)
        clear hi hx
        go_wp2_with (go_at_call 20; (with_reducible refine (HIX.out _).mono ?_); rintro ev w5 ⟨rfl, rfl⟩)
        go_roundg (ms1.length - (k + 1))
        case measure => have := HGG.out; omega
        case rel => exact ⟨k + 1, 4, by omega, rfl, by go_num, rfl, HZ2, HG⟩
    · have hltz : ¬ (k : Int) < (ms1.length : Int) := by omega
      have HZM : Hid (z = flagN (ms1.any fun d => badD d) 4 0) := Lib.hid (by rw [← any_takeL (f := fun d => badD d) (show k = ms1.length by omega)]; exact HZ.out)
      obtain ⟨Z0, hZ0⟩ : ∃ Z0, flagN (ms1.any fun d => badD d) 4 0 = Z0 := ⟨_, rfl⟩
      have HZ0 := Lib.hid hZ0
      rw [hZ0] at HZM
      clear hlt HZ hZ0
      go_wp2
      go_loopg [8, 44] rs1.length (fun g s8 s44 wq => ∃ (k : Nat) (z : Int), k ≤ rs1.length ∧ g = rs1.length - k ∧ s44 = .int .i64 k ∧ s8 = .int .i64 z ∧ Hid (z = flagN ((rs1.take k).any fun r => !mayR r) 1 Z0) ∧ Hid (Gr w wq))
      case atStart => exact ⟨0, z, Nat.zero_le _, by omega, rfl, rfl, Lib.hid (by rw [HZM.out]; rfl), HG⟩
      case round =>
        clear HG HZM HGG
        obtain ⟨k, z, hk, hgg, rfl, rfl, HZ, HG⟩ := hrel
        have HGG := Lib.hid hgg
        clear hgg
        by_cases hlt : k < rs1.length
        · have hltz : (k : Int) < (rs1.length : Int) := by omega
          have hj : rs1[k]? = some rs1[k] := List.getElem?_eq_getElem hlt
          obtain ⟨b3, off3, ham, hb3, c0, c1, c2, c3, c4, c5⟩ := HC1.out k _ hj
          generalize rs1[k] = r at hj c0 c1 c2 c3 c4 c5
          subst ham
          have f0 := cell_gr HG.out hb3 c0
          have f1 := cell_gr HG.out hb3 c1
          have f2 := cell_gr HG.out hb3 c2
          have f3 := cell_gr HG.out hb3 c3
          have f4 := cell_gr HG.out hb3 c4
          have f5 := cell_gr HG.out hb3 c5
          have HJ := Lib.hid hj
          have hmy := fun w => HMY.out r w
          clear c0 c1 c2 c3 c4 c5 hj
          cases hmr : mayR r with
          | true =>
            simp only [hmr] at hmy
            have HMR := Lib.hid hmy
            have HZ2 : Hid (z = flagN ((rs1.take (k + 1)).any fun r => !mayR r) 1 Z0) := Lib.hid (by rw [any_takeT HJ.out, hmr, Bool.not_true, Bool.or_false]; exact HZ.out)
            clear hmy hmr
            go_wp2_with (go_at_call 21; (with_reducible refine (HMR.out _).mono ?_); rintro ev w5 ⟨rfl, hg5⟩)
            go_roundg (rs1.length - (k + 1))
            case measure => have := HGG.out; omega
            case rel => exact ⟨k + 1, z, by omega, rfl, by go_num, rfl, HZ2, Lib.hid (HG.out.tr hg5)⟩
          | false =>
            simp only [hmr] at hmy
            have HMR := Lib.hid hmy
            have HZ2 : Hid (1 = flagN ((rs1.take (k + 1)).any fun r => !mayR r) 1 Z0) := Lib.hid (by rw [any_takeT HJ.out, hmr, Bool.not_false, Bool.or_true]; rfl)
            clear hmy hmr
            go_wp2_with (go_at_call 21; (with_reducible refine (HMR.out _).mono ?_); rintro ev w5 ⟨rfl, hg5⟩)
            go_roundg (rs1.length - (k + 1))
            case measure => have := HGG.out; omega
            case rel => exact ⟨k + 1, 1, by omega, rfl, by go_num, rfl, HZ2, Lib.hid (HG.out.tr hg5)⟩
        · have hltz : ¬ (k : Int) < (rs1.length : Int) := by omega
          have hzr : z = flagN (rs1.any fun r => !mayR r) 1 Z0 := by rw [← any_takeL (f := fun r => !mayR r) (show k = rs1.length by omega)]; exact HZ.out
          obtain ⟨er, hcode, hat⟩ := errV_at (w := wr) (wantN rs1 ms1)
          rw [HEV.out] at hat
          have hsm := same6_calls EV er (wantN rs1 ms1) wr (HM.out.keep HG.out).1 hat
          rw [hcode, beq_self_eq_true] at hsm
          have hwn : wantN rs1 ms1 = if 20 < rs1.length ∨ 100 < ms1.length then 2 else z := by
            rw [hzr, ← HZ0.out]
            unfold wantN flagN
            rfl
          have haa := HA.out
          clear hlt hcode hat hzr HZ
          generalize wantN rs1 ms1 = W at hsm hwn haa
          by_cases h20 : 20 < rs1.length
          · rw [if_pos (.inl h20)] at hwn
            subst hwn
            have y1 : (20 : Int) < (rs1.length : Int) := by omega
            cases a with
            | some q => simp at haa
            | none =>
              have HSM := Lib.hid hsm
              clear hsm haa
              go_wp2_with (go_at_call 22; (with_reducible refine HSM.out.mono ?_); rintro ev w6 ⟨rfl, hg6⟩)
              go_ret
              exact ⟨by first | rfl | simp, HG.out.tr hg6⟩
          · have y1 : ¬ (20 : Int) < (rs1.length : Int) := by omega
            by_cases h100 : 100 < ms1.length
            · rw [if_pos (.inr h100)] at hwn
              subst hwn
              have y2 : (100 : Int) < (ms1.length : Int) := by omega
              cases a with
              | some q => simp at haa
              | none =>
                have HSM := Lib.hid hsm
                clear hsm haa
                go_wp2_with (go_at_call 22; (with_reducible refine HSM.out.mono ?_); rintro ev w6 ⟨rfl, hg6⟩)
                go_ret
                exact ⟨by first | rfl | simp, HG.out.tr hg6⟩
            · rw [if_neg (by omega)] at hwn
              subst hwn
              have y2 : ¬ (100 : Int) < (ms1.length : Int) := by omega
              cases a with
              | some q =>
                have hz0 : W = 0 := by simpa using haa
                subst hz0
                have HSM := Lib.hid hsm
                clear hsm haa
                go_wp2_with (go_at_call 22; (with_reducible refine HSM.out.mono ?_); rintro ev w6 ⟨rfl, hg6⟩)
                go_ret
                exact ⟨by first | rfl | simp, HG.out.tr hg6⟩
              | none =>
                have bz : (W == 0) = false := beq_eq_false_iff_ne.2 (by simpa using haa)
                have HSM := Lib.hid hsm
                clear hsm haa
                go_wp2_with (go_at_call 22; (with_reducible refine HSM.out.mono ?_); rintro ev w6 ⟨rfl, hg6⟩)
                go_ret
                exact ⟨by first | rfl | simp [bz], HG.out.tr hg6⟩
/-- A slice's length is within its capacity. -/
def CapOf (v : Value) (n : Nat) : Prop := ∃ ao c, v = .slice ao n c ∧ n ≤ c ∧ c ≤ 9223372036854775807
section
variable {H : Type} {enc : TypeId × Value → H}
theorem cap_rules {W : World} {v : Value} {d : DataW H} {p : List MemPlace} {rs : List Ru} (hv : ∃ a l c, v = .slice a l c) (h : DataW.Trod enc Tryz.prog W 0 (fun _ => true) true 32 v d p) (hr : RulesAt W v rs) : CapOf v rs.length := by
  obtain ⟨ao, c, rfl, _⟩ := hr.view
  obtain ⟨fuel, hf⟩ := h
  rcases open_slice Tryz.underlying32 hf with ⟨h1, _⟩ | ⟨a', len, cap, m, n, D, Pl, h1, hb, hl, hm, hmm, hx, hc⟩
  · have e : Value.slice ao rs.length c = .slice none 0 0 := by
      injection (show [Value.slice ao rs.length c] = [.slice none 0 0] from h1)
    injection e with _ e1 e2
    exact ⟨ao, c, rfl, by omega, by omega⟩
  · have e : Value.slice ao rs.length c = .slice (some a') len cap := by
      injection (show [Value.slice ao rs.length c] = [.slice (some a') len cap] from h1)
    injection e with _ e1 e2
    exact ⟨ao, c, rfl, by omega, by unfold maxLen at hm; omega⟩
theorem cap_days {W : World} {v : Value} {d : DataW H} {p : List MemPlace} {ms : List Int} (hv : ∃ a l c, v = .slice a l c) (h : DataW.Trod enc Tryz.prog W 0 (fun _ => true) true 33 v d p) (hr : DaysAt W v ms) : CapOf v ms.length := by
  obtain ⟨ao, c, rfl, _⟩ := hr.view
  obtain ⟨fuel, hf⟩ := h
  rcases open_slice Tryz.underlying33 hf with ⟨h1, _⟩ | ⟨a', len, cap, m, n, D, Pl, h1, hb, hl, hm, hmm, hx, hc⟩
  · have e : Value.slice ao ms.length c = .slice none 0 0 := by
      injection (show [Value.slice ao ms.length c] = [.slice none 0 0] from h1)
    injection e with _ e1 e2
    exact ⟨ao, c, rfl, by omega, by omega⟩
  · have e : Value.slice ao ms.length c = .slice (some a') len cap := by
      injection (show [Value.slice ao ms.length c] = [.slice (some a') len cap] from h1)
    injection e with _ e1 e2
    exact ⟨ao, c, rfl, by omega, by unfold maxLen at hm; omega⟩
end
theorem calNew_calls (rs : List Ru) (v : Value) (ms : List Int) (v2 : Value) (w : World) (hM : Met2 w) (hr : RulesAt w v rs) (hi : ∀ r ∈ rs, RuIn r) (hl : CapOf v rs.length) (hr2 : DaysAt w v2 ms) (hi2 : ∀ x ∈ ms, in64 x) (hl2 : CapOf v2 ms.length) :
    Calls Tryz.prog 4 #[v, v2] w fun e w' => e = .returned (.bool true) ∧ Gr w w' := by
  obtain ⟨ao, c, rfl, h1, h2⟩ := hl
  obtain ⟨ao2, c2, rfl, h3, h4⟩ := hl2
  exact calNew_core rs ms ao c ao2 c2 w hM h1 h2 h3 h4 hr hr2
end Go.Proofs.YtjgihjpckjdikaaGreatDoor
