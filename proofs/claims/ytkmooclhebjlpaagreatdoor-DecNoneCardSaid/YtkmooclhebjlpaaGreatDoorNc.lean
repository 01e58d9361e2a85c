/- Layer 2: compare, Cmp, Small by contract. -/
import Derived.Test.YtkmooclhebjlpaaGreatDoorNb
import Derived.Deep.QuietTactic
import Derived.BigQuiet
namespace Go.Proofs.YtkmooclhebjlpaaGreatDoor
open Go.RowKit Go.Extern.Stop Go.Stop Go.Extern
set_option linter.unusedVariables false
set_option linter.unusedSimpArgs false

theorem Gr.drew {w w' : World} (h : Gr w w') (n : Nat) : Gr w (w'.drewN n) := ⟨h.os, h.tape, h.output, h.size, h.block⟩
def cmpN (a b : Nat) : Int := if a < b then -1 else if b < a then 1 else 0
/-- A limb of a slice, in a cell. -/
theorem Lim.at {w : World} {v : Value} {l : List Nat} (h : Lim w v l) (hne : 0 < l.length) : ∃ g o c, v = .slice (some ⟨g, o, none⟩) l.length c ∧ l.length ≤ c ∧ g < w.heap.size ∧
    ∀ (w' : World), Gr w w' → ∀ i (hi : i < l.length), w'.cell? ⟨g, o + i, none⟩ = some (.int .u64 ((l[i] : Nat) : Int)) := by
  rcases h.2 with ⟨_, h2⟩ | ⟨g, o, c, h1, h2, h3, h4, h5⟩
  · subst h2; simp at hne
  · exact ⟨g, o, c, h1, h2, h4, fun w' hg i hi => (hg.cell h4).trans (h5 i hi)⟩

set_option maxRecDepth 100000 in
set_option maxHeartbeats 2000000 in
theorem compare_calls (x y : Value) (a b : List Nat) (w : World) (hx : Lim w x a) (hy : Lim w y b) (ha : Norm a) (hb : Norm b) (hsa : a.length ≤ 1000000000) (hsb : b.length ≤ 1000000000) :
    Calls Tryz.prog 43 #[x, y] w fun e w' => e = .returned (.int .i64 (cmpN (val a) (val b))) ∧ Gr w w' := by
  obtain ⟨xa, xc, rfl⟩ := hx.slice
  obtain ⟨ya, yc, rfl⟩ := hy.slice
  have HX := Lib.hid hx
  have HY := Lib.hid hy
  by_cases hl : a.length = b.length
  · have hne : ((a.length : Int) != b.length) = false := by rw [hl]; simp
    have HL := Lib.hid hl
    clear hx hy ha hb hl
    go_enter Tryz.func43, Tryz.ntmps43
    go_wp2
    go_loopg [5] a.length (fun k i wr => k ≤ a.length ∧ i = .int .i64 ((k : Int) - 1) ∧ a.drop k = b.drop k ∧ Gr w wr)
    case atStart => exact ⟨Nat.le_refl _, rfl, by rw [List.drop_of_length_le (Nat.le_refl _), List.drop_of_length_le (by have := HL.out; omega)], Gr.rf w⟩
    case round =>
      obtain ⟨hk, rfl, hd, hgr⟩ := hrel
      have HD := Lib.hid hd
      clear hd
      by_cases h0 : 0 < gk
      · obtain ⟨j, rfl⟩ : ∃ j, gk = j + 1 := ⟨gk - 1, by omega⟩
        obtain ⟨g1, o1, c1, e1, hc1, hl1, hcell1⟩ := HX.out.at (by omega)
        obtain ⟨g2, o2, c2, e2, hc2, hl2, hcell2⟩ := HY.out.at (by have := HL.out; omega)
        cases e1; cases e2
        have hjb : j < b.length := by have := HL.out; omega
        have d1 := hcell1 wr hgr j (by omega)
        have d2 := hcell2 wr hgr j hjb
        generalize hp : a[j]'(by omega) = p at d1
        generalize hq : b[j]'hjb = q at d2
        have hji : ((j + 1 : Nat) : Int) - 1 = (j : Int) := by omega
        have hjn : (j : Int).toNat = j := by omega
        rw [hji]
        have HP := Lib.hid hp
        have HQ := Lib.hid hq
        clear hp hq hcell1 hcell2 hji
        by_cases hpq : p < q
        · have b1 : decide ((p : Int) < (q : Int)) = true := decide_eq_true (by omega)
          go_wp2_with fail
          go_quiet (fail)
          go_wp2
          go_ret
          refine ⟨ret_int ?_, Gr.drew hgr _⟩
          have := val_lt_of_limb a b HX.out.1 j (by omega) hjb HD.out (by rw [HP.out, HQ.out]; exact hpq)
          unfold cmpN; rw [if_pos this]
        · have b1 : decide ((p : Int) < (q : Int)) = false := decide_eq_false (by omega)
          have B1 := Lib.hid b1
          by_cases hqp : q < p
          · have b2 : decide ((q : Int) < (p : Int)) = true := decide_eq_true (by omega)
            go_wp2_with fail
            go_quiet (fail)
            go_wp2
            go_quiet (fail)
            go_wp2
            go_ret
            refine ⟨ret_int ?_, by first | exact Gr.drew hgr _ | exact Gr.drew (Gr.drew hgr _) _⟩
            have := val_lt_of_limb b a HY.out.1 j hjb (by omega) HD.out.symm (by rw [HP.out, HQ.out]; exact hqp)
            unfold cmpN; rw [if_neg (by omega), if_pos this]
          · have b2 : decide ((q : Int) < (p : Int)) = false := decide_eq_false (by omega)
            have hpe : p = q := by omega
            have HPE := Lib.hid hpe
            clear hpe
            go_wp2_with fail
            go_quiet (fail)
            go_wp2
            go_quiet (fail)
            go_wp2
            go_roundg j
            case measure => omega
            case rel => exact ⟨by omega, by first | rfl | go_num, by rw [List.drop_eq_getElem_cons (by omega : j < a.length), List.drop_eq_getElem_cons hjb, HP.out, HQ.out, HPE.out, HD.out], by first | exact Gr.drew hgr _ | exact Gr.drew (Gr.drew hgr _) _⟩
      · obtain rfl : gk = 0 := by omega
        go_wp2
        go_ret
        refine ⟨ret_int ?_, hgr⟩
        have hab : a = b := by simpa using HD.out
        subst hab
        unfold cmpN; rw [if_neg (by omega), if_neg (by omega)]
  · have hne : ((a.length : Int) != b.length) = true := bne_iff_ne.2 (by omega)
    have HA := Lib.hid ha
    have HB := Lib.hid hb
    clear hx hy ha hb
    go_enter Tryz.func43, Tryz.ntmps43
    go_wp2
    go_ret
    refine ⟨ret_int ?_, Gr.rf w⟩
    rcases Nat.lt_or_ge a.length b.length with h | h
    · have := val_lt_of_length a b HX.out.1 HB.out h
      unfold cmpN; rw [if_pos this]; omega
    · have := val_lt_of_length b a HY.out.1 HA.out (by omega)
      unfold cmpN; rw [if_neg (by omega), if_pos this]; omega

set_option maxRecDepth 100000 in
/-- (*Nat).Cmp. -/
theorem cmp_calls (x y : Value) (a b : Nat) (w : World) (hx : NatAt w x a) (hy : NatAt w y b) (k : Nat) (ha : a < B ^ k) (hb : b < B ^ k) (hk : k ≤ 1000000) :
    Calls Tryz.prog 49 #[x, y] w fun e w' => e = .returned (.int .i64 (cmpN a b)) ∧ Gr w w' := by
  have HL := Lib.hid (limbs_calls x a w hx)
  have HM := Lib.hid (limbs_calls y b w hy)
  have HA := Lib.hid ha
  have HB := Lib.hid hb
  clear hx hy ha hb
  go_enter Tryz.func49, Tryz.ntmps49
  go_wp2_with (go_at_call 42; (with_reducible refine HL.out.mono ?_); rintro ev w1 ⟨⟨s, l, rfl, hl, hn, hv⟩, rfl⟩; have HL1 := Lib.hid hl; have HN1 := Lib.hid hn; have HV1 := Lib.hid hv; clear hn hv hl)
  go_wp2_with (go_at_call 42; (with_reducible refine HM.out.mono ?_); rintro ev w1 ⟨⟨s2, l2, rfl, hl, hn, hv⟩, rfl⟩; have HL2 := Lib.hid hl; have HN2 := Lib.hid hn; have HV2 := Lib.hid hv; clear hn hv hl)
  have h1 := norm_length l HN1.out k (by rw [HV1.out]; exact HA.out)
  have h2 := norm_length l2 HN2.out k (by rw [HV2.out]; exact HB.out)
  have HC := Lib.hid (compare_calls s s2 l l2 w HL1.out HL2.out HN1.out HN2.out (by omega) (by omega))
  rw [HV1.out, HV2.out] at HC
  go_wp2_with (go_at_call 43; (with_reducible refine HC.out.mono ?_); rintro ev w1 ⟨rfl, hg⟩)
  go_ret
  exact ⟨rfl, hg⟩
end Go.Proofs.YtkmooclhebjlpaaGreatDoor
