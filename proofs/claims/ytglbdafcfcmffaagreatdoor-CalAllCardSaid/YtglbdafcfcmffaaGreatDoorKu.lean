/- Layer 6: the reference's IsRule, Open, Next by contract. -/
import Derived.Test.YtglbdafcfcmffaaGreatDoorKs
namespace Go.Proofs.YtglbdafcfcmffaaGreatDoor
open Go.RowKit Go.Extern.Stop Go.Stop Go.Extern
set_option linter.unusedVariables false
set_option linter.unusedSimpArgs false

theorem holB_iff {r : Ru} {y d : Int} : (holB r y = true ∧ holV r y = d) ↔ holD r y = some d := by
  cases h : holD r y with
  | none => rw [(holD_none h).2]; simp
  | some x => rw [(holD_some h).1, (holD_some h).2]; simp
theorem runCiv0 (y m k : Int) (w : World) : (Instr.field 112 (.agg #[.int .i64 y, .int .i64 m, .int .i64 k]) 0).run Tryz.prog w = .ok (.int .i64 y) w := by kernel_rfl
theorem runCiv1 (y m k : Int) (w : World) : (Instr.field 112 (.agg #[.int .i64 y, .int .i64 m, .int .i64 k]) 1).run Tryz.prog w = .ok (.int .i64 m) w := by kernel_rfl
set_option maxRecDepth 100000 in
set_option maxHeartbeats 2000000 in
/-- The reference's IsRule. -/
theorem risr_calls (r : Ru) (d y m k : Int) (h : IsDay d y m k) (w : World) : Calls Tryz.prog 96 #[ruV r, .int .i64 d] w fun e w' => e = .returned (.bool (isR r y d)) ∧ Gr w w' := by
  have HC := Lib.hid (fun w => refCivil_calls d y m k h w)
  have hga := boxGr w r
  have hb0 := boxAt_new w r
  have HD := Lib.hid (fun (j : Int) w => rhol_calls r j w)
  have hdr := isDay_range h
  have hI := fun w => refIs_calls d w
  rw [decide_eq_true hdr] at hI
  have HI := Lib.hid hI
  have hy0 := h.1
  have hy1 := h.2.1
  have hfy := runCiv0 y m k
  clear h hI hdr
  unfold ruV at HD ⊢
  go_enter Tryz.func96, Tryz.ntmps96
  go_wp2_with (go_at_call 94; (with_reducible refine (HI.out _).mono ?_); rintro ev w1 ⟨rfl, rfl⟩)
  generalize w.alloc (.cells #[.int .i64 r.kind, .int .i64 r.month, .int .i64 r.day, .int .i64 r.n, .int .i64 r.wd, .bool r.sh] 118) = W0 at hga hb0 ⊢
  generalize w.heap.size = bb at hb0 ⊢
  have HGA := Lib.hid hga
  have HB0 := Lib.hid hb0
  clear hga hb0
  refine (HC.out _).mono ?_
  rintro ev w1 ⟨rfl, hg1⟩
  have HG1 : Hid (Gr w w1) := Lib.hid (HGA.out.tr hg1)
  have HB1 := Lib.hid (HB0.out.gr hg1)
  clear hg1
  go_wp2
  go_loopg [6] 3 (fun g yv wr => ∃ j : Int, j = y + 2 - (g : Int) ∧ y - 1 ≤ j ∧ j ≤ y + 2 ∧ yv = .int .i64 j ∧ Hid (∀ i, y - 1 ≤ i → i < j → holD r i ≠ some d) ∧ Hid (BoxAt wr bb r) ∧ Hid (Gr w wr))
  case atStart => exact ⟨y - 1, by omega, by omega, by omega, rfl, Lib.hid (fun i a b => absurd b (by omega)), HB1, HG1⟩
  case round =>
    clear HB0 HB1 HGA HG1
    obtain ⟨j, hj, hj0, hj1, rfl, HN, HBR, HGR⟩ := hrel
    have HJ := Lib.hid hj
    obtain ⟨c0, c1, c2, c3, c4, c5⟩ := HBR.out.cells
    clear hj
    by_cases hlt : j ≤ y + 1
    · have bl : decide (j ≤ y + 1) = true := decide_eq_true hlt
      have HDJ := Lib.hid (HD.out j wr)
      go_wp2_with fail
      refine HDJ.out.mono ?_
      rintro ev w2 ⟨⟨z, rfl, hz⟩, hg2⟩
      by_cases hhit : holD r j = some d
      · have hb := holB_iff.2 hhit
        have hzd := (hz hb.1).trans hb.2
        subst hzd
        rw [hb.1]
        have HY := Lib.hid (isR_yes hj0 hlt hhit)
        clear hz hhit hb
        go_wp2
        go_ret
        exact ⟨by rw [HY.out]; rfl, HGR.out.tr hg2⟩
      · have HN2 : Hid (∀ i, y - 1 ≤ i → i < j + 1 → holD r i ≠ some d) := Lib.hid (fun i a b => by
          by_cases e : i = j
          · rw [e]; exact hhit
          · exact HN.out i a (by omega))
        cases hb : holB r j with
        | false =>
          clear hz hhit hb HN
          go_wp2
          go_roundg (gk - 1)
          case measure => have := HJ.out; omega
          case rel => exact ⟨j + 1, by have := HJ.out; omega, by omega, by omega, rfl, HN2, Lib.hid (HBR.out.gr hg2), Lib.hid (HGR.out.tr hg2)⟩
        | true =>
          have hx : (z == d) = false := beq_eq_false_iff_ne.2 (fun e => hhit (holB_iff.1 ⟨hb, (hz hb).symm.trans e⟩))
          clear hz hhit hb HN
          go_wp2
          go_roundg (gk - 1)
          case measure => have := HJ.out; omega
          case rel => exact ⟨j + 1, by have := HJ.out; omega, by omega, by omega, rfl, HN2, Lib.hid (HBR.out.gr hg2), Lib.hid (HGR.out.tr hg2)⟩
    · have hje : j = y + 2 := by omega
      have hlf : decide (j ≤ y + 1) = false := decide_eq_false hlt
      have HY := Lib.hid (isR_no (r := r) (y := y) (d := d) (fun i a b => HN.out i a (by omega)))
      go_wp2
      go_ret
      exact ⟨by rw [HY.out]; rfl, HGR.out⟩
/-- The shape of a slice of rules, of days. -/
theorem RulesAt.view {w : World} {v : Value} {rs : List Ru} (h : RulesAt w v rs) : ∃ ao c, v = .slice ao rs.length c ∧ ∀ (j : Nat) r, rs[j]? = some r → ∃ b off, ao = some ⟨b, off, none⟩ ∧ b < w.heap.size ∧
    w.cell? ⟨b, off + j * 6, none⟩ = some (.int .i64 r.kind) ∧ w.cell? ⟨b, off + j * 6 + 1, none⟩ = some (.int .i64 r.month) ∧ w.cell? ⟨b, off + j * 6 + 2, none⟩ = some (.int .i64 r.day) ∧
    w.cell? ⟨b, off + j * 6 + 3, none⟩ = some (.int .i64 r.n) ∧ w.cell? ⟨b, off + j * 6 + 4, none⟩ = some (.int .i64 r.wd) ∧ w.cell? ⟨b, off + j * 6 + 5, none⟩ = some (.bool r.sh) := by
  rcases h with ⟨rfl, a, c, rfl⟩ | ⟨b, off, c, rfl, hb, hc⟩
  · exact ⟨a, c, rfl, fun j r hj => by simp at hj⟩
  · exact ⟨some ⟨b, off, none⟩, c, rfl, fun j r hj => ⟨b, off, rfl, hb, hc j r hj⟩⟩
theorem DaysAt.view {w : World} {v : Value} {ms : List Int} (h : DaysAt w v ms) : ∃ ao c, v = .slice ao ms.length c ∧ ∀ (j : Nat) x, ms[j]? = some x → ∃ b off, ao = some ⟨b, off, none⟩ ∧ b < w.heap.size ∧ w.cell? ⟨b, off + j, none⟩ = some (.int .i64 x) := by
  rcases h with ⟨rfl, a, c, rfl⟩ | ⟨b, off, c, rfl, hb, hc⟩
  · exact ⟨a, c, rfl, fun j r hj => by simp at hj⟩
  · exact ⟨some ⟨b, off, none⟩, c, rfl, fun j r hj => ⟨b, off, rfl, hb, hc j r hj⟩⟩
/-- A slice of the reference's calendars: rules and days each. -/
def RCals (w : World) (v : Value) (cs : List (List Ru × List Int)) : Prop :=
  ∃ ao c, v = .slice ao cs.length c ∧ ∀ (j : Nat) x, cs[j]? = some x → ∃ b off v1 v2, ao = some ⟨b, off, none⟩ ∧ b < w.heap.size ∧ w.cell? ⟨b, off + j * 2, none⟩ = some v1 ∧ w.cell? ⟨b, off + j * 2 + 1, none⟩ = some v2 ∧ RulesAt w v1 x.1 ∧ DaysAt w v2 x.2 ∧ x.1.length ≤ 100 ∧ x.2.length ≤ 100
theorem RCals.gr {w w' : World} {v : Value} {cs : List (List Ru × List Int)} (h : RCals w v cs) (hg : Gr w w') : RCals w' v cs := by
  obtain ⟨ao, c, hv, hc⟩ := h
  refine ⟨ao, c, hv, fun j x hj => ?_⟩
  obtain ⟨b, off, v1, v2, h1, h2, h3, h4, h5, h6, h7⟩ := hc j x hj
  exact ⟨b, off, v1, v2, h1, Nat.lt_of_lt_of_le h2 hg.size, cell_gr hg h2 h3, cell_gr hg h2 h4, h5.gr hg, h6.gr hg, h7⟩
def shutC (cs : List (List Ru × List Int)) (y d : Int) : Bool := cs.any fun c => shutR c.1 c.2 y d
theorem any_take {α : Type} {l : List α} {f : α → Bool} {k : Nat} {x : α} (hx : l[k]? = some x) (h : (l.take k).any f = false) (hf : f x = false) : (l.take (k + 1)).any f = false := by
  have hl := (List.getElem?_eq_some_iff.1 hx).1
  have he := (List.getElem?_eq_some_iff.1 hx).2
  rw [List.take_succ_eq_append_getElem hl, he, List.any_append, h]
  simp [hf]
theorem any_all {α : Type} {l : List α} {f : α → Bool} {k : Nat} (hk : k = l.length) (h : (l.take k).any f = false) : l.any f = false := by
  subst hk; rw [List.take_length] at h; exact h
set_option maxRecDepth 100000 in
set_option maxHeartbeats 4000000 in
theorem ropen_core (cs : List (List Ru × List Int)) (v : Value) (d y m k : Int) (h : IsDay d y m k) (hw0 : (d + 1) % 7 ≠ 0) (hw6 : (d + 1) % 7 ≠ 6) (w : World) (hr : RCals w v cs) (hl : cs.length ≤ 100) :
    Calls Tryz.prog 23 #[v, .int .i64 d] w fun e w' => e = .returned (.bool (!shutC cs y d)) ∧ Gr w w' := by
  have hdr := isDay_range h
  have hI := fun w => refIs_calls d w
  rw [decide_eq_true hdr] at hI
  have HI := Lib.hid hI
  have hw := fun w => rweekday_calls d w hdr.1 hdr.2
  have b0 : ((d + 1) % 7 == 0) = false := beq_eq_false_iff_ne.2 hw0
  have b6 : ((d + 1) % 7 == 6) = false := beq_eq_false_iff_ne.2 hw6
  generalize (d + 1) % 7 = q at hw b0 b6
  have HW := Lib.hid hw
  have hir := fun r w => risr_calls r d y m k h w
  unfold ruV at hir
  have HIR := Lib.hid hir
  have HD := Lib.hid hdr
  obtain ⟨ao, cc, rfl, hcs⟩ := hr
  have HCS := Lib.hid hcs
  clear hI hw hir h hdr hcs hw0 hw6
  go_enter Tryz.func23, Tryz.ntmps23
  go_wp2_with (first | (go_at_call 94; (with_reducible refine (HI.out _).mono ?_); rintro ev w1 ⟨rfl, rfl⟩) | (go_at_call 95; (with_reducible refine (HW.out _).mono ?_); rintro ev w1 ⟨rfl, rfl⟩))
  go_loopg [5] cs.length (fun g s5 wr => ∃ i : Nat, i ≤ cs.length ∧ g = cs.length - i ∧ s5 = .int .i64 i ∧ Hid ((cs.take i).any (fun c => shutR c.1 c.2 y d) = false) ∧ Hid (Gr w wr))
  case atStart => exact ⟨0, Nat.zero_le _, by omega, rfl, Lib.hid rfl, Lib.hid (Gr.rf w)⟩
  case round =>
    obtain ⟨i, hi, hgg, rfl, HN, HG⟩ := hrel
    have HGG := Lib.hid hgg
    clear hgg
    by_cases hlt : i < cs.length
    · have hltz : (i : Int) < (cs.length : Int) := by omega
      have hj : cs[i]? = some cs[i] := List.getElem?_eq_getElem hlt
      obtain ⟨b, off, v1, v2, hao, hb, d1, d2, hr1, hr2, hl1, hl2⟩ := HCS.out i _ hj
      generalize cs[i] = x at hj hr1 hr2 hl1 hl2
      obtain ⟨rs, ms⟩ := x
      simp only [] at hr1 hr2 hl1 hl2
      have HJ := Lib.hid hj
      subst hao
      obtain ⟨ar, cr, rfl, hrv⟩ := hr1.view
      obtain ⟨am, cm, rfl, hmv⟩ := hr2.view
      have HRV := Lib.hid hrv
      have HMV := Lib.hid hmv
      have HD1 := Lib.hid (And.intro hb (And.intro d1 d2))
      clear hj hr1 hr2 hrv hmv d1 d2
      go_wp2
      go_loopg [6] rs.length (fun g s6 wq => ∃ k : Nat, k ≤ rs.length ∧ g = rs.length - k ∧ s6 = .int .i64 k ∧ Hid ((rs.take k).any (fun r => isR r y d) = false) ∧ Hid (Gr w wq))
      case atStart => exact ⟨0, Nat.zero_le _, by omega, rfl, Lib.hid rfl, HG⟩
      case round =>
        clear HG
        obtain ⟨k2, hk2, hg2, rfl, HN2, HG2⟩ := hrel
        have HGG2 := Lib.hid hg2
        have e1 := cell_gr HG2.out HD1.out.1 HD1.out.2.1
        clear hg2
        by_cases hlt2 : k2 < rs.length
        · have hltz2 : (k2 : Int) < (rs.length : Int) := by omega
          have hj2 : rs[k2]? = some rs[k2] := List.getElem?_eq_getElem hlt2
          obtain ⟨b2, off2, har, hb2, c0, c1, c2, c3, c4, c5⟩ := HRV.out k2 _ hj2
          generalize rs[k2] = r at hj2 c0 c1 c2 c3 c4 c5
          subst har
          have f0 := cell_gr HG2.out hb2 c0
          have f1 := cell_gr HG2.out hb2 c1
          have f2 := cell_gr HG2.out hb2 c2
          have f3 := cell_gr HG2.out hb2 c3
          have f4 := cell_gr HG2.out hb2 c4
          have f5 := cell_gr HG2.out hb2 c5
          have hir := HIR.out r wr
          have HJ2 := Lib.hid hj2
          clear c0 c1 c2 c3 c4 c5 hj2
          cases hh : isR r y d with
          | true =>
            rw [hh] at hir
            have HIQ := Lib.hid hir
            have HS := Lib.hid (show shutC cs y d = true from List.any_eq_true.2 ⟨(rs, ms), List.mem_of_getElem? HJ.out, by
              show shutR rs ms y d = true
              unfold shutR
              rw [Bool.or_eq_true]
              exact .inl (List.any_eq_true.2 ⟨r, List.mem_of_getElem? HJ2.out, hh⟩)⟩)
            clear hir hh
            go_wp2_with (go_at_call 96; (with_reducible refine HIQ.out.mono ?_); rintro ev w3 ⟨rfl, hg3⟩)
            go_ret
            exact ⟨by rw [HS.out]; rfl, HG2.out.tr hg3⟩
          | false =>
            rw [hh] at hir
            have HIQ := Lib.hid hir
            have HN3 := Lib.hid (any_take HJ2.out HN2.out hh)
            clear hir hh
            go_wp2_with (go_at_call 96; (with_reducible refine HIQ.out.mono ?_); rintro ev w3 ⟨rfl, hg3⟩)
            go_roundg (rs.length - (k2 + 1))
            case measure => have := HGG2.out; omega
            case rel => exact ⟨k2 + 1, by omega, rfl, by go_num, HN3, Lib.hid (HG2.out.tr hg3)⟩
        · have hltz2 : ¬ (k2 : Int) < (rs.length : Int) := by omega
          have HNR := Lib.hid (any_all (by omega) HN2.out)
          clear hlt2
          go_wp2
          go_loopg [7] ms.length (fun g s7 wp => ∃ k : Nat, k ≤ ms.length ∧ g = ms.length - k ∧ s7 = .int .i64 k ∧ Hid ((ms.take k).any (fun z => z == d) = false) ∧ Hid (Gr w wp))
          case atStart => exact ⟨0, Nat.zero_le _, by omega, rfl, Lib.hid rfl, HG2⟩
          case round =>
            clear HG2 e1 HGG2 HN2
            obtain ⟨k3, hk3, hg3, rfl, HN3, HG3⟩ := hrel
            have HGG3 := Lib.hid hg3
            have e2 := cell_gr HG3.out HD1.out.1 HD1.out.2.2
            clear hg3
            by_cases hlt3 : k3 < ms.length
            · have hltz3 : (k3 : Int) < (ms.length : Int) := by omega
              have hj3 : ms[k3]? = some ms[k3] := List.getElem?_eq_getElem hlt3
              obtain ⟨b3, off3, ham, hb3, c0⟩ := HMV.out k3 _ hj3
              generalize ms[k3] = z at hj3 c0
              subst ham
              have f0 := cell_gr HG3.out hb3 c0
              have HJ3 := Lib.hid hj3
              clear c0 hj3
              by_cases hz : z = d
              · subst hz
                have HS := Lib.hid (show shutC cs y z = true from List.any_eq_true.2 ⟨(rs, ms), List.mem_of_getElem? HJ.out, by
                  show shutR rs ms y z = true
                  unfold shutR
                  rw [Bool.or_eq_true]
                  exact .inr (List.any_eq_true.2 ⟨z, List.mem_of_getElem? HJ3.out, beq_self_eq_true z⟩)⟩)
                go_wp2
                go_ret
                exact ⟨by rw [HS.out]; rfl, HG3.out⟩
              · have bz : (z == d) = false := beq_eq_false_iff_ne.2 hz
                have HN4 := Lib.hid (any_take HJ3.out HN3.out bz)
                clear hz
                go_wp2
                go_roundg (ms.length - (k3 + 1))
                case measure => have := HGG3.out; omega
                case rel => exact ⟨k3 + 1, by omega, rfl, by go_num, HN4, HG3⟩
            · have hltz3 : ¬ (k3 : Int) < (ms.length : Int) := by omega
              have HNM := Lib.hid (any_all (by omega) HN3.out)
              have HN5 := Lib.hid (any_take HJ.out HN.out (show shutR rs ms y d = false by unfold shutR; rw [HNR.out, HNM.out]; rfl))
              clear hlt3
              go_wp2
              go_roundg (cs.length - (i + 1))
              case measure => have := HGG.out; omega
              case rel => exact ⟨i + 1, by omega, rfl, by go_num, HN5, HG3⟩
    · have hltz : ¬ (i : Int) < (cs.length : Int) := by omega
      have HNA := Lib.hid (show shutC cs y d = false from any_all (by omega) HN.out)
      clear hlt
      go_wp2
      go_ret
      exact ⟨by rw [HNA.out]; rfl, HG.out⟩
/-- Which days some calendars shut. -/
def ShutC (cs : List (List Ru × List Int)) (S : Int → Bool) : Prop := ∀ d y m k, IsDay d y m k → shutC cs y d = S d
set_option maxRecDepth 100000 in
/-- The reference's Open. -/
theorem ropen_calls (cs : List (List Ru × List Int)) (v : Value) (S : Int → Bool) (hS : ShutC cs S) (d : Int) (w : World) (hr : RCals w v cs) (hl : cs.length ≤ 100) :
    Calls Tryz.prog 23 #[v, .int .i64 d] w fun e w' => e = .returned (.bool (openB S d)) ∧ Gr w w' := by
  by_cases hd : 0 ≤ d ∧ d ≤ 109572
  · have hw := fun w => rweekday_calls d w hd.1 hd.2
    have hI := fun w => refIs_calls d w
    rw [decide_eq_true hd] at hI
    by_cases h0 : (d + 1) % 7 = 0
    · rw [show openB S d = false by unfold openB; rw [h0]; simp]
      rw [h0] at hw
      have HW := Lib.hid hw
      have HI := Lib.hid hI
      clear hw hI h0 hd hS hr
      go_enter Tryz.func23, Tryz.ntmps23
      go_wp2_with (first | (go_at_call 94; (with_reducible refine (HI.out _).mono ?_); rintro ev w1 ⟨rfl, rfl⟩) | (go_at_call 95; (with_reducible refine (HW.out _).mono ?_); rintro ev w1 ⟨rfl, rfl⟩))
      go_ret
      exact ⟨rfl, Gr.rf _⟩
    · by_cases h6 : (d + 1) % 7 = 6
      · rw [show openB S d = false by unfold openB; rw [h6]; simp]
        rw [h6] at hw
        have HW := Lib.hid hw
        have HI := Lib.hid hI
        clear hw hI h0 h6 hd hS hr
        go_enter Tryz.func23, Tryz.ntmps23
        go_wp2_with (first | (go_at_call 94; (with_reducible refine (HI.out _).mono ?_); rintro ev w1 ⟨rfl, rfl⟩) | (go_at_call 95; (with_reducible refine (HW.out _).mono ?_); rintro ev w1 ⟨rfl, rfl⟩))
        go_ret
        exact ⟨rfl, Gr.rf _⟩
      · obtain ⟨y, m, k, h⟩ := isDay_of d hd.1 hd.2
        have hc := ropen_core cs v d y m k h h0 h6 w hr hl
        rw [hS d y m k h] at hc
        rw [show openB S d = !S d by unfold openB; rw [decide_eq_true hd, beq_eq_false_iff_ne.2 h0, beq_eq_false_iff_ne.2 h6]; simp]
        exact hc
  · rw [openB_out (by omega)]
    have hI := fun w => refIs_calls d w
    rw [decide_eq_false hd] at hI
    have HI := Lib.hid hI
    clear hI hd hS hr
    go_enter Tryz.func23, Tryz.ntmps23
    go_wp2_with (go_at_call 94; (with_reducible refine (HI.out _).mono ?_); rintro ev w1 ⟨rfl, rfl⟩)
    go_ret
    exact ⟨rfl, Gr.rf _⟩
end Go.Proofs.YtglbdafcfcmffaaGreatDoor
