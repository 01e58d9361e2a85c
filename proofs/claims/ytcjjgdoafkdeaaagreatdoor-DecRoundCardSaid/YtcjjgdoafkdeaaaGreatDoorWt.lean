/- Layers 4 and 5's laws: R by contract. -/
import Derived.Test.YtcjjgdoafkdeaaaGreatDoorWj
import Derived.Test.YtcjjgdoafkdeaaaGreatDoorWs
import Derived.Test.YtcjjgdoafkdeaaaGreatDoorQh
import Derived.Test.YtcjjgdoafkdeaaaGreatDoorJe
namespace Go.Proofs.YtcjjgdoafkdeaaaGreatDoor
open Go.RowKit Go.Extern.Stop Go.Stop Go.Extern Go.Sort
set_option linter.unusedVariables false
set_option linter.unusedSimpArgs false

theorem ret_r {W : World} {bb : Nat} (x y z o : Value) (hW : W.rangeAt bb 0 [x, y, z]) (tmps : Array Value) (h2 : tmps.getD 6 undef = o) (h3 : tmps.getD 7 undef = .pointer (some ⟨bb, 0, none⟩)) :
    (results Tryz.f12 tmps).run Tryz.prog W = .ok (.tuple #[o, .agg #[x, y, z]]) W := by
  have hl := run_loadVar_mid (P := Tryz.prog) W bb 0 29 [x, y, z] _ hW Tryz.underlying29 rfl (by kernel_rfl)
  unfold results
  rw [show Tryz.f12.results = #[.tmp 6, .cell 7 29] from rfl]
  have k2 : tmps[6]?.getD undef = o := by simpa using h2
  have k3 : tmps[7]?.getD undef = .pointer (some ⟨bb, 0, none⟩) := by simpa using h3
  simp [k2, k3, asAddr, hl, Sem.run_bind, Sem.run_pure]
/-- A block that holds a fraction of the reference: no number of the program's lies in it. -/
def QB (w : World) (q : Nat) : Prop := (∃ b, w.cell? ⟨q, 0, none⟩ = some (.bool b)) ∧ (∃ p l c, w.cell? ⟨q, 1, none⟩ = some (.slice p l c)) ∧ (∃ p l c, w.cell? ⟨q, 2, none⟩ = some (.slice p l c))
theorem QB.lim {w : World} {q i : Nat} (h : QB w q) (hi : i < 3) (y : Value) {v : Value} {l : List Nat} (hl : Lim w v l) : Lim (w.setCell ⟨q, i, none⟩ y) v l := by
  obtain ⟨⟨b, h0⟩, ⟨p1, l1, c1, h1⟩, ⟨p2, l2, c2, h2⟩⟩ := h
  rcases i with _ | _ | _ | i
  · exact lim_setw hl _ _ _ h0 (fun n h => by cases h)
  · exact lim_setw hl _ _ _ h1 (fun n h => by cases h)
  · exact lim_setw hl _ _ _ h2 (fun n h => by cases h)
  · omega
theorem cell_setq {w : World} {q i b j : Nat} {y u : Value} (hb : b ≠ q) (h : w.cell? ⟨b, j, none⟩ = some u) : (w.setCell ⟨q, i, none⟩ y).cell? ⟨b, j, none⟩ = some u := by
  rw [World.cell?_setCell_other _ _ _ _ (by simp <;> (intro e; exact absurd e.symm hb))]
  exact h
theorem QB.nat {w : World} {q i : Nat} (h : QB w q) (hi : i < 3) (y : Value) {v : Value} {n : Nat} (hn : NatAt w v n) : NatAt (w.setCell ⟨q, i, none⟩ y) v n := by
  rcases hn with hn | ⟨b, s, l, hv, hb, hl, hnn, hval⟩
  · exact .inl hn
  · have hbq : b ≠ q := by
      intro e
      subst e
      obtain ⟨a, c, hs⟩ := Lim.slice hl
      obtain ⟨x, hx⟩ := h.1
      rw [hx, hs] at hb
      injection hb with hb
      cases hb
    exact .inr ⟨b, s, l, hv, cell_setq hbq hb, h.lim hi y hl, hnn, hval⟩
theorem QB.int {w : World} {q i : Nat} (h : QB w q) (hi : i < 3) (y : Value) {v : Value} {z : Int} (hn : IntAt w v z) : IntAt (w.setCell ⟨q, i, none⟩ y) v z := by
  rcases hn with hn | ⟨b, neg, p, m, hv, h0, h1, hm, hz, hneg⟩
  · exact .inl hn
  · have hbq : b ≠ q := by
      intro e
      subst e
      obtain ⟨x1, x2, x3, hx⟩ := h.2.1
      rw [hx] at h1
      injection h1 with h1
      cases h1
    exact .inr ⟨b, neg, p, m, hv, cell_setq hbq h0, cell_setq hbq h1, h.nat hi y hm, hz, hneg⟩
theorem QB.rat {w : World} {q i : Nat} (h : QB w q) (hi : i < 3) (y : Value) {v : Value} {n : Int} {d : Nat} (hn : RatAt w v n d) : RatAt (w.setCell ⟨q, i, none⟩ y) v n d := by
  rcases hn with hn | ⟨b, p, r, hv, h0, h1, hz, hd, hp, hc⟩
  · exact .inl hn
  · have hbq : b ≠ q := by
      intro e
      subst e
      obtain ⟨x, hx⟩ := h.1
      rw [hx] at h0
      injection h0 with h0
      cases h0
    exact .inr ⟨b, p, r, hv, cell_setq hbq h0, cell_setq hbq h1, h.int hi y hz, hd.imp id (fun h2 => ⟨h2.1, h.int hi y h2.2⟩), hp, hc⟩
theorem QB.three {w : World} {q : Nat} (h : QB w q) (b : Bool) (p1 p2 : Option Addr) (l1 c1 l2 c2 : Nat) {v : Value} {n : Int} {d : Nat} (hn : RatAt w v n d) : RatAt (((w.setCell ⟨q, 0, none⟩ (.bool b)).setCell ⟨q, 1, none⟩ (.slice p1 l1 c1)).setCell ⟨q, 2, none⟩ (.slice p2 l2 c2)) v n d := by
  have k1 : QB (w.setCell ⟨q, 0, none⟩ (.bool b)) q := by
    obtain ⟨⟨b0, h0⟩, ⟨x1, y1, z1, h1⟩, ⟨x2, y2, z2, h2⟩⟩ := h
    exact ⟨⟨b, World.cell?_setCell_same _ _ _ (by rw [h0])⟩, ⟨x1, y1, z1, by rw [World.cell?_setCell_other _ _ _ _ (by simp)]; exact h1⟩, ⟨x2, y2, z2, by rw [World.cell?_setCell_other _ _ _ _ (by simp)]; exact h2⟩⟩
  have k2 : QB ((w.setCell ⟨q, 0, none⟩ (.bool b)).setCell ⟨q, 1, none⟩ (.slice p1 l1 c1)) q := by
    obtain ⟨⟨b0, h0⟩, ⟨x1, y1, z1, h1⟩, ⟨x2, y2, z2, h2⟩⟩ := k1
    exact ⟨⟨b0, by rw [World.cell?_setCell_other _ _ _ _ (by simp)]; exact h0⟩, ⟨p1, l1, c1, World.cell?_setCell_same _ _ _ (by rw [h1])⟩, ⟨x2, y2, z2, by rw [World.cell?_setCell_other _ _ _ _ (by simp)]; exact h2⟩⟩
  exact k2.rat (by decide) _ (k1.rat (by decide) _ (h.rat (by decide) _ hn))
/-- A fraction of the program's and one of the reference's are one. -/
def Twin (w : World) (v vx vy : Value) (sb : Bool) (n : Int) (d X Y : Nat) : Prop :=
  RatAt w v n d ∧ (RN w vx X ∧ RN w vy Y) ∧ 0 < Y ∧ sb = decide (n < 0) ∧ (∃ g, 0 < g ∧ X = n.natAbs * g ∧ Y = d * g) ∧ X < Dg.D ^ 4 ∧ Y < Dg.D ^ 4
theorem twin_low (neg : Bool) (X Y : Nat) (hY : 0 < Y) (n : Int) (d : Nat) (h : n * (Y : Int) = sgn neg X * (d : Int)) (hd : 0 < d) (hc : Nat.gcd n.natAbs d = 1) : (neg && decide (0 < X)) = decide (n < 0) ∧ ∃ g, 0 < g ∧ X = n.natAbs * g ∧ Y = d * g := by
  obtain ⟨e1, e2⟩ := low_is neg X Y (by omega) n d h hd hc
  have hg : 0 < Nat.gcd X Y := Nat.gcd_pos_of_pos_right _ hY
  refine ⟨?_, Nat.gcd X Y, hg, ?_, ?_⟩
  · rw [e1]
    rcases Nat.eq_zero_or_pos X with h0 | h0
    · subst h0
      rw [Nat.zero_div]
      cases neg <;> rfl
    · have : 0 < X / Nat.gcd X Y := Nat.div_pos (Nat.gcd_le_left _ h0) hg
      rw [decide_eq_true h0, Bool.and_true]
      cases neg
      · exact (decide_eq_false (by show ¬ ((_ : Nat) : Int) < 0; omega)).symm
      · exact (decide_eq_true (by show -((_ : Nat) : Int) < 0; omega)).symm
  · rw [e1, sgn_abs, Nat.div_mul_cancel (Nat.gcd_dvd_left X Y)]
  · rw [e2, Nat.div_mul_cancel (Nat.gcd_dvd_right X Y)]
set_option maxRecDepth 100000 in
set_option maxHeartbeats 8000000 in
/-- R. -/
theorem r_calls (s t : ByteArray) (neg : Bool) (hs : s.size ≤ 9223372036854775807) (ht : t.size ≤ 9223372036854775807) (w : World) (hB : BitTab w) :
    Calls Tryz.prog 12 #[.string s, .string t, .bool neg] w fun e w' => (∃ b sb vx vy n d X Y, e = .returned (.tuple #[.pointer (some ⟨b, 0, none⟩), .agg #[.bool sb, vx, vy]]) ∧ Twin w' (.pointer (some ⟨b, 0, none⟩)) vx vy sb n d X Y) ∧ Gr w w' := by
  have HD : Hid (∀ w, Calls Tryz.prog 15 #[.string s, .int .i64 30] w fun e w' => (∃ T : ByteArray, e = .returned (.string T) ∧ NumT T ∧ T.size ≤ 30) ∧ w = w') := Lib.hid (fun w => digits_calls s 30 (by decide) (by decide) hs w)
  have HD2 : Hid (∀ w, Calls Tryz.prog 15 #[.string t, .int .i64 30] w fun e w' => (∃ T : ByteArray, e = .returned (.string T) ∧ NumT T ∧ T.size ≤ 30) ∧ w = w') := Lib.hid (fun w => digits_calls t 30 (by decide) (by decide) ht w)
  have HBT := Lib.hid hB
  have hbk := heap_alloc_new w (.cells #[.bool false, .slice none 0 0, .slice none 0 0] 29)
  have HBK := Lib.hid hbk
  have HG0 : Hid (Gr w (w.alloc (.cells #[.bool false, .slice none 0 0, .slice none 0 0] 29))) := Lib.hid ((Gr.rf w).alloc (Nat.le_refl _) _)
  clear hbk hB hs ht
  go_enter Tryz.func12, Tryz.ntmps12
  go_wp2_with fail
  generalize w.alloc (.cells #[.bool false, .slice none 0 0, .slice none 0 0] 29) = w0 at *
  refine (HD.out _).mono ?_
  rintro ev w1 ⟨⟨S, rfl, hS, hSs⟩, rfl⟩
  have HS := Lib.hid hS
  have HBS := Lib.hid (num_bd S hS 4 (by omega))
  clear hS
  go_wp2_with fail
  refine (HD2.out _).mono ?_
  rintro ev w1 ⟨⟨T, rfl, hT, hTs⟩, rfl⟩
  have HT := Lib.hid hT
  have HBT2 := Lib.hid (num_bd T hT 4 (by omega))
  clear hT
  have HC1 := Lib.hid (natGet_calls S w0 (by omega))
  go_wp2_with fail
  refine HC1.out.mono ?_
  rintro ev w1 ⟨⟨hr, _⟩, hg1⟩
  obtain ⟨r1, rfl, hr1⟩ := hr HS.out
  have HR1 := Lib.hid hr1
  have HG1 := Lib.hid hg1
  clear hr hr1 hg1
  have HC2 := Lib.hid (natGet_calls T w1 (by omega))
  go_wp2_with fail
  refine HC2.out.mono ?_
  rintro ev w2 ⟨⟨hr, _⟩, hg2⟩
  obtain ⟨r2, rfl, hr2⟩ := hr HT.out
  have HR2 := Lib.hid hr2
  have HG2 := Lib.hid hg2
  clear hr hr2 hg2
  have HC3 := Lib.hid (rgetN_calls S w2)
  go_wp2_with fail
  refine HC3.out.mono ?_
  rintro ev w3 ⟨⟨hr, _⟩, hg3⟩
  obtain ⟨r3, rfl, hr3⟩ := hr HS.out
  have HR3 := Lib.hid hr3
  have HG3 := Lib.hid hg3
  clear hr hr3 hg3
  have HC4 := Lib.hid (rgetN_calls T w3)
  go_wp2_with fail
  refine HC4.out.mono ?_
  rintro ev w4 ⟨⟨hr, _⟩, hg4⟩
  obtain ⟨r4, rfl, hr4⟩ := hr HT.out
  obtain ⟨a4, c4, rfl⟩ := rn_len hr4
  have HR4 := Lib.hid hr4
  have HG4 := Lib.hid hg4
  clear hr hr4 hg4
  have HRA := Lib.hid (HR1.out.gr (HG2.out.tr (HG3.out.tr HG4.out)))
  have HRX := Lib.hid (HR3.out.gr HG4.out)
  have HG04 := Lib.hid (HG1.out.tr (HG2.out.tr (HG3.out.tr HG4.out)))
  have HRB := Lib.hid (HR2.out.gr (HG3.out.tr HG4.out))
  generalize dv S.data.toList = X at *
  generalize dv T.data.toList = T0 at *
  have hkey : ∃ (Y : Nat), 0 < Y ∧ Y < Dg.D ^ 4 ∧ ((T0 = 0 ∧ Y = 3) ∨ (T0 ≠ 0 ∧ Y = T0)) := by
    by_cases h : T0 = 0
    · exact ⟨3, by decide, by decide, .inl ⟨h, rfl⟩⟩
    · exact ⟨T0, by omega, HBT2.out, .inr ⟨h, rfl⟩⟩
  obtain ⟨Y, hY0, hY4, hY⟩ := hkey
  have HY := Lib.hid (And.intro hY0 hY4)
  clear hY0 hY4
  rcases hY with ⟨hT0, hYe⟩ | ⟨hT0, hYe⟩
  case' inl =>
    have hl0 : (((Dg.digs T0).length : Int) == 0) = true := beq_iff_eq.2 (by have := (digs_len0 T0).2 hT0; omega)
    generalize (Dg.digs T0).length = L4 at *
    clear hT0
    have HO3 := Lib.hid (c_of 3 (by decide) w4)
    have HO3 : Hid (Calls Tryz.prog 54 #[.int .u64 3] w4 fun e w' => (∃ r, e = .returned r ∧ NatP w' r 3) ∧ Gr w4 w') := HO3
    go_wp2_with fail
    refine HO3.out.mono ?_
    rintro ev w5 ⟨⟨rb, rfl, hrb⟩, hg5⟩
    have HO6 : Hid (Calls Tryz.prog 27 #[.int .u64 3] w5 fun e w' => (∃ r, e = .returned r ∧ RN w' r 3) ∧ Gr w5 w') := Lib.hid (r_ofU 3 (by decide) w5)
    have HRB5 := Lib.hid hrb
    have HG5 := Lib.hid hg5
    clear hrb hg5
    go_wp2_with fail
    refine HO6.out.mono ?_
    rintro ev w6 ⟨⟨ry, rfl, hry⟩, hg6⟩
    obtain ⟨aY, lY, cY, rfl⟩ := rn_sl hry
    have HRBY := Lib.hid (HRB5.out.gr hg6).at_
    have HRY := Lib.hid hry
    have HG6 := Lib.hid (HG5.out.tr hg6)
    clear hry hg6
    rw [← hYe] at HRBY HRY
    clear hYe
  case' inr =>
    have hl0 : (((Dg.digs T0).length : Int) == 0) = false := beq_eq_false_iff_ne.2 (by have := digs_len0 T0; omega)
    have HRY := HR4
    have HRBY := Lib.hid HRB.out.at_
    generalize (Dg.digs T0).length = L4 at *
    clear hT0
    have HG6 := Lib.hid (Gr.rf w4)
    rw [← hYe] at HRBY HRY
    clear hYe
  all_goals
    first
    | have HNW := Lib.hid (newInt_calls neg r1 X w6 (HRA.out.gr HG6.out).at_)
    | have HNW := Lib.hid (newInt_calls neg r1 X w4 (HRA.out.gr HG6.out).at_)
    go_wp2_with fail
    refine HNW.out.mono ?_
    rintro ev w7 ⟨⟨b7, rfl, hr7⟩, hg7⟩
    have HR7 := Lib.hid hr7
    have HG7 := Lib.hid hg7
    clear hr7 hg7
    have HNV := Lib.hid (newInt_calls false _ Y w7 (HRBY.out.gr HG7.out))
    go_wp2_with fail
    refine HNV.out.mono ?_
    rintro ev w8 ⟨⟨b8, rfl, hr8⟩, hg8⟩
    have HR8 := Lib.hid hr8
    have HG8 := Lib.hid hg8
    clear hr8 hg8
    have HGT := Lib.hid (HG04.out.tr (HG6.out.tr (HG7.out.tr HG8.out)))
    have HNR := Lib.hid (newG_calls _ _ (sgn neg X) (sgn false Y) w8 (HBT.out.gr (HG0.out.tr HGT.out)) (HR7.out.gr HG8.out) HR8.out 4 (by rw [sgn_abs]; exact b_B HBS.out) (by rw [sgn_abs]; exact b_B HY.out.2) (by decide))
    go_wp2_with fail
    refine HNR.out.mono ?_
    rintro ev w9 ⟨⟨_, hnw⟩, hg9⟩
    obtain ⟨b9, n9, d9, rfl, hq9⟩ := hnw (by have := HY.out.1; show (Y : Int) ≠ 0; omega)
    have HQ9 := Lib.hid hq9
    have HG9 := Lib.hid hg9
    clear hnw hq9 hg9
    have HRX9 := Lib.hid (HRX.out.gr (HG6.out.tr (HG7.out.tr (HG8.out.tr HG9.out))))
    have hin := rInt_calls neg r3 X w9 HRX9.out
    obtain ⟨sb, hsb⟩ : ∃ sb, sb = (neg && decide (0 < X)) := ⟨_, rfl⟩
    rw [← hsb] at hin
    have HSB := Lib.hid hsb
    have HIN := Lib.hid hin
    clear hin hsb
    go_wp2_with fail
    refine HIN.out.mono ?_
    rintro ev wa ⟨rfl, hga⟩
    have HRXA := Lib.hid (HRX9.out.gr hga)
    obtain ⟨ax, lx, cx, rfl⟩ := rn_sl HRX9.out
    have HRYA := Lib.hid (HRY.out.gr (HG7.out.tr (HG8.out.tr (HG9.out.tr hga))))
    have HGA := Lib.hid (HGT.out.tr (HG9.out.tr hga))
    have HRAT := Lib.hid (HQ9.out.1.gr hga)
    have hba := HGA.out.heap HBK.out
    clear hga
    have y0 := heap_cell hba 0
    have y1 := heap_cell hba 1
    have y2 := heap_cell hba 2
    have g0 := heap_frz hba 0
    have g1 := heap_frz hba 1
    have g2 := heap_frz hba 2
    have HQB := Lib.hid (show QB wa w.heap.size from ⟨⟨_, y0⟩, ⟨_, _, _, y1⟩, ⟨_, _, _, y2⟩⟩)
    have HE := Lib.hid (fun x y z => three_set wa w.heap.size x y z _ _ _ y0 y1 y2 (fun n h => by cases h) (fun n h => by cases h) (fun n h => by cases h))
    clear hba
    go_wp2
    (try simp only [Exit.inBlock, Exit.then])
    refine bodyPost_ret (ret_r _ _ _ _ (HE.out _ _ _).1 _ rfl rfl) rfl ?_
    obtain ⟨t1, t2⟩ := twin_low neg X Y HY.out.1 n9 d9 HQ9.out.2.1 HQ9.out.1.pos HQ9.out.1.cop
    exact ⟨⟨b9, _, _, _, n9, d9, X, Y, rfl, HQB.out.three _ _ _ _ _ _ _ HRAT.out, ⟨show RN _ _ _ from (HE.out _ _ _).2.1 _ _ HRXA.out, show RN _ _ _ from (HE.out _ _ _).2.1 _ _ HRYA.out⟩, HY.out.1, by rw [HSB.out, t1], t2, HBS.out, HY.out.2⟩, (HE.out _ _ _).2.2 w (HG0.out.tr HGA.out) (Nat.le_refl _)⟩
end Go.Proofs.YtcjjgdoafkdeaaaGreatDoor
