/- Layer 4's reference: fractions: Int, (I).Text, Frac, Low by contract. -/
import Derived.Test.YtcjjgdoafkdeaaaGreatDoorWb
import Derived.Deep.RegionHeld3
namespace Go.Proofs.YtcjjgdoafkdeaaaGreatDoor
open Go.RowKit Go.Extern.Stop Go.Stop Go.Extern Go.Sort
set_option linter.unusedVariables false
set_option linter.unusedSimpArgs false

theorem rn_slice {w : World} {v : Value} {n : Nat} (h : RN w v n) : ∃ av lx cv, v = .slice av lx cv ∧ decide (0 < lx) = decide (0 < n) ∧ lx ≤ 9223372036854775807 := by
  have hb : ∀ (a : Option Addr) (l c : Nat), v = .slice a l c → l ≤ 9223372036854775807 := by
    intro a l c e
    rcases (show Lim w v (Dg.digs n) from h).2 with ⟨h2, _⟩ | ⟨g, o, c2, h2, h3, h4, _⟩
    · rw [e] at h2; cases h2; decide
    · rw [e] at h2; cases h2; omega
  obtain ⟨sa, sc, hv⟩ := rn_len h
  refine ⟨sa, _, sc, hv, ?_, hb _ _ _ hv⟩
  rcases Nat.eq_zero_or_pos n with h2 | h2
  · subst h2; rw [Dg.digs_zero]; rfl
  · have := digs_len_pos n h2
    rw [decide_eq_true h2]; exact decide_eq_true (by omega)
theorem ret_intI (w : World) (x y : Value) (tmps : Array Value) (h2 : tmps.getD 4 undef = .pointer (some ⟨w.heap.size, 0, none⟩)) :
    (results Tryz.f67 tmps).run Tryz.prog (w.alloc (.cells #[x, y] 27)) = .ok (.agg #[x, y]) (w.alloc (.cells #[x, y] 27)) := by
  have hblk := heap_alloc_new w (.cells #[x, y] 27)
  have d0 := heap_cell hblk 0
  have d1 := heap_cell hblk 1
  have hl := run_loadVar_mid (P := Tryz.prog) (w.alloc (.cells #[x, y] 27)) w.heap.size 0 27 [x, y] _ (fun j v hj => by
    rcases j with _ | _ | j
    · rw [← hj]; exact d0
    · rw [← hj]; exact d1
    · simp at hj) Tryz.underlying27 rfl (by kernel_rfl)
  generalize w.alloc (.cells #[x, y] 27) = W at hl ⊢
  unfold results
  rw [show Tryz.f67.results = #[.cell 4 27] from rfl]
  have k2 : tmps[4]?.getD undef = .pointer (some ⟨w.heap.size, 0, none⟩) := by simpa using h2
  simp [k2, asAddr, hl, Sem.run_bind, Sem.run_pure]
set_option maxRecDepth 100000 in
set_option maxHeartbeats 4000000 in
/-- rentierref2.Int. -/
theorem rInt_calls (neg : Bool) (v : Value) (n : Nat) (w : World) (h : RN w v n) :
    Calls Tryz.prog 67 #[.bool neg, v] w fun e w' => e = .returned (.agg #[.bool (neg && decide (0 < n)), v]) ∧ Gr w w' := by
  obtain ⟨av, lx, cv, rfl, hd, hmx⟩ := rn_slice h
  generalize decide (0 < n) = dz at hd ⊢
  clear h
  cases neg
  · go_enter Tryz.func67, Tryz.ntmps67
    go_wp2
    (try simp only [Exit.inBlock, Exit.then])
    refine bodyPost_ret (ret_intI _ _ _ _ rfl) rfl ?_
    exact ⟨rfl, (Gr.rf w).alloc (Nat.le_refl _) _⟩
  · cases dz
    all_goals
      go_enter Tryz.func67, Tryz.ntmps67
      go_wp2
      (try simp only [Exit.inBlock, Exit.then])
      refine bodyPost_ret (ret_intI _ _ _ _ rfl) rfl ?_
      exact ⟨rfl, (Gr.rf w).alloc (Nat.le_refl _) _⟩
set_option maxRecDepth 100000 in
set_option maxHeartbeats 4000000 in
/-- (rentierref2.I).Text. -/
theorem rIText_calls (neg : Bool) (v : Value) (n : Nat) (w : World) (h : RN w v n) (k : Nat) (hn : n < Dg.D ^ k) (hk : k ≤ 250) (X : ByteArray) (hX : X = ⟨(if neg then 45 :: Lib.decDigits n else Lib.decDigits n).toArray⟩) :
    Calls Tryz.prog 28 #[.agg #[.bool neg, v]] w fun e w' => e = .returned (.string X) ∧ Gr w w' := by
  obtain ⟨Y, hY⟩ : ∃ Y : ByteArray, Y = ⟨(Lib.decDigits n).toArray⟩ := ⟨_, rfl⟩
  have hsz : Y.size ≤ 9 * 250 := by
    rw [hY, Lib.size_eq]
    exact nd_le (9 * 250) _ (by omega) (Nat.lt_of_lt_of_le (b_up hn hk) (Nat.le_of_eq (D_pow 250)))
  have HRT := Lib.hid (fun w' (hg : Gr w w') => r_text (w := w') (h.gr hg) hn hk hY)
  have hblk := heap_alloc_new w (.cells #[.bool neg, v] 27)
  have c0 := heap_cell hblk 0
  have c1 := heap_cell hblk 1
  have HGA : Hid (Gr w (w.alloc (.cells #[.bool neg, v] 27))) := Lib.hid ((Gr.rf w).alloc (Nat.le_refl _) _)
  have HXY := Lib.hid (And.intro hX hY)
  rw [show (#[Value.bool neg, v] : Array Value)[0]? = some (.bool neg) from rfl] at c0
  rw [show (#[Value.bool neg, v] : Array Value)[1]? = some v from rfl] at c1
  clear hblk h hX hY hn
  have HT := Lib.hid (HRT.out _ HGA.out)
  cases neg
  · go_enter Tryz.func28, Tryz.ntmps28
    go_wp2_with (go_at_call 81; (with_reducible refine HT.out.mono ?_); rintro ev w2 ⟨rfl, hg2⟩; have HG2 := Lib.hid hg2; clear hg2)
    go_ret
    exact ⟨ret_str (by rw [HXY.out.1, HXY.out.2]; rfl), HGA.out.tr HG2.out⟩
  · go_enter Tryz.func28, Tryz.ntmps28
    go_wp2_with (go_at_call 81; (with_reducible refine HT.out.mono ?_); rintro ev w2 ⟨rfl, hg2⟩; have HG2 := Lib.hid hg2; clear hg2)
    go_ret
    refine ⟨ret_str ?_, HGA.out.tr HG2.out⟩
    apply ba_ext
    rw [byte_cons, HXY.out.1, HXY.out.2]; rfl

theorem size_al (w : World) (o : Obj) : (w.alloc o).heap.size = w.heap.size + 1 := by
  show (w.heap.push o).size = _
  exact Array.size_push _
theorem three_set (W : World) (q : Nat) (x y z u0 u1 u2 : Value) (c0 : W.cell? ⟨q, 0, none⟩ = some u0) (c1 : W.cell? ⟨q, 1, none⟩ = some u1) (c2 : W.cell? ⟨q, 2, none⟩ = some u2) (h0 : ∀ n, u0 ≠ U n) (h1 : ∀ n, u1 ≠ U n) (h2 : ∀ n, u2 ≠ U n) :
    (((W.setCell ⟨q, 0, none⟩ x).setCell ⟨q, 1, none⟩ y).setCell ⟨q, 2, none⟩ z).rangeAt q 0 [x, y, z] ∧ (∀ v l, Lim W v l → Lim (((W.setCell ⟨q, 0, none⟩ x).setCell ⟨q, 1, none⟩ y).setCell ⟨q, 2, none⟩ z) v l) ∧ (∀ w : World, Gr w W → w.heap.size ≤ q → Gr w (((W.setCell ⟨q, 0, none⟩ x).setCell ⟨q, 1, none⟩ y).setCell ⟨q, 2, none⟩ z)) := by
  have e01 : (W.setCell ⟨q, 0, none⟩ x).cell? ⟨q, 1, none⟩ = some u1 := by rw [World.cell?_setCell_other _ _ _ _ (by simp), c1]
  have e02 : (W.setCell ⟨q, 0, none⟩ x).cell? ⟨q, 2, none⟩ = some u2 := by rw [World.cell?_setCell_other _ _ _ _ (by simp), c2]
  have e12 : ((W.setCell ⟨q, 0, none⟩ x).setCell ⟨q, 1, none⟩ y).cell? ⟨q, 2, none⟩ = some u2 := by rw [World.cell?_setCell_other _ _ _ _ (by simp), e02]
  refine ⟨?_, fun v l h => lim_setw (lim_setw (lim_setw h _ _ _ c0 h0) _ _ _ e01 h1) _ _ _ e12 h2, fun w hg hq => Gr.setCell (Gr.setCell (Gr.setCell hg hq _) hq _) hq _⟩
  intro j v hj
  rcases j with _ | _ | _ | j
  · rw [← hj, World.cell?_setCell_other _ _ _ _ (by simp), World.cell?_setCell_other _ _ _ _ (by simp)]
    exact World.cell?_setCell_same _ _ _ (by rw [c0])
  · rw [← hj, World.cell?_setCell_other _ _ _ _ (by simp)]
    exact World.cell?_setCell_same _ _ _ (by rw [e01])
  · rw [← hj]
    exact World.cell?_setCell_same _ _ _ (by rw [e12])
  · simp at hj
def FracS (w : World) (q bx : Nat) (vx vy : Value) (n d : Nat) (sx sy : Bool) (W : World) : Prop :=
  Gr w W ∧ (RN W vx n ∧ RN W vy d) ∧ (bx + 1 < W.heap.size ∧ q < W.heap.size) ∧
    (W.cell? ⟨bx, 0, none⟩ = some (.bool sx) ∧ W.cell? ⟨bx, 1, none⟩ = some vx ∧ W.cell? ⟨bx + 1, 0, none⟩ = some (.bool sy) ∧ W.cell? ⟨bx + 1, 1, none⟩ = some vy) ∧
    (∀ j, j < 3 → W.frozen? ⟨q, j, none⟩ = false ∧ ∃ u, W.cell? ⟨q, j, none⟩ = some u ∧ ∀ n, u ≠ U n)
theorem FracS.all {w : World} {q bx : Nat} {vx vy : Value} {n d : Nat} {sx sy : Bool} {W : World} (h : FracS w q bx vx vy n d sx sy W) : FracS w q bx vx vy n d sx sy W ∧ W.cell? ⟨bx, 0, none⟩ = some (.bool sx) ∧ W.cell? ⟨bx, 1, none⟩ = some vx ∧ W.cell? ⟨bx + 1, 0, none⟩ = some (.bool sy) ∧ W.cell? ⟨bx + 1, 1, none⟩ = some vy := ⟨h, h.2.2.2.1⟩
theorem FracS.gr {w : World} {q bx : Nat} {vx vy : Value} {n d : Nat} {sx sy : Bool} {W W' : World} (h : FracS w q bx vx vy n d sx sy W) (hg : Gr W W') : FracS w q bx vx vy n d sx sy W' := by
  obtain ⟨h1, ⟨h2, h3⟩, ⟨h4, h5⟩, ⟨h6, h7, h8, h9⟩, h10⟩ := h
  have hsz := hg.size
  refine ⟨h1.tr hg, ⟨h2.gr hg, h3.gr hg⟩, ⟨by omega, by omega⟩, ⟨?_, ?_, ?_, ?_⟩, fun j hj => ?_⟩
  · rw [Below.cell hg (p := ⟨bx, 0, none⟩) (by show bx < _; omega)]; exact h6
  · rw [Below.cell hg (p := ⟨bx, 1, none⟩) (by show bx < _; omega)]; exact h7
  · rw [Below.cell hg (p := ⟨bx + 1, 0, none⟩) h4]; exact h8
  · rw [Below.cell hg (p := ⟨bx + 1, 1, none⟩) h4]; exact h9
  · obtain ⟨a, u, b, c⟩ := h10 j hj
    exact ⟨by rw [Below.frozen hg (p := ⟨q, j, none⟩) h5]; exact a, u, by rw [Below.cell hg (p := ⟨q, j, none⟩) h5]; exact b, c⟩
theorem FracS.set {w : World} {q bx : Nat} {vx vy : Value} {n d : Nat} {sx sy : Bool} {W : World} (h : FracS w q bx vx vy n d sx sy W) (i : Nat) (hi : i < 3) (y : Value) (hy : ∀ n, y ≠ U n) (hq : w.heap.size ≤ q) (hb : q < bx) : FracS w q bx vx vy n d sx sy (W.setCell ⟨q, i, none⟩ y) := by
  obtain ⟨h1, ⟨h2, h3⟩, ⟨h4, h5⟩, ⟨h6, h7, h8, h9⟩, h10⟩ := h
  obtain ⟨a, u, b, c⟩ := h10 i hi
  refine ⟨Gr.setCell h1 hq _, ⟨lim_setw h2 _ _ _ b c, lim_setw h3 _ _ _ b c⟩, ⟨by rw [World.size_setCell]; exact h4, by rw [World.size_setCell]; exact h5⟩, ⟨?_, ?_, ?_, ?_⟩, fun j hj => ?_⟩
  · rw [World.cell?_setCell_other _ _ _ _ (by simp <;> omega)]; exact h6
  · rw [World.cell?_setCell_other _ _ _ _ (by simp <;> omega)]; exact h7
  · rw [World.cell?_setCell_other _ _ _ _ (by simp <;> omega)]; exact h8
  · rw [World.cell?_setCell_other _ _ _ _ (by simp <;> omega)]; exact h9
  · obtain ⟨a2, u2, b2, c2⟩ := h10 j hj
    refine ⟨by rw [World.frozen?_setCell]; exact a2, ?_⟩
    by_cases e : j = i
    · subst e
      exact ⟨y, World.cell?_setCell_same _ _ _ (by rw [b2]), hy⟩
    · exact ⟨u2, by rw [World.cell?_setCell_other _ _ _ _ (by simp <;> omega)]; exact b2, c2⟩
theorem FracS.set3 {w : World} {q bx : Nat} {vx vy : Value} {n d : Nat} {sx sy : Bool} {W : World} (h : FracS w q bx vx vy n d sx sy W) (x y z : Value) (hx : ∀ n, x ≠ U n) (hy : ∀ n, y ≠ U n) (hz : ∀ n, z ≠ U n) (hq : w.heap.size ≤ q) (hb : q < bx) : FracS w q bx vx vy n d sx sy (((W.setCell ⟨q, 0, none⟩ x).setCell ⟨q, 1, none⟩ y).setCell ⟨q, 2, none⟩ z) :=
  FracS.set (FracS.set (FracS.set h 0 (by decide) x hx hq hb) 1 (by decide) y hy hq hb) 2 (by decide) z hz hq hb
theorem ret_frac {W : World} {bb : Nat} (x y z : Value) (hW : W.rangeAt bb 0 [x, y, z]) (tmps : Array Value) (h2 : tmps.getD 4 undef = .pointer (some ⟨bb, 0, none⟩)) :
    (results Tryz.f41 tmps).run Tryz.prog W = .ok (.agg #[x, y, z]) W := by
  have hl := run_loadVar_mid (P := Tryz.prog) W bb 0 29 [x, y, z] _ hW Tryz.underlying29 rfl (by kernel_rfl)
  unfold results
  rw [show Tryz.f41.results = #[.cell 4 29] from rfl]
  have k2 : tmps[4]?.getD undef = .pointer (some ⟨bb, 0, none⟩) := by simpa using h2
  simp [k2, asAddr, hl, Sem.run_bind, Sem.run_pure]
set_option maxRecDepth 100000 in
set_option maxHeartbeats 8000000 in
/-- rentierref2.Frac. -/
theorem rFrac_calls (n d : Int) (n0 : -9223372036854775808 ≤ n) (n1 : n ≤ 9223372036854775807) (d0 : -9223372036854775808 ≤ d) (d1 : d ≤ 9223372036854775807) (w : World) :
    Calls Tryz.prog 41 #[.int .i64 n, .int .i64 d] w fun e w' => (∃ sb va vb, e = .returned (.agg #[.bool sb, va, vb]) ∧ (sb = ((decide (n < 0) != decide (d < 0)) && decide (0 < n.natAbs)) ∧ RN w' va n.natAbs ∧ RN w' vb d.natAbs)) ∧ Gr w w' := by
  have HOX := Lib.hid (fun w' => rOf_calls n (by omega) (by omega) w')
  have HOY := Lib.hid (fun w' => rOf_calls d (by omega) (by omega) w')
  have HGQ : Hid (Gr w (w.alloc (.cells #[.bool false, .slice none 0 0, .slice none 0 0] 29))) := Lib.hid ((Gr.rf w).alloc (Nat.le_refl _) _)
  have HQB := Lib.hid (heap_alloc_new w (.cells #[.bool false, .slice none 0 0, .slice none 0 0] 29))
  generalize decide (n < 0) = sx at *
  generalize decide (d < 0) = sy at *
  clear n0 n1 d0 d1
  obtain ⟨dz, hdz⟩ : ∃ dz, dz = decide (0 < n.natAbs) := ⟨_, rfl⟩
  have HDZ := Lib.hid hdz
  rw [← hdz]
  clear hdz
  go_enter Tryz.func41, Tryz.ntmps41
  go_wp2_with fail
  refine (HOX.out _).mono ?_
  rintro ev w1 ⟨⟨vx, rfl, hvx⟩, hg1⟩
  obtain ⟨ax, cx, rfl⟩ := rn_len hvx
  generalize (Dg.digs n.natAbs).length = lx at hvx ⊢
  have HVX := Lib.hid hvx
  have HG1 := Lib.hid hg1
  clear hvx hg1
  go_wp2_with fail
  refine (HOY.out _).mono ?_
  rintro ev w2 ⟨⟨vy, rfl, hvy⟩, hg2⟩
  obtain ⟨ay, cy, rfl⟩ := rn_len hvy
  generalize (Dg.digs d.natAbs).length = ly at hvy ⊢
  have HVY := Lib.hid hvy
  have HG2 := Lib.hid hg2
  clear hvy hg2
  go_wp2_with fail
  have hbx := heap_alloc_new w2 (.cells #[.bool sx, .slice ax lx cx] 27)
  have hby := heap_alloc_new (w2.alloc (.cells #[.bool sx, .slice ax lx cx] 27)) (.cells #[.bool sy, .slice ay ly cy] 27)
  have hga : Gr w2 (w2.alloc (.cells #[.bool sx, .slice ax lx cx] 27)) := (Gr.rf w2).alloc (Nat.le_refl _) _
  have hgb : Gr (w2.alloc (.cells #[.bool sx, .slice ax lx cx] 27)) ((w2.alloc (.cells #[.bool sx, .slice ax lx cx] 27)).alloc (.cells #[.bool sy, .slice ay ly cy] 27)) := (Gr.rf _).alloc (Nat.le_refl _) _
  have hbx := hgb.heap hbx
  rw [size_al w2 _] at hby
  have HGZ := Lib.hid (hga.tr hgb)
  clear hga hgb
  generalize (w2.alloc (.cells #[.bool sx, .slice ax lx cx] 27)).alloc (.cells #[.bool sy, .slice ay ly cy] 27) = wz at *
  have hbq := HG1.out.tr (HG2.out.tr HGZ.out) |>.heap HQB.out
  have HVXz := Lib.hid (HVX.out.gr (HG2.out.tr HGZ.out))
  have HVYz := Lib.hid (HVY.out.gr HGZ.out)
  have HGW := Lib.hid (HGQ.out.tr (HG1.out.tr (HG2.out.tr HGZ.out)))
  have HIN := Lib.hid (fun w' (hg : Gr wz w') => rInt_calls (!(sx == sy)) (.slice ax lx cx) n.natAbs w' (HVXz.out.gr hg))
  have HST : Hid (∀ w', Gr wz w' → (Gr wz w' ∧ w'.cell? ⟨w2.heap.size, 0, none⟩ = some (.bool sx) ∧ w'.cell? ⟨w2.heap.size, 1, none⟩ = some (.slice ax lx cx) ∧ w'.cell? ⟨w2.heap.size + 1, 0, none⟩ = some (.bool sy) ∧ w'.cell? ⟨w2.heap.size + 1, 1, none⟩ = some (.slice ay ly cy) ∧ w'.cell? ⟨w.heap.size, 0, none⟩ = some (.bool false) ∧ w'.cell? ⟨w.heap.size, 1, none⟩ = some (.slice none 0 0) ∧ w'.cell? ⟨w.heap.size, 2, none⟩ = some (.slice none 0 0) ∧ w'.frozen? ⟨w.heap.size, 0, none⟩ = false ∧ w'.frozen? ⟨w.heap.size, 1, none⟩ = false ∧ w'.frozen? ⟨w.heap.size, 2, none⟩ = false)) := Lib.hid (fun w' hg => ⟨hg, heap_cell (hg.heap hbx) 0, heap_cell (hg.heap hbx) 1, heap_cell (hg.heap hby) 0, heap_cell (hg.heap hby) 1, heap_cell (hg.heap hbq) 0, heap_cell (hg.heap hbq) 1, heap_cell (hg.heap hbq) 2, heap_frz (hg.heap hbq) 0, heap_frz (hg.heap hbq) 1, heap_frz (hg.heap hbq) 2⟩)
  have hwq : w.heap.size < w2.heap.size := by
    have a1 := HG1.out.size
    have a2 := HG2.out.size
    rw [size_al] at a1
    omega
  have hzs : w2.heap.size + 1 < wz.heap.size := by
    rcases Nat.lt_or_ge (w2.heap.size + 1) wz.heap.size with h | h
    · exact h
    · rw [Array.getElem?_eq_none h] at hby; cases hby
  have hS : FracS w w.heap.size w2.heap.size (.slice ax lx cx) (.slice ay ly cy) n.natAbs d.natAbs sx sy wz := ⟨HGW.out, ⟨HVXz.out, HVYz.out⟩, ⟨hzs, by omega⟩, ⟨heap_cell hbx 0, heap_cell hbx 1, heap_cell hby 0, heap_cell hby 1⟩, fun j hj => by
    rcases j with _ | _ | _ | j
    · exact ⟨heap_frz hbq 0, _, heap_cell hbq 0, fun n h => by cases h⟩
    · exact ⟨heap_frz hbq 1, _, heap_cell hbq 1, fun n h => by cases h⟩
    · exact ⟨heap_frz hbq 2, _, heap_cell hbq 2, fun n h => by cases h⟩
    · omega⟩
  have HNQ := Lib.hid hwq
  have hsd : FracS w w.heap.size w2.heap.size (.slice ax lx cx) (.slice ay ly cy) n.natAbs d.natAbs sx sy wz.drew := FracS.gr hS (Gr.drew (Gr.rf wz) 1)
  have HSD := Lib.hid hsd
  have hin2 := (fun w' (h : FracS w w.heap.size w2.heap.size (.slice ax lx cx) (.slice ay ly cy) n.natAbs d.natAbs sx sy w') => rInt_calls (!(sx == sy)) (.slice ax lx cx) n.natAbs w' h.2.1.1)
  rw [← HDZ.out] at hin2
  have HIN2 := Lib.hid hin2
  clear hbx hby hbq hwq hzs hS hsd HST HIN hin2
  go_region_held3 (fun w' => FracS w w.heap.size w2.heap.size (.slice ax lx cx) (.slice ay ly cy) n.natAbs d.natAbs sx sy w' ∧ w'.cell? ⟨w2.heap.size, 0, none⟩ = some (.bool sx) ∧ w'.cell? ⟨w2.heap.size, 1, none⟩ = some (.slice ax lx cx) ∧ w'.cell? ⟨w2.heap.size + 1, 0, none⟩ = some (.bool sy) ∧ w'.cell? ⟨w2.heap.size + 1, 1, none⟩ = some (.slice ay ly cy))
    (first | exact HSD.out.all | exact hs3.all | exact (FracS.set3 hs3 _ _ _ (fun n h => by cases h) (fun n h => by cases h) (fun n h => by cases h) (Nat.le_refl _) HNQ.out).all | fail)
    (first | (go_at_call 67; go_split_ands; refine (HIN2.out _ (by assumption)).mono ?_; rintro ev w3 ⟨rfl, hg3'⟩; have hs3 := FracS.gr (by assumption) hg3'; obtain ⟨f0, u0, c0, k0⟩ := hs3.2.2.2.2 0 (by decide); obtain ⟨f1, u1, c1, k1⟩ := hs3.2.2.2.2 1 (by decide); obtain ⟨f2, u2, c2, k2⟩ := hs3.2.2.2.2 2 (by decide)))
  go_wp2
  (try simp only [Exit.inBlock, Exit.then])
  have HE := Lib.hid (three_set w3 w.heap.size (.bool (!(sx == sy) && dz)) (.slice ax lx cx) (.slice ay ly cy) _ _ _ c0 c1 c2 k0 k1 k2)
  refine bodyPost_ret (ret_frac _ _ _ HE.out.1 _ rfl) rfl ?_
  exact ⟨⟨_, _, _, rfl, rfl, show RN _ _ _ from HE.out.2.1 _ _ hs3.2.1.1, show RN _ _ _ from HE.out.2.1 _ _ hs3.2.1.2⟩, HE.out.2.2 w hs3.1 (Nat.le_refl _)⟩
end Go.Proofs.YtcjjgdoafkdeaaaGreatDoor
