/- Layer 3's reference: GetI, an integer's Text, by contract. -/
import Derived.Test.YtcjjgdoafkdeaaaGreatDoorQg
import Derived.Deep.MidRow
namespace Go.Proofs.YtcjjgdoafkdeaaaGreatDoor
open Go.RowKit Go.Extern.Stop Go.Stop Go.Extern Go.Sort
set_option linter.unusedVariables false
set_option linter.unusedSimpArgs false

theorem heap_fr {w : World} {b : Nat} {cs : Array Value} {t : TypeId} (h : w.heap[b]? = some (.cells cs t (0, 0))) (i : Nat) : w.frozen? ⟨b, i, none⟩ = false := frozen_of_row w b i cs t h
theorem gr_al {W w : World} {o : Obj} (h : Gr W w) : Gr W (w.alloc o) := Gr.tr h ((Gr.rf w).alloc (Nat.le_refl _) _)
/-- A store over what is no limb. -/
theorem lim_set {w : World} {v : Value} {l : List Nat} (h : Lim w v l) (p : Addr) (u x : Value) (hp : w.cell? p = some x) (hx : ∀ n, x ≠ U n) : Lim (w.setCell p u) v l := by
  refine ⟨h.1, ?_⟩
  rcases h.2 with h1 | ⟨g, o, c, hv, hc, hm, hl, hcell⟩
  · exact .inl h1
  · refine .inr ⟨g, o, c, hv, hc, hm, by rw [World.size_setCell]; exact hl, fun i hi => ?_⟩
    rw [World.cell?_setCell_other w p _ u (fun e => hx l[i] (by
      have h2 := hcell i hi
      rw [← e, hp] at h2
      injection h2))]
    exact hcell i hi
theorem digs_len0 (n : Nat) : (Dg.digs n).length = 0 ↔ n = 0 := by
  constructor
  · intro h
    have := Dg.val_digs n
    rw [List.eq_nil_of_length_eq_zero h] at this
    exact this.symm
  · rintro rfl; rw [Dg.digs_zero]; rfl
set_option maxRecDepth 100000 in
set_option maxHeartbeats 4000000 in
/-- The Text of an integer of the reference. -/
theorem itext_calls (neg : Bool) (v : Value) (n : Nat) (w : World) (h : RN w v n) (hn : n < Dg.D ^ 500) :
    Calls Tryz.prog 28 #[.agg #[.bool neg, v]] w fun e w' => e = .returned (.string ⟨(if neg then 45 :: Lib.decDigits n else Lib.decDigits n).toArray⟩) ∧ Gr w w' := by
  have HRT := Lib.hid (fun w' (hg : Gr w w') => rtext_calls v n w' (h.gr hg) hn)
  obtain ⟨a, c, rfl⟩ := Lim.slice h
  obtain ⟨X, hX⟩ : ∃ X : ByteArray, X = ⟨(Lib.decDigits n).toArray⟩ := ⟨_, rfl⟩
  rw [← hX] at HRT
  have hsz : X.size ≤ 9 * 500 := by
    rw [hX, Lib.size_eq]
    exact nd_le (9 * 500) _ (by omega) (Nat.lt_of_lt_of_le hn (Nat.le_of_eq (D_pow 500)))
  have HX := Lib.hid hX
  clear hX h hn
  cases neg
  all_goals
    go_enter Tryz.func28, Tryz.ntmps28
    go_wp2_with (go_at_call 81; (with_reducible refine (HRT.out _ ((Gr.rf w).alloc (Nat.le_refl _) _)).mono ?_); rintro ev w1 ⟨rfl, hg1⟩)
    go_ret
    refine ⟨ret_str ?_, Gr.tr ((Gr.rf w).alloc (Nat.le_refl _) _) hg1⟩
    rw [HX.out]
    try (apply ba_ext; rw [ByteArray.data_append, Array.toList_append]; rfl)
theorem ret_pair {w2 : World} {bb : Nat} {u0 u1 x y z : Value} (c0 : w2.cell? ⟨bb, 0, none⟩ = some u0) (c1 : w2.cell? ⟨bb, 1, none⟩ = some u1) (tmps : Array Value) (h2 : tmps.getD 2 undef = .pointer (some ⟨bb, 0, none⟩)) (h3 : tmps.getD 3 undef = z) :
    (results Tryz.f95 tmps).run Tryz.prog ((w2.setCell ⟨bb, 0, none⟩ x).setCell ⟨bb, 1, none⟩ y) = .ok (.tuple #[.agg #[x, y], z]) ((w2.setCell ⟨bb, 0, none⟩ x).setCell ⟨bb, 1, none⟩ y) := by
  have d0 : ((w2.setCell ⟨bb, 0, none⟩ x).setCell ⟨bb, 1, none⟩ y).cell? ⟨bb, 0, none⟩ = some x := by
    rw [World.cell?_setCell_other _ _ _ _ (by simp)]
    exact World.cell?_setCell_same _ _ _ (by rw [c0])
  have d1 : ((w2.setCell ⟨bb, 0, none⟩ x).setCell ⟨bb, 1, none⟩ y).cell? ⟨bb, 1, none⟩ = some y :=
    World.cell?_setCell_same _ _ _ (by rw [World.cell?_setCell_other _ _ _ _ (by simp), c1])
  have hl := run_loadVar_mid (P := Tryz.prog) ((w2.setCell ⟨bb, 0, none⟩ x).setCell ⟨bb, 1, none⟩ y) bb 0 27 [x, y] _ (fun j v hj => by
    rcases j with _ | _ | j
    · rw [← hj]; exact d0
    · rw [← hj]; exact d1
    · simp at hj) Tryz.underlying27 rfl (by kernel_rfl)
  generalize (w2.setCell ⟨bb, 0, none⟩ x).setCell ⟨bb, 1, none⟩ y = W at hl ⊢
  unfold results
  rw [show Tryz.f95.results = #[.cell 2 27, .tmp 3] from rfl]
  have k2 : tmps[2]?.getD undef = .pointer (some ⟨bb, 0, none⟩) := by simpa using h2
  have k3 : tmps[3]?.getD undef = z := by simpa using h3
  simp [k2, k3, asAddr, hl, Sem.run_bind, Sem.run_pure]
set_option maxRecDepth 100000 in
set_option maxHeartbeats 4000000 in
/-- rentierref2.GetI. -/
theorem rgetI_calls (s t : ByteArray) (neg : Bool) (w : World) (hs : s.size ≤ 9223372036854775807) (h : Parts s t neg) :
    Calls Tryz.prog 95 #[.string s] w fun e w' => ((IntT t neg → ∃ v, e = .returned (.tuple #[.agg #[.bool neg, v], .bool true]) ∧ RN w' v (dv t.data.toList)) ∧ (¬ IntT t neg → e = .returned (.tuple #[.agg #[.bool false, .slice none 0 0], .bool false]))) ∧ Gr w w' := by
  have HP := Lib.hid h
  have HGN := Lib.hid (fun w => rgetN_calls t w)
  by_cases hz : s.size = 0
  case' pos =>
    have e1 : s.toList.isEmpty = true := by
      rw [ByteArray.toList_eq, List.eq_nil_of_length_eq_zero (l := s.data.toList) (by rw [← Lib.size_eq]; exact hz)]; rfl
    obtain ⟨rfl, rfl⟩ : neg = false ∧ t = s := by
      rcases h with ⟨_, h1, _⟩ | ⟨h1, h2, _⟩
      · omega
      · exact ⟨h1, h2⟩
  case' neg =>
    have hpos : 0 < s.size := by omega
    have e1 : s.toList.isEmpty = false := by
      rw [ByteArray.toList_eq]
      cases hc : s.data.toList with
      | nil => rw [Lib.size_eq, hc] at hz; simp at hz
      | cons a l => rfl
    have e2 : (neg = true ∧ (((s[0]'hpos).toNat : Int) == 45) = true ∧ s.extract 1 s.size = t) ∨ (neg = false ∧ (((s[0]'hpos).toNat : Int) == 45) = false ∧ t = s) := by
      rcases h with ⟨h1, h2, h3, h4⟩ | ⟨h1, h2, h3⟩
      · exact .inl ⟨h1, beq_iff_eq.2 (by omega), h4.symm⟩
      · exact .inr ⟨h1, beq_eq_false_iff_ne.2 (by have := h3 hpos; omega), h2⟩
    have hp1 : (1 : Int) ≤ (s.size : Int) := by omega
    rcases e2 with ⟨rfl, e2, e3⟩ | ⟨rfl, e2, rfl⟩
  all_goals
    clear h
    go_enter Tryz.func95, Tryz.ntmps95
    go_wp2_with fail
    refine (HGN.out _).mono ?_
    rintro ev w2 ⟨hr, hg2⟩
    have hblk := heap_alloc_new w (.cells #[.bool false, .slice none 0 0] 27)
    have HG2 := Lib.hid (Gr.tr ((Gr.rf w).alloc (Nat.le_refl _) _) hg2)
    have hb2 := hg2.heap hblk
    have hbs : w.heap.size < w2.heap.size := heap_lt hb2
    have c0 := heap_cell hb2 0
    have c1 := heap_cell hb2 1
    have f0 := heap_fr hb2 0
    have f1 := heap_fr hb2 1
    clear hblk hg2 hb2
    by_cases hN : NumT t
    · obtain ⟨v, rfl, hv⟩ := hr.1 hN
      obtain ⟨a, c, rfl⟩ := Lim.slice hv
      have HV := Lib.hid hv
      have HN := Lib.hid hN
      by_cases hm : dv t.data.toList = 0
      · have hl : (((Dg.digs (dv t.data.toList)).length : Int) == 0) = true := beq_iff_eq.2 (by rw [(digs_len0 _).2 hm]; rfl)
        have HM0 := Lib.hid hm
        clear hr hv hN hm
        generalize (Dg.digs (dv t.data.toList)).length = L at *
        go_wp2
        (try simp only [Exit.inBlock, Exit.then])
        refine bodyPost_ret (ret_pair c0 c1 _ rfl rfl) rfl ?_
        first
        | exact ⟨⟨fun h => absurd HM0.out (h.2 rfl), fun _ => rfl⟩, Gr.setCell (Gr.setCell HG2.out (Nat.le_refl _) _) (Nat.le_refl _) _⟩
        | exact ⟨⟨fun _ => ⟨_, rfl, lim_set (lim_set HV.out _ _ _ c0 (fun n h => by cases h)) _ _ _ ((World.cell?_setCell_other _ _ _ _ (by simp)).trans c1) (fun n h => by cases h)⟩, fun h => absurd ⟨HN.out, fun h => by cases h⟩ h⟩, Gr.setCell (Gr.setCell HG2.out (Nat.le_refl _) _) (Nat.le_refl _) _⟩
      · have hl : (((Dg.digs (dv t.data.toList)).length : Int) == 0) = false := beq_eq_false_iff_ne.2 (by have := digs_len0 (dv t.data.toList); omega)
        have HM0 := Lib.hid hm
        clear hr hv hN hm
        generalize (Dg.digs (dv t.data.toList)).length = L at *
        go_wp2
        (try simp only [Exit.inBlock, Exit.then])
        refine bodyPost_ret (ret_pair c0 c1 _ rfl rfl) rfl ?_
        exact ⟨⟨fun _ => ⟨_, rfl, lim_set (lim_set HV.out _ _ _ c0 (fun n h => by cases h)) _ _ _ ((World.cell?_setCell_other _ _ _ _ (by simp)).trans c1) (fun n h => by cases h)⟩, fun h => absurd ⟨HN.out, fun _ => HM0.out⟩ h⟩, Gr.setCell (Gr.setCell HG2.out (Nat.le_refl _) _) (Nat.le_refl _) _⟩
    · obtain rfl := hr.2 hN
      have HN := Lib.hid hN
      clear hr hN
      go_wp2
      (try simp only [Exit.inBlock, Exit.then])
      refine bodyPost_ret (ret_pair c0 c1 _ rfl rfl) rfl ?_
      exact ⟨⟨fun h => absurd h.1 HN.out, fun _ => rfl⟩, Gr.setCell (Gr.setCell HG2.out (Nat.le_refl _) _) (Nat.le_refl _) _⟩
end Go.Proofs.YtcjjgdoafkdeaaaGreatDoor
