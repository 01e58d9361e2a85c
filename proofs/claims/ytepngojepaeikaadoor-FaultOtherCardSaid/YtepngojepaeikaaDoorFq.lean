/- Layer 1: errors.New; errors.Join of two. -/
import Derived.Test.YtepngojepaeikaaDoorFn
namespace Go.Proofs.YtepngojepaeikaaDoor
open Go.RowKit Go.Extern.Stop Go.Stop Go.Extern
set_option linter.unusedVariables false
set_option linter.unusedSimpArgs false

theorem enew_calls (s : ByteArray) (w : World) : Calls Tryd.prog 22 #[.string s] w fun ev w' => ev = .returned (.iface 66 (.pointer (some ⟨w.heap.size, 0, none⟩))) ∧
    w' = w.alloc (.cells #[.string s] 68) := by
  go_enter Tryd.func22, Tryd.ntmps22
  go_wp2
  go_ret
  exact ⟨rfl, rfl⟩

theorem Tryd.infoErr : (Tryd.prog.info? 24).map (fun i => (i.zero, i.size, i.bytes)) = some (some .nilIface, 1, 16) := by kernel_rfl

/-- Two errors joined, in memory. -/
structure JoinAt (w : World) (v : Value) (v1 v2 : Value) : Prop where
  at_ : ∃ b r B, v = .iface 70 (.pointer (some ⟨b, 0, none⟩)) ∧ w.heap[b]? = some (.cells #[r] 72 (0, 0)) ∧ w.ownsRow B 24 1 r 2 [v1, v2]
theorem JoinAt.gr {w w' : World} (hg : Gr w w') {v v1 v2 : Value} (h : JoinAt w v v1 v2) : JoinAt w' v v1 v2 := by
  obtain ⟨b, r, B, hv, hb, hown⟩ := h.at_
  refine ⟨b, r, B, hv, hg.heap hb, hown.1, ?_⟩
  rcases hown.2 with h | ⟨g, cap, cur, h1, h2, h3, h4⟩
  · exact .inl h
  · exact .inr ⟨g, cap, cur, h1, h2, hg.heap h3, h4⟩

set_option maxHeartbeats 4000000 in
set_option maxRecDepth 100000 in
theorem join_calls (g : Nat) (u1 u2 : TypeId) (x1 x2 : Value) (w : World) (h0 : w.cell? ⟨g, 0, none⟩ = some (.iface u1 x1)) (h1 : w.cell? ⟨g, 1, none⟩ = some (.iface u2 x2)) :
    Calls Tryd.prog 23 #[.slice (some ⟨g, 0, none⟩) 2 2] w fun ev w' => ∃ b, ev = .returned (.iface 70 (.pointer (some ⟨b, 0, none⟩))) ∧ w.heap.size ≤ b ∧
      JoinAt w' (.iface 70 (.pointer (some ⟨b, 0, none⟩))) (.iface u1 x1) (.iface u2 x2) ∧ Gr w w' := by
  obtain ⟨i0, hi, hz0, hz1, hz2⟩ := info_parts Tryd.infoErr
  have hmk : ∀ w, (Instr.makeSlice 69 (.int .i64 0) (.int .i64 2)).run Tryd.prog w = .ok (.slice (some ⟨w.heap.size, 0, none⟩) 0 2) (w.alloc (.cells #[.nilIface, .nilIface] 24)) := fun _ => by kernel_rfl
  have hgl : g < w.heap.size := World.block_lt_of_cell? w _ h0
  go_enter Tryd.func23, Tryd.ntmps23
  go_wp2
  refine wp_loop_rounds 3 ?_
  rw [rounds_succ]
  go_wp2
  rw [rounds_succ]
  go_wp2
  rw [rounds_succ]
  go_wp2
  clear hmk
  go_loopg [28] 2 (fun k i wr => ∃ (j : Nat) (r : Value), k = 2 - j ∧ j ≤ 2 ∧ i = .int .i64 j ∧ wr.heap[w.heap.size + 1]? = some (.cells #[r] 72 (0, 0)) ∧ wr.ownsRow w.heap.size 24 1 r j (([.iface u1 x1, .iface u2 x2] : List Value).take j) ∧ Gr w wr)
  case atStart =>
    refine ⟨0, .slice (some ⟨w.heap.size, 0, none⟩) 0 2, rfl, by omega, rfl, ?_, ?_, by go_grown⟩
    · have := heap_alloc_new (w.alloc (.cells #[.nilIface, .nilIface] 24)) (.cells #[.slice (some ⟨w.heap.size, 0, none⟩) 0 2] 72); simpa using this
    · exact (World.ownsRow_made w #[.nilIface, .nilIface] 2 (Nat.le_refl _) (by unfold maxLen; omega) rfl).alloc _
  case round =>
    obtain ⟨j, r, hk, hj, rfl, hb, hown, hgr⟩ := hrel
    have HK := Lib.hid hk
    have c0 : wr.cell? ⟨g, 0, none⟩ = some (.iface u1 x1) := (hgr.cell hgl).trans h0
    have c1 : wr.cell? ⟨g, 1, none⟩ = some (.iface u2 x2) := (hgr.cell hgl).trans h1
    have b0 : wr.cell? ⟨w.heap.size + 1, 0, none⟩ = some r := by rw [heap_cell hb]; rfl
    have hbl : w.heap.size + 1 < wr.heap.size := (Array.getElem?_eq_some_iff.1 hb).1
    have HB := Lib.hid hb
    clear hb hk
    by_cases hlt : j < 2
    · obtain ⟨v, hv, hcj⟩ : ∃ v : TypeId × Value, ([.iface u1 x1, .iface u2 x2] : List Value)[j]? = some (.iface v.1 v.2) ∧ wr.cell? ⟨g, j, none⟩ = some (.iface v.1 v.2) := by
        match j, hlt with
        | 0, _ => exact ⟨(u1, x1), rfl, c0⟩
        | 1, _ => exact ⟨(u2, x2), rfl, c1⟩
      have HV := Lib.hid hv
      clear hv c0 c1
      go_wp2_with (at_builtin; refine wpList_append_own _ rfl _ _ 69 rfl w.heap.size 24 i0 .nilIface 1 16 Tryd.underlying69 hi hz0 hz1 hz2 rfl (by decide) _ _ _ rfl (hown.alloc _) ⟨wr.heap.size, 0, none⟩ 1 1 [.iface v.1 v.2] rfl rfl ?c1 ?c2 ?c3 ?c4 ?c5 ?_)
      case c1 => exact cell_one_new _ _ _
      case c2 => simp [Value.oneCell']
      case c3 => simp only [maxLen]; omega
      case c4 => omega
      case c5 => have := hgr.size; simp; omega
      intro v' w1 hown1 hgrow _
      have hne : some (w.heap.size + 1) ≠ r.ownBlock := fun he => by
        rcases hown.2 with ⟨rfl, _⟩ | ⟨g', cap, cur, rfl, _, hg', _⟩
        · cases he
        · injection he with he
          subst he
          rw [HB.out] at hg'
          injection hg' with hg'
          injection hg' with _ ht
          exact absurd ht (by decide)
      have hb1 : w1.heap[w.heap.size + 1]? = some (.cells #[r] 72 (0, 0)) := by
        rw [hgrow.block _ (by simp; omega) hne, Below.heap_alloc _ _ _ hbl]; exact HB.out
      have d0 : w1.cell? ⟨w.heap.size + 1, 0, none⟩ = some r := by rw [heap_cell hb1]; rfl
      have f0 : w1.frozen? ⟨w.heap.size + 1, 0, none⟩ = false := by simp [World.frozen?, hb1]
      have hg1 : Gr w w1 := (hgr.alloc hgr.size _).grown hgrow (by have := hgr.size; simp; omega) (fun k hk => (hown.lt k hk).1)
      have HB1 := Lib.hid hb1
      clear hb1 hne b0
      obtain ⟨ao, cap, rfl⟩ := owns_slice hown1
      go_wp2
      go_roundg (2 - (j + 1))
      case measure => have := HK.out; omega
      case rel =>
        refine ⟨j + 1, .slice ao (j + 1) cap, rfl, by omega, by go_num, by simpa using heap_setCell_same w1 (w.heap.size + 1) 0 _ _ _ HB1.out, ?_, hg1.setCell (by simp) _⟩
        refine ⟨?_, ?_⟩
        · have := HV.out; match j, hlt with | 0, _ => rfl | 1, _ => rfl
        · rcases hown1.2 with h | ⟨g', cap', cur, h1', h2', h3', h4', h5', h6', h7'⟩
          · exact .inl h
          · refine .inr ⟨g', cap', cur, h1', h2', ?_, h4', h5', h6', ?_⟩
            · rw [Below.heap_setCell _ _ _ _ (fun he => by
                subst he
                rw [HB1.out] at h3'
                injection h3' with h3'
                injection h3' with _ ht
                exact absurd ht (by decide))]
              exact h3'
            · rw [h7']
              have := HV.out
              match j, hlt with
              | 0, _ => simpa using this.symm
              | 1, _ => simpa using this.symm
    · obtain rfl : j = 2 := by omega
      clear c0 c1
      go_wp2
      go_ret
      exact ⟨_, rfl, by omega, ⟨_, r, w.heap.size, rfl, HB.out, hown⟩, hgr⟩
end Go.Proofs.YtepngojepaeikaaDoor
