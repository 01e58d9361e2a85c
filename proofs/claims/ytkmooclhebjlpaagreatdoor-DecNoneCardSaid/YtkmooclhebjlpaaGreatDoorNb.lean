/- Layer 2: naturals in memory; limbs, made, Of, Zero by contract. -/
import Derived.Test.YtkmooclhebjlpaaGreatDoorFl
import Derived.Test.YtkmooclhebjlpaaGreatDoorNa
import Derived.WalkSpells
import Derived.WalkLawsBesides
namespace Go.Proofs.YtkmooclhebjlpaaGreatDoor
open Go.RowKit Go.Extern.Stop Go.Stop Go.Extern
set_option linter.unusedVariables false
set_option linter.unusedSimpArgs false

/-- A limb in a cell. -/
def U (x : Nat) : Value := .int .u64 (x : Int)
/-- Limbs behind a slice. -/
def Lim (w : World) (v : Value) (l : List Nat) : Prop :=
  Limbs l ∧ ((v = .slice none 0 0 ∧ l = []) ∨
    ∃ g o c, v = .slice (some ⟨g, o, none⟩) l.length c ∧ l.length ≤ c ∧ c ≤ 9223372036854775807 ∧ g < w.heap.size ∧ ∀ i (h : i < l.length), w.cell? ⟨g, o + i, none⟩ = some (U l[i]))
theorem Lim.gr {w w' : World} (hg : Gr w w') {v : Value} {l : List Nat} (h : Lim w v l) : Lim w' v l := by
  refine ⟨h.1, ?_⟩
  rcases h.2 with h | ⟨g, o, c, hv, hc, hm, hl, hcell⟩
  · exact .inl h
  · exact .inr ⟨g, o, c, hv, hc, hm, Nat.lt_of_lt_of_le hl hg.size, fun i hi => (hg.cell hl).trans (hcell i hi)⟩
/-- A natural number behind a pointer. -/
def NatAt (w : World) (v : Value) (n : Nat) : Prop :=
  (v = .pointer none ∧ n = 0) ∨ ∃ b s l, v = .pointer (some ⟨b, 0, none⟩) ∧ w.cell? ⟨b, 0, none⟩ = some s ∧ Lim w s l ∧ Norm l ∧ val l = n
theorem NatAt.gr {w w' : World} (hg : Gr w w') {v : Value} {n : Nat} (h : NatAt w v n) : NatAt w' v n := by
  rcases h with h | ⟨b, s, l, hv, hb, hl, hn, hval⟩
  · exact .inl h
  · exact .inr ⟨b, s, l, hv, (hg.cell (World.block_lt_of_cell? w _ hb)).trans hb, hl.gr hg, hn, hval⟩
/-- The same, not nil. -/
def NatP (w : World) (v : Value) (n : Nat) : Prop := (∃ b, v = .pointer (some ⟨b, 0, none⟩)) ∧ NatAt w v n
theorem NatP.at_ {w : World} {v : Value} {n : Nat} (h : NatP w v n) : NatAt w v n := h.2
instance natPAt (w : World) (v : Value) (n : Nat) : Coe (NatP w v n) (NatAt w v n) := ⟨NatP.at_⟩
theorem NatP.gr {w w' : World} (hg : Gr w w') {v : Value} {n : Nat} (h : NatP w v n) : NatP w' v n := ⟨h.1, h.2.gr hg⟩
theorem Lim.slice {w : World} {v : Value} {l : List Nat} (h : Lim w v l) : ∃ a c, v = .slice a l.length c := by
  rcases h.2 with ⟨h1, h2⟩ | ⟨g, o, c, h1, _⟩
  · subst h2; exact ⟨none, 0, h1⟩
  · exact ⟨_, _, h1⟩

theorem Lim.take {w : World} {g o c : Nat} {l : List Nat} (h : Lim w (.slice (some ⟨g, o, none⟩) l.length c) l) (k : Nat) (hk : k ≤ l.length) : Lim w (.slice (some ⟨g, o, none⟩) k c) (l.take k) := by
  refine ⟨limbs_take h.1 k, ?_⟩
  rcases h.2 with ⟨h1, _⟩ | ⟨g', o', c', h1, h2, h3, h4, h5⟩
  · cases h1
  · cases h1
    exact .inr ⟨g, o, c, by rw [List.length_take, Nat.min_eq_left hk], by rw [List.length_take]; omega, h3, h4, fun i hi => by
      rw [List.length_take] at hi
      rw [h5 i (by omega), List.getElem_take]⟩
theorem NatAt.mk {w : World} {b : Nat} {s : Value} {l : List Nat} {T : TypeId} {f : Nat × Nat} (hb : w.heap[b]? = some (.cells #[s] T f)) (hl : Lim w s l) (hn : Norm l) : NatAt w (.pointer (some ⟨b, 0, none⟩)) (val l) :=
  .inr ⟨b, s, l, rfl, by rw [heap_cell hb]; rfl, hl, hn, rfl⟩
theorem NatP.mk {w : World} {b : Nat} {s : Value} {l : List Nat} {T : TypeId} {f : Nat × Nat} (hb : w.heap[b]? = some (.cells #[s] T f)) (hl : Lim w s l) (hn : Norm l) : NatP w (.pointer (some ⟨b, 0, none⟩)) (val l) :=
  ⟨⟨b, rfl⟩, NatAt.mk hb hl hn⟩

set_option maxRecDepth 100000 in
/-- (*Nat).limbs. -/
theorem limbs_calls (v : Value) (n : Nat) (w : World) (h : NatAt w v n) :
    Calls Tryz.prog 42 #[v] w fun e w' => (∃ s l, e = .returned s ∧ Lim w s l ∧ Norm l ∧ val l = n) ∧ w = w' := by
  rcases h with ⟨rfl, rfl⟩ | ⟨b, s, l, rfl, hb, hl, hn, hval⟩
  · go_enter Tryz.func42, Tryz.ntmps42
    go_wp2
    go_ret
    exact ⟨⟨_, [], rfl, ⟨by simp [Limbs], .inl ⟨rfl, rfl⟩⟩, by simp [Norm], rfl⟩, rfl⟩
  · have HL := Lib.hid hl
    have HN := Lib.hid hn
    have HV := Lib.hid hval
    clear hl hn hval
    go_enter Tryz.func42, Tryz.ntmps42
    go_wp2
    go_ret
    exact ⟨⟨_, l, rfl, HL.out, HN.out, HV.out⟩, rfl⟩

set_option maxRecDepth 100000 in
set_option maxHeartbeats 1000000 in
/-- nat.made: noughts above are dropped; the slice's own memory is kept. -/
theorem made_calls (v : Value) (l : List Nat) (w : World) (h : Lim w v l) (hsz : l.length ≤ 1000000000) :
    Calls Tryz.prog 44 #[v] w fun e w' => (∃ r, e = .returned r ∧ NatP w' r (val l)) ∧ Gr w w' := by
  have H := Lib.hid h
  obtain ⟨a, c, rfl⟩ := h.slice
  clear h
  go_enter Tryz.func44, Tryz.ntmps44
  go_wp2
  go_loopg [0] l.length (fun k v wr => ∃ l', k = l'.length ∧ l'.length ≤ l.length ∧ Lim w v l' ∧ val l' = val l ∧ Gr w wr)
  case atStart => exact ⟨l, rfl, Nat.le_refl _, H.out, rfl, Gr.rf w⟩
  case round =>
    obtain ⟨l', hk, hle, hl, hv, hgr⟩ := hrel
    obtain ⟨a', c', rfl⟩ := hl.slice
    have HV := Lib.hid hv
    have HK := Lib.hid hk
    have HL := Lib.hid hl
    clear hv hk
    by_cases hne : 0 < l'.length
    · rcases hl.2 with ⟨h1, h2⟩ | ⟨g, o, c'', h1, h2, h3, h4, h5⟩
      · subst h2; simp at hne
      cases h1
      have hx : l'.getLast? = some (l'[l'.length - 1]'(by omega)) := by rw [List.getLast?_eq_getElem?, List.getElem?_eq_getElem (by omega)]
      have hc : wr.cell? ⟨g, o + (l'.length - 1), none⟩ = some (.int .u64 ((l'[l'.length - 1]'(by omega) : Nat) : Int)) := (hgr.cell h4).trans (h5 _ (by omega))
      generalize l'[l'.length - 1]'(by omega) = x at hx hc
      have HX := Lib.hid hx
      clear hx
      have hsub : ((l'.length : Int) - 1).toNat = l'.length - 1 := by omega
      have h5' := Lib.hid h5
      clear h5
      by_cases hx0 : x = 0
      · have hb : ((x : Int) == 0) = true := beq_iff_eq.2 (by omega)
        go_wp2
        go_roundg (l'.length - 1)
        case measure => have := HK.out; omega
        case rel => exact ⟨l'.take (l'.length - 1), by rw [List.length_take]; omega, by rw [List.length_take]; omega, by have := HL.out.take (l'.length - 1) (by omega); exact this, by rw [← HV.out, ← List.dropLast_eq_take, val_drop_last _ (by rw [HX.out, hx0])], hgr⟩
      · have hb : ((x : Int) == 0) = false := beq_eq_false_iff_ne.2 (by omega)
        have HX0 := Lib.hid hx0
        clear hx0
        go_wp2
        go_ret
        refine ⟨⟨_, rfl, ?_⟩, hgr.alloc hgr.size _⟩
        rw [← HV.out]
        exact NatP.mk (heap_alloc_new wr _) ((HL.out.gr hgr).gr ((Gr.rf wr).alloc (Nat.le_refl _) _)) (by unfold Norm; rw [HX.out]; intro h; injection h with h; exact HX0.out h)
    · have hnil : l' = [] := List.eq_nil_of_length_eq_zero (by omega)
      have HNL := Lib.hid hnil
      clear hnil
      go_wp2
      go_ret
      refine ⟨⟨_, rfl, ?_⟩, hgr.alloc hgr.size _⟩
      rw [← HV.out]
      exact NatP.mk (heap_alloc_new wr _) ((HL.out.gr hgr).gr ((Gr.rf wr).alloc (Nat.le_refl _) _)) (by rw [HNL.out]; simp [Norm])

set_option maxRecDepth 100000 in
theorem of_nat_calls (x : Nat) (hx : x < B) (w : World) : Calls Tryz.prog 14 #[.int .u64 (x : Int)] w fun e w' => (∃ r, e = .returned r ∧ NatP w' r x) ∧ Gr w w' := by
  have hl : Lim (w.alloc (.cells #[.int .u64 (x : Int)] 39)) (.slice (some ⟨w.heap.size, 0, none⟩) 1 1) [x] := by
    refine ⟨by simpa [Limbs] using hx, .inr ⟨w.heap.size, 0, 1, rfl, Nat.le_refl _, by omega, by simp, fun i hi => ?_⟩⟩
    simp at hi; subst hi
    rw [World.cell?_alloc_at _ _ _ _ rfl]; rfl
  have HM := Lib.hid (made_calls _ [x] _ hl (by simp))
  rw [show val [x] = x by simp [val]] at HM
  clear hl
  go_enter Tryz.func14, Tryz.ntmps14
  go_wp2_with (go_at_call 44; (with_reducible refine HM.out.mono ?_); rintro ev w1 ⟨⟨r, rfl, hr⟩, hg⟩; have HR := Lib.hid hr; clear hr)
  go_ret
  exact ⟨⟨_, rfl, HR.out⟩, ((Gr.rf w).alloc (Nat.le_refl _) _).trans (hg.mono (by simp))⟩

set_option maxRecDepth 100000 in
theorem zero_calls (v : Value) (n : Nat) (w : World) (h : NatAt w v n) :
    Calls Tryz.prog 11 #[v] w fun e w' => e = .returned (.bool (n == 0)) ∧ w = w' := by
  have HL := Lib.hid (limbs_calls v n w h)
  clear h
  go_enter Tryz.func11, Tryz.ntmps11
  go_wp2_with (go_at_call 42; (with_reducible refine HL.out.mono ?_); rintro ev w1 ⟨⟨s, l, rfl, hl, hn, hv⟩, rfl⟩; obtain ⟨a, c, rfl⟩ := hl.slice; have HN := Lib.hid hn; have HV := Lib.hid hv; clear hn hv hl)
  go_ret
  refine ⟨ret_bool ?_, rfl⟩
  have := norm_zero l HN.out
  rw [HV.out] at this
  by_cases hn : n = 0
  · have := this.1 hn; subst this; subst hn; rfl
  · have hl : l ≠ [] := fun h => hn (this.2 h)
    have e1 : ((l.length : Int) == 0) = false := beq_eq_false_iff_ne.2 (by have := List.length_pos_iff.2 hl; omega)
    have e2 : (n == 0) = false := beq_eq_false_iff_ne.2 hn
    rw [e1, e2]
end Go.Proofs.YtkmooclhebjlpaaGreatDoor
