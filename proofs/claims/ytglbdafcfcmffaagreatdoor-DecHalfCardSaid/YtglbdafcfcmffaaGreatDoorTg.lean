/- Layer 2: rows of limbs in a block of one's own. -/
import Derived.Test.YtglbdafcfcmffaaGreatDoorGg
import Derived.Test.YtglbdafcfcmffaaGreatDoorSa
namespace Go.Proofs.YtglbdafcfcmffaaGreatDoor
open Go.RowKit Go.Extern.Stop Go.Stop Go.Extern
set_option linter.unusedVariables false
set_option linter.unusedSimpArgs false

theorem gr_drew1 {w w' : World} (h : Gr w w') : Gr w w'.drew := ⟨h.os, h.tape, h.output, h.size, h.block⟩
/-- A block whose first n cells are limbs. -/
def OwnF (w : World) (g n : Nat) (F : Nat → Nat) : Prop := ∃ cur, w.heap[g]? = some (.cells cur 60 (0, 0)) ∧ n ≤ cur.size ∧ ∀ i, i < n → cur[i]? = some (U (F i))
theorem OwnF.lt {w : World} {g n : Nat} {F : Nat → Nat} (h : OwnF w g n F) : g < w.heap.size := by
  obtain ⟨cur, h1, _⟩ := h
  exact (Array.getElem?_eq_some_iff.1 h1).1
theorem OwnF.cell {w : World} {g n : Nat} {F : Nat → Nat} (h : OwnF w g n F) {i : Nat} (hi : i < n) : w.cell? ⟨g, i, none⟩ = some (.int .u64 ((F i : Nat) : Int)) := by
  obtain ⟨cur, h1, h2, h3⟩ := h
  rw [cell_of_row w g i cur 60 (0, 0) h1]
  exact h3 i hi
theorem OwnF.frozen {w : World} {g n : Nat} {F : Nat → Nat} (h : OwnF w g n F) (i : Nat) : w.frozen? ⟨g, i, none⟩ = false := by
  obtain ⟨cur, h1, _⟩ := h
  simp [World.frozen?, h1]
theorem OwnF.set {w : World} {g n : Nat} {F : Nat → Nat} (h : OwnF w g n F) (i x : Nat) : OwnF (w.setCell ⟨g, i, none⟩ (.int .u64 (x : Int))) g n (fun j => if j = i then x else F j) := by
  obtain ⟨cur, h1, h2, h3⟩ := h
  refine ⟨cur.setIfInBounds i (.int .u64 (x : Int)), by simp [World.setCell, Array.getElem?_modify, h1], by simpa using h2, fun j hj => ?_⟩
  rw [Array.getElem?_setIfInBounds]
  by_cases e : i = j
  · subst e
    simp [U]
    omega
  · rw [if_neg e, h3 j hj]
    show some (U (F j)) = some (U (if j = i then x else F j))
    rw [if_neg (show ¬ j = i from fun e2 => e e2.symm)]
theorem OwnF.congr {w : World} {g n : Nat} {F G : Nat → Nat} (h : OwnF w g n F) (e : ∀ i, i < n → F i = G i) : OwnF w g n G := by
  obtain ⟨cur, h1, h2, h3⟩ := h
  exact ⟨cur, h1, h2, fun i hi => by rw [h3 i hi, e i hi]⟩
theorem OwnF.less {w : World} {g n m : Nat} {F : Nat → Nat} (h : OwnF w g n F) (hm : m ≤ n) : OwnF w g m F := by
  obtain ⟨cur, h1, h2, h3⟩ := h
  exact ⟨cur, h1, by omega, fun i hi => h3 i (by omega)⟩
theorem OwnF.of_block {w w' : World} {g n : Nat} {F : Nat → Nat} (h : OwnF w g n F) (e : w'.heap[g]? = w.heap[g]?) : OwnF w' g n F := by
  obtain ⟨cur, h1, h2, h3⟩ := h
  exact ⟨cur, e.trans h1, h2, h3⟩
theorem OwnF.gr {w w' : World} {g n : Nat} {F : Nat → Nat} (h : OwnF w g n F) (hg : Gr w w') : OwnF w' g n F := h.of_block (hg.block g h.lt)
theorem OwnF.drew {w : World} {g n : Nat} {F : Nat → Nat} (h : OwnF w g n F) (k : Nat) : OwnF (w.drewN k) g n F := h
theorem OwnF.grown {w w' : World} {g k n : Nat} {F : Nat → Nat} (h : OwnF w g n F) (hg : w.grownBy w' (some k)) (hne : g ≠ k) : OwnF w' g n F := h.of_block (hg.block g h.lt (fun e => hne (by injection e)))
theorem OwnF.lim {w : World} {g n : Nat} {F : Nat → Nat} (h : OwnF w g n F) (o m c : Nat) (hb : ∀ j, j < m → F (o + j) < B) (hom : o + m ≤ n) (hc : m ≤ c) (hc2 : c ≤ 9223372036854775807) :
    Lim w (.slice (some ⟨g, o, none⟩) m c) ((List.range m).map fun j => F (o + j)) := by
  refine ⟨fun x hx => ?_, .inr ⟨g, o, c, by simp, by simpa using hc, hc2, h.lt, fun i hi => ?_⟩⟩
  · obtain ⟨j, hj, rfl⟩ := List.mem_map.1 hx
    exact hb j (List.mem_range.1 hj)
  · have hi' : i < m := by simpa using hi
    rw [h.cell (by omega)]
    simp [U]
theorem RowU.own {w : World} {g n : Nat} {F : Nat → Nat} (h : RowU w g n F) (hn : 0 < n) : OwnF w g n F := by
  obtain ⟨cur, h1, h2, h3⟩ := h
  exact ⟨cur, h1, by omega, h3⟩
theorem ownF_of {w : World} {base n : Nat} {v : Value} {l : List Nat} (h : w.ownsRow base 60 1 v n (l.map U)) (hn : 0 < n) : ∃ g c, v = .slice (some ⟨g, 0, none⟩) n c ∧ base ≤ g ∧ n ≤ c ∧ c ≤ 9223372036854775807 ∧ OwnF w g n (l.getD · 0) := by
  have hl : l.length = n := by simpa using h.1
  rcases h.2 with ⟨_, h0⟩ | ⟨g, cap, cur, hv, hb, hh, hc, hm, hs, ht⟩
  · omega
  · refine ⟨g, cap, hv, hb, hc, by unfold maxLen at hm; omega, cur, hh, by omega, fun i hi => ?_⟩
    have h1 := congrArg (fun x => x[i]?) ht
    simp only [Nat.mul_one] at h1
    have hil : i < l.length := by omega
    rw [List.getElem?_take_of_lt hi, List.getElem?_map, List.getElem?_eq_getElem hil] at h1
    show cur[i]? = some (U (l.getD i 0))
    rw [List.getD_eq_getElem?_getD, List.getElem?_eq_getElem hil]
    simpa using h1
end Go.Proofs.YtglbdafcfcmffaaGreatDoor
