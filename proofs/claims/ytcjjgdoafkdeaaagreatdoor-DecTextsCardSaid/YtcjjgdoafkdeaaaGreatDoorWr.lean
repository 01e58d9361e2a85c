/- Worlds in which cells, numbers of the reference and a result's own block are kept. -/
import Derived.Test.YtcjjgdoafkdeaaaGreatDoorWb
import Derived.Test.YtcjjgdoafkdeaaaGreatDoorWg
namespace Go.Proofs.YtcjjgdoafkdeaaaGreatDoor
open Go.RowKit Go.Extern.Stop Go.Stop Go.Extern Go.Sort
set_option linter.unusedVariables false
set_option linter.unusedSimpArgs false

def KeepS (w : World) (q m : Nat) (cs : List (Nat × Nat × Value)) (rs : List (Value × Nat)) (W : World) : Prop :=
  Gr w W ∧ (∀ p ∈ rs, RN W p.1 p.2) ∧ (∀ p ∈ cs, W.cell? ⟨p.1, p.2.1, none⟩ = some p.2.2 ∧ p.1 ≠ q ∧ p.1 < W.heap.size) ∧ (w.heap.size ≤ q ∧ q < W.heap.size) ∧ ∀ j, j < m → W.frozen? ⟨q, j, none⟩ = false ∧ ∃ u, W.cell? ⟨q, j, none⟩ = some u ∧ ∀ n, u ≠ U n
theorem KeepS.gr {w : World} {q m : Nat} {cs : List (Nat × Nat × Value)} {rs : List (Value × Nat)} {W W' : World} (h : KeepS w q m cs rs W) (hg : Gr W W') : KeepS w q m cs rs W' := by
  obtain ⟨h1, h2, h3, ⟨h4, h5⟩, h6⟩ := h
  have hsz := hg.size
  refine ⟨h1.tr hg, fun p hp => (h2 p hp).gr hg, fun p hp => ?_, ⟨h4, by omega⟩, fun j hj => ?_⟩
  · obtain ⟨a, b, c⟩ := h3 p hp
    exact ⟨by rw [Below.cell hg (p := ⟨p.1, p.2.1, none⟩) c]; exact a, b, by omega⟩
  · obtain ⟨a, u, b, c⟩ := h6 j hj
    exact ⟨by rw [Below.frozen hg (p := ⟨q, j, none⟩) h5]; exact a, u, by rw [Below.cell hg (p := ⟨q, j, none⟩) h5]; exact b, c⟩
theorem KeepS.set {w : World} {q m : Nat} {cs : List (Nat × Nat × Value)} {rs : List (Value × Nat)} {W : World} (h : KeepS w q m cs rs W) (i : Nat) (hi : i < m) (y : Value) (hy : ∀ n, y ≠ U n) : KeepS w q m cs rs (W.setCell ⟨q, i, none⟩ y) := by
  obtain ⟨h1, h2, h3, ⟨h4, h5⟩, h6⟩ := h
  obtain ⟨a, u, b, c⟩ := h6 i hi
  refine ⟨Gr.setCell h1 h4 _, fun p hp => lim_setw (h2 p hp) _ _ _ b c, fun p hp => ?_, ⟨h4, by rw [World.size_setCell]; exact h5⟩, fun j hj => ?_⟩
  · obtain ⟨a1, b1, c1⟩ := h3 p hp
    exact ⟨by rw [World.cell?_setCell_other _ _ _ _ (by simp <;> (intro e; exact absurd e.symm b1))]; exact a1, b1, by rw [World.size_setCell]; exact c1⟩
  · obtain ⟨a2, u2, b2, c2⟩ := h6 j hj
    refine ⟨by rw [World.frozen?_setCell]; exact a2, ?_⟩
    by_cases e : j = i
    · subst e
      exact ⟨y, World.cell?_setCell_same _ _ _ (by rw [b2]), hy⟩
    · exact ⟨u2, by rw [World.cell?_setCell_other _ _ _ _ (by simp <;> omega)]; exact b2, c2⟩
theorem KeepS.cell {w : World} {q m : Nat} {cs : List (Nat × Nat × Value)} {rs : List (Value × Nat)} {W : World} (h : KeepS w q m cs rs W) (p : Nat × Nat × Value) (hp : p ∈ cs) : W.cell? ⟨p.1, p.2.1, none⟩ = some p.2.2 := (h.2.2.1 p hp).1
theorem KeepS.rn {w : World} {q m : Nat} {cs : List (Nat × Nat × Value)} {rs : List (Value × Nat)} {W : World} (h : KeepS w q m cs rs W) (p : Value × Nat) (hp : p ∈ rs) : RN W p.1 p.2 := h.2.1 p hp
/-- A result's block of two cells, both laid. -/
theorem two_set (W : World) (q : Nat) (x y u0 u1 : Value) (c0 : W.cell? ⟨q, 0, none⟩ = some u0) (c1 : W.cell? ⟨q, 1, none⟩ = some u1) (h0 : ∀ n, u0 ≠ U n) (h1 : ∀ n, u1 ≠ U n) :
    ((W.setCell ⟨q, 0, none⟩ x).setCell ⟨q, 1, none⟩ y).rangeAt q 0 [x, y] ∧ (∀ v l, Lim W v l → Lim ((W.setCell ⟨q, 0, none⟩ x).setCell ⟨q, 1, none⟩ y) v l) ∧ (∀ w : World, Gr w W → w.heap.size ≤ q → Gr w ((W.setCell ⟨q, 0, none⟩ x).setCell ⟨q, 1, none⟩ y)) := by
  have d1 : (W.setCell ⟨q, 0, none⟩ x).cell? ⟨q, 1, none⟩ = some u1 := by rw [World.cell?_setCell_other _ _ _ _ (by simp)]; exact c1
  refine ⟨?_, fun v l h => lim_setw (lim_setw h _ _ _ c0 h0) _ _ _ d1 h1, fun w hg hq => Gr.setCell (Gr.setCell hg hq _) hq _⟩
  intro j v hj
  rcases j with _ | _ | j
  · rw [← hj, World.cell?_setCell_other _ _ _ _ (by simp)]
    exact World.cell?_setCell_same _ _ _ (by rw [c0])
  · rw [← hj]
    exact World.cell?_setCell_same _ _ _ (by rw [d1])
  · simp at hj
end Go.Proofs.YtcjjgdoafkdeaaaGreatDoor
