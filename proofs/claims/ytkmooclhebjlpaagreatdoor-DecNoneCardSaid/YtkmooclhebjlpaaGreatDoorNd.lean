/- Layer 2: Add. -/
import Derived.Test.YtkmooclhebjlpaaGreatDoorNc
import Derived.Deep.OwnRows
import Derived.Shelf.Spec.BitsCarry
namespace Go.Proofs.YtkmooclhebjlpaaGreatDoor
open Go.RowKit Go.Extern.Stop Go.Stop Go.Extern
set_option linter.unusedVariables false
set_option linter.unusedSimpArgs false

/-- A row of limbs. -/
def RowU (w : World) (b n : Nat) (F : Nat → Nat) : Prop := w.rowIs b 39 n (fun j => U (F j))
theorem RowU.congr {w : World} {b n : Nat} {F G : Nat → Nat} (h : RowU w b n F) (e : ∀ i, i < n → F i = G i) : RowU w b n G := World.rowIs.congr h fun i hi => by rw [e i hi]
theorem RowU.set {w : World} {b n : Nat} {F : Nat → Nat} (h : RowU w b n F) (i x : Nat) : RowU (w.setCell ⟨b, i, none⟩ (.int .u64 (x : Int))) b n (fun j => if j = i then x else F j) :=
  (World.rowIs.set h i (.int .u64 (x : Int))).congr fun j hj => by dsimp only; split <;> rfl
theorem RowU.cell {w : World} {b n : Nat} {F : Nat → Nat} (h : RowU w b n F) {i : Nat} (hi : i < n) : w.cell? ⟨b, i, none⟩ = some (.int .u64 ((F i : Nat) : Int)) := World.rowIs.cell h hi
theorem RowU.lim {w : World} {b n : Nat} {F : Nat → Nat} (h : RowU w b n F) (hb : ∀ j, j < n → F j < B) (hn : n ≤ 9223372036854775807) : Lim w (.slice (some ⟨b, 0, none⟩) n n) ((List.range n).map F) := by
  refine ⟨fun x hx => ?_, .inr ⟨b, 0, n, by simp, by simp, hn, World.rowIs.lt h, fun i hi => ?_⟩⟩
  · obtain ⟨j, hj, rfl⟩ := List.mem_map.1 hx
    exact hb j (List.mem_range.1 hj)
  · have hi' : i < n := by simpa using hi
    rw [Nat.zero_add, h.cell hi']
    simp [U]
theorem RowU.drew {w : World} {b n : Nat} {F : Nat → Nat} (h : RowU w b n F) (k : Nat) : RowU (w.drewN k) b n F := h
theorem rowU_made (w : World) (n : Nat) : RowU (w.alloc (.cells (madeCells #[.int .u64 0] n) 39)) w.heap.size n (fun _ => 0) := World.rowIs_made w (.int .u64 0) n 39
theorem Gr.setCell {w w' : World} (h : Gr w w') {a : Addr} (ha : w.heap.size ≤ a.block) (v : Value) : Gr w (w'.setCell a v) :=
  ⟨h.os, h.tape, h.output, by have := h.size; simpa [World.setCell] using this, fun i hi => by
    rw [← h.block i hi]; exact Go.Deep.blk_setCell_other _ _ _ _ (by omega)⟩
theorem under24 : Tryz.prog.underlying 65 = some (.slice 39) := by kernel_rfl
theorem info45 : (Tryz.prog.info? 39).map (fun i => (i.zero, i.size, i.bytes)) = some (some (.int .u64 0), 1, 8) := by kernel_rfl
theorem make64 (n : Nat) (h : n ≤ 2000000000) (w : World) : (Instr.makeSlice 65 (.int .i64 (n : Int)) (.int .i64 (n : Int))).run Tryz.prog w = .ok (.slice (some ⟨w.heap.size, 0, none⟩) n n) (w.alloc (.cells (madeCells #[.int .u64 0] n) 39)) :=
  run_make_row' 65 39 (.int .u64 0) 8 under24 info45 rfl .i64 .i64 n (by omega) (by omega) w

theorem val_map_succ (F : Nat → Nat) (k : Nat) : val ((List.range (k + 1)).map F) = val ((List.range k).map F) + B ^ k * F k := by
  rw [List.range_succ, List.map_append, List.map_cons, List.map_nil, val_snoc, List.length_map, List.length_range]
theorem val_map_congr {F G : Nat → Nat} {k : Nat} (h : ∀ j, j < k → F j = G j) : val ((List.range k).map F) = val ((List.range k).map G) := by
  congr 1; exact List.map_congr_left fun j hj => h j (List.mem_range.1 hj)
/-- The carry into a place. -/
def addC (a b : Nat → Nat) : Nat → Nat
  | 0 => 0
  | k + 1 => adHi (a k) (b k) (addC a b k)
def addD (a b : Nat → Nat) (k : Nat) : Nat := adLo (a k) (b k) (addC a b k)
theorem addC_le (a b : Nat → Nat) (ha : ∀ k, a k < B) (hb : ∀ k, b k < B) (k : Nat) : addC a b k ≤ 1 := by
  induction k with
  | zero => exact Nat.zero_le _
  | succ k ih => exact adHi_le _ _ _ (ha k) (hb k) ih
theorem val_addD (a b : List Nat) (k : Nat) : val ((List.range k).map (addD (a.getD · 0) (b.getD · 0))) + B ^ k * addC (a.getD · 0) (b.getD · 0) k = val (a.take k) + val (b.take k) := by
  induction k with
  | zero => simp [addC, val]
  | succ k ih =>
    rw [val_map_succ, val_take_getD, val_take_getD]
    have h := ad_eq (a.getD k 0) (b.getD k 0) (addC (a.getD · 0) (b.getD · 0) k)
    have e1 : addD (a.getD · 0) (b.getD · 0) k = adLo (a.getD k 0) (b.getD k 0) (addC (a.getD · 0) (b.getD · 0) k) := rfl
    have e2 : addC (a.getD · 0) (b.getD · 0) (k + 1) = adHi (a.getD k 0) (b.getD k 0) (addC (a.getD · 0) (b.getD · 0) k) := rfl
    rw [e1, e2]
    generalize adLo (a.getD k 0) (b.getD k 0) (addC (a.getD · 0) (b.getD · 0) k) = lo at *
    generalize adHi (a.getD k 0) (b.getD k 0) (addC (a.getD · 0) (b.getD · 0) k) = hi at *
    generalize addC (a.getD · 0) (b.getD · 0) k = c at *
    have hm : B ^ k * (lo + B * hi) = B ^ k * (a.getD k 0 + b.getD k 0 + c) := by rw [h]
    simp only [Nat.pow_succ, Nat.mul_add, Nat.mul_assoc] at *
    omega
theorem getD_lt {a : List Nat} (h : Limbs a) (k : Nat) : a.getD k 0 < B := by
  by_cases hk : k < a.length
  · rw [List.getD_eq_getElem?_getD, List.getElem?_eq_getElem hk]; exact h _ (List.getElem_mem hk)
  · rw [List.getD_eq_getElem?_getD, List.getElem?_eq_none (by omega)]; exact B_pos
/-- What Add leaves. -/
def addF (a b : List Nat) (j : Nat) : Nat := if j < a.length then addD (a.getD · 0) (b.getD · 0) j else addC (a.getD · 0) (b.getD · 0) a.length
theorem val_addF (a b : List Nat) (h : b.length ≤ a.length) : val ((List.range (a.length + 1)).map (addF a b)) = val a + val b := by
  rw [val_map_succ, val_map_congr (G := addD (a.getD · 0) (b.getD · 0)) (fun j hj => by simp [addF, hj])]
  have := val_addD a b a.length
  rw [List.take_of_length_le (Nat.le_refl _), List.take_of_length_le h] at this
  simpa [addF] using this
theorem addF_lt (a b : List Nat) (ha : Limbs a) (hb : Limbs b) (j : Nat) : addF a b j < B := by
  unfold addF
  split
  · exact adLo_lt _ _ _
  · have := addC_le _ _ (getD_lt ha) (getD_lt hb) a.length
    have := B_eq; omega

theorem add64_run (x y c : Nat) (hx : x < B) (hy : y < B) (hc : c ≤ 1) (w : World) :
    (callFunc 57 #[.int .u64 (x : Int), .int .u64 (y : Int), .int .u64 (c : Int)]).run Tryz.prog w =
      .ok (.value (.tuple #[.int .u64 ((adLo x y c : Nat) : Int), .int .u64 ((adHi x y c : Nat) : Int)])) w := by
  rw [B_eq] at hx hy
  rw [run_callFunc_extern Tryz.func57 (by kernel_rfl) (by kernel_rfl) (by kernel_rfl) (e := add64Entry) (by kernel_rfl), run_add64 x y c (by omega) (by omega) (by omega) (by omega)]
  simp only [Result.andThen]
  unfold adLo adHi
  rw [B_eq]
  congr 5 <;> omega

theorem Lim.get {w : World} {v : Value} {l : List Nat} (h : Lim w v l) {w' : World} (hg : Gr w w') (i : Nat) (hi : i < l.length) :
    ∃ g o c, v = .slice (some ⟨g, o, none⟩) l.length c ∧ w'.cell? ⟨g, o + i, none⟩ = some (.int .u64 ((l.getD i 0 : Nat) : Int)) := by
  obtain ⟨g, o, c, e, _, _, hcell⟩ := h.at (by omega)
  refine ⟨g, o, c, e, ?_⟩
  rw [hcell w' hg i hi, List.getD_eq_getElem?_getD, List.getElem?_eq_getElem hi]; rfl
end Go.Proofs.YtkmooclhebjlpaaGreatDoor
