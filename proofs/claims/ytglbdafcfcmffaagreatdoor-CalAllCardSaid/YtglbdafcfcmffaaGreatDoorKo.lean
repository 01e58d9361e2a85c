/- Layer 6: a slice of rules, a slice of ints among a law's arguments, opened. -/
import Derived.Test.YtglbdafcfcmffaaGreatDoorHf
import Derived.Deep.Slices
import Derived.WideShapes
import Derived.WalkKit
import Derived.ProofKit
namespace Go.Proofs.YtglbdafcfcmffaaGreatDoor
open Go.RowKit Go.Extern.Stop Go.Stop Go.Extern Go.Deep Go.ChangeShapes Go.WideShapes
set_option linter.unusedVariables false
set_option linter.unusedSimpArgs false

/-- A number that fits an int; a rule whose numbers do. -/
def in64 (k : Int) : Prop := -9223372036854775808 ≤ k ∧ k ≤ 9223372036854775807
def RuIn (r : Ru) : Prop := in64 r.kind ∧ in64 r.month ∧ in64 r.day ∧ in64 r.n ∧ in64 r.wd
theorem cell_spot {w : World} {a : Addr} {v : Value} (h : w.cell? a = some v) : a.spot = none ∧ a.block < w.heap.size := by
  unfold World.cell? at h
  split at h
  · rename_i hb
    refine ⟨?_, ?_⟩
    · cases hs : a.spot with
      | none => rfl
      | some x => rw [hs] at h; simp at h
    · rcases Nat.lt_or_ge a.block w.heap.size with h1 | h1
      · exact h1
      · rw [Array.getElem?_eq_none h1] at hb; cases hb
  · cases h
section
variable {H : Type} {enc : TypeId × Value → H}
theorem open_days {W : World} {v : Value} {d : DataW H} {p : List MemPlace} (hv : ∃ a l c, v = .slice a l c) (h : DataW.Trod enc Tryz.prog W 0 (fun _ => true) true 23 v d p) :
    ∃ ms : List Int, DaysAt W v ms ∧ (∀ x ∈ ms, in64 x) ∧ ms.length ≤ 9223372036854775807 := by
  obtain ⟨a, l, c, rfl⟩ := hv
  obtain ⟨fuel, hf⟩ := h
  rcases open_ints Tryz.underlying23 Tryz.underlying3 (by kernel_rfl) hf with ⟨h1, _⟩ | ⟨a', len, cap, zs, h1, hb, hl, hm, hlen, hx, hc, hw⟩
  · have e : Value.slice a l c = .slice none 0 0 := by
      injection (show [Value.slice a l c] = [.slice none 0 0] from h1)
    rw [e]
    exact ⟨[], .inl ⟨rfl, none, 0, rfl⟩, fun x hx => absurd hx List.not_mem_nil, by decide⟩
  · have e : Value.slice a l c = .slice (some a') len cap := by
      injection (show [Value.slice a l c] = [.slice (some a') len cap] from h1)
    rw [e]
    have hlen' : zs.length = cap := hlen
    have hlt : (zs.take len).length = len := by rw [List.length_take]; omega
    refine ⟨zs.take len, ?_, fun x hx => bounds_i64 (hw x (List.mem_of_mem_take hx)), by unfold maxLen at hm; omega⟩
    by_cases h0 : len = 0
    · subst h0
      exact .inl ⟨by simp, _, _, rfl⟩
    · obtain ⟨b, o, s⟩ := a'
      have c0 := hc 0 (by omega)
      have hs := cell_spot c0
      have hs1 : s = none := hs.1
      subst hs1
      refine .inr ⟨b, o, cap, by rw [hlt], hs.2, fun j x hj => ?_⟩
      have hjl := (List.getElem?_eq_some_iff.1 hj).1
      rw [hlt] at hjl
      have hcj := hc j (by omega)
      rw [List.getElem?_take_of_lt hjl] at hj
      have : zs.getD j 0 = x := by rw [List.getD_eq_getElem?_getD, hj]; rfl
      rw [this, add_plain] at hcj
      exact hcj
theorem take_one {α : Type} {l : List α} {i : Nat} {x : α} (h : (l.drop i).take 1 = [x]) : l[i]? = some x := by
  have h2 := congrArg (fun z : List α => z[0]?) h
  simpa [List.getElem?_take, List.getElem?_drop] using h2
set_option maxRecDepth 100000 in
theorem open_rule {W : World} {cs : List Value} {x : DataW H × List MemPlace} {n : Nat} (h : DataW.trod enc Tryz.prog W 0 (fun _ => true) true n 118 cs = some x) :
    ∃ r : Ru, RuIn r ∧ cs[0]? = some (.int .i64 r.kind) ∧ cs[1]? = some (.int .i64 r.month) ∧ cs[2]? = some (.int .i64 r.day) ∧ cs[3]? = some (.int .i64 r.n) ∧ cs[4]? = some (.int .i64 r.wd) ∧ cs[5]? = some (.bool r.sh) := by
  obtain ⟨xs, m, _, rfl, hl, hlen, hf⟩ := DataW.trod_struct Tryz.underlying118 h
  have hc : Tryz.prog.cellsOf 3 = 1 := by kernel_rfl
  have hcb : Tryz.prog.cellsOf 4 = 1 := by kernel_rfl
  have hlen' : xs.length = 6 := hlen
  match xs, hlen' with
  | [x0, x1, x2, x3, x4, x5], _ =>
    have f0 : DataW.trod enc Tryz.prog W 0 (fun _ => true) true m 3 ((cs.drop 0).take (Tryz.prog.cellsOf 3)) = some x0 := hf 0 _ rfl
    have f1 : DataW.trod enc Tryz.prog W 0 (fun _ => true) true m 3 ((cs.drop 1).take (Tryz.prog.cellsOf 3)) = some x1 := hf 1 _ rfl
    have f2 : DataW.trod enc Tryz.prog W 0 (fun _ => true) true m 3 ((cs.drop 2).take (Tryz.prog.cellsOf 3)) = some x2 := hf 2 _ rfl
    have f3 : DataW.trod enc Tryz.prog W 0 (fun _ => true) true m 3 ((cs.drop 3).take (Tryz.prog.cellsOf 3)) = some x3 := hf 3 _ rfl
    have f4 : DataW.trod enc Tryz.prog W 0 (fun _ => true) true m 3 ((cs.drop 4).take (Tryz.prog.cellsOf 3)) = some x4 := hf 4 _ rfl
    have f5 : DataW.trod enc Tryz.prog W 0 (fun _ => true) true m 4 ((cs.drop 5).take (Tryz.prog.cellsOf 4)) = some x5 := hf 5 _ rfl
    rw [hc] at f0 f1 f2 f3 f4
    rw [hcb] at f5
    obtain ⟨a0, e0, _, w0⟩ := DataW.trod_int Tryz.underlying3 f0
    obtain ⟨a1, e1, _, w1⟩ := DataW.trod_int Tryz.underlying3 f1
    obtain ⟨a2, e2, _, w2⟩ := DataW.trod_int Tryz.underlying3 f2
    obtain ⟨a3, e3, _, w3⟩ := DataW.trod_int Tryz.underlying3 f3
    obtain ⟨a4, e4, _, w4⟩ := DataW.trod_int Tryz.underlying3 f4
    obtain ⟨a5, e5, _⟩ := DataW.trod_bool Tryz.underlying4 f5
    exact ⟨⟨a0, a1, a2, a3, a4, a5⟩, ⟨bounds_i64 w0, bounds_i64 w1, bounds_i64 w2, bounds_i64 w3, bounds_i64 w4⟩, take_one e0, take_one e1, take_one e2, take_one e3, take_one e4, take_one e5⟩
theorem open_rules {W : World} {v : Value} {d : DataW H} {p : List MemPlace} (hv : ∃ a l c, v = .slice a l c) (h : DataW.Trod enc Tryz.prog W 0 (fun _ => true) true 22 v d p) :
    ∃ rs : List Ru, RulesAt W v rs ∧ (∀ r ∈ rs, RuIn r) ∧ rs.length ≤ 9223372036854775807 := by
  obtain ⟨a, l, c, rfl⟩ := hv
  obtain ⟨fuel, hf⟩ := h
  have hc6 : Tryz.prog.cellsOf 118 = 6 := by kernel_rfl
  rcases open_slice Tryz.underlying22 hf with ⟨h1, _⟩ | ⟨a', len, cap, m, n, D, Pl, h1, hb, hl, hm, hmm, hx, hc⟩
  · have e : Value.slice a l c = .slice none 0 0 := by
      injection (show [Value.slice a l c] = [.slice none 0 0] from h1)
    rw [e]
    exact ⟨[], .inl ⟨rfl, none, 0, rfl⟩, fun x hx => absurd hx List.not_mem_nil, by decide⟩
  · have e : Value.slice a l c = .slice (some a') len cap := by
      injection (show [Value.slice a l c] = [.slice (some a') len cap] from h1)
    rw [e]
    have hm' : m = cap := hmm
    obtain ⟨f, hfr⟩ := choose_lt (α := Ru) (n := len) (p := fun i r => RuIn r ∧ W.cell? (a'.add (i * 6)) = some (.int .i64 r.kind) ∧ W.cell? (a'.add (i * 6 + 1)) = some (.int .i64 r.month) ∧ W.cell? (a'.add (i * 6 + 2)) = some (.int .i64 r.day) ∧
        W.cell? (a'.add (i * 6 + 3)) = some (.int .i64 r.n) ∧ W.cell? (a'.add (i * 6 + 4)) = some (.int .i64 r.wd) ∧ W.cell? (a'.add (i * 6 + 5)) = some (.bool r.sh)) (fun i hi => by
      obtain ⟨cs', hcs, ht⟩ := hc i (by omega)
      rw [hc6] at hcs
      obtain ⟨r, hr, e0, e1, e2, e3, e4, e5⟩ := open_rule ht
      obtain ⟨_, _, hcell⟩ := World.cells?_some hcs
      have g : ∀ j, j < 6 → W.cell? (a'.add (i * 6 + j)) = cs'[j]? := fun j hj => by
        rw [← Go.Deep.add_add]; exact hcell j hj
      exact ⟨r, hr, by rw [← e0]; exact g 0 (by omega), by rw [← e1]; exact g 1 (by omega), by rw [← e2]; exact g 2 (by omega), by rw [← e3]; exact g 3 (by omega), by rw [← e4]; exact g 4 (by omega), by rw [← e5]; exact g 5 (by omega)⟩)
    refine ⟨(List.range len).map f, ?_, ?_, by rw [List.length_map, List.length_range]; unfold maxLen at hm; omega⟩
    · by_cases h0 : len = 0
      · subst h0
        exact .inl ⟨rfl, _, _, rfl⟩
      · obtain ⟨b, o, s⟩ := a'
        have hs := cell_spot (hfr 0 (by omega)).2.1
        have hs1 : s = none := hs.1
        subst hs1
        refine .inr ⟨b, o, cap, by rw [List.length_map, List.length_range], hs.2, fun j r hj => ?_⟩
        have hjl := (List.getElem?_eq_some_iff.1 hj).1
        rw [List.length_map, List.length_range] at hjl
        have hr : f j = r := by
          rw [List.getElem?_map, List.getElem?_range hjl] at hj
          exact Option.some.inj hj
        rw [← hr]
        have hh := (hfr j hjl).2
        simp only [add_plain, ← Nat.add_assoc] at hh
        exact hh
    · intro r hr
      obtain ⟨j, hj, rfl⟩ := List.mem_map.1 hr
      exact (hfr j (List.mem_range.1 hj)).1
end
end Go.Proofs.YtglbdafcfcmffaaGreatDoor
