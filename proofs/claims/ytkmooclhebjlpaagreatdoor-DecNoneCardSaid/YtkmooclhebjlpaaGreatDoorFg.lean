/- Layer 1: a strings.Builder of the call's own is written; (plain).Error and (*Fault).Error by contract. -/
import Derived.Test.YtkmooclhebjlpaaGreatDoorFf
import Derived.Test.YtkmooclhebjlpaaGreatDoorShelf
namespace Go.Proofs.YtkmooclhebjlpaaGreatDoor
open Go.RowKit Go.Extern.Stop Go.Stop Go.Extern
set_option linter.unusedVariables false
set_option linter.unusedSimpArgs false

theorem Tryz.sizeBuilder : (Tryz.prog.info? 120).map (·.size) = some 2 := by kernel_rfl
theorem Tryz.liesBuilder : liesAt Tryz.prog Tryz.prog.depth 120 (2 / Tryz.prog.cellsOf 120) 0 120 1 = true := by kernel_rfl
theorem Tryz.infoByte : (Tryz.prog.info? 5).map (fun i => (i.zero, i.size, i.bytes)) = some (some (.int .u8 0), 1, 1) := by kernel_rfl

set_option maxHeartbeats 1000000 in
set_option maxRecDepth 100000 in
theorem copyCheck_fresh (b : Nat) (w : World) (h0 : w.cell? ⟨b, 0, none⟩ = some (.pointer none)) (hsh : w.shape? b = some (120, 2)) (hfz : w.frozen? ⟨b, 0, none⟩ = false) :
    Calls Tryz.prog 114 #[.pointer (some ⟨b, 0, none⟩)] w fun e w' => e = .returned (.tuple #[]) ∧ w' = w.setCell ⟨b, 0, none⟩ (.pointer (some ⟨b, 0, none⟩)) := by
  obtain ⟨j, hj, hjs⟩ := Option.map_eq_some_iff.1 Tryz.sizeBuilder
  go_enter Tryz.func114, Tryz.ntmps114
  go_wp2
  rw [Lib.run_to_unsafe w ⟨b, 0, none⟩ Tryz.underlying117 Tryz.underlying150 hj (by rw [hjs]; decide) hsh (Nat.zero_lt_succ 1)]
  simp only [Result.andThen]
  rw [Oper.upon_value]
  go_wp2
  rw [run_callFunc_extern Tryz.func141 (by kernel_rfl) (by kernel_rfl) (by kernel_rfl) (e := Extern.AbiNoEscape.same) (by kernel_rfl)]
  rw [Lib.run_noEscape]
  simp only [Result.andThen]
  rw [Oper.upon_value]
  go_wp2
  rw [Lib.run_from_unsafe w ⟨b, 0, none⟩ Tryz.underlying150 Tryz.underlying117 hj hsh Tryz.liesBuilder]
  simp only [Result.andThen]
  rw [Oper.upon_value]
  go_wp2
  go_end0
  exact ⟨rfl, rfl⟩
set_option maxRecDepth 100000 in
theorem copyCheck_used (b : Nat) (w : World) (h0 : w.cell? ⟨b, 0, none⟩ = some (.pointer (some ⟨b, 0, none⟩))) :
    Calls Tryz.prog 114 #[.pointer (some ⟨b, 0, none⟩)] w fun e w' => e = .returned (.tuple #[]) ∧ w' = w := by
  obtain ⟨j, hj, _⟩ := Option.map_eq_some_iff.1 Tryz.sizeBuilder
  go_enter Tryz.func114, Tryz.ntmps114
  go_wp2
  rw [Lib.run_neq_ptr_same w _ Tryz.underlying117 hj]
  go_wp2
  go_end0
  exact ⟨rfl, rfl⟩

/-- A strings.Builder in block b, its buffer from block B on. -/
def Bd (b B : Nat) (bs : List Value) (w : World) : Prop :=
  ∃ p v, (p = .pointer none ∨ p = .pointer (some ⟨b, 0, none⟩)) ∧ w.heap[b]? = some (.cells #[p, v] 120 (0, 0)) ∧ w.ownsRow B 5 1 v bs.length bs
/-- All below B but block b is as it was. -/
structure Keep (b B : Nat) (w w' : World) : Prop where
  os : w'.os = w.os
  tape : w'.tape = w.tape
  output : w'.output = w.output
  size : w.heap.size ≤ w'.heap.size
  block : ∀ k, k < B → k ≠ b → w'.heap[k]? = w.heap[k]?
theorem Keep.tr {b B : Nat} {x y z : World} (h : Keep b B x y) (k : Keep b B y z) : Keep b B x z :=
  ⟨k.os.trans h.os, k.tape.trans h.tape, k.output.trans h.output, Nat.le_trans h.size k.size, fun i hi hn => (k.block i hi hn).trans (h.block i hi hn)⟩
theorem Keep.rf (b B : Nat) (w : World) : Keep b B w w := ⟨rfl, rfl, rfl, Nat.le_refl _, fun _ _ _ => rfl⟩
theorem Keep.below {b B : Nat} {w w' : World} (h : Keep b B w w') (hb : b ≤ B) : Below b w w' := ⟨h.os, h.tape, h.output, h.size, fun k hk => h.block k (by omega) (by omega)⟩
theorem Below.keep {b B : Nat} {w w' : World} (h : Below B w w') : Keep b B w w' := ⟨h.os, h.tape, h.output, h.size, fun k hk _ => h.block k hk⟩
theorem Keep.setCell (b B : Nat) (w : World) (i : Nat) (u : Value) : Keep b B w (w.setCell ⟨b, i, none⟩ u) :=
  ⟨rfl, rfl, rfl, by simp [World.setCell], fun k _ hn => Below.heap_setCell _ _ _ _ (by simpa using hn)⟩

theorem copyCheck_calls (b B : Nat) (bs : List Value) (w : World) (h : Bd b B bs w) (hbB : b < B) :
    Calls Tryz.prog 114 #[.pointer (some ⟨b, 0, none⟩)] w fun e w' => e = .returned (.tuple #[]) ∧
      (∃ v, w'.heap[b]? = some (.cells #[.pointer (some ⟨b, 0, none⟩), v] 120 (0, 0)) ∧ w'.ownsRow B 5 1 v bs.length bs) ∧ Keep b B w w' := by
  obtain ⟨p, v, hp | hp, hb, hown⟩ := h
  · subst hp
    refine (copyCheck_fresh b w (by rw [heap_cell hb]; rfl) (by simp [World.shape?, hb]) (by simp [World.frozen?, hb])).mono ?_
    rintro e w' ⟨rfl, rfl⟩
    exact ⟨rfl, ⟨v, by simpa using heap_setCell_same w b 0 _ _ _ hb, ownsRow_setCell_below hown (by simpa using hbB) _⟩, Keep.setCell b B w 0 _⟩
  · subst hp
    refine (copyCheck_used b w (by rw [heap_cell hb]; rfl)).mono ?_
    rintro e w' ⟨rfl, rfl⟩
    exact ⟨rfl, ⟨v, hb, hown⟩, Keep.rf _ _ _⟩

set_option maxHeartbeats 2000000 in
set_option maxRecDepth 100000 in
theorem writeString_calls (b B : Nat) (bs : List Value) (s : ByteArray) (w : World) (h : Bd b B bs w) (hbB : b < B) (hlen : bs.length + s.size ≤ 140737488355328) (hBw : B ≤ w.heap.size) :
    Calls Tryz.prog 88 #[.pointer (some ⟨b, 0, none⟩), .string s] w fun e w' => e = .returned (.tuple #[.int .i64 s.size, .nilIface]) ∧ Bd b B (bs ++ Lib.strCells s) w' ∧ Keep b B w w' := by
  obtain ⟨i0, hi, hz0, hz1, hz2⟩ := info_parts Tryz.infoByte
  go_enter Tryz.func88, Tryz.ntmps88
  go_wp2_with (go_at_call 114; refine (copyCheck_calls b B bs _ h hbB).mono ?_)
  rintro e w1 ⟨rfl, ⟨v, hbk, hown⟩, hk1⟩
  have c0 : w1.cell? ⟨b, 0, none⟩ = some (.pointer (some ⟨b, 0, none⟩)) := by rw [heap_cell hbk]; rfl
  have c1 : w1.cell? ⟨b, 1, none⟩ = some v := by rw [heap_cell hbk]; rfl
  go_wp2_with (at_builtin; refine Lib.wpList_append_own_string _ rfl _ _ 118 9 rfl B 5 i0 Tryz.underlying118 Tryz.underlying9 hi hz0 hz1 hz2 _ _ _ rfl hown s rfl ?c3 ?c4 ?c5 ?_)
  case c3 => unfold maxLen; omega
  case c4 => omega
  case c5 => have := hk1.size; omega
  intro v' w2 hown' hgrow _
  have hlt : b < w1.heap.size := (Array.getElem?_eq_some_iff.1 hbk).1
  have hne : some b ≠ v.ownBlock := fun e => by have := (hown.lt b e.symm).1; omega
  have hb2 : w2.heap[b]? = some (.cells #[.pointer (some ⟨b, 0, none⟩), v] 120 (0, 0)) := by
    rw [hgrow.block b hlt hne]
    exact hbk
  have d0 : w2.cell? ⟨b, 0, none⟩ = some (.pointer (some ⟨b, 0, none⟩)) := by rw [heap_cell hb2]; rfl
  have d1 : w2.cell? ⟨b, 1, none⟩ = some v := by rw [heap_cell hb2]; rfl
  have f1 : w2.frozen? ⟨b, 1, none⟩ = false := by simp [World.frozen?, hb2]
  obtain ⟨ao, n', cap, rfl⟩ : ∃ ao n' cap, v' = .slice ao n' cap := by
    rcases hown'.2 with ⟨hv, _⟩ | ⟨g, cap, cur, hv, _⟩
    · exact ⟨_, _, _, hv⟩
    · exact ⟨_, _, _, hv⟩
  have HB := Lib.hid hb2
  have HN := Lib.hid hne
  clear hb2 hne
  go_wp2
  go_ret2
  refine ⟨rfl, ⟨_, _, .inr rfl, by simpa using heap_setCell_same w2 b 1 _ _ _ HB.out, ?_⟩, ?_⟩
  · exact ownsRow_setCell_below (by simpa [Lib.strCells_length] using hown') (by simpa using hbB) _
  · exact (hk1.tr ⟨hgrow.os, hgrow.tape, hgrow.output, hgrow.size, fun k hk _ => hgrow.block k (by have := hk1.size; omega) (fun e => by have := (hown.lt k e.symm).1; omega)⟩).tr (Keep.setCell b B _ 1 _)

/-- "error " and the code. -/
def errWord (c : Nat) : ByteArray := ⟨#[101, 114, 114, 111, 114, 32]⟩ ++ ⟨(Lib.decDigits c).toArray⟩
theorem errWord_size (c : Nat) (hc : c < 100) : (errWord c).size ≤ 8 := (show ∀ c < 100, (errWord c).size ≤ 8 by decide +kernel) c hc
theorem Er.places_le (e : Er) : e.places.length ≤ e.len := by
  induction e with
  | fault b c s e ih => simp only [Er.places, Er.len, List.length_append]; split <;> simp <;> omega
  | _ => simp [Er.places]
theorem plainError_calls (c : Nat) (hc : c < 100) (w : World) :
    Calls Tryz.prog 173 #[.int .i64 c] w fun e w' => e = .returned (.string (errWord c)) ∧ w = w' := by
  have HC := fun w => Tryz.strconv_Itoa_small c hc w
  have hl : (Lib.decDigits c).length ≤ 2 := (show ∀ c < 100, (Lib.decDigits c).length ≤ 2 by decide +kernel) c hc
  have H := Lib.hid HC
  clear HC
  go_enter Tryz.func173, Tryz.ntmps173
  go_wp2_with (go_at_call 151; refine (H.out _).mono ?_; rintro e w' ⟨rfl, rfl⟩)
  go_ret
  exact ⟨rfl, rfl⟩

/-- What a (*Fault).Error writes of the places. -/
def placesText (l : List ByteArray) : List UInt8 := l.flatMap fun s => s.data.toList ++ [58, 32]
/-- An error's text, of one at a place. -/
def Er.says (e : Er) (c : Nat) : ByteArray := ⟨(placesText e.places).toArray⟩ ++ errWord c

theorem Keep.drew {b B : Nat} {x y : World} (h : Keep b B x y) : Keep b B x y.drew := ⟨h.os, h.tape, h.output, h.size, h.block⟩

theorem string_calls (b B : Nat) (l : List UInt8) (w : World) (h : Bd b B (Lib.byteCells l) w) (hbB : b < B) (hBw : B ≤ w.heap.size) :
    Calls Tryz.prog 90 #[.pointer (some ⟨b, 0, none⟩)] w fun e w' => e = .returned (.string ⟨l.toArray⟩) ∧ Below b w w' := by
  refine Tryz.Builder_String_any b b l w ?_ (by omega)
  obtain ⟨p, v, hp, hb, hown⟩ := h
  have hne : v.ownBlock ≠ some b := fun e => by have := (hown.lt b e).1; omega
  have hown' : w.ownsRow b 5 1 v (Lib.byteCells l).length (Lib.byteCells l) := by
    refine ⟨hown.1, ?_⟩
    rcases hown.2 with h | ⟨g, cap, cur, h1, h2, h3⟩
    · exact .inl h
    · exact .inr ⟨g, cap, cur, h1, by omega, h3⟩
  rcases hp with rfl | rfl
  · exact .inl ⟨Nat.le_refl _, v, hb, hown', hne⟩
  · exact .inr ⟨Nat.le_refl _, v, hb, hown', hne⟩

theorem owns_slice {w : World} {B t : Nat} {r : Value} {n : Nat} {xs : List Value} (h : w.ownsRow B t 1 r n xs) : ∃ ao cap, r = .slice ao n cap := by
  rcases h.2 with ⟨hv, h0⟩ | ⟨g, cap, cur, hv, _⟩
  · exact ⟨none, 0, by rw [hv, h0]⟩
  · exact ⟨_, _, hv⟩
theorem owns_at {w : World} {B t : Nat} {r : Value} {n : Nat} {xs : List Value} (h : w.ownsRow B t 1 r n xs) (hn : 0 < n) : ∃ g cap, r = .slice (some ⟨g, 0, none⟩) n cap ∧ B ≤ g ∧ g < w.heap.size ∧ ∀ k, k < n → w.cell? ⟨g, k, none⟩ = xs[k]? := by
  rcases h.2 with ⟨hv, h0⟩ | ⟨g, cap, cur, rfl, hB, hg, _⟩
  · omega
  · exact ⟨g, cap, rfl, hB, (Array.getElem?_eq_some_iff.1 hg).1, fun k hk => h.cellAt k (by omega)⟩
theorem placesText_snoc (l : List ByteArray) (k : Nat) (hk : k < l.length) : placesText (l.take (k + 1)) = placesText (l.take k) ++ (l[k].data.toList ++ [58, 32]) := by
  rw [List.take_succ_eq_append_getElem hk]; simp only [placesText, List.flatMap_append, List.flatMap_cons, List.flatMap_nil, List.append_nil]
theorem placesText_size (l : List ByteArray) (k : Nat) (hk : k < l.length) : l[k].size ≤ (placesText l).length := by
  have : (placesText l) = placesText (l.take k) ++ placesText (l.drop k) := by rw [placesText, placesText, placesText, ← List.flatMap_append, List.take_append_drop]
  rw [this, List.drop_eq_getElem_cons hk]; simp only [placesText, List.flatMap_cons, List.length_append, Array.length_toList, ByteArray.size_data]; omega
theorem placesText_take (l : List ByteArray) (k : Nat) : (placesText (l.take k)).length ≤ (placesText l).length := by
  have : (placesText l) = placesText (l.take k) ++ placesText (l.drop k) := by rw [placesText, placesText, placesText, ← List.flatMap_append, List.take_append_drop]
  rw [this]; simp

end Go.Proofs.YtkmooclhebjlpaaGreatDoor
