/- Layer 1: a strings.Builder of the call's own is written; (plain).Error and (*Fault).Error by contract; Layer 1: (*Fault).Error by contract; Layer 1: '==' of two codes that are errors; (*Fault).Is; errors.is over a chain, by what is asked for; Layer 1: errors.Is; the law's begin; Layer 1: the law's begin comes to true, whatever the world; Layer 1: small facts on remainders. -/
import Derived.Test.YtcjjgdoafkdeaaaGreatDoorGa
import Derived.Test.YtcjjgdoafkdeaaaGreatDoorShelf
namespace Go.Proofs.YtcjjgdoafkdeaaaGreatDoor
section
open Go.RowKit Go.Extern.Stop Go.Stop Go.Extern
set_option linter.unusedVariables false
set_option linter.unusedSimpArgs false

theorem Tryz.sizeBuilder : (Tryz.prog.info? 215).map (·.size) = some 2 := by kernel_rfl
theorem Tryz.liesBuilder : liesAt Tryz.prog Tryz.prog.depth 215 (2 / Tryz.prog.cellsOf 215) 0 215 1 = true := by kernel_rfl
theorem Tryz.infoByte : (Tryz.prog.info? 5).map (fun i => (i.zero, i.size, i.bytes)) = some (some (.int .u8 0), 1, 1) := by kernel_rfl

set_option maxHeartbeats 1000000 in
set_option maxRecDepth 100000 in
theorem copyCheck_fresh (b : Nat) (w : World) (h0 : w.cell? ⟨b, 0, none⟩ = some (.pointer none)) (hsh : w.shape? b = some (215, 2)) (hfz : w.frozen? ⟨b, 0, none⟩ = false) :
    Calls Tryz.prog 218 #[.pointer (some ⟨b, 0, none⟩)] w fun e w' => e = .returned (.tuple #[]) ∧ w' = w.setCell ⟨b, 0, none⟩ (.pointer (some ⟨b, 0, none⟩)) := by
  obtain ⟨j, hj, hjs⟩ := Option.map_eq_some_iff.1 Tryz.sizeBuilder
  go_enter Tryz.func218, Tryz.ntmps218
  go_wp2
  rw [Lib.run_to_unsafe w ⟨b, 0, none⟩ Tryz.underlying213 Tryz.underlying224 hj (by rw [hjs]; decide) hsh (Nat.zero_lt_succ 1)]
  simp only [Result.andThen]
  rw [Oper.upon_value]
  go_wp2
  rw [run_callFunc_extern Tryz.func239 (by kernel_rfl) (by kernel_rfl) (by kernel_rfl) (e := Extern.AbiNoEscape.same) (by kernel_rfl)]
  rw [Lib.run_noEscape]
  simp only [Result.andThen]
  rw [Oper.upon_value]
  go_wp2
  rw [Lib.run_from_unsafe w ⟨b, 0, none⟩ Tryz.underlying224 Tryz.underlying213 hj hsh Tryz.liesBuilder]
  simp only [Result.andThen]
  rw [Oper.upon_value]
  go_wp2
  go_end0
  exact ⟨rfl, rfl⟩
set_option maxRecDepth 100000 in
theorem copyCheck_used (b : Nat) (w : World) (h0 : w.cell? ⟨b, 0, none⟩ = some (.pointer (some ⟨b, 0, none⟩))) :
    Calls Tryz.prog 218 #[.pointer (some ⟨b, 0, none⟩)] w fun e w' => e = .returned (.tuple #[]) ∧ w' = w := by
  obtain ⟨j, hj, _⟩ := Option.map_eq_some_iff.1 Tryz.sizeBuilder
  go_enter Tryz.func218, Tryz.ntmps218
  go_wp2
  rw [Lib.run_neq_ptr_same w _ Tryz.underlying213 hj]
  go_wp2
  go_end0
  exact ⟨rfl, rfl⟩

/-- A strings.Builder in block b, its buffer from block B on. -/
def Bd (b B : Nat) (bs : List Value) (w : World) : Prop :=
  ∃ p v, (p = .pointer none ∨ p = .pointer (some ⟨b, 0, none⟩)) ∧ w.heap[b]? = some (.cells #[p, v] 215 (0, 0)) ∧ w.ownsRow B 5 1 v bs.length bs
/-- All below B but block b is as it was. -/
structure Keep (b B : Nat) (w w' : World) : Prop where
  os : w'.os = w.os
  tape : w'.tape = w.tape
  output : w'.output = w.output
  size : w.heap.size ≤ w'.heap.size
  block : ∀ k, k < B → k ≠ b → w'.heap[k]? = w.heap[k]?
theorem Keep.tr {b B : Nat} {x y z : World} (h : Keep b B x y) (k : Keep b B y z) : Keep b B x z :=
  ⟨k.os.trans h.os, k.tape.trans h.tape, k.output.trans h.output, Nat.le_trans h.size k.size, fun i hi hn => (k.block i hi hn).trans (h.block i hi hn)⟩
theorem Keep.rf (b B : Nat) (w : World) : Keep b B w w := ⟨rfl, rfl, rfl, Nat.le_refl _, fun _ _ _ => rfl⟩
theorem Keep.below {b B : Nat} {w w' : World} (h : Keep b B w w') (hb : b ≤ B) : Below b w w' := ⟨h.os, h.tape, h.output, h.size, fun k hk => h.block k (by omega) (by omega)⟩
theorem Below.keep {b B : Nat} {w w' : World} (h : Below B w w') : Keep b B w w' := ⟨h.os, h.tape, h.output, h.size, fun k hk _ => h.block k hk⟩
theorem Keep.setCell (b B : Nat) (w : World) (i : Nat) (u : Value) : Keep b B w (w.setCell ⟨b, i, none⟩ u) :=
  ⟨rfl, rfl, rfl, by simp [World.setCell], fun k _ hn => Below.heap_setCell _ _ _ _ (by simpa using hn)⟩

theorem copyCheck_calls (b B : Nat) (bs : List Value) (w : World) (h : Bd b B bs w) (hbB : b < B) :
    Calls Tryz.prog 218 #[.pointer (some ⟨b, 0, none⟩)] w fun e w' => e = .returned (.tuple #[]) ∧
      (∃ v, w'.heap[b]? = some (.cells #[.pointer (some ⟨b, 0, none⟩), v] 215 (0, 0)) ∧ w'.ownsRow B 5 1 v bs.length bs) ∧ Keep b B w w' := by
  obtain ⟨p, v, hp | hp, hb, hown⟩ := h
  · subst hp
    refine (copyCheck_fresh b w (by rw [heap_cell hb]; rfl) (by simp [World.shape?, hb]) (by simp [World.frozen?, hb])).mono ?_
    rintro e w' ⟨rfl, rfl⟩
    exact ⟨rfl, ⟨v, by simpa using heap_setCell_same w b 0 _ _ _ hb, ownsRow_setCell_below hown (by simpa using hbB) _⟩, Keep.setCell b B w 0 _⟩
  · subst hp
    refine (copyCheck_used b w (by rw [heap_cell hb]; rfl)).mono ?_
    rintro e w' ⟨rfl, rfl⟩
    exact ⟨rfl, ⟨v, hb, hown⟩, Keep.rf _ _ _⟩

set_option maxHeartbeats 2000000 in
set_option maxRecDepth 100000 in
theorem writeString_calls (b B : Nat) (bs : List Value) (s : ByteArray) (w : World) (h : Bd b B bs w) (hbB : b < B) (hlen : bs.length + s.size ≤ 140737488355328) (hBw : B ≤ w.heap.size) :
    Calls Tryz.prog 180 #[.pointer (some ⟨b, 0, none⟩), .string s] w fun e w' => e = .returned (.tuple #[.int .i64 s.size, .nilIface]) ∧ Bd b B (bs ++ Lib.strCells s) w' ∧ Keep b B w w' := by
  obtain ⟨i0, hi, hz0, hz1, hz2⟩ := info_parts Tryz.infoByte
  go_enter Tryz.func180, Tryz.ntmps180
  go_wp2_with (go_at_call 218; refine (copyCheck_calls b B bs _ h hbB).mono ?_)
  rintro e w1 ⟨rfl, ⟨v, hbk, hown⟩, hk1⟩
  have c0 : w1.cell? ⟨b, 0, none⟩ = some (.pointer (some ⟨b, 0, none⟩)) := by rw [heap_cell hbk]; rfl
  have c1 : w1.cell? ⟨b, 1, none⟩ = some v := by rw [heap_cell hbk]; rfl
  go_wp2_with (at_builtin; refine Lib.wpList_append_own_string _ rfl _ _ 177 9 rfl B 5 i0 Tryz.underlying177 Tryz.underlying9 hi hz0 hz1 hz2 _ _ _ rfl hown s rfl ?c3 ?c4 ?c5 ?_)
  case c3 => unfold maxLen; omega
  case c4 => omega
  case c5 => have := hk1.size; omega
  intro v' w2 hown' hgrow _
  have hlt : b < w1.heap.size := (Array.getElem?_eq_some_iff.1 hbk).1
  have hne : some b ≠ v.ownBlock := fun e => by have := (hown.lt b e.symm).1; omega
  have hb2 : w2.heap[b]? = some (.cells #[.pointer (some ⟨b, 0, none⟩), v] 215 (0, 0)) := by
    rw [hgrow.block b hlt hne]
    exact hbk
  have d0 : w2.cell? ⟨b, 0, none⟩ = some (.pointer (some ⟨b, 0, none⟩)) := by rw [heap_cell hb2]; rfl
  have d1 : w2.cell? ⟨b, 1, none⟩ = some v := by rw [heap_cell hb2]; rfl
  have f1 : w2.frozen? ⟨b, 1, none⟩ = false := by simp [World.frozen?, hb2]
  obtain ⟨ao, n', cap, rfl⟩ : ∃ ao n' cap, v' = .slice ao n' cap := by
    rcases hown'.2 with ⟨hv, _⟩ | ⟨g, cap, cur, hv, _⟩
    · exact ⟨_, _, _, hv⟩
    · exact ⟨_, _, _, hv⟩
  have HB := Lib.hid hb2
  have HN := Lib.hid hne
  clear hb2 hne
  go_wp2
  go_ret2
  refine ⟨rfl, ⟨_, _, .inr rfl, by simpa using heap_setCell_same w2 b 1 _ _ _ HB.out, ?_⟩, ?_⟩
  · exact ownsRow_setCell_below (by simpa [Lib.strCells_length] using hown') (by simpa using hbB) _
  · exact (hk1.tr ⟨hgrow.os, hgrow.tape, hgrow.output, hgrow.size, fun k hk _ => hgrow.block k (by have := hk1.size; omega) (fun e => by have := (hown.lt k e.symm).1; omega)⟩).tr (Keep.setCell b B _ 1 _)

/-- "error " and the code. -/
def errWord (c : Nat) : ByteArray := ⟨#[101, 114, 114, 111, 114, 32]⟩ ++ ⟨(Lib.decDigits c).toArray⟩
theorem errWord_size (c : Nat) (hc : c < 100) : (errWord c).size ≤ 8 := (show ∀ c < 100, (errWord c).size ≤ 8 by decide +kernel) c hc
theorem Er.places_le (e : Er) : e.places.length ≤ e.len := by
  induction e with
  | fault b c s e ih => simp only [Er.places, Er.len, List.length_append]; split <;> simp <;> omega
  | _ => simp [Er.places]
theorem plainError_calls (c : Nat) (hc : c < 100) (w : World) :
    Calls Tryz.prog 267 #[.int .i64 c] w fun e w' => e = .returned (.string (errWord c)) ∧ w = w' := by
  have HC := fun w => Tryz.strconv_Itoa_small c hc w
  have hl : (Lib.decDigits c).length ≤ 2 := (show ∀ c < 100, (Lib.decDigits c).length ≤ 2 by decide +kernel) c hc
  have H := Lib.hid HC
  clear HC
  go_enter Tryz.func267, Tryz.ntmps267
  go_wp2_with (go_at_call 201; refine (H.out _).mono ?_; rintro e w' ⟨rfl, rfl⟩)
  go_ret
  exact ⟨rfl, rfl⟩

/-- What a (*Fault).Error writes of the places. -/
def placesText (l : List ByteArray) : List UInt8 := l.flatMap fun s => s.data.toList ++ [58, 32]
/-- An error's text, of one at a place. -/
def Er.says (e : Er) (c : Nat) : ByteArray := ⟨(placesText e.places).toArray⟩ ++ errWord c

theorem Keep.drew {b B : Nat} {x y : World} (h : Keep b B x y) : Keep b B x y.drew := ⟨h.os, h.tape, h.output, h.size, h.block⟩

theorem string_calls (b B : Nat) (l : List UInt8) (w : World) (h : Bd b B (Lib.byteCells l) w) (hbB : b < B) (hBw : B ≤ w.heap.size) :
    Calls Tryz.prog 182 #[.pointer (some ⟨b, 0, none⟩)] w fun e w' => e = .returned (.string ⟨l.toArray⟩) ∧ Below b w w' := by
  refine Tryz.Builder_String_any b b l w ?_ (by omega)
  obtain ⟨p, v, hp, hb, hown⟩ := h
  have hne : v.ownBlock ≠ some b := fun e => by have := (hown.lt b e).1; omega
  have hown' : w.ownsRow b 5 1 v (Lib.byteCells l).length (Lib.byteCells l) := by
    refine ⟨hown.1, ?_⟩
    rcases hown.2 with h | ⟨g, cap, cur, h1, h2, h3⟩
    · exact .inl h
    · exact .inr ⟨g, cap, cur, h1, by omega, h3⟩
  rcases hp with rfl | rfl
  · exact .inl ⟨Nat.le_refl _, v, hb, hown', hne⟩
  · exact .inr ⟨Nat.le_refl _, v, hb, hown', hne⟩

theorem owns_slice {w : World} {B t : Nat} {r : Value} {n : Nat} {xs : List Value} (h : w.ownsRow B t 1 r n xs) : ∃ ao cap, r = .slice ao n cap := by
  rcases h.2 with ⟨hv, h0⟩ | ⟨g, cap, cur, hv, _⟩
  · exact ⟨none, 0, by rw [hv, h0]⟩
  · exact ⟨_, _, hv⟩
theorem owns_at {w : World} {B t : Nat} {r : Value} {n : Nat} {xs : List Value} (h : w.ownsRow B t 1 r n xs) (hn : 0 < n) : ∃ g cap, r = .slice (some ⟨g, 0, none⟩) n cap ∧ B ≤ g ∧ g < w.heap.size ∧ ∀ k, k < n → w.cell? ⟨g, k, none⟩ = xs[k]? := by
  rcases h.2 with ⟨hv, h0⟩ | ⟨g, cap, cur, rfl, hB, hg, _⟩
  · omega
  · exact ⟨g, cap, rfl, hB, (Array.getElem?_eq_some_iff.1 hg).1, fun k hk => h.cellAt k (by omega)⟩
theorem placesText_snoc (l : List ByteArray) (k : Nat) (hk : k < l.length) : placesText (l.take (k + 1)) = placesText (l.take k) ++ (l[k].data.toList ++ [58, 32]) := by
  rw [List.take_succ_eq_append_getElem hk]; simp only [placesText, List.flatMap_append, List.flatMap_cons, List.flatMap_nil, List.append_nil]
theorem placesText_size (l : List ByteArray) (k : Nat) (hk : k < l.length) : l[k].size ≤ (placesText l).length := by
  have : (placesText l) = placesText (l.take k) ++ placesText (l.drop k) := by rw [placesText, placesText, placesText, ← List.flatMap_append, List.take_append_drop]
  rw [this, List.drop_eq_getElem_cons hk]; simp only [placesText, List.flatMap_cons, List.length_append, Array.length_toList, ByteArray.size_data]; omega
theorem placesText_take (l : List ByteArray) (k : Nat) : (placesText (l.take k)).length ≤ (placesText l).length := by
  have : (placesText l) = placesText (l.take k) ++ placesText (l.drop k) := by rw [placesText, placesText, placesText, ← List.flatMap_append, List.take_append_drop]
  rw [this]; simp
end
section
open Go.RowKit Go.Extern.Stop Go.Stop Go.Extern
set_option linter.unusedVariables false
set_option linter.unusedSimpArgs false

set_option maxHeartbeats 2000000 in
set_option maxRecDepth 100000 in
theorem faultError_calls (b0 : Nat) (c : Nat) (hc : c < 100) (s : ByteArray) (e0 : Er) (w : World) (h : ErAt w (.iface 178 (.pointer (some ⟨b0, 0, none⟩))) (.fault b0 c s e0)) (hd : (Er.fault b0 c s e0).len ≤ 1000000)
    (hsz : (placesText (Er.fault b0 c s e0).places).length ≤ 1000000000) :
    Calls Tryz.prog 268 #[.pointer (some ⟨b0, 0, none⟩)] w fun ev w' => ev = .returned (.string ((Er.fault b0 c s e0).says c)) ∧ Gr w w' := by
  obtain ⟨x0, h0⟩ : ∃ x0, w.heap[b0]? = some (.cells #[.int .i64 (c : Int), .string s, x0] 182 (0, 0)) := by cases h with | fault _ _ _ v _ hb _ => exact ⟨_, hb⟩
  have hb0 : b0 < w.heap.size := (Array.getElem?_eq_some_iff.1 h0).1
  generalize he : Er.fault b0 c s e0 = e at *
  have HW := Lib.hid (where_calls _ e (w.alloc (.cells #[.pointer none, .slice none 0 0] 215)) (h.gr ((Gr.rf w).alloc (Nat.le_refl _) _)) hd)
  have H0 := Lib.hid h0
  have hw := errWord_size c hc
  have hpl := e.places_le
  clear h h0 he
  go_enter Tryz.func268, Tryz.ntmps268
  go_wp2_with (go_at_call 174; refine HW.out.mono ?_; rintro ev w1 ⟨r, rfl, hown, hg1⟩; obtain ⟨ao, cap, rfl⟩ := owns_slice hown)
  have hb1 : w1.heap[w.heap.size]? = some (.cells #[.pointer none, .slice none 0 0] 215 (0, 0)) := hg1.heap (heap_alloc_new w _)
  have hbs := (Array.getElem?_eq_some_iff.1 hb1).1
  have hg0 : Gr w w1 := Below.trans (by go_grown) (hg1.mono (by simp))
  have HB := Lib.hid hb1
  have HO := Lib.hid hown
  clear hb1 hown
  go_loopg [12] (e.places.length) (fun k i wr => ∃ j : Nat, j ≤ e.places.length ∧ k = e.places.length - j ∧ i = .int .i64 j ∧ Bd w.heap.size w1.heap.size (Lib.byteCells (placesText (e.places.take j))) wr ∧ Keep w.heap.size w1.heap.size w1 wr)
  case atStart => exact ⟨0, Nat.zero_le _, by omega, rfl, ⟨_, _, .inl rfl, HB.out, World.ownsRow_nil _ _ _ _⟩, Keep.rf _ _ _⟩
  case round =>
    obtain ⟨j, hj, hk, rfl, hbd, hkeep⟩ := hrel
    have HBD := Lib.hid hbd
    have hkk : e.places.length - j ≤ gk := by omega
    clear hbd hk
    by_cases hlt : j < e.places.length
    · obtain ⟨g, cap', hr, hg, hgl, hcell⟩ := owns_at HO.out (by omega)
      cases hr
      have hc1 : wr.cell? ⟨g, j, none⟩ = some (.string e.places[j]) := by
        rw [World.cell?_of_block (w := w1) (hkeep.block g hgl (by simp at hg; omega)), hcell j hlt]; simp [hlt]
      have hs1 := placesText_size e.places j hlt
      have hs2 := placesText_take e.places j
      have hs3 := hkeep.size
      generalize hp : e.places[j] = p at *
      have HP := Lib.hid hp
      clear hp hcell
      have hlen : (Lib.byteCells (placesText (e.places.take j))).length + (p ++ ⟨#[58, 32]⟩ : ByteArray).size ≤ 140737488355328 := by
        rw [Lib.byteCells_length, ByteArray.size_append]; simp only [ByteArray.size, List.size_toArray, List.length_cons, List.length_nil] at hs1 ⊢; omega
      have HL := Lib.hid hlen
      clear hlen
      go_wp2_with (go_at_call 180; (with_reducible refine (writeString_calls _ _ _ (p ++ ⟨#[58, 32]⟩) _ HBD.out hbs HL.out hs3).mono ?_); rintro ev w2 ⟨rfl, hbd2, hk2⟩; have HBD2 := Lib.hid hbd2; clear hbd2)
      go_roundg (e.places.length - (j + 1))
      case measure => omega
      case rel =>
        refine ⟨j + 1, hlt, rfl, by go_num, ?_, hkeep.tr hk2⟩
        have := HBD2.out
        rw [placesText_snoc _ _ hlt, Lib.byteCells_append, HP.out]
        simpa [Lib.strCells_eq] using this
    · obtain rfl : j = e.places.length := by omega
      rw [List.take_length] at HBD
      have hc0 : wr.cell? ⟨b0, 0, none⟩ = some (.int .i64 (c : Int)) := by
        rw [World.cell?_of_block (w := w1) (hkeep.block b0 (by have := hg0.size; omega) (by simp; omega)), heap_cell (hg0.heap H0.out)]; rfl
      have HD : Hid (Bd w.heap.size w1.heap.size (Lib.byteCells (placesText e.places)) wr.drew) := HBD.out
      have hs4 : w1.heap.size ≤ wr.drew.heap.size := hkeep.size
      have HK := Lib.hid hkeep
      go_wp2_with fail
      go_region_with (first
        | (go_at_call 182; (with_reducible refine (string_calls w.heap.size w1.heap.size (placesText e.places) _ HD.out hbs hs4).mono ?_); rintro ev w3 ⟨rfl, h3⟩; have hc3 : w3.cell? ⟨b0, 0, none⟩ = some (.int .i64 (c : Int)) := (Below.cell h3 (p := ⟨b0, 0, none⟩) hb0).trans hc0)
        | (go_at_call 267; (with_reducible refine (plainError_calls c hc _).mono ?_); rintro ev w3 ⟨rfl, rfl⟩))
      all_goals
        go_wp2
        go_ret
        exact ⟨rfl, hg0.trans ((Below.drew (HK.out.below (by omega))).trans h3)⟩
end
section
open Go.RowKit Go.Extern.Stop Go.Stop Go.Extern
set_option linter.unusedVariables false
set_option linter.unusedSimpArgs false

theorem eql_codes (w : World) (x y : Int) : (binOp .eql 33 (.iface 169 (.int .i64 x)) (.iface 169 (.int .i64 y))).run Tryz.prog w = .ok (.bool (x == y)) w := by
  obtain ⟨i, hi, hc⟩ := Option.map_eq_some_iff.1 (show (Tryz.prog.info? 169).map (·.comparable) = some true by kernel_rfl)
  have h : ∀ d : Nat, (Op.equalIn (d + 2) 33 (.iface 169 (.int .i64 x)) (.iface 169 (.int .i64 y))).run Tryz.prog w = .ok (x == y) w := fun d => by
    simp [Op.equalIn, run_underlying Tryz.underlying33, run_underlying Tryz.underlying169, typeInfo, hi, hc]
  simp only [binOp]
  simp [Op.equal, Op.maxDepth, h 9998]

/-- What is asked for: a code; the error at a block. -/
inductive Tg where
  | code (c : Int)
  | fault (b : Nat)
  | text (b : Nat)
inductive TgAt (w : World) : Value → Tg → Prop
  | code (c : Int) : TgAt w (.iface 169 (.int .i64 c)) (.code c)
  | fault (b : Nat) (cs : Array Value) : w.heap[b]? = some (.cells cs 182 (0, 0)) → TgAt w (.iface 178 (.pointer (some ⟨b, 0, none⟩))) (.fault b)
  | text (b : Nat) (cs : Array Value) : w.heap[b]? = some (.cells cs 296 (0, 0)) → TgAt w (.iface 294 (.pointer (some ⟨b, 0, none⟩))) (.text b)
theorem TgAt.gr {w w' : World} (hg : Gr w w') {v : Value} {t : Tg} (h : TgAt w v t) : TgAt w' v t := by
  cases h with
  | code c => exact .code c
  | fault b cs hb => exact .fault b cs (hg.heap hb)
  | text b cs hb => exact .text b cs (hg.heap hb)
/-- '==' of an error of a chain and what is asked for. -/
def Er.eqT (t : Tg) : Er → Bool
  | .nil => false
  | .plain c => match t with | .code d => c == d | _ => false
  | .text b => match t with | .text d => b == d | _ => false
  | .fault b _ _ _ => match t with | .fault d => b == d | _ => false
/-- Is it that code? -/
def Tg.isCode (c : Int) : Tg → Bool
  | .code d => d == c
  | _ => false
/-- Is an error that, or one beneath it? -/
def Er.isT (t : Tg) : Er → Bool
  | .fault b c s e => (Er.fault b c s e).eqT t || t.isCode c || e.isT t
  | e => e.eqT t

theorem isT_fault (b : Nat) (c : Int) (s : ByteArray) (e : Er) (t : Tg) : (Er.fault b c s e).isT t = ((Er.fault b c s e).eqT t || t.isCode c || e.isT t) := rfl
theorem Tryz.hasIsF (v : Value) (xT : TypeId) (w : World) : (Instr.typeAssert (.iface 178 v) xT 278 true).run Tryz.prog w = .ok (.tuple #[.iface 178 v, .bool true]) w := run_typeAssert_hasB Tryz.underlying278 (by kernel_rfl) v xT w
theorem Tryz.noIsP (v : Value) (xT : TypeId) (w : World) : (Instr.typeAssert (.iface 169 v) xT 278 true).run Tryz.prog w = .ok (.tuple #[.nilIface, .bool false]) w := run_typeAssert_lacksB Tryz.underlying278 (by kernel_rfl) (by kernel_rfl) v xT w
theorem Tryz.noIsX (v : Value) (xT : TypeId) (w : World) : (Instr.typeAssert (.iface 294 v) xT 278 true).run Tryz.prog w = .ok (.tuple #[.nilIface, .bool false]) w := run_typeAssert_lacksB Tryz.underlying278 (by kernel_rfl) (by kernel_rfl) v xT w

set_option maxRecDepth 100000 in
theorem faultIs_code (b : Nat) (c d : Int) (w : World) (hc : w.cell? ⟨b, 0, none⟩ = some (.int .i64 c)) :
    Calls Tryz.prog 269 #[.pointer (some ⟨b, 0, none⟩), .iface 169 (.int .i64 d)] w fun e w' => e = .returned (.bool (d == c)) ∧ w = w' := by
  have c1 := Tryz.castPP
  go_enter Tryz.func269, Tryz.ntmps269
  go_wp2
  go_ret
  exact ⟨rfl, rfl⟩
set_option maxRecDepth 100000 in
theorem faultIs_other (b : Nat) (v : Value) (t : Tg) (w : World) (h : TgAt w v t) (hn : ∀ c, t ≠ .code c) :
    Calls Tryz.prog 269 #[.pointer (some ⟨b, 0, none⟩), v] w fun e w' => e = .returned (.bool false) ∧ w = w' := by
  have c1 := Tryz.castFP
  have c2 := Tryz.castXP
  cases h with
  | code c => exact absurd rfl (hn c)
  | fault b cs hb =>
    clear hb hn
    go_enter Tryz.func269, Tryz.ntmps269
    go_wp2
    go_ret
    exact ⟨rfl, rfl⟩
  | text b cs hb =>
    clear hb hn
    go_enter Tryz.func269, Tryz.ntmps269
    go_wp2
    go_ret
    exact ⟨rfl, rfl⟩
set_option maxRecDepth 100000 in
theorem faultIs_nil (d : Int) (w : World) : Calls Tryz.prog 269 #[.pointer none, .iface 169 (.int .i64 d)] w fun e w' => e = .returned (.bool false) ∧ w = w' := by
  have c1 := Tryz.castPP
  go_enter Tryz.func269, Tryz.ntmps269
  go_wp2
  go_ret
  exact ⟨rfl, rfl⟩
theorem eql_tg (v tv : Value) (e : Er) (t : Tg) (w : World) (h : ErAt w v e) (ht : TgAt w tv t) (hne : e ≠ .nil) : (binOp .eql 33 v tv).run Tryz.prog w = .ok (.bool (e.eqT t)) w := by
  obtain ⟨i, hi, hc⟩ := Option.map_eq_some_iff.1 (show (Tryz.prog.info? 178).map (·.comparable) = some true by kernel_rfl)
  obtain ⟨i2, hi2, hc2⟩ := Option.map_eq_some_iff.1 (show (Tryz.prog.info? 294).map (·.comparable) = some true by kernel_rfl)
  obtain ⟨j, hj, hjs⟩ := Option.map_eq_some_iff.1 (show (Tryz.prog.info? 182).map (·.size) = some 3 by kernel_rfl)
  obtain ⟨j2, hj2, hjs2⟩ := Option.map_eq_some_iff.1 (show (Tryz.prog.info? 296).map (·.size) = some 1 by kernel_rfl)
  cases h with
  | nil => exact absurd rfl hne
  | plain c =>
    cases ht with
    | code d => exact eql_codes w c d
    | fault b cs hb => exact run_eql_iface_types _ _ _ _ Tryz.underlying33 (by decide) w
    | text b cs hb => exact run_eql_iface_types _ _ _ _ Tryz.underlying33 (by decide) w
  | fault b c s x e hb hx =>
    cases ht with
    | code d => exact run_eql_iface_types _ _ _ _ Tryz.underlying33 (by decide) w
    | fault b2 cs hb2 =>
      by_cases hbb : b = b2
      · subst hbb
        rw [show (Er.fault b c s e).eqT (.fault b) = true from beq_self_eq_true b]
        exact run_eql_iface_ptr_same (P := Tryz.prog) w ⟨b, 0, none⟩ Tryz.underlying33 Tryz.underlying178 hi hc hj
      · have := run_eql_iface_ptr_other (P := Tryz.prog) w (a := ⟨b, 0, none⟩) (b := ⟨b2, 0, none⟩) Tryz.underlying33 Tryz.underlying178 hi hc hj (by rw [hjs]; decide) (fun h => hbb (congrArg Addr.block h)) hb hb2
        rw [show (Er.fault b c s e).eqT (.fault b2) = false from beq_eq_false_iff_ne.2 hbb]
        exact this
    | text b cs hb => exact run_eql_iface_types _ _ _ _ Tryz.underlying33 (by decide) w
  | text b s hb =>
    cases ht with
    | code d => exact run_eql_iface_types _ _ _ _ Tryz.underlying33 (by decide) w
    | fault b2 cs hb2 => exact run_eql_iface_types _ _ _ _ Tryz.underlying33 (by decide) w
    | text b2 cs hb2 =>
      by_cases hbb : b = b2
      · subst hbb
        rw [show (Er.text b).eqT (.text b) = true from beq_self_eq_true b]
        exact run_eql_iface_ptr_same (P := Tryz.prog) w ⟨b, 0, none⟩ Tryz.underlying33 Tryz.underlying294 hi2 hc2 hj2
      · have := run_eql_iface_ptr_other (P := Tryz.prog) w (a := ⟨b, 0, none⟩) (b := ⟨b2, 0, none⟩) Tryz.underlying33 Tryz.underlying294 hi2 hc2 hj2 (by rw [hjs2]; decide) (fun h => hbb (congrArg Addr.block h)) hb hb2
        rw [show (Er.text b).eqT (.text b2) = false from beq_eq_false_iff_ne.2 hbb]
        exact this

theorem faultIs_calls (b : Nat) (c : Int) (tv : Value) (t : Tg) (w : World) (hc : w.cell? ⟨b, 0, none⟩ = some (.int .i64 c)) (h : TgAt w tv t) :
    Calls Tryz.prog 269 #[.pointer (some ⟨b, 0, none⟩), tv] w fun e w' => e = .returned (.bool (t.isCode c)) ∧ w = w' := by
  cases h with
  | code d => exact faultIs_code b c d w hc
  | fault b2 cs hb => exact faultIs_other b _ (.fault b2) w (.fault b2 cs hb) (by simp)
  | text b2 cs hb => exact faultIs_other b _ (.text b2) w (.text b2 cs hb) (by simp)
set_option maxRecDepth 100000 in
theorem faultUnwrap_calls (b : Nat) (x : Value) (w : World) (hc : w.cell? ⟨b, 2, none⟩ = some x) :
    Calls Tryz.prog 270 #[.pointer (some ⟨b, 0, none⟩)] w fun e w' => e = .returned x ∧ w = w' := by
  go_enter Tryz.func270, Tryz.ntmps270
  go_wp2
  go_ret
  exact ⟨rfl, rfl⟩
theorem faultUnwrap_nil (w : World) :
    Calls Tryz.prog 270 #[.pointer none] w fun e w' => e = .returned .nilIface ∧ w = w' := by
  go_enter Tryz.func270, Tryz.ntmps270
  go_wp2
  go_ret
  exact ⟨rfl, rfl⟩

theorem ret_bool {a b : Bool} (h : a = b) : Ending.returned (.bool a) = .returned (.bool b) := by rw [h]

set_option maxHeartbeats 4000000 in
set_option maxRecDepth 100000 in
/-- errors.is: down a chain. -/
theorem is_calls (v tv : Value) (e : Er) (t : Tg) (w : World) (h : ErAt w v e) (ht : TgAt w tv t) (hne : e ≠ .nil) :
    Calls Tryz.prog 212 #[v, tv, .bool true] w fun ev w' => ev = .returned (.bool (e.isT t)) ∧ w = w' := by
  have i1 := Tryz.hasIsF
  have i2 := Tryz.noIsP
  have i3 := Tryz.noIsX
  have u1 := Tryz.hasUnwrapF
  have u2 := Tryz.noUnwrapP
  have u3 := Tryz.noUnwrapX
  have u4 := Tryz.noUnwrapsP
  have u5 := Tryz.noUnwrapsX
  have H := Lib.hid h
  have HT := Lib.hid ht
  have HN := Lib.hid hne
  clear h ht hne
  go_enter Tryz.func212, Tryz.ntmps212
  go_wp2
  go_loopg [0] e.len (fun k x wr => ∃ e', e'.len ≤ k ∧ e' ≠ .nil ∧ ErAt w x e' ∧ e'.isT t = e.isT t ∧ w = wr)
  case atStart => exact ⟨e, Nat.le_refl _, HN.out, H.out, rfl, rfl⟩
  case round =>
    obtain ⟨e', hk, hne, hx, hst, rfl⟩ := hrel
    have heq := eql_tg _ _ e' t w hx HT.out hne
    have HS := Lib.hid hst
    have HK := Lib.hid hk
    have HE := Lib.hid hne
    clear hst hne hk
    cases hx with
    | nil => exact absurd rfl HE.out
    | plain c =>
      cases hq : (Er.plain c).eqT t
      all_goals
        rw [hq] at heq
        have HQ := Lib.hid hq
        clear hq
        go_wp2
        go_ret
        exact ⟨ret_bool (HQ.out.symm.trans HS.out), rfl⟩
    | text b s hb =>
      clear hb
      cases hq : (Er.text b).eqT t
      all_goals
        rw [hq] at heq
        have HQ := Lib.hid hq
        clear hq
        go_wp2
        go_ret
        exact ⟨ret_bool (HQ.out.symm.trans HS.out), rfl⟩
    | fault b c s x e1 hb hx =>
      have h0 : w.cell? ⟨b, 0, none⟩ = some (.int .i64 c) := by rw [heap_cell hb]; rfl
      have h2 : w.cell? ⟨b, 2, none⟩ = some x := by rw [heap_cell hb]; rfl
      have HF := Lib.hid (faultIs_calls b c _ t w h0 HT.out)
      have HX := Lib.hid hx
      clear hb hx h0
      cases hq : (Er.fault b c s e1).eqT t
      · rw [hq] at heq
        have HQ := Lib.hid hq
        clear hq
        cases hr : t.isCode c
        · rw [hr] at HF
          have HR := Lib.hid hr
          clear hr
          cases HX.out with
          | nil =>
            have HU := Lib.hid (faultUnwrap_calls b _ w h2)
            clear h2
            go_wp2_with (first
              | (go_at_call 269; (with_reducible refine HF.out.mono ?_); rintro ev w3 ⟨rfl, rfl⟩)
              | (go_at_call 270; (with_reducible refine HU.out.mono ?_); rintro ev w3 ⟨rfl, rfl⟩))
            go_ret
            exact ⟨ret_bool (by rw [← HS.out, Er.isT, HQ.out, HR.out]; rfl), rfl⟩
          | _ =>
            have HU := Lib.hid (faultUnwrap_calls b _ w h2)
            clear h2
            go_wp2_with (first
              | (go_at_call 269; (with_reducible refine HF.out.mono ?_); rintro ev w3 ⟨rfl, rfl⟩)
              | (go_at_call 270; (with_reducible refine HU.out.mono ?_); rintro ev w3 ⟨rfl, rfl⟩))
            go_roundg (gk - 1)
            case measure => have := HK.out; simp [Er.len] at this; omega
            case rel => exact ⟨_, by have := HK.out; simp [Er.len] at this ⊢; omega, by simp, HX.out, by have h := HS.out; rw [isT_fault, HQ.out, HR.out, Bool.false_or, Bool.false_or] at h; exact h, rfl⟩
        · rw [hr] at HF
          have HR := Lib.hid hr
          clear hr
          go_wp2_with (go_at_call 269; (with_reducible refine HF.out.mono ?_); rintro ev w3 ⟨rfl, rfl⟩)
          go_ret
          exact ⟨ret_bool (by rw [← HS.out, Er.isT, HR.out, Bool.or_true, Bool.true_or]), rfl⟩
      · rw [hq] at heq
        have HQ := Lib.hid hq
        clear hq
        go_wp2
        go_ret
        exact ⟨ret_bool (by rw [← HS.out, Er.isT, HQ.out, Bool.true_or, Bool.true_or]), rfl⟩
end
section
open Go.RowKit Go.Extern.Stop Go.Stop Go.Extern
set_option linter.unusedVariables false
set_option linter.unusedSimpArgs false

theorem Tryz.compP (w : World) : (callFunc 290 #[.agg #[.pointer (some ⟨16, 169, none⟩)]]).run Tryz.prog w = .ok (.value (.bool true)) w := by kernel_rfl
theorem Tryz.compF (w : World) : (callFunc 290 #[.agg #[.pointer (some ⟨16, 178, none⟩)]]).run Tryz.prog w = .ok (.value (.bool true)) w := by kernel_rfl
theorem Tryz.compX (w : World) : (callFunc 290 #[.agg #[.pointer (some ⟨16, 294, none⟩)]]).run Tryz.prog w = .ok (.value (.bool true)) w := by kernel_rfl

set_option maxHeartbeats 2000000 in
set_option maxRecDepth 100000 in
/-- errors.Is: down a chain. -/
theorem Is_calls (v tv : Value) (e : Er) (t : Tg) (w : World) (h : ErAt w v e) (ht : TgAt w tv t) (hne : e ≠ .nil) :
    Calls Tryz.prog 175 #[v, tv] w fun ev w' => ev = .returned (.bool (e.isT t)) ∧ w = w' := by
  have h24 := @run_callFunc_extern Tryz.prog 211 _ ReflectliteType.typeOf Tryz.func211 (by kernel_rfl) (by kernel_rfl) (by kernel_rfl) (by kernel_rfl)
  have c1 := Tryz.compP
  have c2 := Tryz.compF
  have c3 := Tryz.compX
  have t1 := Tryz.typeOfP
  have t2 := Tryz.typeOfF
  have t3 := Tryz.typeOfX
  have HI := Lib.hid (is_calls v tv e t w h ht hne)
  cases h with
  | nil => exact absurd rfl hne
  | plain c =>
    clear hne
    cases ht with
    | code d =>
      go_enter Tryz.func175, Tryz.ntmps175
      go_wp2_with (go_at_call 212; (with_reducible refine HI.out.mono ?_); rintro ev w3 ⟨rfl, rfl⟩)
      go_ret
      exact ⟨rfl, rfl⟩
    | _ b2 cs2 hb2 =>
      clear hb2
      go_enter Tryz.func175, Tryz.ntmps175
      go_wp2_with (go_at_call 212; (with_reducible refine HI.out.mono ?_); rintro ev w3 ⟨rfl, rfl⟩)
      go_ret
      exact ⟨rfl, rfl⟩
  | fault b c s x e hb hx =>
    clear hb hx hne
    cases ht with
    | code d =>
      go_enter Tryz.func175, Tryz.ntmps175
      go_wp2_with (go_at_call 212; (with_reducible refine HI.out.mono ?_); rintro ev w3 ⟨rfl, rfl⟩)
      go_ret
      exact ⟨rfl, rfl⟩
    | _ b2 cs2 hb2 =>
      clear hb2
      go_enter Tryz.func175, Tryz.ntmps175
      go_wp2_with (go_at_call 212; (with_reducible refine HI.out.mono ?_); rintro ev w3 ⟨rfl, rfl⟩)
      go_ret
      exact ⟨rfl, rfl⟩
  | text b s hb =>
    clear hb hne
    cases ht with
    | code d =>
      go_enter Tryz.func175, Tryz.ntmps175
      go_wp2_with (go_at_call 212; (with_reducible refine HI.out.mono ?_); rintro ev w3 ⟨rfl, rfl⟩)
      go_ret
      exact ⟨rfl, rfl⟩
    | _ b2 cs2 hb2 =>
      clear hb2
      go_enter Tryz.func175, Tryz.ntmps175
      go_wp2_with (go_at_call 212; (with_reducible refine HI.out.mono ?_); rintro ev w3 ⟨rfl, rfl⟩)
      go_ret
      exact ⟨rfl, rfl⟩
end
section
open Go.RowKit Go.Extern.Stop Go.Stop Go.Extern
set_option linter.unusedVariables false
set_option linter.unusedSimpArgs false

set_option maxHeartbeats 4000000 in
set_option maxRecDepth 100000 in
theorem begun1_calls (w : World) (hg : Has w) : Calls Tryz.prog 121 #[] w fun e w' => e = .returned (.bool true) ∧ Gr w w' := by
  have HG := Lib.hid hg
  have HN := Lib.hid (new_calls 4 rfl ⟨#[98]⟩ w)
  clear hg
  go_enter Tryz.func121, Tryz.ntmps121
  go_wp2_with (go_at_call 173; (with_reducible refine HN.out.mono ?_); rintro ev w1 ⟨rfl, hx1, hg1⟩; have HX1 := Lib.hid hx1; clear hx1)
  have HW := Lib.hid (wrap_calls ⟨#[97]⟩ _ _ w1 (HG.out.gr hg1) HX1.out (by simp))
  go_wp2_with (go_at_call 172; (with_reducible refine HW.out.mono ?_); rintro ev w2 ⟨b, hb, rfl, hx2, hg2⟩; have HX2 := Lib.hid hx2; clear hx2)
  have HH := Lib.hid (where_calls _ _ w2 HX2.out (by simp [Er.len]))
  have hgg := hg1.tr hg2
  have hpl : (Er.fault b (Er.fault w.heap.size 4 { data := #[98] } Er.nil).code { data := #[97] } (Er.fault w.heap.size 4 { data := #[98] } Er.nil)).places = [⟨#[97]⟩, ⟨#[98]⟩] := by simp [Er.places, ByteArray.toList_eq]
  rw [hpl] at HH
  have HPL := Lib.hid hpl
  clear hpl
  go_wp2_with (go_at_call 174; (with_reducible refine HH.out.mono ?_); rintro ev w3 ⟨r, rfl, hown, hg3⟩; obtain ⟨g, cap, rfl, hgb, hgl, hcell⟩ := owns_at hown (by simp); have c0 : w3.cell? ⟨g, 0, none⟩ = some (.string ⟨#[97]⟩) := hcell 0 (by simp); have c1 : w3.cell? ⟨g, 1, none⟩ = some (.string ⟨#[98]⟩) := hcell 1 (by simp); clear hcell hown)
  have hg13 := hgg.tr hg3
  have hx3 := HX2.out.gr hg3
  have HC := Lib.hid (code_calls _ _ w3 (HG.out.gr hg13) hx3)
  have hx4 : ErAt w3 (.iface 178 (.pointer (some ⟨b, 0, none⟩))) (.fault b ((4 : Nat) : Int) ⟨#[97]⟩ (.fault w.heap.size 4 ⟨#[98]⟩ .nil)) := hx3
  have HX3 := Lib.hid hx4
  clear hx3 hx4
  go_wp2_with (go_at_call 82; (with_reducible refine HC.out.mono ?_); rintro ev w4 ⟨rfl, hg4⟩)
  have hsays : (Er.fault b ((4 : Nat) : Int) ⟨#[97]⟩ (.fault w.heap.size 4 ⟨#[98]⟩ .nil)).says 4 = ⟨#[97, 58, 32, 98, 58, 32, 101, 114, 114, 111, 114, 32, 52]⟩ := by
    unfold Er.says
    rw [show (Er.fault b ((4 : Nat) : Int) ⟨#[97]⟩ (.fault w.heap.size 4 ⟨#[98]⟩ .nil)).places = [⟨#[97]⟩, ⟨#[98]⟩] from HPL.out]
    decide +kernel
  have HE := Lib.hid (faultError_calls b 4 (by omega) _ _ w4 (HX3.out.gr hg4) (by simp [Er.len]) (by
    rw [show (Er.fault b ((4 : Nat) : Int) ⟨#[97]⟩ (.fault w.heap.size 4 ⟨#[98]⟩ .nil)).places = [⟨#[97]⟩, ⟨#[98]⟩] from HPL.out]
    simp [placesText]))
  rw [hsays] at HE
  clear hsays
  go_wp2_with (go_at_call 268; (with_reducible refine HE.out.mono ?_); rintro ev w5 ⟨rfl, hg5⟩)
  have hg35 := hg4.tr hg5
  have HO4 := Lib.hid (of_calls 4 rfl w5)
  have HI4 := Lib.hid (Is_calls _ _ _ _ w5 (HX3.out.gr hg35) (.code 4) (by simp))
  have HO1 := Lib.hid (of_calls 1 rfl w5)
  have HI1 := Lib.hid (Is_calls _ _ _ _ w5 (HX3.out.gr hg35) (.code 1) (by simp))
  have HO0 := Lib.hid (of_ok w5)
  have HO3 := Lib.hid (of_calls 3 rfl w5)
  have heq := eql_codes w5 3 3
  go_wp2_with (first
    | (go_at_call 68; (first | (with_reducible refine HO4.out.mono ?_) | (with_reducible refine HO1.out.mono ?_) | (with_reducible refine HO0.out.mono ?_) | (with_reducible refine HO3.out.mono ?_)); rintro ev w6 ⟨rfl, rfl⟩)
    | (go_at_call 175; (first | (with_reducible refine HI4.out.mono ?_) | (with_reducible refine HI1.out.mono ?_)); rintro ev w6 ⟨rfl, rfl⟩))
  go_ret
  exact ⟨rfl, hg13.tr hg35⟩
end
section
open Go.RowKit Go.Extern.Stop Go.Stop Go.Extern
set_option linter.unusedVariables false
set_option linter.unusedSimpArgs false

theorem tmod_nn (a k : Int) (h : 0 ≤ a) : a.tmod k = a % k := Int.tmod_eq_emod_of_nonneg h
theorem tmod_neg (a k : Int) (h : a < 0) : a.tmod k = -((-a) % k) := by
  have := Int.neg_tmod (-a) k
  rw [Int.neg_neg] at this
  rw [this, tmod_nn _ _ (by omega)]
theorem ret_int {k : IntKind} {a b : Int} (h : a = b) : Ending.returned (.int k a) = .returned (.int k b) := by rw [h]
theorem ret_str {a b : ByteArray} (h : a = b) : Ending.returned (.string a) = .returned (.string b) := by rw [h]
end
end Go.Proofs.YtcjjgdoafkdeaaaGreatDoor
