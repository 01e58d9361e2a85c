/- Layer 2: (*Nat).Text by contract. -/
import Derived.Test.YtgejadnfeeoknaaGreatDoorNp
import Derived.Test.YtgejadnfeeoknaaGreatDoorNu
import Derived.Test.YtgejadnfeeoknaaGreatDoorNv
import Derived.Maps.AppendAt
import Derived.Deep.Upon
namespace Go.Proofs.YtgejadnfeeoknaaGreatDoor
open Go.RowKit Go.Extern.Stop Go.Stop Go.Extern Go.Sort
set_option linter.unusedVariables false
set_option linter.unusedSimpArgs false

set_option maxRecDepth 100000 in
set_option maxHeartbeats 1000000 in
/-- nat.made, its memory told. -/
theorem made_ex (a : Option Addr) (c : Nat) (l : List Nat) (w : World) (h : Lim w (.slice a l.length c) l) (hsz : l.length ≤ 1000000000) :
    Calls Tryz.prog 128 #[.slice a l.length c] w fun e w' => (∃ b l', e = .returned (.pointer (some ⟨b, 0, none⟩)) ∧ w'.cell? ⟨b, 0, none⟩ = some (.slice a l'.length c) ∧ Lim w' (.slice a l'.length c) l' ∧ Norm l' ∧ val l' = val l ∧ w.heap.size ≤ b) ∧ Gr w w' := by
  have H := Lib.hid h
  clear h
  go_enter Tryz.func128, Tryz.ntmps128
  go_wp2
  go_loopg [0] l.length (fun k v wr => ∃ l', v = .slice a l'.length c ∧ k = l'.length ∧ l'.length ≤ l.length ∧ Lim w (.slice a l'.length c) l' ∧ val l' = val l ∧ Gr w wr)
  case atStart => exact ⟨l, rfl, rfl, Nat.le_refl _, H.out, rfl, Gr.rf w⟩
  case round =>
    obtain ⟨l', rfl, hk, hle, hl, hv, hgr⟩ := hrel
    have HV := Lib.hid hv
    have HK := Lib.hid hk
    have HL := Lib.hid hl
    clear hv hk
    by_cases hne : 0 < l'.length
    · rcases hl.2 with ⟨h1, h2⟩ | ⟨g, o, c'', h1, h2, h3, h4, h5⟩
      · subst h2; simp at hne
      cases h1
      have hx : l'.getLast? = some (l'[l'.length - 1]'(by omega)) := by rw [List.getLast?_eq_getElem?, List.getElem?_eq_getElem (by omega)]
      have hc : wr.cell? ⟨g, o + (l'.length - 1), none⟩ = some (.int .u64 ((l'[l'.length - 1]'(by omega) : Nat) : Int)) := (hgr.cell h4).trans (h5 _ (by omega))
      generalize l'[l'.length - 1]'(by omega) = x at hx hc
      have HX := Lib.hid hx
      clear hx
      have hsub : ((l'.length : Int) - 1).toNat = l'.length - 1 := by omega
      have h5' := Lib.hid h5
      clear h5
      have hlt : (l'.take (l'.length - 1)).length = l'.length - 1 := by rw [List.length_take]; omega
      have HLT := Lib.hid hlt
      clear hlt
      by_cases hx0 : x = 0
      · have hb : ((x : Int) == 0) = true := beq_iff_eq.2 (by omega)
        go_wp2
        go_roundg (l'.length - 1)
        case measure => have := HK.out; omega
        case rel => exact ⟨l'.take (l'.length - 1), by rw [HLT.out], HLT.out.symm, by rw [HLT.out]; omega, by have := HL.out.take (l'.length - 1) (by omega); rw [HLT.out]; exact this, by rw [← HV.out, ← List.dropLast_eq_take, val_drop_last _ (by rw [HX.out, hx0])], hgr⟩
      · have hb : ((x : Int) == 0) = false := beq_eq_false_iff_ne.2 (by omega)
        have HX0 := Lib.hid hx0
        clear hx0
        go_wp2
        go_ret
        exact ⟨⟨_, l', rfl, (World.cell?_alloc_at _ _ _ _ rfl).trans rfl, (HL.out.gr hgr).gr ((Gr.rf wr).alloc (Nat.le_refl _) _), (by unfold Norm; rw [HX.out]; intro h; injection h with h; exact HX0.out h), HV.out, hgr.size⟩, hgr.alloc hgr.size _⟩
    · have hnil : l' = [] := List.eq_nil_of_length_eq_zero (by omega)
      have HNL := Lib.hid hnil
      clear hnil
      go_wp2
      go_ret
      exact ⟨⟨_, l', rfl, (World.cell?_alloc_at _ _ _ _ rfl).trans rfl, (HL.out.gr hgr).gr ((Gr.rf wr).alloc (Nat.le_refl _) _), (by rw [HNL.out]; simp [Norm]), HV.out, hgr.size⟩, hgr.alloc hgr.size _⟩

theorem Lim.grown {w w' : World} {a : Option Addr} {c : Nat} {l : List Nat} {row : Option Nat} (h : Lim w (.slice a l.length c) l) (hg : w.grownBy w' row) (hne : ∀ g o, a = some ⟨g, o, none⟩ → some g ≠ row) : Lim w' (.slice a l.length c) l := by
  refine ⟨h.1, ?_⟩
  rcases h.2 with h1 | ⟨g, o, c', hv, hc, hm, hlt, hcell⟩
  · exact .inl h1
  · cases hv
    exact .inr ⟨g, o, c, rfl, hc, hm, Nat.lt_of_lt_of_le hlt hg.size, fun i hi => (World.cell?_of_block (hg.block g hlt (hne g o rfl))).trans (hcell i hi)⟩
theorem heap_lt {w : World} {g : Nat} {o : Obj} (h : w.heap[g]? = some o) : g < w.heap.size := by
  rcases Nat.lt_or_ge g w.heap.size with hlt | hge
  · exact hlt
  · rw [Array.getElem?_eq_none hge] at h; cases h
theorem lim_own {w : World} {base : Nat} {v : Value} {l : List Nat} (h : w.ownsRow base 105 1 v l.length (l.map U)) (hl : Limbs l) : Lim w v l := by
  refine ⟨hl, ?_⟩
  rcases h.2 with ⟨hv, h0⟩ | ⟨g, cap, cur, hv, hb, hh, hc, hm, hs, ht⟩
  · exact .inl ⟨hv, List.eq_nil_of_length_eq_zero h0⟩
  · refine .inr ⟨g, 0, cap, hv, hc, by unfold maxLen at hm; omega, heap_lt hh, fun i hi => ?_⟩
    rw [cell_of_row w g (0 + i) cur _ (0, 0) hh, Nat.zero_add]
    have h1 := congrArg (fun x => x[i]?) ht
    simp only [Nat.mul_one] at h1
    rw [List.getElem?_take_of_lt hi, List.getElem?_map, List.getElem?_eq_getElem hi] at h1
    simpa using h1

set_option maxRecDepth 100000 in
/-- slices.Clone of limbs, nil among them. -/
theorem clone_lim (v : Value) (l : List Nat) (w : World) (h : Lim w v l) (hsz : l.length ≤ 1000000) :
    Calls Tryz.prog 145 #[v] w fun e w' => (∃ a c, e = .returned (.slice a l.length c) ∧ Lim w' (.slice a l.length c) l) ∧ Gr w w' := by
  rcases h.2 with ⟨rfl, rfl⟩ | ⟨g, o, c, rfl, h2, h3, h4, h5⟩
  · have q22 : ∀ (w : World) (a : Option Addr) (n c n' c' : Nat), (binOp .eql 151 (.slice a n c) (.slice none n' c')).run Tryz.prog w = .ok (.bool a.isNone) w := fun w a n c n' c' => Lib.run_eql_slice_nil w _ _ a n c n' c' under24
    clear h
    go_enter Tryz.func145, Tryz.ntmps145
    go_wp2
    go_ret
    exact ⟨⟨none, 0, rfl, by simp [Limbs], .inl ⟨rfl, rfl⟩⟩, Gr.rf w⟩
  · refine (clone_calls g o l.length c l w rfl hsz (fun j hj => by rw [h5 j hj, List.getD_eq_getElem?_getD, List.getElem?_eq_getElem hj]; rfl)).mono ?_
    rintro e w' ⟨v', rfl, hown, hb⟩
    have hl := lim_own hown h.1
    obtain ⟨a, c', rfl⟩ := hl.slice
    exact ⟨⟨a, c', rfl, hl⟩, Gr.below hb⟩

/-- Strings in a row of the call's own. -/
theorem own_strs {w : World} {base n : Nat} {v : Value} {strs : List ByteArray} (h : w.ownsRow base 9 1 v n (strs.map Value.string)) (hn : 0 < n) : ∃ g cap, v = .slice (some ⟨g, 0, none⟩) n cap ∧ base ≤ g ∧ g < w.heap.size ∧ n ≤ cap ∧ cap ≤ maxLen ∧ strs.length = n ∧
    (∀ i, i < n → w.cell? ⟨g, 0 + i, none⟩ = some (.string (strs.getD i ⟨#[]⟩))) ∧ ∀ i, i < n → w.frozen? ⟨g, 0 + i, none⟩ = false := by
  have hlen : strs.length = n := by simpa using h.1
  rcases h.2 with ⟨hv, h0⟩ | ⟨g, cap, cur, hv, hb, hh, hc, hm, hs, ht⟩
  · omega
  · refine ⟨g, cap, hv, hb, heap_lt hh, hc, hm, hlen, fun i hi => ?_, fun i hi => by simp [World.frozen?, hh]⟩
    rw [cell_of_row w g (0 + i) cur _ (0, 0) hh, Nat.zero_add]
    have h1 := congrArg (fun x => x[i]?) ht
    simp only [Nat.mul_one] at h1
    have hi' : i < strs.length := by omega
    rw [List.getElem?_take_of_lt hi, List.getElem?_map, List.getElem?_eq_getElem hi'] at h1
    rw [List.getD_eq_getElem?_getD, List.getElem?_eq_getElem hi']
    simpa using h1
theorem strsOf_eq (strs : List ByteArray) : Lib.strsOf (fun i => strs.getD i ⟨#[]⟩) strs.length = strs.map fun s => s.data.toList := by
  unfold Lib.strsOf
  apply List.ext_getElem
  · simp
  · intro i h1 h2
    simp at h1
    simp [List.getD_eq_getElem?_getD, List.getElem?_eq_getElem h1]
theorem cells_rest (g : Nat) : ∀ (vs : List Value) (o : Nat) (w : World), (w.setCells g o vs).tape = w.tape ∧ (w.setCells g o vs).heap.size = w.heap.size
  | [], _, _ => ⟨rfl, rfl⟩
  | v :: r, o, w => by
    obtain ⟨h1, h2⟩ := cells_rest g r (o + 1) (w.setCell ⟨g, o, none⟩ v)
    exact ⟨h1.trans rfl, h2.trans (by simp [World.setCell])⟩
theorem grown_cells (w : World) (q g o : Nat) (vs : List Value) : w.grownBy ((w.drewN q).setCells g o vs) (some g) := by
  obtain ⟨h1, h2⟩ := cells_rest g vs o (w.drewN q)
  exact ⟨(World.os_setCells _ _ _ _).trans rfl, h1.trans rfl, (World.output_setCells _ _ _ _).trans rfl, by rw [h2]; exact Nat.le_refl _, fun i hi hne => (World.heap_setCells_other (w.drewN q) g o vs hi (fun e => hne (by rw [e]))).trans rfl⟩
/-- The parts, turned. -/
theorem rev_calls (g cap : Nat) (strs : List ByteArray) (w : World) (hbig : strs.length ≤ 1000000) (hc : ∀ i, i < strs.length → w.cell? ⟨g, 0 + i, none⟩ = some (.string (strs.getD i ⟨#[]⟩))) (hf : ∀ i, i < strs.length → w.frozen? ⟨g, 0 + i, none⟩ = false) :
    Calls Tryz.prog 147 #[.slice (some ⟨g, 0, none⟩) strs.length cap] w fun e w' => e = .returned (.tuple #[]) ∧ (∀ (j : Nat) x, strs.reverse[j]? = some x → w'.cell? ⟨g, 0 + j, none⟩ = some (.string x)) ∧ w.grownBy w' (some g) := by
  refine (Tryz.slices_Reverse_string_cells g 0 strs.length cap (fun i => strs.getD i ⟨#[]⟩) w (by omega) hc hf).mono ?_
  rintro e w' ⟨rfl, q, rfl⟩
  rw [strsOf_eq]
  refine ⟨rfl, fun j x hj => ?_, grown_cells _ _ _ _ _⟩
  have hjl : j < strs.length := by have := (List.getElem?_eq_some_iff.1 hj).1; simpa using this
  have hin := World.cell?_setCells_in g ((strs.map fun s => s.data.toList).reverse.map encStr) 0 (w.drewN q) (fun i hi => by
    have hi' : i < strs.length := by simpa using hi
    rw [World.cell?_drewN, hc i hi']; rfl) j (by simpa using hjl)
  rw [hin]
  congr 1
  have hx : x = strs.reverse[j]'(by simpa using hjl) := by
    rw [List.getElem?_eq_getElem (by simpa using hjl)] at hj
    exact (Option.some.inj hj).symm
  subst hx
  simp [encStr]
theorem join_flat (xs : List (List UInt8)) : Lib.join xs [] = xs.flatten := by
  cases xs with
  | nil => rfl
  | cons x r => rw [Lib.join_cons]; simp [Lib.joinTail]
/-- The text's tail that the parts are. -/
def tailOf (strs : List ByteArray) : List UInt8 := (strs.reverse.map fun s => s.data.toList).flatten
theorem tailOf_snoc (strs : List ByteArray) (s : ByteArray) : tailOf (strs ++ [s]) = s.data.toList ++ tailOf strs := by
  unfold tailOf; simp
def TextInv (n q : Nat) (strs : List ByteArray) : Prop :=
  strs.length ≤ (tailOf strs).length ∧ (0 < q → Lib.decDigits n = Lib.decDigits q ++ tailOf strs) ∧ (q = 0 → 0 < n → strs ≠ [] ∧ Lib.decDigits n = tailOf strs) ∧ (n = 0 → strs = [])
theorem textInv_start (n : Nat) : TextInv n n [] := ⟨Nat.le_refl _, fun _ => by simp [tailOf], fun h1 h2 => by omega, fun _ => rfl⟩
theorem nd_pos (r : Nat) : 1 ≤ (Lib.decDigits r).length := by rw [Lib.decDigits_length]; exact Lib.nDigits_pos r
theorem textInv_more {n q : Nat} {strs : List ByteArray} (h : TextInv n q strs) (hn : 0 < n) (s : ByteArray) (hq : 0 < q / 1000000000000000000) (hs : s.data.toList = padN 18 (q % 1000000000000000000)) : TextInv n (q / 1000000000000000000) (strs ++ [s]) := by
  have hr : q % 1000000000000000000 < 10 ^ 18 := Nat.mod_lt _ (by decide)
  refine ⟨?_, fun _ => ?_, fun h0 => by omega, fun h0 => by omega⟩
  · rw [tailOf_snoc, List.length_append, List.length_append, hs, padN_length 18 _ (nd_le 18 _ (by decide) hr), List.length_singleton]; have := h.1; omega
  · rw [tailOf_snoc, hs, ← List.append_assoc, ← decDigits_parts 18 _ _ (by decide) hr hq, show q / 1000000000000000000 * 10 ^ 18 + q % 1000000000000000000 = q by omega]
    exact h.2.1 (by omega)
theorem textInv_last {n q : Nat} {strs : List ByteArray} (h : TextInv n q strs) (hn : 0 < n) (h0 : 0 < q) (s : ByteArray) (hq : q / 1000000000000000000 = 0) (hs : s.data.toList = Lib.decDigits (q % 1000000000000000000)) : TextInv n (q / 1000000000000000000) (strs ++ [s]) := by
  have hr : q % 1000000000000000000 = q := by omega
  rw [hr] at hs
  refine ⟨?_, fun h1 => by omega, fun _ _ => ⟨by simp, ?_⟩, fun h0 => by omega⟩
  · rw [tailOf_snoc, List.length_append, List.length_append, hs, List.length_singleton]; have := h.1; have := nd_pos q; omega
  · rw [tailOf_snoc, hs]; exact h.2.1 h0
theorem B_le_ten (m : Nat) : B ^ m ≤ 10 ^ (20 * m) := by rw [Nat.pow_mul]; exact Nat.pow_le_pow_left (by decide) m
end Go.Proofs.YtgejadnfeeoknaaGreatDoor
