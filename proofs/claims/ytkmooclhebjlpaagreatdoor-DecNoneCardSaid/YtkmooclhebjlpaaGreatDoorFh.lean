/- Layer 1: (*Fault).Error by contract. -/
import Derived.Test.YtkmooclhebjlpaaGreatDoorFg
namespace Go.Proofs.YtkmooclhebjlpaaGreatDoor
open Go.RowKit Go.Extern.Stop Go.Stop Go.Extern
set_option linter.unusedVariables false
set_option linter.unusedSimpArgs false

set_option maxHeartbeats 2000000 in
set_option maxRecDepth 100000 in
theorem faultError_calls (b0 : Nat) (c : Nat) (hc : c < 100) (s : ByteArray) (e0 : Er) (w : World) (h : ErAt w (.iface 126 (.pointer (some ⟨b0, 0, none⟩))) (.fault b0 c s e0)) (hd : (Er.fault b0 c s e0).len ≤ 1000000)
    (hsz : (placesText (Er.fault b0 c s e0).places).length ≤ 1000000000) :
    Calls Tryz.prog 175 #[.pointer (some ⟨b0, 0, none⟩)] w fun ev w' => ev = .returned (.string ((Er.fault b0 c s e0).says c)) ∧ Gr w w' := by
  obtain ⟨x0, h0⟩ : ∃ x0, w.heap[b0]? = some (.cells #[.int .i64 (c : Int), .string s, x0] 130 (0, 0)) := by cases h with | fault _ _ _ v _ hb _ => exact ⟨_, hb⟩
  have hb0 : b0 < w.heap.size := (Array.getElem?_eq_some_iff.1 h0).1
  generalize he : Er.fault b0 c s e0 = e at *
  have HW := Lib.hid (where_calls _ e (w.alloc (.cells #[.pointer none, .slice none 0 0] 120)) (h.gr ((Gr.rf w).alloc (Nat.le_refl _) _)) hd)
  have H0 := Lib.hid h0
  have hw := errWord_size c hc
  have hpl := e.places_le
  clear h h0 he
  go_enter Tryz.func175, Tryz.ntmps175
  go_wp2_with (go_at_call 107; refine HW.out.mono ?_; rintro ev w1 ⟨r, rfl, hown, hg1⟩; obtain ⟨ao, cap, rfl⟩ := owns_slice hown)
  have hb1 : w1.heap[w.heap.size]? = some (.cells #[.pointer none, .slice none 0 0] 120 (0, 0)) := hg1.heap (heap_alloc_new w _)
  have hbs := (Array.getElem?_eq_some_iff.1 hb1).1
  have hg0 : Gr w w1 := Below.trans (by go_grown) (hg1.mono (by simp))
  have HB := Lib.hid hb1
  have HO := Lib.hid hown
  clear hb1 hown
  go_loopg [12] (e.places.length) (fun k i wr => ∃ j : Nat, j ≤ e.places.length ∧ k = e.places.length - j ∧ i = .int .i64 j ∧ Bd w.heap.size w1.heap.size (Lib.byteCells (placesText (e.places.take j))) wr ∧ Keep w.heap.size w1.heap.size w1 wr)
  case atStart => exact ⟨0, Nat.zero_le _, by omega, rfl, ⟨_, _, .inl rfl, HB.out, World.ownsRow_nil _ _ _ _⟩, Keep.rf _ _ _⟩
  case round =>
    obtain ⟨j, hj, hk, rfl, hbd, hkeep⟩ := hrel
    have HBD := Lib.hid hbd
    have hkk : e.places.length - j ≤ gk := by omega
    clear hbd hk
    by_cases hlt : j < e.places.length
    · obtain ⟨g, cap', hr, hg, hgl, hcell⟩ := owns_at HO.out (by omega)
      cases hr
      have hc1 : wr.cell? ⟨g, j, none⟩ = some (.string e.places[j]) := by
        rw [World.cell?_of_block (w := w1) (hkeep.block g hgl (by simp at hg; omega)), hcell j hlt]; simp [hlt]
      have hs1 := placesText_size e.places j hlt
      have hs2 := placesText_take e.places j
      have hs3 := hkeep.size
      generalize hp : e.places[j] = p at *
      have HP := Lib.hid hp
      clear hp hcell
      have hlen : (Lib.byteCells (placesText (e.places.take j))).length + (p ++ ⟨#[58, 32]⟩ : ByteArray).size ≤ 140737488355328 := by
        rw [Lib.byteCells_length, ByteArray.size_append]; simp only [ByteArray.size, List.size_toArray, List.length_cons, List.length_nil] at hs1 ⊢; omega
      have HL := Lib.hid hlen
      clear hlen
      go_wp2_with (go_at_call 88; (with_reducible refine (writeString_calls _ _ _ (p ++ ⟨#[58, 32]⟩) _ HBD.out hbs HL.out hs3).mono ?_); rintro ev w2 ⟨rfl, hbd2, hk2⟩; have HBD2 := Lib.hid hbd2; clear hbd2)
      go_roundg (e.places.length - (j + 1))
      case measure => omega
      case rel =>
        refine ⟨j + 1, hlt, rfl, by go_num, ?_, hkeep.tr hk2⟩
        have := HBD2.out
        rw [placesText_snoc _ _ hlt, Lib.byteCells_append, HP.out]
        simpa [Lib.strCells_eq] using this
    · obtain rfl : j = e.places.length := by omega
      rw [List.take_length] at HBD
      have hc0 : wr.cell? ⟨b0, 0, none⟩ = some (.int .i64 (c : Int)) := by
        rw [World.cell?_of_block (w := w1) (hkeep.block b0 (by have := hg0.size; omega) (by simp; omega)), heap_cell (hg0.heap H0.out)]; rfl
      have HD : Hid (Bd w.heap.size w1.heap.size (Lib.byteCells (placesText e.places)) wr.drew) := HBD.out
      have hs4 : w1.heap.size ≤ wr.drew.heap.size := hkeep.size
      have HK := Lib.hid hkeep
      go_wp2_with fail
      go_region_with (first
        | (go_at_call 90; (with_reducible refine (string_calls w.heap.size w1.heap.size (placesText e.places) _ HD.out hbs hs4).mono ?_); rintro ev w3 ⟨rfl, h3⟩; have hc3 : w3.cell? ⟨b0, 0, none⟩ = some (.int .i64 (c : Int)) := (Below.cell h3 (p := ⟨b0, 0, none⟩) hb0).trans hc0)
        | (go_at_call 173; (with_reducible refine (plainError_calls c hc _).mono ?_); rintro ev w3 ⟨rfl, rfl⟩))
      all_goals
        go_wp2
        go_ret
        exact ⟨rfl, hg0.trans ((Below.drew (HK.out.below (by omega))).trans h3)⟩
end Go.Proofs.YtkmooclhebjlpaaGreatDoor
