/- Layer 6: calendars joined, as the laws call it. -/
import Derived.Test.YtglbdafcfcmffaaGreatDoorKh
import Derived.Test.YtglbdafcfcmffaaGreatDoorHg
namespace Go.Proofs.YtglbdafcfcmffaaGreatDoor
open Go.RowKit Go.Extern.Stop Go.Stop Go.Extern
set_option linter.unusedVariables false
set_option linter.unusedSimpArgs false

theorem cals_two (w : World) {v1 v2 : Value} {S1 S2 : Int → Bool} {N : Nat} (h1 : CalLe w v1 S1 N) (h2 : CalLe w v2 S2 N) :
    CalsAt (w.alloc (.cells #[v1, v2] 27)) (.slice (some ⟨w.heap.size, 0, none⟩) 2 2) [S1, S2] N := by
  have hb := heap_alloc_new w (.cells #[v1, v2] 27)
  have hg : Gr w (w.alloc (.cells #[v1, v2] 27)) := (Gr.rf w).alloc (Nat.le_refl _) _
  refine .inr ⟨w.heap.size, 0, 2, rfl, by simp, fun j S hj => ?_⟩
  have hl := (List.getElem?_eq_some_iff.1 hj).1
  rcases (by simp at hl; omega : j = 0 ∨ j = 1) with rfl | rfl
  · obtain rfl : S1 = S := by simpa using hj
    exact ⟨v1, heap_cell hb 0, h1.gr hg⟩
  · obtain rfl : S2 = S := by simpa using hj
    exact ⟨v2, heap_cell hb 1, h2.gr hg⟩
theorem cals_three (w : World) {v1 v2 v3 : Value} {S1 S2 S3 : Int → Bool} {N : Nat} (h1 : CalLe w v1 S1 N) (h2 : CalLe w v2 S2 N) (h3 : CalLe w v3 S3 N) :
    CalsAt (w.alloc (.cells #[v1, v2, v3] 27)) (.slice (some ⟨w.heap.size, 0, none⟩) 3 3) [S1, S2, S3] N := by
  have hb := heap_alloc_new w (.cells #[v1, v2, v3] 27)
  have hg : Gr w (w.alloc (.cells #[v1, v2, v3] 27)) := (Gr.rf w).alloc (Nat.le_refl _) _
  refine .inr ⟨w.heap.size, 0, 3, rfl, by simp, fun j S hj => ?_⟩
  have hl := (List.getElem?_eq_some_iff.1 hj).1
  rcases (by simp at hl; omega : j = 0 ∨ j = 1 ∨ j = 2) with rfl | rfl | rfl
  · obtain rfl : S1 = S := by simpa using hj
    exact ⟨v1, heap_cell hb 0, h1.gr hg⟩
  · obtain rfl : S2 = S := by simpa using hj
    exact ⟨v2, heap_cell hb 1, h2.gr hg⟩
  · obtain rfl : S3 = S := by simpa using hj
    exact ⟨v3, heap_cell hb 2, h3.gr hg⟩
theorem calLe_in {w : World} {p b n N : Nat} {S : Int → Bool} (h : CalIn w p b n S) (hn : n ≤ N) : CalLe w (.pointer (some ⟨p, 0, none⟩)) S N := .inr ⟨p, b, n, hn, rfl, h⟩
theorem CalLe.at_ {w : World} {v : Value} {S : Int → Bool} {N : Nat} (h : CalLe w v S N) : CalAt w v S := by
  rcases h with h | ⟨p, b, n, _, rfl, h⟩
  · exact .inl h
  · exact h.at_
theorem CalLe.le {w : World} {v : Value} {S : Int → Bool} {N M : Nat} (h : CalLe w v S N) (hl : N ≤ M) : CalLe w v S M := by
  rcases h with h | ⟨p, b, n, h1, h2, h3⟩
  · exact .inl h
  · exact .inr ⟨p, b, n, Nat.le_trans h1 hl, h2, h3⟩
/-- What a join gives: a calendar at a pointer of its own. -/
def JoinOf (w' : World) (p : Nat) (Ss : List (Int → Bool)) (S : Int → Bool) (N : Nat) : Prop := CalLe w' (.pointer (some ⟨p, 0, none⟩)) S N ∧ ∀ k, inI k → S k = anyS Ss k
theorem joinP_calls (Ss : List (Int → Bool)) (v : Value) (N : Nat) (w : World) (h : CalsAt w v Ss N) (hn : Ss.length ≤ 8) (hN : N ≤ 50000) :
    Calls Tryz.prog 20 #[v] w fun e w' => (∃ p S, e = .returned (.pointer (some ⟨p, 0, none⟩)) ∧ JoinOf w' p Ss S (N * Ss.length)) ∧ Gr w w' :=
  (join_calls Ss v N w h hn hN).mono fun e w' hh => by
    obtain ⟨⟨p, b, n, S, rfl, h1, h2⟩, hg⟩ := hh
    refine ⟨⟨p, S, rfl, calLe_in h1 h2.1, fun k hk => ?_⟩, hg⟩
    rw [h2.2 k hk, List.take_length]
theorem openB_congr {S S' : Int → Bool} {d : Int} (h : S d = S' d) : openB S d = openB S' d := by unfold openB; rw [h]
theorem dayOne (w : World) (D : Int) : DaysAt (w.alloc (.cells #[.int .i64 D] 3)) (.slice (some ⟨w.heap.size, 0, none⟩) 1 1) [D] := by
  have hb := heap_alloc_new w (.cells #[.int .i64 D] 3)
  refine .inr ⟨w.heap.size, 0, 1, rfl, by simp, fun j x hj => ?_⟩
  have hl := (List.getElem?_eq_some_iff.1 hj).1
  obtain rfl : j = 0 := by simpa using hl
  obtain rfl : D = x := by simpa using hj
  exact heap_cell hb 0
theorem newOne_calls (v u : Value) (D : Int) (w : World) (h : RulesAt w v []) (h' : DaysAt w u [D]) (h0 : 0 ≤ D) (h1 : D ≤ 109572) :
    Calls Tryz.prog 19 #[v, u] w fun e w' => (∃ p b n S, e = .returned (.tuple #[.pointer (some ⟨p, 0, none⟩), .nilIface]) ∧ CalIn w' p b n S ∧ ShutBy [] [D] S ∧ n ≤ 6100) ∧ Gr w w' :=
  calnew_calls [] v [D] u w h h' (by decide) (by simp) (fun r hr => absurd hr List.not_mem_nil) (fun d hd => by rw [List.mem_singleton.1 hd]; exact ⟨h0, h1⟩)
end Go.Proofs.YtglbdafcfcmffaaGreatDoor
