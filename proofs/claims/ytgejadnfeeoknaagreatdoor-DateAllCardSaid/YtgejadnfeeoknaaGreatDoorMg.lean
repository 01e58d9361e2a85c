/- Layer 6: the reference's Get. -/
import Derived.Test.YtgejadnfeeoknaaGreatDoorMf
import Derived.Test.YtgejadnfeeoknaaGreatDoorMa
import Derived.StillTailTactics
namespace Go.Proofs.YtgejadnfeeoknaaGreatDoor
open Go.RowKit Go.Extern.Stop Go.Stop Go.Extern Go.Sort
set_option linter.unusedVariables false
set_option linter.unusedSimpArgs false

/-- The number that the digits a to b - 1 make, as far as i. -/
def win (l : List UInt8) (a b : Nat) : Nat → Int
  | 0 => 0
  | i + 1 => if a ≤ i ∧ i < b then win l a b i * 10 + dg (l.getD i 0) else win l a b i
theorem win_in (l : List UInt8) {a b i : Nat} (h : a ≤ i ∧ i < b) : win l a b (i + 1) = win l a b i * 10 + dg (l.getD i 0) := if_pos h
theorem win_out (l : List UInt8) {a b i : Nat} (h : ¬ (a ≤ i ∧ i < b)) : win l a b (i + 1) = win l a b i := if_neg h
theorem win_bd (l : List UInt8) (a b : Nat) (hab : ¬ (a ≤ 4 ∧ 4 < b) ∧ ¬ (a ≤ 7 ∧ 7 < b)) (i : Nat) (h : ∀ j, j < i → okC10 j (l.getD j 0) = true) : 0 ≤ win l a b i ∧ win l a b i + 1 ≤ 10 ^ i := by
  induction i with
  | zero => exact ⟨Int.le_refl _, Int.le_refl _⟩
  | succ i ih =>
    have hi := ih (fun j hj => h j (by omega))
    rw [Int.pow_succ]
    by_cases c : a ≤ i ∧ i < b
    · rw [win_in l c]
      have := okC10_rng i _ (by omega) (h i (by omega))
      unfold dg
      omega
    · rw [win_out l c]
      omega
theorem win_num4 (l : List UInt8) : win l 0 4 10 = num4 (l.getD 0 0) (l.getD 1 0) (l.getD 2 0) (l.getD 3 0) := by
  simp [win, num4]
theorem win_num2a (l : List UInt8) : win l 5 7 10 = num2 (l.getD 5 0) (l.getD 6 0) := by
  simp [win, num2]
theorem win_num2b (l : List UInt8) : win l 8 10 10 = num2 (l.getD 8 0) (l.getD 9 0) := by
  simp [win, num2]
/-- The row of the three numbers, in its own block. -/
def ArrAt (w : World) (b : Nat) (x y z : Int) : Prop := w.heap[b]? = some (.cells #[.int .i64 x, .int .i64 y, .int .i64 z] 75 (0, 0))
theorem ArrAt.cells {w : World} {b : Nat} {x y z : Int} (h : ArrAt w b x y z) : w.cell? ⟨b, 0, none⟩ = some (.int .i64 x) ∧ w.cell? ⟨b, 1, none⟩ = some (.int .i64 y) ∧ w.cell? ⟨b, 2, none⟩ = some (.int .i64 z) := ⟨heap_cell h 0, heap_cell h 1, heap_cell h 2⟩
theorem ArrAt.a {w : World} {b : Nat} {x y z : Int} (h : ArrAt w b x y z) (v : Int) : ArrAt (w.setCell ⟨b, 0, none⟩ (.int .i64 v)) b v y z := heap_setCell_same _ _ _ _ _ _ h
theorem ArrAt.b {w : World} {b : Nat} {x y z : Int} (h : ArrAt w b x y z) (v : Int) : ArrAt (w.setCell ⟨b, 1, none⟩ (.int .i64 v)) b x v z := heap_setCell_same _ _ _ _ _ _ h
theorem ArrAt.c {w : World} {b : Nat} {x y z : Int} (h : ArrAt w b x y z) (v : Int) : ArrAt (w.setCell ⟨b, 2, none⟩ (.int .i64 v)) b x y v := heap_setCell_same _ _ _ _ _ _ h
theorem ArrAt.dr {w : World} {b : Nat} {x y z : Int} (h : ArrAt w b x y z) : ArrAt w.drew b x y z := h
/-- What the reference's Get answers. -/
def rgetE (l : List UInt8) : Ending := if formOk l then .returned (.tuple #[.int .i64 (ofD (win l 0 4 10) (win l 5 7 10) (win l 8 10 10)), .int .i64 (if OkC (win l 0 4 10) (win l 5 7 10) (win l 8 10 10) then 0 else 4)]) else .returned (.tuple #[.int .i64 0, .int .i64 1])
theorem rgetE_no {l : List UInt8} (h : formOk l = false) : rgetE l = .returned (.tuple #[.int .i64 0, .int .i64 1]) := by unfold rgetE; rw [h]; rfl
set_option maxRecDepth 100000 in
theorem rget_len (s : ByteArray) (hs : s.size ≠ 10) (hm : s.size ≤ 9223372036854775807) (w : World) : Calls Tryz.prog 44 #[.string s] w fun e w' => e = rgetE s.data.toList ∧ Gr w w' := by
  rw [rgetE_no (formOk_len (show s.data.toList.length ≠ 10 from fun e => hs (by rw [← e]; rfl)))]
  have hb : ((s.size : Int) != 10) = true := bne_iff_ne.2 (by omega)
  clear hs
  go_enter Tryz.func44, Tryz.ntmps44
  go_wp2
  go_ret2
  exact ⟨rfl, Gr.rf _⟩
set_option maxRecDepth 100000 in
set_option maxHeartbeats 8000000 in
theorem rget_ten (s : ByteArray) (hs : s.size = 10) (w : World) : Calls Tryz.prog 44 #[.string s] w fun e w' => e = rgetE s.data.toList ∧ Gr w w' := by
  by_cases h4 : ((s[4]'(by omega)).toNat : Int) = 45
  · by_cases h7 : ((s[7]'(by omega)).toNat : Int) = 45
    · have HK4 := Lib.hid (show okC10 4 (s.data.toList.getD 4 0) = true by rw [getD_at s 4 (by omega)]; exact okC10_dash 4 _ (by decide) h4)
      have HK7 := Lib.hid (show okC10 7 (s.data.toList.getD 7 0) = true by rw [getD_at s 7 (by omega)]; exact okC10_dash 7 _ (by decide) h7)
      have d1 : (((s[4]'(by omega)).toNat : Int) != 45) = false := by rw [h4]; rfl
      have d2 : (((s[7]'(by omega)).toNat : Int) != 45) = false := by rw [h7]; rfl
      clear h4 h7
      go_enter Tryz.func44, Tryz.ntmps44
      go_wp2
      go_loopg [5] 10 (fun g (x5 : Value) wr => ∃ i : Nat, i ≤ 10 ∧ g = 10 - i ∧ x5 = .int .i64 i ∧ Gr w wr ∧ ArrAt wr w.heap.size (win s.data.toList 0 4 i) (win s.data.toList 5 7 i) (win s.data.toList 8 10 i) ∧ Hid (∀ j, j < i → okC10 j (s.data.toList.getD j 0) = true))
      case atStart => exact ⟨0, by omega, rfl, rfl, (Gr.rf w).alloc (Nat.le_refl _) _, heap_alloc_new _ _, Lib.hid (fun j hj => absurd hj (Nat.not_lt_zero _))⟩
      case round =>
        obtain ⟨i, hi, hg, rfl, hgr, hA, HA⟩ := hrel
        have B1 := win_bd s.data.toList 0 4 (by decide) i HA.out
        have B2 := win_bd s.data.toList 5 7 (by decide) i HA.out
        have B3 := win_bd s.data.toList 8 10 (by decide) i HA.out
        have hp : (10 : Int) ^ i ≤ 10 ^ 10 := by
          rcases (by omega : i = 0 ∨ i = 1 ∨ i = 2 ∨ i = 3 ∨ i = 4 ∨ i = 5 ∨ i = 6 ∨ i = 7 ∨ i = 8 ∨ i = 9 ∨ i = 10) with rfl | rfl | rfl | rfl | rfl | rfl | rfl | rfl | rfl | rfl | rfl <;> decide
        have b1 : 0 ≤ win s.data.toList 0 4 i ∧ win s.data.toList 0 4 i ≤ 9999999999 := ⟨B1.1, by have := Int.le_trans B1.2 hp; omega⟩
        have b2 : 0 ≤ win s.data.toList 5 7 i ∧ win s.data.toList 5 7 i ≤ 9999999999 := ⟨B2.1, by have := Int.le_trans B2.2 hp; omega⟩
        have b3 : 0 ≤ win s.data.toList 8 10 i ∧ win s.data.toList 8 10 i ≤ 9999999999 := ⟨B3.1, by have := Int.le_trans B3.2 hp; omega⟩
        clear B1 B2 B3 hp
        have HG := Lib.hid hgr
        have HAR := Lib.hid hA
        have HARd := Lib.hid hA.dr
        obtain ⟨c0, c1, c2⟩ := hA.cells
        clear hgr hA
        by_cases hik : i < 10
        · have hd : decide ((i : Int) < 10) = true := decide_eq_true (by omega)
          by_cases hdash : i = 4 ∨ i = 7
          · rcases hdash with rfl | rfl
            · have HK : Hid (∀ j, j < 4 + 1 → okC10 j (s.data.toList.getD j 0) = true) := Lib.hid (fun j hj => by
                by_cases e : j = 4
                · subst e; exact HK4.out
                · exact HA.out j (by omega))
              go_wp2
              go_roundg (10 - (4 + 1))
              case measure => omega
              case rel => exact ⟨4 + 1, by omega, by omega, rfl, HG.out, by
                rw [win_out s.data.toList (a := 0) (b := 4) (i := 4) (by omega), win_out s.data.toList (a := 5) (b := 7) (i := 4) (by omega), win_out s.data.toList (a := 8) (b := 10) (i := 4) (by omega)]
                exact HAR.out, HK⟩
            · have HK : Hid (∀ j, j < 7 + 1 → okC10 j (s.data.toList.getD j 0) = true) := Lib.hid (fun j hj => by
                by_cases e : j = 7
                · subst e; exact HK7.out
                · exact HA.out j (by omega))
              go_wp2
              go_roundg (10 - (7 + 1))
              case measure => omega
              case rel => exact ⟨7 + 1, by omega, by omega, rfl, HG.out, by
                rw [win_out s.data.toList (a := 0) (b := 4) (i := 7) (by omega), win_out s.data.toList (a := 5) (b := 7) (i := 7) (by omega), win_out s.data.toList (a := 8) (b := 10) (i := 7) (by omega)]
                exact HAR.out, HK⟩
          · have n4 : ((i : Int) == 4) = false := beq_eq_false_iff_ne.2 (by omega)
            have n7 : ((i : Int) == 7) = false := beq_eq_false_iff_ne.2 (by omega)
            by_cases hlo : 48 ≤ ((s[i]'(by omega)).toNat : Int)
            · by_cases hup : ((s[i]'(by omega)).toNat : Int) ≤ 57
              · have HK : Hid (∀ j, j < i + 1 → okC10 j (s.data.toList.getD j 0) = true) := Lib.hid (fun j hj => by
                  by_cases e : j = i
                  · subst e; rw [getD_at s j (by omega)]; exact okC10_in j _ hdash hlo hup
                  · exact HA.out j (by omega))
                by_cases i4 : i < 4
                · have g4 : decide (4 < (i : Int)) = false := decide_eq_false (by omega)
                  have g7 : decide (7 < (i : Int)) = false := decide_eq_false (by omega)
                  go_wp2
                  obtain ⟨e0, e1, e2⟩ := HARd.out.cells
                  refine wp_region_still_tail 12 (by kernel_rfl) (by kernel_rfl) ?_
                  simp only [List.take_succ_cons, List.take_zero, List.drop_succ_cons, List.drop_zero]
                  change wpStill _ _ wr.drew _ _ _
                  generalize wr.drew = W2 at e0 e1 e2 ⊢
                  repeat still_step
                  refine wpStill_nil ?_
                  have fz := heap_free HAR.out 0
                  go_wp2
                  go_roundg (10 - (i + 1))
                  case measure => omega
                  case rel => exact ⟨i + 1, by omega, by omega, rfl, grOne (grSet HG.out (Nat.le_refl _) _), by
                    rw [win_in s.data.toList (a := 0) (b := 4) (i := i) (by omega), win_out s.data.toList (a := 5) (b := 7) (i := i) (by omega), win_out s.data.toList (a := 8) (b := 10) (i := i) (by omega), getD_at s i (by omega)]
                    exact (HAR.out.a _).dr, HK⟩
                · by_cases i7 : i < 7
                  · have g4 : decide (4 < (i : Int)) = true := decide_eq_true (by omega)
                    have g7 : decide (7 < (i : Int)) = false := decide_eq_false (by omega)
                    go_wp2
                    obtain ⟨e0, e1, e2⟩ := HARd.out.cells
                    refine wp_region_still_tail 12 (by kernel_rfl) (by kernel_rfl) ?_
                    simp only [List.take_succ_cons, List.take_zero, List.drop_succ_cons, List.drop_zero]
                    change wpStill _ _ wr.drew _ _ _
                    generalize wr.drew = W2 at e0 e1 e2 ⊢
                    repeat still_step
                    refine wpStill_nil ?_
                    have fz := heap_free HAR.out 1
                    go_wp2
                    go_roundg (10 - (i + 1))
                    case measure => omega
                    case rel => exact ⟨i + 1, by omega, by omega, rfl, grOne (grSet HG.out (Nat.le_refl _) _), by
                      rw [win_out s.data.toList (a := 0) (b := 4) (i := i) (by omega), win_in s.data.toList (a := 5) (b := 7) (i := i) (by omega), win_out s.data.toList (a := 8) (b := 10) (i := i) (by omega), getD_at s i (by omega)]
                      exact (HAR.out.b _).dr, HK⟩
                  · have g4 : decide (4 < (i : Int)) = true := decide_eq_true (by omega)
                    have g7 : decide (7 < (i : Int)) = true := decide_eq_true (by omega)
                    go_wp2
                    obtain ⟨e0, e1, e2⟩ := HARd.out.cells
                    refine wp_region_still_tail 12 (by kernel_rfl) (by kernel_rfl) ?_
                    simp only [List.take_succ_cons, List.take_zero, List.drop_succ_cons, List.drop_zero]
                    change wpStill _ _ wr.drew _ _ _
                    generalize wr.drew = W2 at e0 e1 e2 ⊢
                    repeat still_step
                    refine wpStill_nil ?_
                    have fz := heap_free HAR.out 2
                    go_wp2
                    go_roundg (10 - (i + 1))
                    case measure => omega
                    case rel => exact ⟨i + 1, by omega, by omega, rfl, grOne (grSet HG.out (Nat.le_refl _) _), by
                      rw [win_out s.data.toList (a := 0) (b := 4) (i := i) (by omega), win_out s.data.toList (a := 5) (b := 7) (i := i) (by omega), win_in s.data.toList (a := 8) (b := 10) (i := i) (by omega), getD_at s i (by omega)]
                      exact (HAR.out.c _).dr, HK⟩
              · have HN := Lib.hid (rgetE_no (formOk_bad (l := s.data.toList) i (by omega) (by rw [getD_at s i (by omega)]; exact okC10_hi i _ hdash hup)))
                have e1 : decide (((s[i]'(by omega)).toNat : Int) < 48) = false := decide_eq_false (by omega)
                have e2 : decide (57 < ((s[i]'(by omega)).toNat : Int)) = true := decide_eq_true (by omega)
                go_wp2
                go_ret2
                exact ⟨HN.out.symm, HG.out⟩
            · have HN := Lib.hid (rgetE_no (formOk_bad (l := s.data.toList) i (by omega) (by rw [getD_at s i (by omega)]; exact okC10_lo i _ hdash hlo)))
              have e1 : decide (((s[i]'(by omega)).toNat : Int) < 48) = true := decide_eq_true (by omega)
              go_wp2
              go_ret2
              exact ⟨HN.out.symm, HG.out⟩
        · obtain rfl : i = 10 := by omega
          have HF := Lib.hid (formOk_yes (l := s.data.toList) hs HA.out)
          have hE : rgetE s.data.toList = .returned (.tuple #[.int .i64 (ofD (win s.data.toList 0 4 10) (win s.data.toList 5 7 10) (win s.data.toList 8 10 10)), .int .i64 (if OkC (win s.data.toList 0 4 10) (win s.data.toList 5 7 10) (win s.data.toList 8 10 10) then 0 else 4)]) := by
            unfold rgetE
            rw [HF.out, if_pos rfl]
          have hO := fun w => refOf_calls (win s.data.toList 0 4 10) (win s.data.toList 5 7 10) (win s.data.toList 8 10 10) w
          generalize win s.data.toList 0 4 10 = Y at *
          generalize win s.data.toList 5 7 10 = M at *
          generalize win s.data.toList 8 10 10 = D at *
          by_cases hok : OkC Y M D
          · simp only [decide_eq_true hok] at hO
            rw [if_pos hok] at hE
            have HE := Lib.hid hE
            have HO := Lib.hid hO
            clear hE hO hok HF HA
            go_wp2_with fail
            refine (HO.out _).mono ?_
            rintro ev w2 ⟨rfl, hg2⟩
            go_wp2
            go_ret2
            exact ⟨HE.out.symm, HG.out.tr hg2⟩
          · simp only [decide_eq_false hok] at hO
            rw [if_neg hok, ofD_no hok] at hE
            have HE := Lib.hid hE
            have HO := Lib.hid hO
            clear hE hO hok HF HA
            go_wp2_with fail
            refine (HO.out _).mono ?_
            rintro ev w2 ⟨rfl, hg2⟩
            go_wp2
            go_ret2
            exact ⟨HE.out.symm, HG.out.tr hg2⟩
    · have HN := Lib.hid (rgetE_no (formOk_bad (l := s.data.toList) 7 (by decide) (by rw [getD_at s 7 (by omega)]; exact okC10_nodash 7 _ (by decide) h7)))
      have d1 : (((s[4]'(by omega)).toNat : Int) != 45) = false := by rw [h4]; rfl
      have d2 : (((s[7]'(by omega)).toNat : Int) != 45) = true := bne_iff_ne.2 h7
      clear h4 h7
      go_enter Tryz.func44, Tryz.ntmps44
      go_wp2
      go_ret2
      exact ⟨HN.out.symm, Gr.rf _⟩
  · have HN := Lib.hid (rgetE_no (formOk_bad (l := s.data.toList) 4 (by decide) (by rw [getD_at s 4 (by omega)]; exact okC10_nodash 4 _ (by decide) h4)))
    have d1 : (((s[4]'(by omega)).toNat : Int) != 45) = true := bne_iff_ne.2 h4
    clear h4
    go_enter Tryz.func44, Tryz.ntmps44
    go_wp2
    go_ret2
    exact ⟨HN.out.symm, Gr.rf _⟩
end Go.Proofs.YtgejadnfeeoknaaGreatDoor
