/- Layer 6: date.Get by contract. -/
import Derived.Test.YtjgihjpckjdikaaGreatDoorHi
namespace Go.Proofs.YtjgihjpckjdikaaGreatDoor
open Go.RowKit Go.Extern.Stop Go.Stop Go.Extern Go.Sort
set_option linter.unusedVariables false
set_option linter.unusedSimpArgs false

def dg (b : UInt8) : Int := (b.toNat : Int) - 48
/-- May a byte stand at a place of a day's text? -/
def okC10 (k : Nat) (b : UInt8) : Bool := if k = 4 ∨ k = 7 then b.toNat == 45 else decide (48 ≤ b.toNat ∧ b.toNat ≤ 57)
def formOk (l : List UInt8) : Bool := l.length == 10 && (List.range 10).all fun k => okC10 k (l.getD k 0)
def num4 (a b c d : UInt8) : Int := ((dg a * 10 + dg b) * 10 + dg c) * 10 + dg d
def num2 (a b : UInt8) : Int := dg a * 10 + dg b
theorem bytes10 (s : ByteArray) (h : s.size = 10) : ∃ b0 b1 b2 b3 b4 b5 b6 b7 b8 b9 : UInt8, s = ⟨#[b0, b1, b2, b3, b4, b5, b6, b7, b8, b9]⟩ := by
  obtain ⟨⟨l⟩⟩ := s
  have hl : l.length = 10 := h
  match l, hl with
  | [b0, b1, b2, b3, b4, b5, b6, b7, b8, b9], _ => exact ⟨b0, b1, b2, b3, b4, b5, b6, b7, b8, b9, rfl⟩
theorem formOk_len {l : List UInt8} (h : l.length ≠ 10) : formOk l = false := by unfold formOk; rw [beq_eq_false_iff_ne.2 h]; rfl
theorem formOk_bad {l : List UInt8} (k : Nat) (hk : k < 10) (h : okC10 k (l.getD k 0) = false) : formOk l = false := by
  unfold formOk
  rw [Bool.and_eq_false_iff]
  refine .inr ?_
  rw [Bool.eq_false_iff]
  intro e
  have := List.all_eq_true.1 e k (List.mem_range.2 hk)
  rw [h] at this
  cases this
theorem formOk_yes {l : List UInt8} (hl : l.length = 10) (h : ∀ k, k < 10 → okC10 k (l.getD k 0) = true) : formOk l = true := by
  unfold formOk
  rw [hl, Bool.and_eq_true]
  exact ⟨rfl, List.all_eq_true.2 fun k hk => h k (List.mem_range.1 hk)⟩
theorem okC10_lo (k : Nat) (b : UInt8) (hk : ¬ (k = 4 ∨ k = 7)) (h : ¬ 48 ≤ (b.toNat : Int)) : okC10 k b = false := by
  unfold okC10; rw [if_neg hk]; exact decide_eq_false (fun e => h (by omega))
theorem okC10_hi (k : Nat) (b : UInt8) (hk : ¬ (k = 4 ∨ k = 7)) (h : ¬ (b.toNat : Int) ≤ 57) : okC10 k b = false := by
  unfold okC10; rw [if_neg hk]; exact decide_eq_false (fun e => h (by omega))
theorem okC10_in (k : Nat) (b : UInt8) (hk : ¬ (k = 4 ∨ k = 7)) (h : 48 ≤ (b.toNat : Int)) (h' : (b.toNat : Int) ≤ 57) : okC10 k b = true := by
  unfold okC10; rw [if_neg hk]; exact decide_eq_true ⟨by omega, by omega⟩
theorem okC10_dash (k : Nat) (b : UInt8) (hk : k = 4 ∨ k = 7) (h : (b.toNat : Int) = 45) : okC10 k b = true := by
  unfold okC10; rw [if_pos hk]; exact beq_iff_eq.2 (by omega)
theorem okC10_nodash (k : Nat) (b : UInt8) (hk : k = 4 ∨ k = 7) (h : (b.toNat : Int) ≠ 45) : okC10 k b = false := by
  unfold okC10; rw [if_pos hk]; exact beq_eq_false_iff_ne.2 (by omega)
theorem okC10_rng (k : Nat) (b : UInt8) (hk : ¬ (k = 4 ∨ k = 7)) (h : okC10 k b = true) : 48 ≤ b.toNat ∧ b.toNat ≤ 57 := by
  unfold okC10 at h; rw [if_neg hk] at h; exact of_decide_eq_true h
theorem digitVal_ok {b : UInt8} (h : 48 ≤ b.toNat ∧ b.toNat ≤ 57) : Lib.digitVal b = some (b.toNat - 48) := by unfold Lib.digitVal; rw [if_pos h]
theorem atoi4 (a b c d : UInt8) (ha : 48 ≤ a.toNat ∧ a.toNat ≤ 57) (hb : 48 ≤ b.toNat ∧ b.toNat ≤ 57) (hc : 48 ≤ c.toNat ∧ c.toNat ≤ 57) (hd : 48 ≤ d.toNat ∧ d.toNat ≤ 57) : Lib.atoi [a, b, c, d] = some (num4 a b c d) := by
  have e1 : (a == 45) = false := beq_eq_false_iff_ne.2 (fun e => by rw [e] at ha; exact absurd ha.1 (by decide))
  have e2 : (a == 43) = false := beq_eq_false_iff_ne.2 (fun e => by rw [e] at ha; exact absurd ha.1 (by decide))
  unfold Lib.atoi Lib.decNat num4 dg
  simp only [e1, e2, Bool.false_eq_true, if_false, List.isEmpty_cons, Lib.decFrom, digitVal_ok ha, digitVal_ok hb, digitVal_ok hc, digitVal_ok hd, Option.map_some]
  congr 1
  omega
theorem atoi2 (a b : UInt8) (ha : 48 ≤ a.toNat ∧ a.toNat ≤ 57) (hb : 48 ≤ b.toNat ∧ b.toNat ≤ 57) : Lib.atoi [a, b] = some (num2 a b) := by
  have e1 : (a == 45) = false := beq_eq_false_iff_ne.2 (fun e => by rw [e] at ha; exact absurd ha.1 (by decide))
  have e2 : (a == 43) = false := beq_eq_false_iff_ne.2 (fun e => by rw [e] at ha; exact absurd ha.1 (by decide))
  unfold Lib.atoi Lib.decNat num2 dg
  simp only [e1, e2, Bool.false_eq_true, if_false, List.isEmpty_cons, Lib.decFrom, digitVal_ok ha, digitVal_ok hb, Option.map_some]
  congr 1
  omega
theorem atoi_gr (s : ByteArray) (n : Int) (hl : s.size ≤ 18) (h : Lib.atoi s.data.toList = some n) (w : World) : Calls Tryz.prog 78 #[.string s] w fun e w' => e = .returned (.tuple #[.int .i64 n, .nilIface]) ∧ Gr w w' := by
  refine (Tryz.strconv_Atoi s n hl h w).mono ?_
  rintro e w' ⟨rfl, t, rfl⟩
  exact ⟨rfl, bytes_gr _ _ _⟩
theorem errForm_calls (w : World) : Calls Tryz.prog 47 #[.int .i64 1] w fun e w' => e = .returned (.iface 97 (.int .i64 1)) ∧ w = w' := of_calls 1 (by decide) w
/-- What date.Get answers. -/
def getE (l : List UInt8) : Ending := if formOk l then .returned (.tuple #[.int .i64 (ofD (num4 (l.getD 0 0) (l.getD 1 0) (l.getD 2 0) (l.getD 3 0)) (num2 (l.getD 5 0) (l.getD 6 0)) (num2 (l.getD 8 0) (l.getD 9 0))), ofE (num4 (l.getD 0 0) (l.getD 1 0) (l.getD 2 0) (l.getD 3 0)) (num2 (l.getD 5 0) (l.getD 6 0)) (num2 (l.getD 8 0) (l.getD 9 0))]) else .returned (.tuple #[.int .i64 0, .iface 97 (.int .i64 1)])
theorem getE_no {l : List UInt8} (h : formOk l = false) : getE l = .returned (.tuple #[.int .i64 0, .iface 97 (.int .i64 1)]) := by unfold getE; rw [h]; rfl
set_option maxRecDepth 100000 in
theorem get_len (s : ByteArray) (hs : s.size ≠ 10) (hm : s.size ≤ 9223372036854775807) (w : World) : Calls Tryz.prog 45 #[.string s] w fun e w' => e = getE s.data.toList ∧ Gr w w' := by
  rw [getE_no (formOk_len (show s.data.toList.length ≠ 10 from fun e => hs (by rw [← e]; rfl)))]
  have hb : ((s.size : Int) != 10) = true := bne_iff_ne.2 (by omega)
  clear hs
  go_enter Tryz.func45, Tryz.ntmps45
  go_wp2_with (go_at_call 47; (with_reducible refine (errForm_calls _).mono ?_); rintro ev w1 ⟨rfl, rfl⟩)
  go_ret2
  exact ⟨rfl, Gr.rf _⟩
theorem getD_at (s : ByteArray) (k : Nat) (h : k < s.size) : s.data.toList.getD k 0 = s[k] := by
  show s.data.toList.getD k 0 = s.data[k]
  rw [List.getD_eq_getElem?_getD, Array.getElem?_toList, Array.getElem?_eq_getElem h]
  rfl
theorem ext4 (s : ByteArray) (h : s.size = 10) : (s.extract 0 4).data.toList = [s[0]'(by omega), s[1]'(by omega), s[2]'(by omega), s[3]'(by omega)] ∧ (s.extract 0 4).size ≤ 18 := by
  obtain ⟨b0, b1, b2, b3, b4, b5, b6, b7, b8, b9, rfl⟩ := bytes10 s h
  exact ⟨rfl, (by decide : (4 : Nat) ≤ 18)⟩
theorem ext57 (s : ByteArray) (h : s.size = 10) : (s.extract 5 7).data.toList = [s[5]'(by omega), s[6]'(by omega)] ∧ (s.extract 5 7).size ≤ 18 := by
  obtain ⟨b0, b1, b2, b3, b4, b5, b6, b7, b8, b9, rfl⟩ := bytes10 s h
  exact ⟨rfl, (by decide : (2 : Nat) ≤ 18)⟩
theorem ext8 (s : ByteArray) (h : s.size = 10) : (s.extract 8 10).data.toList = [s[8]'(by omega), s[9]'(by omega)] ∧ (s.extract 8 10).size ≤ 18 := by
  obtain ⟨b0, b1, b2, b3, b4, b5, b6, b7, b8, b9, rfl⟩ := bytes10 s h
  exact ⟨rfl, (by decide : (2 : Nat) ≤ 18)⟩
theorem iter_gr (w : World) (s : ByteArray) (k : Nat) : Gr w (w.iter s k) := (Gr.rf w).alloc (Nat.le_refl _) _
set_option maxRecDepth 100000 in
set_option maxHeartbeats 16000000 in
theorem get_ten (s : ByteArray) (hs : s.size = 10) (w : World) : Calls Tryz.prog 45 #[.string s] w fun e w' => e = getE s.data.toList ∧ Gr w w' := by
  have HS := Lib.hid hs
  go_enter Tryz.func45, Tryz.ntmps45
  go_wp2
  go_loopg [] 10 (fun g wr => ∃ k : Nat, k ≤ 10 ∧ g = 10 - k ∧ wr = w.iter ⟨#[48, 48, 48, 48, 45, 48, 48, 45, 48, 48]⟩ k ∧ Hid (∀ j, j < k → okC10 j (s.data.toList.getD j 0) = true))
  case atStart => exact ⟨0, by omega, rfl, rfl, Lib.hid (fun j hj => absurd hj (Nat.not_lt_zero _))⟩
  case round =>
    obtain ⟨k, hk, hg, rfl, HA⟩ := hrel
    rcases (by omega : k = 0 ∨ k = 1 ∨ k = 2 ∨ k = 3 ∨ k = 4 ∨ k = 5 ∨ k = 6 ∨ k = 7 ∨ k = 8 ∨ k = 9 ∨ k = 10) with rfl | rfl | rfl | rfl | rfl | rfl | rfl | rfl | rfl | rfl | rfl
    · have hnx : ∀ ty, (Instr.next (.pointer (some ⟨w.heap.size, 0, none⟩)) true ty).run Tryz.prog (w.iter ⟨#[48, 48, 48, 48, 45, 48, 48, 45, 48, 48]⟩ 0) = _ := fun ty => run_next_ascii w ⟨#[48, 48, 48, 48, 45, 48, 48, 45, 48, 48]⟩ 0 ty (by decide) (by decide)
      by_cases h1 : 48 ≤ ((s[0]'(by omega)).toNat : Int)
      · have d1 : decide (48 ≤ ((s[0]'(by omega)).toNat : Int)) = true := decide_eq_true h1
        by_cases h2 : ((s[0]'(by omega)).toNat : Int) ≤ 57
        · have d2 : decide (((s[0]'(by omega)).toNat : Int) ≤ 57) = true := decide_eq_true h2
          have HK : Hid (okC10 0 (s.data.toList.getD 0 0) = true) := Lib.hid (by rw [getD_at s 0 (by omega)]; exact okC10_in 0 (s[0]'(by omega)) (by decide) h1 h2)
          go_wp2
          go_roundg (10 - (0 + 1))
          case measure => omega
          case rel => exact ⟨0 + 1, by omega, by omega, rfl, Lib.hid (fun j hj => by
            by_cases e : j = 0
            · subst e; exact HK.out
            · exact HA.out j (by omega))⟩
        · have d2 : decide (((s[0]'(by omega)).toNat : Int) ≤ 57) = false := decide_eq_false h2
          have HN := Lib.hid (getE_no (formOk_bad (l := s.data.toList) 0 (by decide) (by rw [getD_at s 0 (by omega)]; exact okC10_hi 0 (s[0]'(by omega)) (by decide) h2)))
          go_wp2_with (go_at_call 47; (with_reducible refine (errForm_calls _).mono ?_); rintro ev w1 ⟨rfl, rfl⟩)
          all_goals
            go_ret2
            exact ⟨by rw [HN.out]; rfl, iter_gr _ _ _⟩
      · have d1 : decide (48 ≤ ((s[0]'(by omega)).toNat : Int)) = false := decide_eq_false h1
        have HN := Lib.hid (getE_no (formOk_bad (l := s.data.toList) 0 (by decide) (by rw [getD_at s 0 (by omega)]; exact okC10_lo 0 (s[0]'(by omega)) (by decide) h1)))
        go_wp2_with (go_at_call 47; (with_reducible refine (errForm_calls _).mono ?_); rintro ev w1 ⟨rfl, rfl⟩)
        all_goals
          go_ret2
          exact ⟨by rw [HN.out]; rfl, iter_gr _ _ _⟩
    · have hnx : ∀ ty, (Instr.next (.pointer (some ⟨w.heap.size, 0, none⟩)) true ty).run Tryz.prog (w.iter ⟨#[48, 48, 48, 48, 45, 48, 48, 45, 48, 48]⟩ 1) = _ := fun ty => run_next_ascii w ⟨#[48, 48, 48, 48, 45, 48, 48, 45, 48, 48]⟩ 1 ty (by decide) (by decide)
      by_cases h1 : 48 ≤ ((s[1]'(by omega)).toNat : Int)
      · have d1 : decide (48 ≤ ((s[1]'(by omega)).toNat : Int)) = true := decide_eq_true h1
        by_cases h2 : ((s[1]'(by omega)).toNat : Int) ≤ 57
        · have d2 : decide (((s[1]'(by omega)).toNat : Int) ≤ 57) = true := decide_eq_true h2
          have HK : Hid (okC10 1 (s.data.toList.getD 1 0) = true) := Lib.hid (by rw [getD_at s 1 (by omega)]; exact okC10_in 1 (s[1]'(by omega)) (by decide) h1 h2)
          go_wp2
          go_roundg (10 - (1 + 1))
          case measure => omega
          case rel => exact ⟨1 + 1, by omega, by omega, rfl, Lib.hid (fun j hj => by
            by_cases e : j = 1
            · subst e; exact HK.out
            · exact HA.out j (by omega))⟩
        · have d2 : decide (((s[1]'(by omega)).toNat : Int) ≤ 57) = false := decide_eq_false h2
          have HN := Lib.hid (getE_no (formOk_bad (l := s.data.toList) 1 (by decide) (by rw [getD_at s 1 (by omega)]; exact okC10_hi 1 (s[1]'(by omega)) (by decide) h2)))
          go_wp2_with (go_at_call 47; (with_reducible refine (errForm_calls _).mono ?_); rintro ev w1 ⟨rfl, rfl⟩)
          all_goals
            go_ret2
            exact ⟨by rw [HN.out]; rfl, iter_gr _ _ _⟩
      · have d1 : decide (48 ≤ ((s[1]'(by omega)).toNat : Int)) = false := decide_eq_false h1
        have HN := Lib.hid (getE_no (formOk_bad (l := s.data.toList) 1 (by decide) (by rw [getD_at s 1 (by omega)]; exact okC10_lo 1 (s[1]'(by omega)) (by decide) h1)))
        go_wp2_with (go_at_call 47; (with_reducible refine (errForm_calls _).mono ?_); rintro ev w1 ⟨rfl, rfl⟩)
        all_goals
          go_ret2
          exact ⟨by rw [HN.out]; rfl, iter_gr _ _ _⟩
    · have hnx : ∀ ty, (Instr.next (.pointer (some ⟨w.heap.size, 0, none⟩)) true ty).run Tryz.prog (w.iter ⟨#[48, 48, 48, 48, 45, 48, 48, 45, 48, 48]⟩ 2) = _ := fun ty => run_next_ascii w ⟨#[48, 48, 48, 48, 45, 48, 48, 45, 48, 48]⟩ 2 ty (by decide) (by decide)
      by_cases h1 : 48 ≤ ((s[2]'(by omega)).toNat : Int)
      · have d1 : decide (48 ≤ ((s[2]'(by omega)).toNat : Int)) = true := decide_eq_true h1
        by_cases h2 : ((s[2]'(by omega)).toNat : Int) ≤ 57
        · have d2 : decide (((s[2]'(by omega)).toNat : Int) ≤ 57) = true := decide_eq_true h2
          have HK : Hid (okC10 2 (s.data.toList.getD 2 0) = true) := Lib.hid (by rw [getD_at s 2 (by omega)]; exact okC10_in 2 (s[2]'(by omega)) (by decide) h1 h2)
          go_wp2
          go_roundg (10 - (2 + 1))
          case measure => omega
          case rel => exact ⟨2 + 1, by omega, by omega, rfl, Lib.hid (fun j hj => by
            by_cases e : j = 2
            · subst e; exact HK.out
            · exact HA.out j (by omega))⟩
        · have d2 : decide (((s[2]'(by omega)).toNat : Int) ≤ 57) = false := decide_eq_false h2
          have HN := Lib.hid (getE_no (formOk_bad (l := s.data.toList) 2 (by decide) (by rw [getD_at s 2 (by omega)]; exact okC10_hi 2 (s[2]'(by omega)) (by decide) h2)))
          go_wp2_with (go_at_call 47; (with_reducible refine (errForm_calls _).mono ?_); rintro ev w1 ⟨rfl, rfl⟩)
          all_goals
            go_ret2
            exact ⟨by rw [HN.out]; rfl, iter_gr _ _ _⟩
      · have d1 : decide (48 ≤ ((s[2]'(by omega)).toNat : Int)) = false := decide_eq_false h1
        have HN := Lib.hid (getE_no (formOk_bad (l := s.data.toList) 2 (by decide) (by rw [getD_at s 2 (by omega)]; exact okC10_lo 2 (s[2]'(by omega)) (by decide) h1)))
        go_wp2_with (go_at_call 47; (with_reducible refine (errForm_calls _).mono ?_); rintro ev w1 ⟨rfl, rfl⟩)
        all_goals
          go_ret2
          exact ⟨by rw [HN.out]; rfl, iter_gr _ _ _⟩
    · have hnx : ∀ ty, (Instr.next (.pointer (some ⟨w.heap.size, 0, none⟩)) true ty).run Tryz.prog (w.iter ⟨#[48, 48, 48, 48, 45, 48, 48, 45, 48, 48]⟩ 3) = _ := fun ty => run_next_ascii w ⟨#[48, 48, 48, 48, 45, 48, 48, 45, 48, 48]⟩ 3 ty (by decide) (by decide)
      by_cases h1 : 48 ≤ ((s[3]'(by omega)).toNat : Int)
      · have d1 : decide (48 ≤ ((s[3]'(by omega)).toNat : Int)) = true := decide_eq_true h1
        by_cases h2 : ((s[3]'(by omega)).toNat : Int) ≤ 57
        · have d2 : decide (((s[3]'(by omega)).toNat : Int) ≤ 57) = true := decide_eq_true h2
          have HK : Hid (okC10 3 (s.data.toList.getD 3 0) = true) := Lib.hid (by rw [getD_at s 3 (by omega)]; exact okC10_in 3 (s[3]'(by omega)) (by decide) h1 h2)
          go_wp2
          go_roundg (10 - (3 + 1))
          case measure => omega
          case rel => exact ⟨3 + 1, by omega, by omega, rfl, Lib.hid (fun j hj => by
            by_cases e : j = 3
            · subst e; exact HK.out
            · exact HA.out j (by omega))⟩
        · have d2 : decide (((s[3]'(by omega)).toNat : Int) ≤ 57) = false := decide_eq_false h2
          have HN := Lib.hid (getE_no (formOk_bad (l := s.data.toList) 3 (by decide) (by rw [getD_at s 3 (by omega)]; exact okC10_hi 3 (s[3]'(by omega)) (by decide) h2)))
          go_wp2_with (go_at_call 47; (with_reducible refine (errForm_calls _).mono ?_); rintro ev w1 ⟨rfl, rfl⟩)
          all_goals
            go_ret2
            exact ⟨by rw [HN.out]; rfl, iter_gr _ _ _⟩
      · have d1 : decide (48 ≤ ((s[3]'(by omega)).toNat : Int)) = false := decide_eq_false h1
        have HN := Lib.hid (getE_no (formOk_bad (l := s.data.toList) 3 (by decide) (by rw [getD_at s 3 (by omega)]; exact okC10_lo 3 (s[3]'(by omega)) (by decide) h1)))
        go_wp2_with (go_at_call 47; (with_reducible refine (errForm_calls _).mono ?_); rintro ev w1 ⟨rfl, rfl⟩)
        all_goals
          go_ret2
          exact ⟨by rw [HN.out]; rfl, iter_gr _ _ _⟩
    · have hnx : ∀ ty, (Instr.next (.pointer (some ⟨w.heap.size, 0, none⟩)) true ty).run Tryz.prog (w.iter ⟨#[48, 48, 48, 48, 45, 48, 48, 45, 48, 48]⟩ 4) = _ := fun ty => run_next_ascii w ⟨#[48, 48, 48, 48, 45, 48, 48, 45, 48, 48]⟩ 4 ty (by decide) (by decide)
      by_cases h1 : ((s[4]'(by omega)).toNat : Int) = 45
      · have HK : Hid (okC10 4 (s.data.toList.getD 4 0) = true) := Lib.hid (by rw [getD_at s 4 (by omega)]; exact okC10_dash 4 (s[4]'(by omega)) (by decide) h1)
        have d1 : (((s[4]'(by omega)).toNat : Int) != 45) = false := by rw [h1]; rfl
        clear h1
        go_wp2
        all_goals
          go_roundg (10 - (4 + 1))
          case measure => omega
          case rel => exact ⟨4 + 1, by omega, by omega, rfl, Lib.hid (fun j hj => by
            by_cases e : j = 4
            · subst e; exact HK.out
            · exact HA.out j (by omega))⟩
      · have HN := Lib.hid (getE_no (formOk_bad (l := s.data.toList) 4 (by decide) (by rw [getD_at s 4 (by omega)]; exact okC10_nodash 4 (s[4]'(by omega)) (by decide) h1)))
        have d1 : (((s[4]'(by omega)).toNat : Int) != 45) = true := bne_iff_ne.2 h1
        clear h1
        go_wp2_with (go_at_call 47; (with_reducible refine (errForm_calls _).mono ?_); rintro ev w1 ⟨rfl, rfl⟩)
        all_goals
          go_ret2
          exact ⟨by rw [HN.out]; rfl, iter_gr _ _ _⟩
    · have hnx : ∀ ty, (Instr.next (.pointer (some ⟨w.heap.size, 0, none⟩)) true ty).run Tryz.prog (w.iter ⟨#[48, 48, 48, 48, 45, 48, 48, 45, 48, 48]⟩ 5) = _ := fun ty => run_next_ascii w ⟨#[48, 48, 48, 48, 45, 48, 48, 45, 48, 48]⟩ 5 ty (by decide) (by decide)
      by_cases h1 : 48 ≤ ((s[5]'(by omega)).toNat : Int)
      · have d1 : decide (48 ≤ ((s[5]'(by omega)).toNat : Int)) = true := decide_eq_true h1
        by_cases h2 : ((s[5]'(by omega)).toNat : Int) ≤ 57
        · have d2 : decide (((s[5]'(by omega)).toNat : Int) ≤ 57) = true := decide_eq_true h2
          have HK : Hid (okC10 5 (s.data.toList.getD 5 0) = true) := Lib.hid (by rw [getD_at s 5 (by omega)]; exact okC10_in 5 (s[5]'(by omega)) (by decide) h1 h2)
          go_wp2
          go_roundg (10 - (5 + 1))
          case measure => omega
          case rel => exact ⟨5 + 1, by omega, by omega, rfl, Lib.hid (fun j hj => by
            by_cases e : j = 5
            · subst e; exact HK.out
            · exact HA.out j (by omega))⟩
        · have d2 : decide (((s[5]'(by omega)).toNat : Int) ≤ 57) = false := decide_eq_false h2
          have HN := Lib.hid (getE_no (formOk_bad (l := s.data.toList) 5 (by decide) (by rw [getD_at s 5 (by omega)]; exact okC10_hi 5 (s[5]'(by omega)) (by decide) h2)))
          go_wp2_with (go_at_call 47; (with_reducible refine (errForm_calls _).mono ?_); rintro ev w1 ⟨rfl, rfl⟩)
          all_goals
            go_ret2
            exact ⟨by rw [HN.out]; rfl, iter_gr _ _ _⟩
      · have d1 : decide (48 ≤ ((s[5]'(by omega)).toNat : Int)) = false := decide_eq_false h1
        have HN := Lib.hid (getE_no (formOk_bad (l := s.data.toList) 5 (by decide) (by rw [getD_at s 5 (by omega)]; exact okC10_lo 5 (s[5]'(by omega)) (by decide) h1)))
        go_wp2_with (go_at_call 47; (with_reducible refine (errForm_calls _).mono ?_); rintro ev w1 ⟨rfl, rfl⟩)
        all_goals
          go_ret2
          exact ⟨by rw [HN.out]; rfl, iter_gr _ _ _⟩
    · have hnx : ∀ ty, (Instr.next (.pointer (some ⟨w.heap.size, 0, none⟩)) true ty).run Tryz.prog (w.iter ⟨#[48, 48, 48, 48, 45, 48, 48, 45, 48, 48]⟩ 6) = _ := fun ty => run_next_ascii w ⟨#[48, 48, 48, 48, 45, 48, 48, 45, 48, 48]⟩ 6 ty (by decide) (by decide)
      by_cases h1 : 48 ≤ ((s[6]'(by omega)).toNat : Int)
      · have d1 : decide (48 ≤ ((s[6]'(by omega)).toNat : Int)) = true := decide_eq_true h1
        by_cases h2 : ((s[6]'(by omega)).toNat : Int) ≤ 57
        · have d2 : decide (((s[6]'(by omega)).toNat : Int) ≤ 57) = true := decide_eq_true h2
          have HK : Hid (okC10 6 (s.data.toList.getD 6 0) = true) := Lib.hid (by rw [getD_at s 6 (by omega)]; exact okC10_in 6 (s[6]'(by omega)) (by decide) h1 h2)
          go_wp2
          go_roundg (10 - (6 + 1))
          case measure => omega
          case rel => exact ⟨6 + 1, by omega, by omega, rfl, Lib.hid (fun j hj => by
            by_cases e : j = 6
            · subst e; exact HK.out
            · exact HA.out j (by omega))⟩
        · have d2 : decide (((s[6]'(by omega)).toNat : Int) ≤ 57) = false := decide_eq_false h2
          have HN := Lib.hid (getE_no (formOk_bad (l := s.data.toList) 6 (by decide) (by rw [getD_at s 6 (by omega)]; exact okC10_hi 6 (s[6]'(by omega)) (by decide) h2)))
          go_wp2_with (go_at_call 47; (with_reducible refine (errForm_calls _).mono ?_); rintro ev w1 ⟨rfl, rfl⟩)
          all_goals
            go_ret2
            exact ⟨by rw [HN.out]; rfl, iter_gr _ _ _⟩
      · have d1 : decide (48 ≤ ((s[6]'(by omega)).toNat : Int)) = false := decide_eq_false h1
        have HN := Lib.hid (getE_no (formOk_bad (l := s.data.toList) 6 (by decide) (by rw [getD_at s 6 (by omega)]; exact okC10_lo 6 (s[6]'(by omega)) (by decide) h1)))
        go_wp2_with (go_at_call 47; (with_reducible refine (errForm_calls _).mono ?_); rintro ev w1 ⟨rfl, rfl⟩)
        all_goals
          go_ret2
          exact ⟨by rw [HN.out]; rfl, iter_gr _ _ _⟩
    · have hnx : ∀ ty, (Instr.next (.pointer (some ⟨w.heap.size, 0, none⟩)) true ty).run Tryz.prog (w.iter ⟨#[48, 48, 48, 48, 45, 48, 48, 45, 48, 48]⟩ 7) = _ := fun ty => run_next_ascii w ⟨#[48, 48, 48, 48, 45, 48, 48, 45, 48, 48]⟩ 7 ty (by decide) (by decide)
      by_cases h1 : ((s[7]'(by omega)).toNat : Int) = 45
      · have HK : Hid (okC10 7 (s.data.toList.getD 7 0) = true) := Lib.hid (by rw [getD_at s 7 (by omega)]; exact okC10_dash 7 (s[7]'(by omega)) (by decide) h1)
        have d1 : (((s[7]'(by omega)).toNat : Int) != 45) = false := by rw [h1]; rfl
        clear h1
        go_wp2
        all_goals
          go_roundg (10 - (7 + 1))
          case measure => omega
          case rel => exact ⟨7 + 1, by omega, by omega, rfl, Lib.hid (fun j hj => by
            by_cases e : j = 7
            · subst e; exact HK.out
            · exact HA.out j (by omega))⟩
      · have HN := Lib.hid (getE_no (formOk_bad (l := s.data.toList) 7 (by decide) (by rw [getD_at s 7 (by omega)]; exact okC10_nodash 7 (s[7]'(by omega)) (by decide) h1)))
        have d1 : (((s[7]'(by omega)).toNat : Int) != 45) = true := bne_iff_ne.2 h1
        clear h1
        go_wp2_with (go_at_call 47; (with_reducible refine (errForm_calls _).mono ?_); rintro ev w1 ⟨rfl, rfl⟩)
        all_goals
          go_ret2
          exact ⟨by rw [HN.out]; rfl, iter_gr _ _ _⟩
    · have hnx : ∀ ty, (Instr.next (.pointer (some ⟨w.heap.size, 0, none⟩)) true ty).run Tryz.prog (w.iter ⟨#[48, 48, 48, 48, 45, 48, 48, 45, 48, 48]⟩ 8) = _ := fun ty => run_next_ascii w ⟨#[48, 48, 48, 48, 45, 48, 48, 45, 48, 48]⟩ 8 ty (by decide) (by decide)
      by_cases h1 : 48 ≤ ((s[8]'(by omega)).toNat : Int)
      · have d1 : decide (48 ≤ ((s[8]'(by omega)).toNat : Int)) = true := decide_eq_true h1
        by_cases h2 : ((s[8]'(by omega)).toNat : Int) ≤ 57
        · have d2 : decide (((s[8]'(by omega)).toNat : Int) ≤ 57) = true := decide_eq_true h2
          have HK : Hid (okC10 8 (s.data.toList.getD 8 0) = true) := Lib.hid (by rw [getD_at s 8 (by omega)]; exact okC10_in 8 (s[8]'(by omega)) (by decide) h1 h2)
          go_wp2
          go_roundg (10 - (8 + 1))
          case measure => omega
          case rel => exact ⟨8 + 1, by omega, by omega, rfl, Lib.hid (fun j hj => by
            by_cases e : j = 8
            · subst e; exact HK.out
            · exact HA.out j (by omega))⟩
        · have d2 : decide (((s[8]'(by omega)).toNat : Int) ≤ 57) = false := decide_eq_false h2
          have HN := Lib.hid (getE_no (formOk_bad (l := s.data.toList) 8 (by decide) (by rw [getD_at s 8 (by omega)]; exact okC10_hi 8 (s[8]'(by omega)) (by decide) h2)))
          go_wp2_with (go_at_call 47; (with_reducible refine (errForm_calls _).mono ?_); rintro ev w1 ⟨rfl, rfl⟩)
          all_goals
            go_ret2
            exact ⟨by rw [HN.out]; rfl, iter_gr _ _ _⟩
      · have d1 : decide (48 ≤ ((s[8]'(by omega)).toNat : Int)) = false := decide_eq_false h1
        have HN := Lib.hid (getE_no (formOk_bad (l := s.data.toList) 8 (by decide) (by rw [getD_at s 8 (by omega)]; exact okC10_lo 8 (s[8]'(by omega)) (by decide) h1)))
        go_wp2_with (go_at_call 47; (with_reducible refine (errForm_calls _).mono ?_); rintro ev w1 ⟨rfl, rfl⟩)
        all_goals
          go_ret2
          exact ⟨by rw [HN.out]; rfl, iter_gr _ _ _⟩
    · have hnx : ∀ ty, (Instr.next (.pointer (some ⟨w.heap.size, 0, none⟩)) true ty).run Tryz.prog (w.iter ⟨#[48, 48, 48, 48, 45, 48, 48, 45, 48, 48]⟩ 9) = _ := fun ty => run_next_ascii w ⟨#[48, 48, 48, 48, 45, 48, 48, 45, 48, 48]⟩ 9 ty (by decide) (by decide)
      by_cases h1 : 48 ≤ ((s[9]'(by omega)).toNat : Int)
      · have d1 : decide (48 ≤ ((s[9]'(by omega)).toNat : Int)) = true := decide_eq_true h1
        by_cases h2 : ((s[9]'(by omega)).toNat : Int) ≤ 57
        · have d2 : decide (((s[9]'(by omega)).toNat : Int) ≤ 57) = true := decide_eq_true h2
          have HK : Hid (okC10 9 (s.data.toList.getD 9 0) = true) := Lib.hid (by rw [getD_at s 9 (by omega)]; exact okC10_in 9 (s[9]'(by omega)) (by decide) h1 h2)
          go_wp2
          go_roundg (10 - (9 + 1))
          case measure => omega
          case rel => exact ⟨9 + 1, by omega, by omega, rfl, Lib.hid (fun j hj => by
            by_cases e : j = 9
            · subst e; exact HK.out
            · exact HA.out j (by omega))⟩
        · have d2 : decide (((s[9]'(by omega)).toNat : Int) ≤ 57) = false := decide_eq_false h2
          have HN := Lib.hid (getE_no (formOk_bad (l := s.data.toList) 9 (by decide) (by rw [getD_at s 9 (by omega)]; exact okC10_hi 9 (s[9]'(by omega)) (by decide) h2)))
          go_wp2_with (go_at_call 47; (with_reducible refine (errForm_calls _).mono ?_); rintro ev w1 ⟨rfl, rfl⟩)
          all_goals
            go_ret2
            exact ⟨by rw [HN.out]; rfl, iter_gr _ _ _⟩
      · have d1 : decide (48 ≤ ((s[9]'(by omega)).toNat : Int)) = false := decide_eq_false h1
        have HN := Lib.hid (getE_no (formOk_bad (l := s.data.toList) 9 (by decide) (by rw [getD_at s 9 (by omega)]; exact okC10_lo 9 (s[9]'(by omega)) (by decide) h1)))
        go_wp2_with (go_at_call 47; (with_reducible refine (errForm_calls _).mono ?_); rintro ev w1 ⟨rfl, rfl⟩)
        all_goals
          go_ret2
          exact ⟨by rw [HN.out]; rfl, iter_gr _ _ _⟩
    · have hnx : ∀ ty, (Instr.next (.pointer (some ⟨w.heap.size, 0, none⟩)) true ty).run Tryz.prog (w.iter ⟨#[48, 48, 48, 48, 45, 48, 48, 45, 48, 48]⟩ 10) = _ := fun ty => run_next_end w ⟨#[48, 48, 48, 48, 45, 48, 48, 45, 48, 48]⟩ 10 ty (by decide)
      have hr := fun k (hk : k < 10) (h7 : ¬ (k = 4 ∨ k = 7)) => okC10_rng k _ h7 (HA.out k hk)
      have r0 := hr 0 (by decide) (by decide)
      have r1 := hr 1 (by decide) (by decide)
      have r2 := hr 2 (by decide) (by decide)
      have r3 := hr 3 (by decide) (by decide)
      have r5 := hr 5 (by decide) (by decide)
      have r6 := hr 6 (by decide) (by decide)
      have r8 := hr 8 (by decide) (by decide)
      have r9 := hr 9 (by decide) (by decide)
      rw [getD_at s _ (by omega)] at r0 r1 r2 r3 r5 r6 r8 r9
      have HF := Lib.hid (formOk_yes (l := s.data.toList) hs HA.out)
      have HA1 := Lib.hid (fun w => atoi_gr (s.extract 0 4) _ (ext4 s hs).2 (by rw [(ext4 s hs).1]; exact atoi4 _ _ _ _ r0 r1 r2 r3) w)
      have HA2 := Lib.hid (fun w => atoi_gr (s.extract 5 7) _ (ext57 s hs).2 (by rw [(ext57 s hs).1]; exact atoi2 _ _ r5 r6) w)
      have HA3 := Lib.hid (fun w => atoi_gr (s.extract 8 10) _ (ext8 s hs).2 (by rw [(ext8 s hs).1]; exact atoi2 _ _ r8 r9) w)
      clear r0 r1 r2 r3 r5 r6 r8 r9 HA hr
      have HO := Lib.hid (fun w => day_of_calls (num4 (s[0]'(by omega)) (s[1]'(by omega)) (s[2]'(by omega)) (s[3]'(by omega))) (num2 (s[5]'(by omega)) (s[6]'(by omega))) (num2 (s[8]'(by omega)) (s[9]'(by omega))) w)
      have HE := Lib.hid (show getE s.data.toList = .returned (.tuple #[.int .i64 (ofD (num4 (s[0]'(by omega)) (s[1]'(by omega)) (s[2]'(by omega)) (s[3]'(by omega))) (num2 (s[5]'(by omega)) (s[6]'(by omega))) (num2 (s[8]'(by omega)) (s[9]'(by omega)))), ofE (num4 (s[0]'(by omega)) (s[1]'(by omega)) (s[2]'(by omega)) (s[3]'(by omega))) (num2 (s[5]'(by omega)) (s[6]'(by omega))) (num2 (s[8]'(by omega)) (s[9]'(by omega)))]) from by
        unfold getE
        rw [HF.out, if_pos rfl, getD_at s 0 (by omega), getD_at s 1 (by omega), getD_at s 2 (by omega), getD_at s 3 (by omega), getD_at s 5 (by omega), getD_at s 6 (by omega), getD_at s 8 (by omega), getD_at s 9 (by omega)])
      clear HF
      generalize (num4 (s[0]'(by omega)) (s[1]'(by omega)) (s[2]'(by omega)) (s[3]'(by omega))) = Y at *
      generalize (num2 (s[5]'(by omega)) (s[6]'(by omega))) = M at *
      generalize (num2 (s[8]'(by omega)) (s[9]'(by omega))) = D at *
      go_wp2_with fail
      refine (HA1.out _).mono ?_
      rintro ev w1 ⟨rfl, hg1⟩
      go_wp2_with fail
      refine (HA2.out _).mono ?_
      rintro ev w2 ⟨rfl, hg2⟩
      go_wp2_with fail
      refine (HA3.out _).mono ?_
      rintro ev w3 ⟨rfl, hg3⟩
      go_wp2_with fail
      refine (HO.out _).mono ?_
      rintro ev w4 ⟨rfl, hg4⟩
      go_wp2_with fail
      go_ret2
      exact ⟨HE.out.symm, ((((iter_gr w _ _).tr hg1).tr hg2).tr hg3).tr hg4⟩
end Go.Proofs.YtjgihjpckjdikaaGreatDoor
