/- Layer 2: the greatest common divisor's helpers at limbs of their own, of any length: made, twos, odd, less. -/
import Derived.Test.YtglbdafcfcmffaaGreatDoorTb
import Derived.Test.YtglbdafcfcmffaaGreatDoorGh
import Derived.Test.YtglbdafcfcmffaaGreatDoorGi
namespace Go.Proofs.YtglbdafcfcmffaaGreatDoor
open Go.RowKit Go.Extern.Stop Go.Stop Go.Extern
set_option linter.unusedVariables false
set_option linter.unusedSimpArgs false

theorem rv_scale (b : Nat) (F : Nat → Nat) (z n : Nat) (h0 : ∀ j, j < z → F j = 0) : rv b F (z + n) = b ^ z * rv b (fun j => F (z + j)) n := by
  rw [rv_add, rv_nil b F z h0, Nat.zero_add]
/-- The first limb that is not nought. -/
theorem first_limb (F : Nat → Nat) (n : Nat) (h : rv B F n ≠ 0) : ∃ z, z < n ∧ (∀ j, j < z → F j = 0) ∧ F z ≠ 0 := by
  induction n with
  | zero => exact absurd rfl h
  | succ n ih =>
    by_cases h2 : rv B F n = 0
    · refine ⟨n, by omega, fun j hj => ?_, fun e => h (by rw [rv_succ, h2, e, Nat.mul_zero])⟩
      by_cases e : F j = 0
      · exact e
      · exfalso
        have h3 := rv_le B F (j + 1) n (by omega)
        rw [rv_succ] at h3
        have : B ^ j * 1 ≤ B ^ j * F j := Nat.mul_le_mul_left _ (by omega)
        have := Nat.pow_pos (n := j) B_pos
        omega
    · obtain ⟨z, h3, h4, h5⟩ := ih h2
      exact ⟨z, by omega, h4, h5⟩
/-- Its twos are the number's. -/
theorem twos_num (F : Nat → Nat) (z n t o : Nat) (hz : z < n) (h0 : ∀ j, j < z → F j = 0) (hx : F z = 2 ^ t * o) (ho : o % 2 = 1) (ht : t ≤ 63) :
    ∃ p, rv B (fun j => F (z + j)) (n - z) = 2 ^ t * p ∧ p % 2 = 1 ∧ rv B F n = 2 ^ (64 * z + t) * p := by
  obtain ⟨m, hm⟩ : ∃ m, n - z = 1 + m := ⟨n - z - 1, by omega⟩
  have e1 : rv B (fun j => F (z + j)) (n - z) = 2 ^ t * (o + 2 ^ (64 - t) * rv B (fun j => F (z + (1 + j))) m) := by
    rw [hm, rv_add, rv_succ, rv_zero, Nat.pow_zero, Nat.one_mul, Nat.zero_add, Nat.pow_one, Nat.add_zero, hx, Nat.mul_add, ← Nat.mul_assoc, Nat.mul_comm (2 ^ t) (2 ^ (64 - t)), ← B_split t (by omega)]
  refine ⟨_, e1, ?_, ?_⟩
  · obtain ⟨k, hk⟩ : ∃ k, 64 - t = k + 1 := ⟨63 - t, by omega⟩
    rw [hk, Nat.pow_succ, Nat.mul_comm (2 ^ k) 2, Nat.mul_assoc]
    omega
  · rw [show n = z + (n - z) by omega, rv_scale B F z (n - z) h0, e1, B_pow64, Nat.pow_add, Nat.mul_assoc]

set_option maxRecDepth 100000 in
set_option maxHeartbeats 2000000 in
/-- nat.twos. -/
theorem twos_calls (g o c n z t : Nat) (F : Nat → Nat) (w : World) (h : CellsAt w g o n F) (hz : z < n) (h0 : ∀ j, j < z → F j = 0) (hx : F z ≠ 0) (hn : n ≤ 1000000) (ht : t ≤ 63)
    (hcl : ∀ w', Gr w w' → Calls Tryz.prog 222 #[.int .u64 ((F z : Nat) : Int)] w' fun e w2 => e = .returned (.int .i64 (t : Int)) ∧ w' = w2) :
    Calls Tryz.prog 187 #[.slice (some ⟨g, o, none⟩) n c] w fun e w' => e = .returned (.int .i64 ((64 * z + t : Nat) : Int)) ∧ Gr w w' := by
  have HT := Lib.hid hcl
  have HC := Lib.hid h
  have H0 := Lib.hid h0
  clear hcl h h0
  go_enter Tryz.func187, Tryz.ntmps187
  go_wp2
  go_loopg [3] z (fun k si wr => ∃ i : Nat, k = z - i ∧ i ≤ z ∧ si = .int .i64 (i : Int) ∧ Gr w wr)
  case atStart => exact ⟨0, rfl, by omega, rfl, Gr.rf w⟩
  case round =>
    obtain ⟨i, hk, hi, rfl, hgr⟩ := hrel
    have HK := Lib.hid hk
    clear hk
    have hc := (HC.out.gr hgr).2 i (by omega)
    by_cases hlt : i < z
    · rw [H0.out i hlt] at hc
      have hb : ((0 : Nat) : Int) == 0 := rfl
      rw [show ((0 : Nat) : Int) = 0 from rfl] at hc
      go_wp2
      go_roundg (z - (i + 1))
      case measure => have := HK.out; omega
      case rel => exact ⟨i + 1, rfl, by omega, by first | rfl | go_num, by first | exact hgr | exact Gr.drew hgr _⟩
    · obtain rfl : i = z := by omega
      have hb : ((F i : Int) == 0) = false := beq_eq_false_iff_ne.2 (by omega)
      have HTT := HT.out
      generalize F i = x at *
      have HTQ := Lib.hid HTT
      clear HTT
      go_wp2_with (go_at_call 222; (with_reducible refine (HTQ.out _ (by first | exact hgr | exact Gr.drew hgr _)).mono ?_); rintro ev w1 ⟨rfl, rfl⟩)
      go_ret
      exact ⟨ret_int (by omega), by first | exact hgr | exact Gr.drew hgr _⟩

set_option maxRecDepth 100000 in
set_option maxHeartbeats 2000000 in
/-- nat.made at limbs of a block: the slice's own memory is kept. -/
theorem madeOwn_calls (g o c n : Nat) (F : Nat → Nat) (w : World) (h : CellsAt w g o n F) (hn : n ≤ 1000000) (hc : n ≤ c) :
    Calls Tryz.prog 112 #[.slice (some ⟨g, o, none⟩) n c] w fun e w' => e = .returned (.pointer (some ⟨w.heap.size, 0, none⟩)) ∧ ∃ m, m ≤ n ∧ (m = 0 ∨ F (m - 1) ≠ 0) ∧ rv B F m = rv B F n ∧ w' = w.alloc (.cells #[.slice (some ⟨g, o, none⟩) m c] 155) := by
  have HC := Lib.hid h
  clear h
  go_enter Tryz.func112, Tryz.ntmps112
  go_wp2
  go_loopg [0] n (fun k v wr => k ≤ n ∧ v = .slice (some ⟨g, o, none⟩) k c ∧ Hid (rv B F k = rv B F n) ∧ w = wr)
  case atStart => exact ⟨Nat.le_refl _, rfl, Lib.hid rfl, rfl⟩
  case round =>
    obtain ⟨hk, rfl, HV, rfl⟩ := hrel
    by_cases h0 : 0 < gk
    · obtain ⟨j, rfl⟩ : ∃ j, gk = j + 1 := ⟨gk - 1, by omega⟩
      have hc := HC.out.2 j (by omega)
      have hji : ((j + 1 : Nat) : Int) - 1 = (j : Int) := by omega
      have hjn : (j : Int).toNat = j := by omega
      have hpos : decide ((0 : Int) < ((j + 1 : Nat) : Int)) = true := decide_eq_true (by omega)
      by_cases hx : F j = 0
      · have HX := Lib.hid hx
        rw [hx, show ((0 : Nat) : Int) = 0 from rfl] at hc
        clear hx
        go_wp2
        go_roundg j
        case measure => omega
        case rel => exact ⟨by omega, by first | rfl | go_num, Lib.hid (by rw [← HV.out, rv_succ, HX.out, Nat.mul_zero, Nat.add_zero]), rfl⟩
      · have hb : ((F j : Int) == 0) = false := beq_eq_false_iff_ne.2 (by omega)
        have HX := Lib.hid hx
        clear hx
        generalize hf : F j = x at *
        have HF := Lib.hid hf
        clear hf
        go_wp2
        go_ret
        exact ⟨rfl, j + 1, hk, .inr (by rw [Nat.add_sub_cancel, HF.out]; exact HX.out), HV.out, rfl⟩
    · obtain rfl : gk = 0 := by omega
      go_wp2
      go_ret
      exact ⟨rfl, 0, by omega, .inl rfl, HV.out, rfl⟩
end Go.Proofs.YtglbdafcfcmffaaGreatDoor
