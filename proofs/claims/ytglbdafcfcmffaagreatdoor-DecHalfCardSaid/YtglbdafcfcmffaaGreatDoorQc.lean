/- Layer 2's reference, plain: texts by nine digits. No program here. -/
import Derived.Test.YtglbdafcfcmffaaGreatDoorQa
import Derived.Test.YtglbdafcfcmffaaGreatDoorGj
namespace Go.Proofs.YtglbdafcfcmffaaGreatDoor
open Go.RowKit
set_option linter.unusedVariables false

theorem D_pow (k : Nat) : Dg.D ^ k = 10 ^ (9 * k) := by rw [Nat.pow_mul]; rfl
theorem dv_nil : dv [] = 0 := rfl
theorem dv_one (c : UInt8) : dv [c] = c.toNat - 48 := by simp [dv]
theorem dv_cons (c : UInt8) (l : List UInt8) : dv (c :: l) = (c.toNat - 48) * 10 ^ l.length + dv l := by
  rw [show c :: l = [c] ++ l from rfl, dv_append, dv_one]
theorem dv_split (L : List UInt8) (lo e : Nat) (h1 : lo ≤ e) (h2 : e ≤ L.length) : dv (L.drop lo) = dv ((L.drop lo).take (e - lo)) * 10 ^ (L.length - e) + dv (L.drop e) := by
  conv => lhs; rw [← List.take_append_drop (e - lo) (L.drop lo)]
  rw [dv_append, List.drop_drop, List.length_drop, show lo + (e - lo) = e by omega]
/-- The number that the digits from lo to j are. -/
def dw (L : List UInt8) (lo j : Nat) : Nat := dv ((L.drop lo).take (j - lo))
def DigW (L : List UInt8) (lo j : Nat) : Prop := Dig ((L.drop lo).take (j - lo))
theorem dw_start (L : List UInt8) (lo : Nat) : dw L lo lo = 0 := by unfold dw; rw [Nat.sub_self, List.take_zero]; rfl
theorem digW_start (L : List UInt8) (lo : Nat) : DigW L lo lo := by unfold DigW; rw [Nat.sub_self, List.take_zero]; intro c hc; cases hc
theorem take_next (L : List UInt8) (lo j : Nat) (h1 : lo ≤ j) (h2 : j < L.length) : (L.drop lo).take (j + 1 - lo) = (L.drop lo).take (j - lo) ++ [L[j]] := by
  have hl : j - lo < (L.drop lo).length := by rw [List.length_drop]; omega
  rw [show j + 1 - lo = j - lo + 1 by omega, List.take_succ_eq_append_getElem hl, List.getElem_drop]
  simp only [show lo + (j - lo) = j by omega]
theorem dw_next (L : List UInt8) (lo j : Nat) (h1 : lo ≤ j) (h2 : j < L.length) : dw L lo (j + 1) = dw L lo j * 10 + (L[j].toNat - 48) := by
  unfold dw
  rw [take_next L lo j h1 h2, dv_append, dv_one]
  simp
theorem digW_next (L : List UInt8) (lo j : Nat) (h1 : lo ≤ j) (h2 : j < L.length) (h : DigW L lo j) (h48 : 48 ≤ L[j].toNat) (h57 : L[j].toNat ≤ 57) : DigW L lo (j + 1) := by
  unfold DigW at *
  rw [take_next L lo j h1 h2]
  intro c hc
  rcases List.mem_append.1 hc with hc | hc
  · exact h c hc
  · rw [List.mem_singleton.1 hc]; exact ⟨h48, h57⟩
theorem dw_lt (L : List UInt8) (lo j : Nat) (h : DigW L lo j) (h1 : lo ≤ j) (h9 : j ≤ lo + 9) : dw L lo j < 1000000000 := by
  have := dv_lt _ h
  refine Nat.lt_of_lt_of_le this ?_
  rw [List.length_take]
  exact Nat.pow_le_pow_right (by decide) (by omega : _ ≤ 9)
/-- A group more. -/
theorem group_val (L : List UInt8) (p : List Nat) (lo e : Nat) (h1 : lo ≤ e) (he : e + 9 * p.length = L.length) (hv : Dg.val p = dv (L.drop e)) : Dg.val (p ++ [dw L lo e]) = dv (L.drop lo) := by
  rw [Dg.val_snoc, hv, dv_split L lo e h1 (by omega), D_pow, show L.length - e = 9 * p.length by omega]
  unfold dw
  rw [Nat.mul_comm, Nat.add_comm]
theorem group_dig (L : List UInt8) (lo e : Nat) (h1 : lo ≤ e) (h : Dig (L.drop e)) (hw : DigW L lo e) : Dig (L.drop lo) := by
  rw [← List.take_append_drop (e - lo) (L.drop lo), List.drop_drop, show lo + (e - lo) = e by omega]
  intro c hc
  rcases List.mem_append.1 hc with hc | hc
  · exact hw c hc
  · exact h c hc
theorem not_dig (L : List UInt8) (j : Nat) (hj : j < L.length) (h : ¬ (48 ≤ L[j].toNat ∧ L[j].toNat ≤ 57)) : ¬ Dig L := fun hd => h (hd _ (List.getElem_mem hj))

/-- A digit more ahead of a text. -/
theorem text_step (S : List UInt8) (c : UInt8) (d0 i k v : Nat) (hc : c.toNat = 48 + d0 / 10 ^ k % 10) (hl : S.length = 9 * i + k) (hv : dv S = d0 % 10 ^ k * 10 ^ (9 * i) + v) :
    dv (c :: S) = d0 % 10 ^ (k + 1) * 10 ^ (9 * i) + v := by
  rw [dv_cons, hl, hv, hc, Nat.mod_pow_succ, Nat.add_sub_cancel_left, Nat.pow_add]
  generalize d0 / 10 ^ k % 10 = x
  generalize d0 % 10 ^ k = y
  generalize 10 ^ (9 * i) = q
  generalize 10 ^ k = p
  have h : p * x * q = x * (q * p) := by rw [Nat.mul_comm p x, Nat.mul_assoc, Nat.mul_comm p q]
  rw [Nat.add_mul, h]
  omega
theorem text_group (l : List Nat) (i : Nat) (hi : i < l.length) (hl : Dg.Limbs l) (S : List UInt8) (hv : dv S = l[i] % 10 ^ 9 * 10 ^ (9 * i) + Dg.val (l.take i)) : dv S = Dg.val (l.take (i + 1)) := by
  have h : l[i] % 10 ^ 9 = l[i] := Nat.mod_eq_of_lt (hl _ (List.getElem_mem hi))
  rw [Dg.val_take_succ l i hi, hv, D_pow, h, Nat.add_comm, Nat.mul_comm]
theorem dig_cons (c : UInt8) (S : List UInt8) (d : Nat) (hc : c.toNat = 48 + d % 10) (h : Dig S) : Dig (c :: S) := by
  intro x hx
  rcases List.mem_cons.1 hx with rfl | hx
  · have := Nat.mod_lt d (show 0 < 10 by decide)
    omega
  · exact h x hx
theorem dv_strip (c : UInt8) (S : List UInt8) (hc : c.toNat = 48) : dv (c :: S) = dv S := by rw [dv_cons, hc]; simp
end Go.Proofs.YtglbdafcfcmffaaGreatDoor
