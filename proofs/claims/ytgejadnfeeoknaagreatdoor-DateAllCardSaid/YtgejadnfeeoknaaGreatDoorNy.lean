/- Layer 2, plain: texts of digits. -/
import Derived.Test.YtgejadnfeeoknaaGreatDoorNw
import Derived.Lib.SlTrimSet
import Derived.Lib.ParseIntB
import Derived.Laws.Strings
namespace Go.Proofs.YtgejadnfeeoknaaGreatDoor
open Go.RowKit

def Dig (l : List UInt8) : Prop := ∀ c ∈ l, 48 ≤ c.toNat ∧ c.toNat ≤ 57
/-- The number that digits are. -/
def dv : List UInt8 → Nat := List.foldl (fun a c => a * 10 + (c.toNat - 48)) 0
theorem dv_foldl (l : List UInt8) (a : Nat) : l.foldl (fun a c => a * 10 + (c.toNat - 48)) a = a * 10 ^ l.length + dv l := by
  induction l generalizing a with
  | nil => simp [dv]
  | cons c l ih =>
    unfold dv
    rw [List.foldl_cons, ih, List.foldl_cons, ih (0 * 10 + (c.toNat - 48)), List.length_cons, Nat.pow_succ, Nat.add_mul, Nat.zero_mul, Nat.zero_add, Nat.mul_assoc, Nat.mul_comm 10, Nat.add_assoc]
theorem dv_append (a b : List UInt8) : dv (a ++ b) = dv a * 10 ^ b.length + dv b := by
  rw [show dv (a ++ b) = b.foldl (fun a c => a * 10 + (c.toNat - 48)) (dv a) from List.foldl_append, dv_foldl]
theorem dv_lt (l : List UInt8) (h : Dig l) : dv l < 10 ^ l.length := by
  induction l with
  | nil => simp [dv]
  | cons c l ih =>
    have h1 := ih (fun x hx => h x (List.mem_cons_of_mem _ hx))
    have h2 := h c List.mem_cons_self
    rw [show c :: l = [c] ++ l from rfl, dv_append, List.length_append, List.length_singleton, Nat.add_comm 1, Nat.pow_succ]
    have h3 : dv [c] = c.toNat - 48 := by simp [dv]
    rw [h3]
    have : (c.toNat - 48) * 10 ^ l.length ≤ 9 * 10 ^ l.length := Nat.mul_le_mul_right _ (by omega)
    omega
theorem dv_digit (l : List UInt8) (h : Dig l) (a : Nat) (hn : a * 10 ^ l.length + dv l < 10 ^ 18) : Lib.parseUintM 18446744073709551615 a l = .ok (a * 10 ^ l.length + dv l) := by
  induction l generalizing a with
  | nil => simp [Lib.parseUintM, dv]
  | cons c l ih =>
    have h2 := h c List.mem_cons_self
    have h3 : dv [c] = c.toNat - 48 := by simp [dv]
    have e : a * 10 ^ (c :: l).length + dv (c :: l) = (a * 10 + (c.toNat - 48)) * 10 ^ l.length + dv l := by
      rw [show c :: l = [c] ++ l from rfl, dv_append, h3, List.length_append, List.length_singleton, Nat.add_comm 1, Nat.pow_succ, Nat.add_mul, Nat.mul_comm (10 ^ l.length), Nat.mul_assoc]; omega
    rw [e] at hn ⊢
    have h4 : a * 10 + (c.toNat - 48) ≤ (a * 10 + (c.toNat - 48)) * 10 ^ l.length := Nat.le_mul_of_pos_right _ (Nat.pow_pos (by decide))
    rw [Lib.parseUintM, if_pos h2, if_neg (by omega), if_neg (by omega)]
    exact ih (fun x hx => h x (List.mem_cons_of_mem _ hx)) _ hn
theorem parse_digits (l : List UInt8) (h : Dig l) (hne : l ≠ []) (hl : l.length ≤ 18) : Lib.parseUintB 64 l = .ok (dv l) ∧ dv l < 10 ^ 18 := by
  have h1 := dv_lt l h
  have h2 : dv l < 10 ^ 18 := Nat.lt_of_lt_of_le h1 (Nat.pow_le_pow_right (by decide) hl)
  refine ⟨?_, h2⟩
  unfold Lib.parseUintB
  rw [if_neg hne]
  have := dv_digit l h 0 (by rw [Nat.zero_mul, Nat.zero_add]; exact h2)
  rw [Nat.zero_mul, Nat.zero_add] at this
  exact this
/-- Trimmed by the ten digits nothing is left, just where all are digits. -/
def tens : List UInt8 := [48, 49, 50, 51, 52, 53, 54, 55, 56, 57]
theorem tens_iff (c : UInt8) : tens.contains c = true ↔ 48 ≤ c.toNat ∧ c.toNat ≤ 57 := by
  constructor
  · intro h
    have : c ∈ tens := by simpa using h
    simp [tens] at this
    rcases this with rfl | rfl | rfl | rfl | rfl | rfl | rfl | rfl | rfl | rfl <;> decide
  · rintro ⟨h1, h2⟩
    have : c.toNat = 48 ∨ c.toNat = 49 ∨ c.toNat = 50 ∨ c.toNat = 51 ∨ c.toNat = 52 ∨ c.toNat = 53 ∨ c.toNat = 54 ∨ c.toNat = 55 ∨ c.toNat = 56 ∨ c.toNat = 57 := by omega
    have e : ∀ k : UInt8, c.toNat = k.toNat → c = k := fun k h => UInt8.toNat_inj.1 h
    rcases this with h | h | h | h | h | h | h | h | h | h
    · rw [e 48 h]; decide
    · rw [e 49 h]; decide
    · rw [e 50 h]; decide
    · rw [e 51 h]; decide
    · rw [e 52 h]; decide
    · rw [e 53 h]; decide
    · rw [e 54 h]; decide
    · rw [e 55 h]; decide
    · rw [e 56 h]; decide
    · rw [e 57 h]; decide
theorem dropWhile_nil {α : Type} (p : α → Bool) (l : List α) : l.dropWhile p = [] ↔ ∀ x ∈ l, p x = true := by
  induction l with
  | nil => simp
  | cons a l ih =>
    rw [List.dropWhile_cons]
    by_cases h : p a = true
    · rw [if_pos h, ih]; simp [h]
    · rw [if_neg h]
      constructor
      · intro h1; cases h1
      · intro h1; exact absurd (h1 a List.mem_cons_self) h
theorem mem_takeWhile {α : Type} {p : α → Bool} {l : List α} {x : α} (h : x ∈ l.takeWhile p) : p x = true := by
  induction l with
  | nil => simp at h
  | cons a l ih =>
    rw [List.takeWhile_cons] at h
    by_cases ha : p a = true
    · rw [if_pos ha] at h
      rcases List.mem_cons.1 h with rfl | h
      · exact ha
      · exact ih h
    · rw [if_neg ha] at h; simp at h
theorem trim_digits (l : List UInt8) : Lib.trimS l tens = [] ↔ Dig l := by
  unfold Lib.trimS Lib.trimLeftS Lib.trimRightS
  rw [dropWhile_nil]
  constructor
  · intro h c hc
    by_cases hd : c ∈ l.reverse.dropWhile (tens.contains ·)
    · exact (tens_iff c).1 (h c (List.mem_reverse.2 hd))
    · have h2 := List.takeWhile_append_dropWhile (p := fun x => tens.contains x) (l := l.reverse)
      have h3 : c ∈ l.reverse := List.mem_reverse.2 hc
      rw [← h2] at h3
      rcases List.mem_append.1 h3 with h4 | h4
      · have := mem_takeWhile h4
        exact (tens_iff c).1 this
      · exact absurd h4 hd
  · intro h c hc
    have h1 := List.mem_reverse.1 hc
    have h2 : c ∈ l.reverse := (List.dropWhile_sublist _).subset h1
    exact (tens_iff c).2 (h c (List.mem_reverse.1 h2))
/-- Which texts are numbers. -/
def NatTextB (l : List UInt8) : Bool := (!l.isEmpty && decide (l.length ≤ 4000) && !(decide (1 < l.length) && (l.head? == some 48)) && l.all (tens.contains ·))
end Go.Proofs.YtgejadnfeeoknaaGreatDoor
