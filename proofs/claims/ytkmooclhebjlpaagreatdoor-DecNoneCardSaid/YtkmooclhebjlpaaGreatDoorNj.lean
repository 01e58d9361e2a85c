/- Layer 2: the numbers of bits.Div64. -/
import Derived.Test.YtkmooclhebjlpaaGreatDoorNi
import Derived.Laws.Bits64b
import Derived.Lib.Mul64
namespace Go.Proofs.YtkmooclhebjlpaaGreatDoor
open Go.RowKit Go.Extern.Stop Go.Stop Go.Extern

theorem wrapN (a : Nat) (ha : a < B) : IntKind.u64.wrap (a : Int) = (a : Int) := by rw [B_eq] at ha; rw [IntKind.wrap_u64]; omega
theorem wrapM (a : Nat) : IntKind.u64.wrap (a : Int) = ((a % B : Nat) : Int) := by rw [B_eq, IntKind.wrap_u64]; omega
theorem maskN (a : Nat) (ha : a < B) : bits .and .u64 (a : Int) 4294967295 = ((a % W : Nat) : Int) := by
  rw [B_eq] at ha
  have h := bits_and_u64_nat a 4294967295 ha (by omega)
  have e : a &&& 4294967295 = a % 4294967296 := Nat.and_two_pow_sub_one_eq_mod a 32
  rw [e] at h
  exact h
theorem or_add (x a s : Nat) (ha : a < 2 ^ s) : (x * 2 ^ s) ||| a = x * 2 ^ s + a := by
  rw [Nat.mul_comm, Nat.two_pow_add_eq_or_of_lt ha]
theorem B_pow : B = 2 ^ 64 := by rw [B_eq]
theorem B_split (s : Nat) (hs : s ≤ 64) : B = 2 ^ (64 - s) * 2 ^ s := by rw [B_pow, ← Nat.pow_add]; congr 1; omega
/-- What is shifted out and what stays. -/
theorem shl_parts (lo s : Nat) (hs : s ≤ 64) : lo * 2 ^ s = B * (lo / 2 ^ (64 - s)) + lo * 2 ^ s % B := by
  have h := Nat.div_add_mod (lo * 2 ^ s) B
  have e : lo * 2 ^ s / B = lo / 2 ^ (64 - s) := by rw [B_split s hs, Nat.mul_div_mul_right _ _ (Nat.two_pow_pos s)]
  rw [e] at h
  exact h.symm
theorem shr_lt (lo s : Nat) (hs : s ≤ 64) (hlo : lo < B) : lo / 2 ^ (64 - s) < 2 ^ s := by
  rw [Nat.div_lt_iff_lt_mul (Nat.two_pow_pos _), Nat.mul_comm, ← B_split s hs]; exact hlo
theorem hi_fits (hi y s : Nat) (hlt : hi < y) : hi * 2 ^ s + 2 ^ s ≤ y * 2 ^ s := by
  rw [← Nat.succ_mul]; exact Nat.mul_le_mul_right _ hlt
end Go.Proofs.YtkmooclhebjlpaaGreatDoor
