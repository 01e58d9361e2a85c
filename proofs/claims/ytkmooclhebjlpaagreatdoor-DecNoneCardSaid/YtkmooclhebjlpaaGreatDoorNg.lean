/- Layer 2: Mul, by contract. -/
import Derived.Test.YtkmooclhebjlpaaGreatDoorNf
import Derived.Test.YtkmooclhebjlpaaGreatDoorShelf
namespace Go.Proofs.YtkmooclhebjlpaaGreatDoor
open Go.RowKit Go.Extern.Stop Go.Stop Go.Extern
set_option linter.unusedVariables false
set_option linter.unusedSimpArgs false

theorem mul64_calls (x y : Nat) (hx : x < B) (hy : y < B) (w : World) :
    Calls Tryz.prog 58 #[.int .u64 (x : Int), .int .u64 (y : Int)] w fun e w' => e = .returned (.tuple #[.int .u64 ((muHi x y : Nat) : Int), .int .u64 ((muLo x y : Nat) : Int)]) ∧ w = w' := by
  rw [B_eq] at hx hy
  refine (Tryz.bits_Mul64 x y hx hy w).mono ?_
  rintro e w' ⟨rfl, rfl⟩
  exact ⟨by unfold muHi muLo; rw [B_eq], rfl⟩
/-- A round's numbers: f + x * y + c in two limbs. -/
theorem mul_round (x y f c : Nat) (hx : x < B) (hy : y < B) (hf : f < B) (hc : c < B) : ∃ hi lo lo1 c1 lo2 c2 : Nat,
    (∀ w, Calls Tryz.prog 58 #[.int .u64 (x : Int), .int .u64 (y : Int)] w fun e w' => e = .returned (.tuple #[.int .u64 (hi : Int), .int .u64 (lo : Int)]) ∧ w = w') ∧
    (∀ w, (callFunc 57 #[.int .u64 (lo : Int), .int .u64 (f : Int), .int .u64 0]).run Tryz.prog w = .ok (.value (.tuple #[.int .u64 (lo1 : Int), .int .u64 (c1 : Int)])) w) ∧
    (∀ w, (callFunc 57 #[.int .u64 (lo1 : Int), .int .u64 (c : Int), .int .u64 0]).run Tryz.prog w = .ok (.value (.tuple #[.int .u64 (lo2 : Int), .int .u64 (c2 : Int)])) w) ∧
    hi + c1 ≤ 18446744073709551615 ∧ hi + c1 + c2 ≤ 18446744073709551615 ∧ lo2 < B ∧ lo2 + B * (hi + c1 + c2) = f + x * y + c := by
  have h1 := muHi_le x y hx hy
  have h2 := mu_eq x y
  have h3 := muLo_lt x y
  have h4 := ad_eq (muLo x y) f 0
  have h5 := adLo_lt (muLo x y) f 0
  have h6 := adHi_le (muLo x y) f 0 h3 hf (by omega)
  have h7 := ad_eq (adLo (muLo x y) f 0) c 0
  have h8 := adLo_lt (adLo (muLo x y) f 0) c 0
  refine ⟨muHi x y, muLo x y, adLo (muLo x y) f 0, adHi (muLo x y) f 0, adLo (adLo (muLo x y) f 0) c 0, adHi (adLo (muLo x y) f 0) c 0, mul64_calls x y hx hy, ?_, ?_, ?_⟩
  · exact add64_run _ _ 0 h3 hf (by omega)
  · exact add64_run _ _ 0 h5 hc (by omega)
  · generalize muHi x y = hi at *
    generalize muLo x y = lo at *
    generalize adHi lo f 0 = c1 at *
    generalize adLo lo f 0 = lo1 at *
    generalize adHi lo1 c 0 = c2 at *
    generalize adLo lo1 c 0 = lo2 at *
    have h9 : lo2 + B * (hi + c1 + c2) = f + x * y + c := by rw [Nat.mul_add, Nat.mul_add]; omega
    have h10 : x * y ≤ (B - 1) * (B - 1) := Nat.mul_le_mul (by omega) (by omega)
    generalize x * y = xy at *
    rw [B_eq] at *
    refine ⟨by omega, by omega, h8, h9⟩

/-- The inner loop's sum. -/
theorem mul_step (F F' : Nat → Nat) (i k c c' lo x : Nat) (b : List Nat)
    (h : val ((List.range (i + k)).map F') + B ^ (i + k) * c = val ((List.range (i + k)).map F) + B ^ i * (x * val (b.take k)))
    (hs : lo + B * c' = F (i + k) + x * b.getD k 0 + c) :
    val ((List.range (i + (k + 1))).map (fun j => if j = i + k then lo else F' j)) + B ^ (i + (k + 1)) * c' = val ((List.range (i + (k + 1))).map F) + B ^ i * (x * val (b.take (k + 1))) := by
  rw [← Nat.add_assoc, val_map_succ, val_map_succ, val_take_getD, if_pos rfl, val_map_congr (G := F') (fun j hj => if_neg (by omega))]
  have hm : B ^ (i + k) * (lo + B * c') = B ^ (i + k) * (F (i + k) + x * b.getD k 0 + c) := by rw [hs]
  have e1 : B ^ i * (x * (B ^ k * b.getD k 0)) = B ^ (i + k) * (x * b.getD k 0) := by rw [Nat.pow_add]; ac_rfl
  have e2 : B ^ (i + k + 1) * c' = B ^ (i + k) * (B * c') := by rw [Nat.pow_succ, Nat.mul_assoc]
  rw [Nat.mul_add x, Nat.mul_add, e1, e2]
  simp only [Nat.mul_add] at hm
  omega
/-- The outer loop's sum. -/
theorem mul_next (F F' : Nat → Nat) (i c : Nat) (a b : List Nat)
    (h : val ((List.range (i + b.length)).map F) = val (a.take i) * val b)
    (h' : val ((List.range (i + b.length)).map F') + B ^ (i + b.length) * c = val ((List.range (i + b.length)).map F) + B ^ i * (a.getD i 0 * val (b.take b.length))) :
    val ((List.range (i + 1 + b.length)).map (fun j => if j = i + b.length then c else F' j)) = val (a.take (i + 1)) * val b := by
  rw [Nat.add_right_comm, val_map_succ, if_pos rfl, val_map_congr (G := F') (fun j hj => if_neg (by omega)), h', h, val_take_getD, Nat.add_mul, List.take_of_length_le (Nat.le_refl _), Nat.mul_assoc]
end Go.Proofs.YtkmooclhebjlpaaGreatDoor
