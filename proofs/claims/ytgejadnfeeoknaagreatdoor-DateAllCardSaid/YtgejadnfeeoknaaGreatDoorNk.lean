/- Layer 2: LeadingZeros64 by what it is for; what Div64 begins with. -/
import Derived.Test.YtgejadnfeeoknaaGreatDoorGe
import Derived.Lib.ItoaNum
namespace Go.Proofs.YtgejadnfeeoknaaGreatDoor
open Go.RowKit Go.Extern.Stop Go.Stop Go.Extern

theorem lz_calls (y : Nat) (h0 : 0 < y) (hy : y < B) : ∃ s : Nat, s ≤ 63 ∧ B ≤ 2 * (y * 2 ^ s) ∧ y * 2 ^ s < B ∧
    ∀ w, Calls Tryz.prog 172 #[.int .u64 (y : Int)] w fun e w' => e = .returned (.int .i64 (s : Int)) ∧ w = w' := by
  have hb := Lib.bitLenAux_bounds 64 y (by rw [B_pow] at hy; exact hy) (by omega)
  have hle := Lib.bitLen_le y 64 (Nat.le_refl _) (by rw [B_pow] at hy; exact hy)
  obtain ⟨h1, h2, h3⟩ := hb
  have e : Lib.bitLen y = Lib.bitLenAux 64 y := rfl
  rw [← e] at h1 h2 h3
  generalize hn : Lib.bitLen y = n at h1 h2 h3 hle
  refine ⟨64 - n, by omega, ?_, ?_, fun w => ?_⟩
  · have h4 : 2 ^ (n - 1) * 2 ^ (64 - n) ≤ y * 2 ^ (64 - n) := Nat.mul_le_mul_right _ h2
    rw [← Nat.pow_add, show n - 1 + (64 - n) = 63 by omega] at h4
    rw [B_eq]; omega
  · rw [B_split (64 - n) (by omega), show 64 - (64 - n) = n by omega]
    exact Nat.mul_lt_mul_of_pos_right h3 (Nat.two_pow_pos _)
  · refine (Tryz.bits_LeadingZeros64 (y : Int) w (by omega) (by rw [B_eq] at hy; omega)).mono ?_
    rintro e' w' ⟨rfl, rfl⟩
    refine ⟨?_, rfl⟩
    rw [Int.toNat_natCast, hn]
    congr 2
    omega

/-- What Div64 begins with. -/
theorem div64_nums (hi lo y s : Nat) (hs : s ≤ 63) (h1 : B ≤ 2 * (y * 2 ^ s)) (h2 : y * 2 ^ s < B) (hlt : hi < y) (hlo : lo < B) : ∃ v v1 v0 un l u1 u0 : Nat,
    IntKind.u64.wrap ((y : Int) * 2 ^ s) = (v : Int) ∧ (v : Int) / 4294967296 = (v1 : Int) ∧ bits .and .u64 (v : Int) 4294967295 = (v0 : Int) ∧
    bits .or .u64 (IntKind.u64.wrap ((hi : Int) * 2 ^ s)) ((lo : Int) / 2 ^ (64 - s)) = (un : Int) ∧ IntKind.u64.wrap ((lo : Int) * 2 ^ s) = (l : Int) ∧
    (l : Int) / 4294967296 = (u1 : Int) ∧ bits .and .u64 (l : Int) 4294967295 = (u0 : Int) ∧
    v = v1 * W + v0 ∧ v0 < W ∧ v1 < W ∧ 2147483648 ≤ v1 ∧ un < v ∧ u1 < W ∧ u0 < W ∧ v = y * 2 ^ s ∧ (hi * B + lo) * 2 ^ s = un * (W * W) + u1 * W + u0 := by
  have hl : lo * 2 ^ s % B < B := Nat.mod_lt _ B_pos
  have hp := shl_parts lo s (by omega)
  have hr := shr_lt lo s (by omega) hlo
  have hf := hi_fits hi y s hlt
  have hiB : hi * 2 ^ s < B := Nat.lt_of_le_of_lt (Nat.le_trans (Nat.le_add_right _ _) hf) h2
  have hun : hi * 2 ^ s + lo / 2 ^ (64 - s) < y * 2 ^ s := Nat.lt_of_lt_of_le (Nat.add_lt_add_left hr _) hf
  have hloB : lo / 2 ^ (64 - s) < B := Nat.lt_of_le_of_lt (Nat.le_add_left _ (hi * 2 ^ s)) (Nat.lt_trans hun h2)
  refine ⟨y * 2 ^ s, y * 2 ^ s / W, y * 2 ^ s % W, hi * 2 ^ s + lo / 2 ^ (64 - s), lo * 2 ^ s % B, lo * 2 ^ s % B / W, lo * 2 ^ s % B % W, ?_, ?_, ?_, ?_, ?_, ?_, ?_, ?_, ?_, ?_, ?_, ?_, ?_, ?_, ?_, ?_⟩
  · have := wrapN (y * 2 ^ s) h2
    rw [← this]; congr 1
  · rw [W_eq]; omega
  · exact maskN _ h2
  · have e1 : IntKind.u64.wrap ((hi : Int) * 2 ^ s) = ((hi * 2 ^ s : Nat) : Int) := by
      have := wrapN (hi * 2 ^ s) hiB
      rw [← this]; congr 1
    have e2 : (lo : Int) / 2 ^ (64 - s) = ((lo / 2 ^ (64 - s) : Nat) : Int) := by
      rw [Int.natCast_ediv, Int.natCast_pow]; rfl
    rw [e1, e2, ← or_add hi _ s hr]
    exact bits_or_u64_nat _ _ hiB hloB
  · have := wrapM (lo * 2 ^ s)
    rw [← this]; congr 1
  · rw [W_eq]; omega
  · exact maskN _ hl
  · rw [W_eq]; omega
  · exact Nat.mod_lt _ (by decide)
  · rw [W_eq]; rw [B_eq] at h2; omega
  · rw [W_eq]; rw [B_eq] at h1; omega
  · exact hun
  · rw [B_eq] at hl; rw [W_eq, B_eq]; omega
  · exact Nat.mod_lt _ (by decide)
  · rfl
  · have e : B = W * W := by rw [B_eq, W_eq]
    generalize lo * 2 ^ s % B = l at hp ⊢
    rw [Nat.add_mul, hp, ← e, Nat.add_mul]
    have e3 : hi * B * 2 ^ s = hi * 2 ^ s * B := by ac_rfl
    rw [e3, Nat.mul_comm B]
    have := Nat.div_add_mod l W
    rw [Nat.mul_comm W] at this
    omega
/-- A half division's first guess. -/
theorem half_guess (un u1 v1 v0 : Nat) (V1 : Int) (hV : (v1 : Int) = V1) (hv0 : v0 < W) (hv1 : 2147483648 ≤ v1) (hv : v1 < W) (hun : un < v1 * W + v0) (hu : u1 < W) : ∃ q r x : Nat,
    (un : Int) / V1 = (q : Int) ∧ IntKind.u64.wrap (q : Int) = (q : Int) ∧ IntKind.u64.wrap ((q : Int) * V1) = (x : Int) ∧ IntKind.u64.wrap ((un : Int) - (x : Int)) = (r : Int) ∧
    q * v1 + r = un ∧ un * W + u1 < (q + 1) * (v1 * W + v0) ∧ r < W ∧ q ≤ W + 2 := by
  subst hV
  have hst := half_start v1 v0 un u1 (by omega) hu
  have hbd := half_bound v1 v0 un hv1 hv0 hun
  have hdm := Nat.div_add_mod un v1
  have hml := Nat.mod_lt un (show 0 < v1 by omega)
  have hq : (un : Int) / (v1 : Int) = ((un / v1 : Nat) : Int) := (Int.natCast_ediv un v1).symm
  have hunB : un < B := by have := B_eq; rw [W_eq] at *; omega
  generalize un / v1 = q at hst hbd hq hdm
  generalize un % v1 = r at hdm hml
  refine ⟨q, r, v1 * q, hq, wrapN q (by have := B_eq; rw [W_eq] at hbd; omega), ?_, ?_, by rw [Nat.mul_comm]; exact hdm, hst, by omega, hbd⟩
  · rw [← Int.natCast_mul, Nat.mul_comm]; exact wrapN _ (by omega)
  · rw [show (un : Int) - ((v1 * q : Nat) : Int) = (r : Int) by omega]; exact wrapN _ (by omega)
/-- A half division's end. -/
theorem half_out (un u1 v1 v0 q r : Nat) (h : q * v1 + r = un) (h2 : un * W + u1 < (q + 1) * (v1 * W + v0)) (hc : q * v0 ≤ W * r + u1) : ∃ r1, un * W + u1 = q * (v1 * W + v0) + r1 ∧ r1 < v1 * W + v0 := by
  have h1 := half_exit v1 v0 un u1 q r h hc
  refine ⟨un * W + u1 - q * (v1 * W + v0), by omega, ?_⟩
  rw [Nat.add_mul, Nat.one_mul] at h2
  omega
end Go.Proofs.YtgejadnfeeoknaaGreatDoor
