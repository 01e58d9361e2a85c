/- Layer 2: LeadingZeros64 by what it is for; what Div64 begins with; Layer 2: bits.Div64 by contract. -/
import Derived.Test.YtcjjgdoafkdeaaaGreatDoorGe
import Derived.Lib.ItoaNum
import Derived.Deep.QuietTactic
import Derived.BigQuiet
import Derived.Deep.CutBlock
namespace Go.Proofs.YtcjjgdoafkdeaaaGreatDoor
section
open Go.RowKit Go.Extern.Stop Go.Stop Go.Extern

theorem lz_calls (y : Nat) (h0 : 0 < y) (hy : y < B) : ∃ s : Nat, s ≤ 63 ∧ B ≤ 2 * (y * 2 ^ s) ∧ y * 2 ^ s < B ∧
    ∀ w, Calls Tryz.prog 167 #[.int .u64 (y : Int)] w fun e w' => e = .returned (.int .i64 (s : Int)) ∧ w = w' := by
  have hb := Lib.bitLenAux_bounds 64 y (by rw [B_pow] at hy; exact hy) (by omega)
  have hle := Lib.bitLen_le y 64 (Nat.le_refl _) (by rw [B_pow] at hy; exact hy)
  obtain ⟨h1, h2, h3⟩ := hb
  have e : Lib.bitLen y = Lib.bitLenAux 64 y := rfl
  rw [← e] at h1 h2 h3
  generalize hn : Lib.bitLen y = n at h1 h2 h3 hle
  refine ⟨64 - n, by omega, ?_, ?_, fun w => ?_⟩
  · have h4 : 2 ^ (n - 1) * 2 ^ (64 - n) ≤ y * 2 ^ (64 - n) := Nat.mul_le_mul_right _ h2
    rw [← Nat.pow_add, show n - 1 + (64 - n) = 63 by omega] at h4
    rw [B_eq]; omega
  · rw [B_split (64 - n) (by omega), show 64 - (64 - n) = n by omega]
    exact Nat.mul_lt_mul_of_pos_right h3 (Nat.two_pow_pos _)
  · refine (Tryz.bits_LeadingZeros64 (y : Int) w (by omega) (by rw [B_eq] at hy; omega)).mono ?_
    rintro e' w' ⟨rfl, rfl⟩
    refine ⟨?_, rfl⟩
    rw [Int.toNat_natCast, hn]
    congr 2
    omega

/-- What Div64 begins with. -/
theorem div64_nums (hi lo y s : Nat) (hs : s ≤ 63) (h1 : B ≤ 2 * (y * 2 ^ s)) (h2 : y * 2 ^ s < B) (hlt : hi < y) (hlo : lo < B) : ∃ v v1 v0 un l u1 u0 : Nat,
    IntKind.u64.wrap ((y : Int) * 2 ^ s) = (v : Int) ∧ (v : Int) / 4294967296 = (v1 : Int) ∧ bits .and .u64 (v : Int) 4294967295 = (v0 : Int) ∧
    bits .or .u64 (IntKind.u64.wrap ((hi : Int) * 2 ^ s)) ((lo : Int) / 2 ^ (64 - s)) = (un : Int) ∧ IntKind.u64.wrap ((lo : Int) * 2 ^ s) = (l : Int) ∧
    (l : Int) / 4294967296 = (u1 : Int) ∧ bits .and .u64 (l : Int) 4294967295 = (u0 : Int) ∧
    v = v1 * W + v0 ∧ v0 < W ∧ v1 < W ∧ 2147483648 ≤ v1 ∧ un < v ∧ u1 < W ∧ u0 < W ∧ v = y * 2 ^ s ∧ (hi * B + lo) * 2 ^ s = un * (W * W) + u1 * W + u0 := by
  have hl : lo * 2 ^ s % B < B := Nat.mod_lt _ B_pos
  have hp := shl_parts lo s (by omega)
  have hr := shr_lt lo s (by omega) hlo
  have hf := hi_fits hi y s hlt
  have hiB : hi * 2 ^ s < B := Nat.lt_of_le_of_lt (Nat.le_trans (Nat.le_add_right _ _) hf) h2
  have hun : hi * 2 ^ s + lo / 2 ^ (64 - s) < y * 2 ^ s := Nat.lt_of_lt_of_le (Nat.add_lt_add_left hr _) hf
  have hloB : lo / 2 ^ (64 - s) < B := Nat.lt_of_le_of_lt (Nat.le_add_left _ (hi * 2 ^ s)) (Nat.lt_trans hun h2)
  refine ⟨y * 2 ^ s, y * 2 ^ s / W, y * 2 ^ s % W, hi * 2 ^ s + lo / 2 ^ (64 - s), lo * 2 ^ s % B, lo * 2 ^ s % B / W, lo * 2 ^ s % B % W, ?_, ?_, ?_, ?_, ?_, ?_, ?_, ?_, ?_, ?_, ?_, ?_, ?_, ?_, ?_, ?_⟩
  · have := wrapN (y * 2 ^ s) h2
    rw [← this]; congr 1
  · rw [W_eq]; omega
  · exact maskN _ h2
  · have e1 : IntKind.u64.wrap ((hi : Int) * 2 ^ s) = ((hi * 2 ^ s : Nat) : Int) := by
      have := wrapN (hi * 2 ^ s) hiB
      rw [← this]; congr 1
    have e2 : (lo : Int) / 2 ^ (64 - s) = ((lo / 2 ^ (64 - s) : Nat) : Int) := by
      rw [Int.natCast_ediv, Int.natCast_pow]; rfl
    rw [e1, e2, ← or_add hi _ s hr]
    exact bits_or_u64_nat _ _ hiB hloB
  · have := wrapM (lo * 2 ^ s)
    rw [← this]; congr 1
  · rw [W_eq]; omega
  · exact maskN _ hl
  · rw [W_eq]; omega
  · exact Nat.mod_lt _ (by decide)
  · rw [W_eq]; rw [B_eq] at h2; omega
  · rw [W_eq]; rw [B_eq] at h1; omega
  · exact hun
  · rw [B_eq] at hl; rw [W_eq, B_eq]; omega
  · exact Nat.mod_lt _ (by decide)
  · rfl
  · have e : B = W * W := by rw [B_eq, W_eq]
    generalize lo * 2 ^ s % B = l at hp ⊢
    rw [Nat.add_mul, hp, ← e, Nat.add_mul]
    have e3 : hi * B * 2 ^ s = hi * 2 ^ s * B := by ac_rfl
    rw [e3, Nat.mul_comm B]
    have := Nat.div_add_mod l W
    rw [Nat.mul_comm W] at this
    omega
/-- A half division's first guess. -/
theorem half_guess (un u1 v1 v0 : Nat) (V1 : Int) (hV : (v1 : Int) = V1) (hv0 : v0 < W) (hv1 : 2147483648 ≤ v1) (hv : v1 < W) (hun : un < v1 * W + v0) (hu : u1 < W) : ∃ q r x : Nat,
    (un : Int) / V1 = (q : Int) ∧ IntKind.u64.wrap (q : Int) = (q : Int) ∧ IntKind.u64.wrap ((q : Int) * V1) = (x : Int) ∧ IntKind.u64.wrap ((un : Int) - (x : Int)) = (r : Int) ∧
    q * v1 + r = un ∧ un * W + u1 < (q + 1) * (v1 * W + v0) ∧ r < W ∧ q ≤ W + 2 := by
  subst hV
  have hst := half_start v1 v0 un u1 (by omega) hu
  have hbd := half_bound v1 v0 un hv1 hv0 hun
  have hdm := Nat.div_add_mod un v1
  have hml := Nat.mod_lt un (show 0 < v1 by omega)
  have hq : (un : Int) / (v1 : Int) = ((un / v1 : Nat) : Int) := (Int.natCast_ediv un v1).symm
  have hunB : un < B := by have := B_eq; rw [W_eq] at *; omega
  generalize un / v1 = q at hst hbd hq hdm
  generalize un % v1 = r at hdm hml
  refine ⟨q, r, v1 * q, hq, wrapN q (by have := B_eq; rw [W_eq] at hbd; omega), ?_, ?_, by rw [Nat.mul_comm]; exact hdm, hst, by omega, hbd⟩
  · rw [← Int.natCast_mul, Nat.mul_comm]; exact wrapN _ (by omega)
  · rw [show (un : Int) - ((v1 * q : Nat) : Int) = (r : Int) by omega]; exact wrapN _ (by omega)
/-- A half division's end. -/
theorem half_out (un u1 v1 v0 q r : Nat) (h : q * v1 + r = un) (h2 : un * W + u1 < (q + 1) * (v1 * W + v0)) (hc : q * v0 ≤ W * r + u1) : ∃ r1, un * W + u1 = q * (v1 * W + v0) + r1 ∧ r1 < v1 * W + v0 := by
  have h1 := half_exit v1 v0 un u1 q r h hc
  refine ⟨un * W + u1 - q * (v1 * W + v0), by omega, ?_⟩
  rw [Nat.add_mul, Nat.one_mul] at h2
  omega
end
section
open Go.RowKit Go.Extern.Stop Go.Stop Go.Extern
set_option linter.unusedVariables false
set_option linter.unusedSimpArgs false
/-- What is left behind half a division. -/
theorem half_rest (un u1 q v r1 : Nat) (U1 : Int) (hU : (u1 : Int) = U1) (h : un * W + u1 = q * v + r1) (hr : r1 < B) : ∃ x1 x2 x3 : Nat,
    IntKind.u64.wrap ((un : Int) * 4294967296) = (x1 : Int) ∧ IntKind.u64.wrap ((x1 : Int) + U1) = (x2 : Int) ∧ IntKind.u64.wrap ((q : Int) * (v : Int)) = (x3 : Int) ∧ IntKind.u64.wrap ((x2 : Int) - (x3 : Int)) = (r1 : Int) := by
  subst hU
  rw [W_eq] at h
  rw [B_eq] at hr
  refine ⟨un * 4294967296 % B, (un * 4294967296 % B + u1) % B, q * v % B, ?_, ?_, ?_, ?_⟩
  · rw [← wrapM]; congr 1
  · rw [← wrapM]; congr 1
  · rw [← wrapM]; congr 1
  · generalize q * v = m at h ⊢
    rw [B_eq, IntKind.wrap_u64]
    omega
/-- A guess of half a division; its end. -/
def Half (n u v1 v0 q r : Nat) : Prop := q * v1 + r = n ∧ n * W + u < (q + 1) * (v1 * W + v0) ∧ r < W ∧ q ≤ W + 2
def HalfEnd (n u v q : Nat) : Prop := ∃ r1, n * W + u = q * v + r1 ∧ r1 < v
theorem half_nxt {n u v1 v0 q r : Nat} (h : Half n u v1 v0 (q + 1) r) (hn : n < v1 * W + v0) (hu : u < W) (hc : W ≤ q + 1 ∨ W * r + u < (q + 1) * v0) (hr : r + v1 < W) : Half n u v1 v0 q (r + v1) :=
  ⟨by have := h.1; rw [Nat.add_mul] at this; omega, half_more v1 v0 n u (q + 1) r h.1 hn hu hc, hr, by have := h.2.2.2; omega⟩
theorem half_fin {n u v1 v0 q r : Nat} (h : Half n u v1 v0 q r) (hc : q * v0 ≤ W * r + u) : HalfEnd n u (v1 * W + v0) q := half_out n u v1 v0 q r h.1 h.2.1 hc
theorem half_brk {n u v1 v0 q r : Nat} (h : Half n u v1 v0 (q + 1) r) (hn : n < v1 * W + v0) (hv0 : v0 < W) (hu : u < W) (hc : W ≤ q + 1 ∨ W * r + u < (q + 1) * v0) (hr : W ≤ r + v1) : HalfEnd n u (v1 * W + v0) q :=
  half_out n u v1 v0 q (r + v1) (by have := h.1; rw [Nat.add_mul] at this; omega) (half_more v1 v0 n u (q + 1) r h.1 hn hu hc) (half_break v0 q (r + v1) u (by have := h.2.2.2; omega) hr hv0)
def HalfMet (n u v : Nat) (w : World) (a b : Value) (wx : World) : Prop := (∃ q : Nat, a = .int .u64 (q : Int) ∧ HalfEnd n u v q) ∧ w = wx
/-- The whole of it. -/
theorem div64_end (hi lo y s un u1 u0 q1 q0 r1 r0 : Nat) (hlt : hi < y) (hlo : lo < B) (hN : (hi * B + lo) * 2 ^ s = un * (W * W) + u1 * W + u0)
    (h1 : un * W + u1 = q1 * (y * 2 ^ s) + r1) (h0 : r1 * W + u0 = q0 * (y * 2 ^ s) + r0) (hr : r0 < y * 2 ^ s) :
    (hi * B + lo) / y = q1 * W + q0 ∧ (hi * B + lo) % y = r0 / 2 ^ s ∧ q1 * W + q0 < B := by
  have hp := Nat.two_pow_pos s
  obtain ⟨e1, e2⟩ := div_halves (y * 2 ^ s) un u1 u0 (by omega) q1 q0 r1 r0 h1 h0 hr
  rw [← hN, Nat.mul_div_mul_right _ _ hp] at e1
  rw [← hN, Nat.mul_mod_mul_right] at e2
  refine ⟨e1, ?_, ?_⟩
  · rw [← e2, Nat.mul_div_cancel _ hp]
  · rw [← e1, Nat.div_lt_iff_lt_mul (by omega)]
    calc hi * B + lo < (hi + 1) * B := by rw [Nat.add_mul, Nat.one_mul]; omega
      _ ≤ y * B := Nat.mul_le_mul_right _ hlt
      _ = B * y := Nat.mul_comm _ _

set_option maxRecDepth 100000 in
set_option maxHeartbeats 8000000 in
theorem div64_calls (hi lo y : Nat) (hyB : y < B) (hloB : lo < B) (hlt : hi < y) (w : World) :
    Calls Tryz.prog 166 #[.int .u64 (hi : Int), .int .u64 (lo : Int), .int .u64 (y : Int)] w fun e w' => e = .returned (.tuple #[.int .u64 (((hi * B + lo) / y : Nat) : Int), .int .u64 (((hi * B + lo) % y : Nat) : Int)]) ∧ Gr w w' := by
  have hy0 : ((y : Int) == 0) = false := beq_eq_false_iff_ne.2 (by omega)
  have hle : decide (y ≤ hi) = false := decide_eq_false (by omega)
  have hhB : hi < B := by omega
  by_cases h0 : hi = 0
  · subst h0
    rw [Nat.zero_mul, Nat.zero_add, show ((0 : Nat) : Int) = 0 from rfl]
    have hy1 : decide (y = 0) = false := decide_eq_false (by omega)
    have hy2 : ¬ y = 0 := by omega
    have hy3 : ¬ (y : Int) = 0 := by omega
    have e1 : (lo : Int) / (y : Int) = ((lo / y : Nat) : Int) := (Int.natCast_ediv lo y).symm
    have e2 : (lo : Int) % (y : Int) = ((lo % y : Nat) : Int) := (Int.natCast_emod lo y).symm
    have hwq := wrapN (lo / y) (Nat.lt_of_le_of_lt (Nat.div_le_self _ _) hloB)
    generalize lo / y = qq at e1 hwq ⊢
    generalize lo % y = rr at e2 ⊢
    have E2 := Lib.hid e2
    clear e2
    clear hlt hloB hhB hyB
    go_enter Tryz.func166, Tryz.ntmps166
    go_wp2_with fail
    go_quiet (fail)
    go_wp2
    rw [E2.out]
    go_ret2
    exact ⟨rfl, Gr.drew (Gr.rf w) _⟩
  · have hz : ((hi : Int) == 0) = false := beq_eq_false_iff_ne.2 (by omega)
    obtain ⟨s, hs, hs1, hs2, hlz⟩ := lz_calls y (by omega) hyB
    obtain ⟨v, v1, v0, un, l, u1, u0, f1, f2, f3, f4, f5, f6, f7, g1, g2, g3, g4, g5, g6, g7, g8, g9⟩ := div64_nums hi lo y s hs hs1 hs2 hlt hloB
    have HL := Lib.hid hlz
    have hv0 : ((v1 : Int) == 0) = false := beq_eq_false_iff_ne.2 (by omega)
    have hv2 : ¬ v1 = 0 := by omega
    have hv3 : ¬ (v1 : Int) = 0 := by omega
    have i5 : (2147483648 : Int) ≤ (v1 : Int) := by omega
    have i6 : (v1 : Int) ≤ 4294967295 := by rw [W_eq] at g3; omega
    have i7 : (0 : Int) ≤ (u1 : Int) := by omega
    have i8 : (u1 : Int) ≤ 4294967295 := by rw [W_eq] at g6; omega
    have j7 : (0 : Int) ≤ (u0 : Int) := by omega
    have j8 : (u0 : Int) ≤ 4294967295 := by rw [W_eq] at g7; omega
    have i9 : (0 : Int) ≤ (v0 : Int) := by omega
    obtain ⟨V1, hV1⟩ : ∃ V1 : Int, (v1 : Int) = V1 := ⟨_, rfl⟩
    obtain ⟨V0, hV0⟩ : ∃ V0 : Int, (v0 : Int) = V0 := ⟨_, rfl⟩
    obtain ⟨U1, hU1⟩ : ∃ U1 : Int, (u1 : Int) = U1 := ⟨_, rfl⟩
    obtain ⟨U0, hU0⟩ : ∃ U0 : Int, (u0 : Int) = U0 := ⟨_, rfl⟩
    obtain ⟨q, r, x, m1, m2, m3, m4, n1, n2, n3, n4⟩ := half_guess un u1 v1 v0 V1 hV1 g2 g4 g3 (by rw [← g1]; exact g5) g6
    have HT := Lib.hid (show Half un u1 v1 v0 q r from ⟨n1, n2, n3, n4⟩)
    rw [hV1] at f2 hv0 hv3 i5 i6
    rw [hV0] at f3 i9
    rw [hU1] at f6 i7 i8
    rw [hU0] at f7 j7 j8
    have HE := Lib.hid (And.intro hV1 (And.intro hV0 (And.intro hU1 hU0)))
    clear hV1 hV0 hU1 hU0 hv2
    have HTl := Lib.hid (show un < v1 * W + v0 by rw [← g1]; exact g5)
    have HTu := Lib.hid g6
    have HSu := Lib.hid g7
    have HB := Lib.hid (And.intro g2 (And.intro g3 (And.intro g4 (And.intro g1 (And.intro g8 (And.intro g9 (And.intro hs1 (And.intro hs2 (And.intro hlt hloB)))))))))
    clear g1 g2 g3 g4 g5 g6 g7 g8 g9 n1 n2 n3 n4 hs1 hs2 hlt hlz hyB hloB hhB
    go_enter Tryz.func166, Tryz.ntmps166
    go_upto_block 0 with (go_at_call 167; (with_reducible refine (HL.out _).mono ?_); rintro ev w1 ⟨rfl, rfl⟩)
    clear f1 f2 f3 f4 f5 f6 f7 m1 m2 m3 m4
    go_cut [15, 16] from 67 to 85 (fun a b wx => HalfMet un u1 (v1 * W + v0) w a b wx)
    case first =>

      go_wp2_with fail
      go_loopg [15, 16] q (fun n a b wr => ∃ q r : Nat, n = q ∧ a = .int .u64 (q : Int) ∧ b = .int .u64 (r : Int) ∧ Half un u1 v1 v0 q r ∧ wr = w)
      case atStart => exact ⟨q, r, rfl, rfl, rfl, HT.out, rfl⟩
      case round =>
        obtain ⟨q, r, hn, rfl, rfl, hh, rfl⟩ := hrel
        have hr1 : r ≤ 4294967295 := by have := hh.2.2.1; rw [W_eq] at this; omega
        have hq1 : q ≤ 4294967298 := by have := hh.2.2.2; rw [W_eq] at this; omega
        have HK := Lib.hid (And.intro hn hh)
        clear hn hh
        obtain ⟨Q, hQ⟩ : ∃ Q : Int, (q : Int) = Q := ⟨_, rfl⟩
        obtain ⟨R, hR⟩ : ∃ R : Int, (r : Int) = R := ⟨_, rfl⟩
        have i1 : 0 ≤ R := by omega
        have i2 : R ≤ 4294967295 := by omega
        have i3 : 0 ≤ Q := by omega
        have i4 : Q ≤ 4294967298 := by omega
        rw [hQ, hR]
        have HF := Lib.hid (And.intro hQ hR)
        clear hQ hR hr1 hq1
        by_cases c1 : 4294967296 ≤ Q
        · have d1 : decide (4294967296 ≤ Q) = true := decide_eq_true c1
          by_cases c2 : 4294967296 ≤ R + V1
          · have d2 : decide (4294967296 ≤ R + V1) = true := decide_eq_true c2
            go_wp2
            go_meet
            obtain ⟨h1, hh⟩ := HK.out
            obtain ⟨e1, e2, e3, e3'⟩ := HE.out
            obtain ⟨e4, e5⟩ := HF.out
            obtain ⟨q', rfl⟩ : ∃ q', q = q' + 1 := ⟨q - 1, by omega⟩
            exact ⟨⟨q', by congr 1; omega, half_brk hh HTl.out HB.out.1 HTu.out (.inl (by rw [W_eq]; omega)) (by rw [W_eq]; omega)⟩, rfl⟩
          · have d2 : decide (4294967296 ≤ R + V1) = false := decide_eq_false c2
            go_wp2
            go_roundg (q - 1)
            case measure =>
              have h1 := HK.out.1
              have h2 := HF.out
              omega
            case rel =>
              obtain ⟨h1, hh⟩ := HK.out
              obtain ⟨e1, e2, e3, e3'⟩ := HE.out
              obtain ⟨e4, e5⟩ := HF.out
              obtain ⟨q', rfl⟩ : ∃ q', q = q' + 1 := ⟨q - 1, by omega⟩
              exact ⟨q', r + v1, rfl, by congr 1; omega, by congr 1; omega, half_nxt hh HTl.out HTu.out (.inl (by rw [W_eq]; omega)) (by rw [W_eq]; omega), rfl⟩
        · have d1 : decide (4294967296 ≤ Q) = false := decide_eq_false c1
          obtain ⟨M, hM⟩ : ∃ M : Int, ((q * v0 : Nat) : Int) = M := ⟨_, rfl⟩
          have hwm : IntKind.u64.wrap (Q * V0) = M := by
            obtain ⟨e1, e2, e3, e3'⟩ := HE.out
            obtain ⟨e4, e5⟩ := HF.out
            rw [← e4, ← e2, ← Int.natCast_mul, ← hM]
            refine wrapN _ ?_
            have h1 : q * v0 ≤ (W - 1) * (W - 1) := Nat.mul_le_mul (by rw [W_eq]; omega) (by have := HB.out.1; omega)
            rw [W_eq] at h1
            rw [B_eq]; omega
          have j1 : 0 ≤ M := by omega
          have HM := Lib.hid hM
          clear hM
          by_cases c3 : 4294967296 * R + U1 < M
          · have d3 : decide (4294967296 * R + U1 < M) = true := decide_eq_true c3
            have i10 : 1 ≤ Q := by
              have h3 := HM.out
              have h4 : q ≠ 0 := by rintro rfl; rw [Nat.zero_mul] at h3; omega
              have := HF.out
              omega
            by_cases c2 : 4294967296 ≤ R + V1
            · have d2 : decide (4294967296 ≤ R + V1) = true := decide_eq_true c2
              go_wp2
              go_meet
              obtain ⟨h1, hh⟩ := HK.out
              obtain ⟨e1, e2, e3, e3'⟩ := HE.out
              obtain ⟨e4, e5⟩ := HF.out
              have e6 := HM.out
              have hc : W ≤ q ∨ W * r + u1 < q * v0 := .inr (by rw [W_eq]; omega)
              obtain ⟨q', rfl⟩ : ∃ q', q = q' + 1 := ⟨q - 1, by omega⟩
              exact ⟨⟨q', by congr 1; omega, half_brk hh HTl.out HB.out.1 HTu.out hc (by rw [W_eq]; omega)⟩, rfl⟩
            · have d2 : decide (4294967296 ≤ R + V1) = false := decide_eq_false c2
              go_wp2
              go_roundg (q - 1)
              case measure =>
                have h1 := HK.out.1
                have h2 := HF.out
                omega
              case rel =>
                obtain ⟨h1, hh⟩ := HK.out
                obtain ⟨e1, e2, e3, e3'⟩ := HE.out
                obtain ⟨e4, e5⟩ := HF.out
                have e6 := HM.out
                have hc : W ≤ q ∨ W * r + u1 < q * v0 := .inr (by rw [W_eq]; omega)
                obtain ⟨q', rfl⟩ : ∃ q', q = q' + 1 := ⟨q - 1, by omega⟩
                exact ⟨q', r + v1, rfl, by congr 1; omega, by congr 1; omega, half_nxt hh HTl.out HTu.out hc (by rw [W_eq]; omega), rfl⟩
          · have d3 : decide (4294967296 * R + U1 < M) = false := decide_eq_false c3
            go_wp2
            go_meet
            obtain ⟨h1, hh⟩ := HK.out
            obtain ⟨e1, e2, e3, e3'⟩ := HE.out
            obtain ⟨e4, e5⟩ := HF.out
            have e6 := HM.out
            exact ⟨⟨q, by congr 1; omega, half_fin hh (by rw [W_eq]; omega)⟩, rfl⟩
    case rest =>
      obtain ⟨⟨q1, rfl, r1, t1, t2⟩, rfl⟩ := hcut
      rw [← HB.out.2.2.2.1] at t1 t2
      have hvB : v < B := by rw [HB.out.2.2.2.2.1]; exact HB.out.2.2.2.2.2.2.2.1
      obtain ⟨x1, x2, x3, k1, k2, k3, k4⟩ := half_rest un u1 q1 v r1 U1 HE.out.2.2.1 t1 (Nat.lt_trans t2 hvB)
      have hr1l : r1 < v1 * W + v0 := by rw [← HB.out.2.2.2.1]; exact t2
      obtain ⟨q, r, x, m1, m2, m3, m4, n1, n2, n3, n4⟩ := half_guess r1 u0 v1 v0 V1 HE.out.1 HB.out.1 HB.out.2.2.1 HB.out.2.1 hr1l HSu.out
      have HS := Lib.hid (show Half r1 u0 v1 v0 q r from ⟨n1, n2, n3, n4⟩)
      have HSl := Lib.hid hr1l
      have HT1 := Lib.hid t1
      clear t1 t2 hvB hr1l n1 n2 n3 n4
      go_upto_block 2 with fail
      clear k1 k2 k3 k4 m1 m2 m3 m4
      go_cut [18, 16] from 102 to 120 (fun a b wx => HalfMet r1 u0 (v1 * W + v0) w a b wx)
      case first =>
        go_wp2_with fail
        go_loopg [18, 16] q (fun n a b wr => ∃ q r : Nat, n = q ∧ a = .int .u64 (q : Int) ∧ b = .int .u64 (r : Int) ∧ Half r1 u0 v1 v0 q r ∧ wr = w)
        case atStart => exact ⟨q, r, rfl, rfl, rfl, HS.out, rfl⟩
        case round =>
          obtain ⟨q, r, hn, rfl, rfl, hh, rfl⟩ := hrel
          have hr1 : r ≤ 4294967295 := by have := hh.2.2.1; rw [W_eq] at this; omega
          have hq1 : q ≤ 4294967298 := by have := hh.2.2.2; rw [W_eq] at this; omega
          have HK := Lib.hid (And.intro hn hh)
          clear hn hh
          obtain ⟨Q, hQ⟩ : ∃ Q : Int, (q : Int) = Q := ⟨_, rfl⟩
          obtain ⟨R, hR⟩ : ∃ R : Int, (r : Int) = R := ⟨_, rfl⟩
          have i1 : 0 ≤ R := by omega
          have i2 : R ≤ 4294967295 := by omega
          have i3 : 0 ≤ Q := by omega
          have i4 : Q ≤ 4294967298 := by omega
          rw [hQ, hR]
          have HF := Lib.hid (And.intro hQ hR)
          clear hQ hR hr1 hq1
          by_cases c1 : 4294967296 ≤ Q
          · have d1 : decide (4294967296 ≤ Q) = true := decide_eq_true c1
            by_cases c2 : 4294967296 ≤ R + V1
            · have d2 : decide (4294967296 ≤ R + V1) = true := decide_eq_true c2
              go_wp2
              go_meet
              obtain ⟨h1, hh⟩ := HK.out
              obtain ⟨e1, e2, e3, e3'⟩ := HE.out
              obtain ⟨e4, e5⟩ := HF.out
              obtain ⟨q', rfl⟩ : ∃ q', q = q' + 1 := ⟨q - 1, by omega⟩
              exact ⟨⟨q', by congr 1; omega, half_brk hh HSl.out HB.out.1 HSu.out (.inl (by rw [W_eq]; omega)) (by rw [W_eq]; omega)⟩, rfl⟩
            · have d2 : decide (4294967296 ≤ R + V1) = false := decide_eq_false c2
              go_wp2
              go_roundg (q - 1)
              case measure =>
                have h1 := HK.out.1
                have h2 := HF.out
                omega
              case rel =>
                obtain ⟨h1, hh⟩ := HK.out
                obtain ⟨e1, e2, e3, e3'⟩ := HE.out
                obtain ⟨e4, e5⟩ := HF.out
                obtain ⟨q', rfl⟩ : ∃ q', q = q' + 1 := ⟨q - 1, by omega⟩
                exact ⟨q', r + v1, rfl, by congr 1; omega, by congr 1; omega, half_nxt hh HSl.out HSu.out (.inl (by rw [W_eq]; omega)) (by rw [W_eq]; omega), rfl⟩
          · have d1 : decide (4294967296 ≤ Q) = false := decide_eq_false c1
            obtain ⟨M, hM⟩ : ∃ M : Int, ((q * v0 : Nat) : Int) = M := ⟨_, rfl⟩
            have hwm : IntKind.u64.wrap (Q * V0) = M := by
              obtain ⟨e1, e2, e3, e3'⟩ := HE.out
              obtain ⟨e4, e5⟩ := HF.out
              rw [← e4, ← e2, ← Int.natCast_mul, ← hM]
              refine wrapN _ ?_
              have h1 : q * v0 ≤ (W - 1) * (W - 1) := Nat.mul_le_mul (by rw [W_eq]; omega) (by have := HB.out.1; omega)
              rw [W_eq] at h1
              rw [B_eq]; omega
            have j1 : 0 ≤ M := by omega
            have HM := Lib.hid hM
            clear hM
            by_cases c3 : 4294967296 * R + U0 < M
            · have d3 : decide (4294967296 * R + U0 < M) = true := decide_eq_true c3
              have i10 : 1 ≤ Q := by
                have h3 := HM.out
                have h4 : q ≠ 0 := by rintro rfl; rw [Nat.zero_mul] at h3; omega
                have := HF.out
                omega
              by_cases c2 : 4294967296 ≤ R + V1
              · have d2 : decide (4294967296 ≤ R + V1) = true := decide_eq_true c2
                go_wp2
                go_meet
                obtain ⟨h1, hh⟩ := HK.out
                obtain ⟨e1, e2, e3, e3'⟩ := HE.out
                obtain ⟨e4, e5⟩ := HF.out
                have e6 := HM.out
                have hc : W ≤ q ∨ W * r + u0 < q * v0 := .inr (by rw [W_eq]; omega)
                obtain ⟨q', rfl⟩ : ∃ q', q = q' + 1 := ⟨q - 1, by omega⟩
                exact ⟨⟨q', by congr 1; omega, half_brk hh HSl.out HB.out.1 HSu.out hc (by rw [W_eq]; omega)⟩, rfl⟩
              · have d2 : decide (4294967296 ≤ R + V1) = false := decide_eq_false c2
                go_wp2
                go_roundg (q - 1)
                case measure =>
                  have h1 := HK.out.1
                  have h2 := HF.out
                  omega
                case rel =>
                  obtain ⟨h1, hh⟩ := HK.out
                  obtain ⟨e1, e2, e3, e3'⟩ := HE.out
                  obtain ⟨e4, e5⟩ := HF.out
                  have e6 := HM.out
                  have hc : W ≤ q ∨ W * r + u0 < q * v0 := .inr (by rw [W_eq]; omega)
                  obtain ⟨q', rfl⟩ : ∃ q', q = q' + 1 := ⟨q - 1, by omega⟩
                  exact ⟨q', r + v1, rfl, by congr 1; omega, by congr 1; omega, half_nxt hh HSl.out HSu.out hc (by rw [W_eq]; omega), rfl⟩
            · have d3 : decide (4294967296 * R + U0 < M) = false := decide_eq_false c3
              go_wp2
              go_meet
              obtain ⟨h1, hh⟩ := HK.out
              obtain ⟨e1, e2, e3, e3'⟩ := HE.out
              obtain ⟨e4, e5⟩ := HF.out
              have e6 := HM.out
              exact ⟨⟨q, by congr 1; omega, half_fin hh (by rw [W_eq]; omega)⟩, rfl⟩
      case rest =>
        obtain ⟨⟨q0, rfl, r0, t1, t2⟩, rfl⟩ := hcut
        rw [← HB.out.2.2.2.1] at t1 t2
        have hvB : v < B := by rw [HB.out.2.2.2.2.1]; exact HB.out.2.2.2.2.2.2.2.1
        obtain ⟨x1, x2, x3, k1, k2, k3, k4⟩ := half_rest r1 u0 q0 v r0 U0 HE.out.2.2.2 t1 (Nat.lt_trans t2 hvB)
        obtain ⟨E1, E2, E3⟩ := div64_end hi lo y s un u1 u0 q1 q0 r1 r0 HB.out.2.2.2.2.2.2.2.2.1 HB.out.2.2.2.2.2.2.2.2.2 HB.out.2.2.2.2.2.1
          (by rw [← HB.out.2.2.2.2.1]; exact HT1.out) (by rw [← HB.out.2.2.2.2.1]; exact t1) (by rw [← HB.out.2.2.2.2.1]; exact t2)
        have l1 : IntKind.u64.wrap ((q1 : Int) * 4294967296) = ((q1 * W : Nat) : Int) := by
          have := wrapN (q1 * W) (by omega)
          rw [W_eq, Int.natCast_mul] at this
          rw [W_eq, Int.natCast_mul]; exact this
        have l2 : IntKind.u64.wrap (((q1 * W : Nat) : Int) + (q0 : Int)) = ((q1 * W + q0 : Nat) : Int) := by
          rw [← Int.natCast_add]; exact wrapN _ E3
        have l3 : (r0 : Int) / 2 ^ s = ((r0 / 2 ^ s : Nat) : Int) := by rw [Int.natCast_ediv, Int.natCast_pow]; rfl
        clear t1 t2 hvB E3
        generalize r0 / 2 ^ s = z at l3 E2
        generalize q1 * W + q0 = z2 at l2 E1
        generalize q1 * W = z1 at l1 l2
        have HD := Lib.hid (And.intro E1 E2)
        clear E1 E2
        go_wp2
        go_ret2
        rw [HD.out.1, HD.out.2]
        exact ⟨rfl, Gr.rf w⟩
end
end Go.Proofs.YtcjjgdoafkdeaaaGreatDoor
