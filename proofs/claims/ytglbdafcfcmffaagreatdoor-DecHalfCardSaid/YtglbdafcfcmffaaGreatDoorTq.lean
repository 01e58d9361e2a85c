/- Layer 2: bits.Div64 turns nothing in memory: it may draw. -/
import Derived.Test.YtglbdafcfcmffaaGreatDoorGg
namespace Go.Proofs.YtglbdafcfcmffaaGreatDoor
open Go.RowKit Go.Extern.Stop Go.Stop Go.Extern
set_option linter.unusedVariables false
set_option linter.unusedSimpArgs false

set_option maxRecDepth 100000 in
set_option maxHeartbeats 8000000 in
theorem div64_draws (hi lo y : Nat) (hyB : y < B) (hloB : lo < B) (hlt : hi < y) (w : World) :
    Calls Tryz.prog 165 #[.int .u64 (hi : Int), .int .u64 (lo : Int), .int .u64 (y : Int)] w fun e w' => e = .returned (.tuple #[.int .u64 (((hi * B + lo) / y : Nat) : Int), .int .u64 (((hi * B + lo) % y : Nat) : Int)]) ∧ ∃ k, w' = w.drewN k := by
  have hy0 : ((y : Int) == 0) = false := beq_eq_false_iff_ne.2 (by omega)
  have hle : decide (y ≤ hi) = false := decide_eq_false (by omega)
  have hhB : hi < B := by omega
  by_cases h0 : hi = 0
  · subst h0
    rw [Nat.zero_mul, Nat.zero_add, show ((0 : Nat) : Int) = 0 from rfl]
    have hy1 : decide (y = 0) = false := decide_eq_false (by omega)
    have hy2 : ¬ y = 0 := by omega
    have hy3 : ¬ (y : Int) = 0 := by omega
    have e1 : (lo : Int) / (y : Int) = ((lo / y : Nat) : Int) := (Int.natCast_ediv lo y).symm
    have e2 : (lo : Int) % (y : Int) = ((lo % y : Nat) : Int) := (Int.natCast_emod lo y).symm
    have hwq := wrapN (lo / y) (Nat.lt_of_le_of_lt (Nat.div_le_self _ _) hloB)
    generalize lo / y = qq at e1 hwq ⊢
    generalize lo % y = rr at e2 ⊢
    have E2 := Lib.hid e2
    clear e2
    clear hlt hloB hhB hyB
    go_enter Tryz.func165, Tryz.ntmps165
    go_wp2_with fail
    go_quiet (fail)
    go_wp2
    rw [E2.out]
    go_ret2
    exact ⟨rfl, _, rfl⟩
  · have hz : ((hi : Int) == 0) = false := beq_eq_false_iff_ne.2 (by omega)
    obtain ⟨s, hs, hs1, hs2, hlz⟩ := lz_calls y (by omega) hyB
    obtain ⟨v, v1, v0, un, l, u1, u0, f1, f2, f3, f4, f5, f6, f7, g1, g2, g3, g4, g5, g6, g7, g8, g9⟩ := div64_nums hi lo y s hs hs1 hs2 hlt hloB
    have HL := Lib.hid hlz
    have hv0 : ((v1 : Int) == 0) = false := beq_eq_false_iff_ne.2 (by omega)
    have hv2 : ¬ v1 = 0 := by omega
    have hv3 : ¬ (v1 : Int) = 0 := by omega
    have i5 : (2147483648 : Int) ≤ (v1 : Int) := by omega
    have i6 : (v1 : Int) ≤ 4294967295 := by rw [W_eq] at g3; omega
    have i7 : (0 : Int) ≤ (u1 : Int) := by omega
    have i8 : (u1 : Int) ≤ 4294967295 := by rw [W_eq] at g6; omega
    have j7 : (0 : Int) ≤ (u0 : Int) := by omega
    have j8 : (u0 : Int) ≤ 4294967295 := by rw [W_eq] at g7; omega
    have i9 : (0 : Int) ≤ (v0 : Int) := by omega
    obtain ⟨V1, hV1⟩ : ∃ V1 : Int, (v1 : Int) = V1 := ⟨_, rfl⟩
    obtain ⟨V0, hV0⟩ : ∃ V0 : Int, (v0 : Int) = V0 := ⟨_, rfl⟩
    obtain ⟨U1, hU1⟩ : ∃ U1 : Int, (u1 : Int) = U1 := ⟨_, rfl⟩
    obtain ⟨U0, hU0⟩ : ∃ U0 : Int, (u0 : Int) = U0 := ⟨_, rfl⟩
    obtain ⟨q, r, x, m1, m2, m3, m4, n1, n2, n3, n4⟩ := half_guess un u1 v1 v0 V1 hV1 g2 g4 g3 (by rw [← g1]; exact g5) g6
    have HT := Lib.hid (show Half un u1 v1 v0 q r from ⟨n1, n2, n3, n4⟩)
    rw [hV1] at f2 hv0 hv3 i5 i6
    rw [hV0] at f3 i9
    rw [hU1] at f6 i7 i8
    rw [hU0] at f7 j7 j8
    have HE := Lib.hid (And.intro hV1 (And.intro hV0 (And.intro hU1 hU0)))
    clear hV1 hV0 hU1 hU0 hv2
    have HTl := Lib.hid (show un < v1 * W + v0 by rw [← g1]; exact g5)
    have HTu := Lib.hid g6
    have HSu := Lib.hid g7
    have HB := Lib.hid (And.intro g2 (And.intro g3 (And.intro g4 (And.intro g1 (And.intro g8 (And.intro g9 (And.intro hs1 (And.intro hs2 (And.intro hlt hloB)))))))))
    clear g1 g2 g3 g4 g5 g6 g7 g8 g9 n1 n2 n3 n4 hs1 hs2 hlt hlz hyB hloB hhB
    go_enter Tryz.func165, Tryz.ntmps165
    go_upto_block 0 with (go_at_call 182; (with_reducible refine (HL.out _).mono ?_); rintro ev w1 ⟨rfl, rfl⟩)
    clear f1 f2 f3 f4 f5 f6 f7 m1 m2 m3 m4
    go_cut [15, 16] from 67 to 85 (fun a b wx => HalfMet un u1 (v1 * W + v0) w a b wx)
    case first =>

      go_wp2_with fail
      go_loopg [15, 16] q (fun n a b wr => ∃ q r : Nat, n = q ∧ a = .int .u64 (q : Int) ∧ b = .int .u64 (r : Int) ∧ Half un u1 v1 v0 q r ∧ wr = w)
      case atStart => exact ⟨q, r, rfl, rfl, rfl, HT.out, rfl⟩
      case round =>
        obtain ⟨q, r, hn, rfl, rfl, hh, rfl⟩ := hrel
        have hr1 : r ≤ 4294967295 := by have := hh.2.2.1; rw [W_eq] at this; omega
        have hq1 : q ≤ 4294967298 := by have := hh.2.2.2; rw [W_eq] at this; omega
        have HK := Lib.hid (And.intro hn hh)
        clear hn hh
        obtain ⟨Q, hQ⟩ : ∃ Q : Int, (q : Int) = Q := ⟨_, rfl⟩
        obtain ⟨R, hR⟩ : ∃ R : Int, (r : Int) = R := ⟨_, rfl⟩
        have i1 : 0 ≤ R := by omega
        have i2 : R ≤ 4294967295 := by omega
        have i3 : 0 ≤ Q := by omega
        have i4 : Q ≤ 4294967298 := by omega
        rw [hQ, hR]
        have HF := Lib.hid (And.intro hQ hR)
        clear hQ hR hr1 hq1
        by_cases c1 : 4294967296 ≤ Q
        · have d1 : decide (4294967296 ≤ Q) = true := decide_eq_true c1
          by_cases c2 : 4294967296 ≤ R + V1
          · have d2 : decide (4294967296 ≤ R + V1) = true := decide_eq_true c2
            go_wp2
            go_meet
            obtain ⟨h1, hh⟩ := HK.out
            obtain ⟨e1, e2, e3, e3'⟩ := HE.out
            obtain ⟨e4, e5⟩ := HF.out
            obtain ⟨q', rfl⟩ : ∃ q', q = q' + 1 := ⟨q - 1, by omega⟩
            exact ⟨⟨q', by congr 1; omega, half_brk hh HTl.out HB.out.1 HTu.out (.inl (by rw [W_eq]; omega)) (by rw [W_eq]; omega)⟩, rfl⟩
          · have d2 : decide (4294967296 ≤ R + V1) = false := decide_eq_false c2
            go_wp2
            go_roundg (q - 1)
            case measure =>
              have h1 := HK.out.1
              have h2 := HF.out
              omega
            case rel =>
              obtain ⟨h1, hh⟩ := HK.out
              obtain ⟨e1, e2, e3, e3'⟩ := HE.out
              obtain ⟨e4, e5⟩ := HF.out
              obtain ⟨q', rfl⟩ : ∃ q', q = q' + 1 := ⟨q - 1, by omega⟩
              exact ⟨q', r + v1, rfl, by congr 1; omega, by congr 1; omega, half_nxt hh HTl.out HTu.out (.inl (by rw [W_eq]; omega)) (by rw [W_eq]; omega), rfl⟩
        · have d1 : decide (4294967296 ≤ Q) = false := decide_eq_false c1
          obtain ⟨M, hM⟩ : ∃ M : Int, ((q * v0 : Nat) : Int) = M := ⟨_, rfl⟩
          have hwm : IntKind.u64.wrap (Q * V0) = M := by
            obtain ⟨e1, e2, e3, e3'⟩ := HE.out
            obtain ⟨e4, e5⟩ := HF.out
            rw [← e4, ← e2, ← Int.natCast_mul, ← hM]
            refine wrapN _ ?_
            have h1 : q * v0 ≤ (W - 1) * (W - 1) := Nat.mul_le_mul (by rw [W_eq]; omega) (by have := HB.out.1; omega)
            rw [W_eq] at h1
            rw [B_eq]; omega
          have j1 : 0 ≤ M := by omega
          have HM := Lib.hid hM
          clear hM
          by_cases c3 : 4294967296 * R + U1 < M
          · have d3 : decide (4294967296 * R + U1 < M) = true := decide_eq_true c3
            have i10 : 1 ≤ Q := by
              have h3 := HM.out
              have h4 : q ≠ 0 := by rintro rfl; rw [Nat.zero_mul] at h3; omega
              have := HF.out
              omega
            by_cases c2 : 4294967296 ≤ R + V1
            · have d2 : decide (4294967296 ≤ R + V1) = true := decide_eq_true c2
              go_wp2
              go_meet
              obtain ⟨h1, hh⟩ := HK.out
              obtain ⟨e1, e2, e3, e3'⟩ := HE.out
              obtain ⟨e4, e5⟩ := HF.out
              have e6 := HM.out
              have hc : W ≤ q ∨ W * r + u1 < q * v0 := .inr (by rw [W_eq]; omega)
              obtain ⟨q', rfl⟩ : ∃ q', q = q' + 1 := ⟨q - 1, by omega⟩
              exact ⟨⟨q', by congr 1; omega, half_brk hh HTl.out HB.out.1 HTu.out hc (by rw [W_eq]; omega)⟩, rfl⟩
            · have d2 : decide (4294967296 ≤ R + V1) = false := decide_eq_false c2
              go_wp2
              go_roundg (q - 1)
              case measure =>
                have h1 := HK.out.1
                have h2 := HF.out
                omega
              case rel =>
                obtain ⟨h1, hh⟩ := HK.out
                obtain ⟨e1, e2, e3, e3'⟩ := HE.out
                obtain ⟨e4, e5⟩ := HF.out
                have e6 := HM.out
                have hc : W ≤ q ∨ W * r + u1 < q * v0 := .inr (by rw [W_eq]; omega)
                obtain ⟨q', rfl⟩ : ∃ q', q = q' + 1 := ⟨q - 1, by omega⟩
                exact ⟨q', r + v1, rfl, by congr 1; omega, by congr 1; omega, half_nxt hh HTl.out HTu.out hc (by rw [W_eq]; omega), rfl⟩
          · have d3 : decide (4294967296 * R + U1 < M) = false := decide_eq_false c3
            go_wp2
            go_meet
            obtain ⟨h1, hh⟩ := HK.out
            obtain ⟨e1, e2, e3, e3'⟩ := HE.out
            obtain ⟨e4, e5⟩ := HF.out
            have e6 := HM.out
            exact ⟨⟨q, by congr 1; omega, half_fin hh (by rw [W_eq]; omega)⟩, rfl⟩
    case rest =>
      obtain ⟨⟨q1, rfl, r1, t1, t2⟩, rfl⟩ := hcut
      rw [← HB.out.2.2.2.1] at t1 t2
      have hvB : v < B := by rw [HB.out.2.2.2.2.1]; exact HB.out.2.2.2.2.2.2.2.1
      obtain ⟨x1, x2, x3, k1, k2, k3, k4⟩ := half_rest un u1 q1 v r1 U1 HE.out.2.2.1 t1 (Nat.lt_trans t2 hvB)
      have hr1l : r1 < v1 * W + v0 := by rw [← HB.out.2.2.2.1]; exact t2
      obtain ⟨q, r, x, m1, m2, m3, m4, n1, n2, n3, n4⟩ := half_guess r1 u0 v1 v0 V1 HE.out.1 HB.out.1 HB.out.2.2.1 HB.out.2.1 hr1l HSu.out
      have HS := Lib.hid (show Half r1 u0 v1 v0 q r from ⟨n1, n2, n3, n4⟩)
      have HSl := Lib.hid hr1l
      have HT1 := Lib.hid t1
      clear t1 t2 hvB hr1l n1 n2 n3 n4
      go_upto_block 2 with fail
      clear k1 k2 k3 k4 m1 m2 m3 m4
      go_cut [18, 16] from 102 to 120 (fun a b wx => HalfMet r1 u0 (v1 * W + v0) w a b wx)
      case first =>
        go_wp2_with fail
        go_loopg [18, 16] q (fun n a b wr => ∃ q r : Nat, n = q ∧ a = .int .u64 (q : Int) ∧ b = .int .u64 (r : Int) ∧ Half r1 u0 v1 v0 q r ∧ wr = w)
        case atStart => exact ⟨q, r, rfl, rfl, rfl, HS.out, rfl⟩
        case round =>
          obtain ⟨q, r, hn, rfl, rfl, hh, rfl⟩ := hrel
          have hr1 : r ≤ 4294967295 := by have := hh.2.2.1; rw [W_eq] at this; omega
          have hq1 : q ≤ 4294967298 := by have := hh.2.2.2; rw [W_eq] at this; omega
          have HK := Lib.hid (And.intro hn hh)
          clear hn hh
          obtain ⟨Q, hQ⟩ : ∃ Q : Int, (q : Int) = Q := ⟨_, rfl⟩
          obtain ⟨R, hR⟩ : ∃ R : Int, (r : Int) = R := ⟨_, rfl⟩
          have i1 : 0 ≤ R := by omega
          have i2 : R ≤ 4294967295 := by omega
          have i3 : 0 ≤ Q := by omega
          have i4 : Q ≤ 4294967298 := by omega
          rw [hQ, hR]
          have HF := Lib.hid (And.intro hQ hR)
          clear hQ hR hr1 hq1
          by_cases c1 : 4294967296 ≤ Q
          · have d1 : decide (4294967296 ≤ Q) = true := decide_eq_true c1
            by_cases c2 : 4294967296 ≤ R + V1
            · have d2 : decide (4294967296 ≤ R + V1) = true := decide_eq_true c2
              go_wp2
              go_meet
              obtain ⟨h1, hh⟩ := HK.out
              obtain ⟨e1, e2, e3, e3'⟩ := HE.out
              obtain ⟨e4, e5⟩ := HF.out
              obtain ⟨q', rfl⟩ : ∃ q', q = q' + 1 := ⟨q - 1, by omega⟩
              exact ⟨⟨q', by congr 1; omega, half_brk hh HSl.out HB.out.1 HSu.out (.inl (by rw [W_eq]; omega)) (by rw [W_eq]; omega)⟩, rfl⟩
            · have d2 : decide (4294967296 ≤ R + V1) = false := decide_eq_false c2
              go_wp2
              go_roundg (q - 1)
              case measure =>
                have h1 := HK.out.1
                have h2 := HF.out
                omega
              case rel =>
                obtain ⟨h1, hh⟩ := HK.out
                obtain ⟨e1, e2, e3, e3'⟩ := HE.out
                obtain ⟨e4, e5⟩ := HF.out
                obtain ⟨q', rfl⟩ : ∃ q', q = q' + 1 := ⟨q - 1, by omega⟩
                exact ⟨q', r + v1, rfl, by congr 1; omega, by congr 1; omega, half_nxt hh HSl.out HSu.out (.inl (by rw [W_eq]; omega)) (by rw [W_eq]; omega), rfl⟩
          · have d1 : decide (4294967296 ≤ Q) = false := decide_eq_false c1
            obtain ⟨M, hM⟩ : ∃ M : Int, ((q * v0 : Nat) : Int) = M := ⟨_, rfl⟩
            have hwm : IntKind.u64.wrap (Q * V0) = M := by
              obtain ⟨e1, e2, e3, e3'⟩ := HE.out
              obtain ⟨e4, e5⟩ := HF.out
              rw [← e4, ← e2, ← Int.natCast_mul, ← hM]
              refine wrapN _ ?_
              have h1 : q * v0 ≤ (W - 1) * (W - 1) := Nat.mul_le_mul (by rw [W_eq]; omega) (by have := HB.out.1; omega)
              rw [W_eq] at h1
              rw [B_eq]; omega
            have j1 : 0 ≤ M := by omega
            have HM := Lib.hid hM
            clear hM
            by_cases c3 : 4294967296 * R + U0 < M
            · have d3 : decide (4294967296 * R + U0 < M) = true := decide_eq_true c3
              have i10 : 1 ≤ Q := by
                have h3 := HM.out
                have h4 : q ≠ 0 := by rintro rfl; rw [Nat.zero_mul] at h3; omega
                have := HF.out
                omega
              by_cases c2 : 4294967296 ≤ R + V1
              · have d2 : decide (4294967296 ≤ R + V1) = true := decide_eq_true c2
                go_wp2
                go_meet
                obtain ⟨h1, hh⟩ := HK.out
                obtain ⟨e1, e2, e3, e3'⟩ := HE.out
                obtain ⟨e4, e5⟩ := HF.out
                have e6 := HM.out
                have hc : W ≤ q ∨ W * r + u0 < q * v0 := .inr (by rw [W_eq]; omega)
                obtain ⟨q', rfl⟩ : ∃ q', q = q' + 1 := ⟨q - 1, by omega⟩
                exact ⟨⟨q', by congr 1; omega, half_brk hh HSl.out HB.out.1 HSu.out hc (by rw [W_eq]; omega)⟩, rfl⟩
              · have d2 : decide (4294967296 ≤ R + V1) = false := decide_eq_false c2
                go_wp2
                go_roundg (q - 1)
                case measure =>
                  have h1 := HK.out.1
                  have h2 := HF.out
                  omega
                case rel =>
                  obtain ⟨h1, hh⟩ := HK.out
                  obtain ⟨e1, e2, e3, e3'⟩ := HE.out
                  obtain ⟨e4, e5⟩ := HF.out
                  have e6 := HM.out
                  have hc : W ≤ q ∨ W * r + u0 < q * v0 := .inr (by rw [W_eq]; omega)
                  obtain ⟨q', rfl⟩ : ∃ q', q = q' + 1 := ⟨q - 1, by omega⟩
                  exact ⟨q', r + v1, rfl, by congr 1; omega, by congr 1; omega, half_nxt hh HSl.out HSu.out hc (by rw [W_eq]; omega), rfl⟩
            · have d3 : decide (4294967296 * R + U0 < M) = false := decide_eq_false c3
              go_wp2
              go_meet
              obtain ⟨h1, hh⟩ := HK.out
              obtain ⟨e1, e2, e3, e3'⟩ := HE.out
              obtain ⟨e4, e5⟩ := HF.out
              have e6 := HM.out
              exact ⟨⟨q, by congr 1; omega, half_fin hh (by rw [W_eq]; omega)⟩, rfl⟩
      case rest =>
        obtain ⟨⟨q0, rfl, r0, t1, t2⟩, rfl⟩ := hcut
        rw [← HB.out.2.2.2.1] at t1 t2
        have hvB : v < B := by rw [HB.out.2.2.2.2.1]; exact HB.out.2.2.2.2.2.2.2.1
        obtain ⟨x1, x2, x3, k1, k2, k3, k4⟩ := half_rest r1 u0 q0 v r0 U0 HE.out.2.2.2 t1 (Nat.lt_trans t2 hvB)
        obtain ⟨E1, E2, E3⟩ := div64_end hi lo y s un u1 u0 q1 q0 r1 r0 HB.out.2.2.2.2.2.2.2.2.1 HB.out.2.2.2.2.2.2.2.2.2 HB.out.2.2.2.2.2.1
          (by rw [← HB.out.2.2.2.2.1]; exact HT1.out) (by rw [← HB.out.2.2.2.2.1]; exact t1) (by rw [← HB.out.2.2.2.2.1]; exact t2)
        have l1 : IntKind.u64.wrap ((q1 : Int) * 4294967296) = ((q1 * W : Nat) : Int) := by
          have := wrapN (q1 * W) (by omega)
          rw [W_eq, Int.natCast_mul] at this
          rw [W_eq, Int.natCast_mul]; exact this
        have l2 : IntKind.u64.wrap (((q1 * W : Nat) : Int) + (q0 : Int)) = ((q1 * W + q0 : Nat) : Int) := by
          rw [← Int.natCast_add]; exact wrapN _ E3
        have l3 : (r0 : Int) / 2 ^ s = ((r0 / 2 ^ s : Nat) : Int) := by rw [Int.natCast_ediv, Int.natCast_pow]; rfl
        clear t1 t2 hvB E3
        generalize r0 / 2 ^ s = z at l3 E2
        generalize q1 * W + q0 = z2 at l2 E1
        generalize q1 * W = z1 at l1 l2
        have HD := Lib.hid (And.intro E1 E2)
        clear E1 E2
        go_wp2
        go_ret2
        rw [HD.out.1, HD.out.2]
        exact ⟨rfl, 0, rfl⟩
end Go.Proofs.YtglbdafcfcmffaaGreatDoor
