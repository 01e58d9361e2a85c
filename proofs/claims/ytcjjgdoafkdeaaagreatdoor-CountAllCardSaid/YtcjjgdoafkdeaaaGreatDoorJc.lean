/- Layer 2: rows of limbs in a block of one's own; Layer 2: bits.Div64 turns nothing in memory: it may draw; Layer 2: the long division's helpers by contract: guess, takes, gives; Layer 2: left, long, Div by contract, of numbers of any length; Layer 2: Div of numbers of any length; Layer 2: the greatest common divisor's helpers at limbs of their own, of any length: made, twos, odd, less; Layer 2: a number in a block of one's own; odd, less by contract; Layer 2: less, common, Gcd by contract, of numbers of any length. -/
import Derived.Test.YtcjjgdoafkdeaaaGreatDoorGg
import Derived.Test.YtcjjgdoafkdeaaaGreatDoorJb
import Derived.Test.YtcjjgdoafkdeaaaGreatDoorGf
import Derived.StillTailTactics
import Derived.Deep.RegionHeld3
import Derived.Test.YtcjjgdoafkdeaaaGreatDoorGh
import Derived.Test.YtcjjgdoafkdeaaaGreatDoorGi
namespace Go.Proofs.YtcjjgdoafkdeaaaGreatDoor
section
open Go.RowKit Go.Extern.Stop Go.Stop Go.Extern
set_option linter.unusedVariables false
set_option linter.unusedSimpArgs false

theorem gr_drew1 {w w' : World} (h : Gr w w') : Gr w w'.drew := ⟨h.os, h.tape, h.output, h.size, h.block⟩
/-- A block whose first n cells are limbs. -/
def OwnF (w : World) (g n : Nat) (F : Nat → Nat) : Prop := ∃ cur, w.heap[g]? = some (.cells cur 56 (0, 0)) ∧ n ≤ cur.size ∧ ∀ i, i < n → cur[i]? = some (U (F i))
theorem OwnF.lt {w : World} {g n : Nat} {F : Nat → Nat} (h : OwnF w g n F) : g < w.heap.size := by
  obtain ⟨cur, h1, _⟩ := h
  exact (Array.getElem?_eq_some_iff.1 h1).1
theorem OwnF.cell {w : World} {g n : Nat} {F : Nat → Nat} (h : OwnF w g n F) {i : Nat} (hi : i < n) : w.cell? ⟨g, i, none⟩ = some (.int .u64 ((F i : Nat) : Int)) := by
  obtain ⟨cur, h1, h2, h3⟩ := h
  rw [cell_of_row w g i cur 56 (0, 0) h1]
  exact h3 i hi
theorem OwnF.frozen {w : World} {g n : Nat} {F : Nat → Nat} (h : OwnF w g n F) (i : Nat) : w.frozen? ⟨g, i, none⟩ = false := by
  obtain ⟨cur, h1, _⟩ := h
  simp [World.frozen?, h1]
theorem OwnF.set {w : World} {g n : Nat} {F : Nat → Nat} (h : OwnF w g n F) (i x : Nat) : OwnF (w.setCell ⟨g, i, none⟩ (.int .u64 (x : Int))) g n (fun j => if j = i then x else F j) := by
  obtain ⟨cur, h1, h2, h3⟩ := h
  refine ⟨cur.setIfInBounds i (.int .u64 (x : Int)), by simp [World.setCell, Array.getElem?_modify, h1], by simpa using h2, fun j hj => ?_⟩
  rw [Array.getElem?_setIfInBounds]
  by_cases e : i = j
  · subst e
    simp [U]
    omega
  · rw [if_neg e, h3 j hj]
    show some (U (F j)) = some (U (if j = i then x else F j))
    rw [if_neg (show ¬ j = i from fun e2 => e e2.symm)]
theorem OwnF.congr {w : World} {g n : Nat} {F G : Nat → Nat} (h : OwnF w g n F) (e : ∀ i, i < n → F i = G i) : OwnF w g n G := by
  obtain ⟨cur, h1, h2, h3⟩ := h
  exact ⟨cur, h1, h2, fun i hi => by rw [h3 i hi, e i hi]⟩
theorem OwnF.less {w : World} {g n m : Nat} {F : Nat → Nat} (h : OwnF w g n F) (hm : m ≤ n) : OwnF w g m F := by
  obtain ⟨cur, h1, h2, h3⟩ := h
  exact ⟨cur, h1, by omega, fun i hi => h3 i (by omega)⟩
theorem OwnF.of_block {w w' : World} {g n : Nat} {F : Nat → Nat} (h : OwnF w g n F) (e : w'.heap[g]? = w.heap[g]?) : OwnF w' g n F := by
  obtain ⟨cur, h1, h2, h3⟩ := h
  exact ⟨cur, e.trans h1, h2, h3⟩
theorem OwnF.gr {w w' : World} {g n : Nat} {F : Nat → Nat} (h : OwnF w g n F) (hg : Gr w w') : OwnF w' g n F := h.of_block (hg.block g h.lt)
theorem OwnF.drew {w : World} {g n : Nat} {F : Nat → Nat} (h : OwnF w g n F) (k : Nat) : OwnF (w.drewN k) g n F := h
theorem OwnF.grown {w w' : World} {g k n : Nat} {F : Nat → Nat} (h : OwnF w g n F) (hg : w.grownBy w' (some k)) (hne : g ≠ k) : OwnF w' g n F := h.of_block (hg.block g h.lt (fun e => hne (by injection e)))
theorem OwnF.lim {w : World} {g n : Nat} {F : Nat → Nat} (h : OwnF w g n F) (o m c : Nat) (hb : ∀ j, j < m → F (o + j) < B) (hom : o + m ≤ n) (hc : m ≤ c) (hc2 : c ≤ 9223372036854775807) :
    Lim w (.slice (some ⟨g, o, none⟩) m c) ((List.range m).map fun j => F (o + j)) := by
  refine ⟨fun x hx => ?_, .inr ⟨g, o, c, by simp, by simpa using hc, hc2, h.lt, fun i hi => ?_⟩⟩
  · obtain ⟨j, hj, rfl⟩ := List.mem_map.1 hx
    exact hb j (List.mem_range.1 hj)
  · have hi' : i < m := by simpa using hi
    rw [h.cell (by omega)]
    simp [U]
theorem RowU.own {w : World} {g n : Nat} {F : Nat → Nat} (h : RowU w g n F) (hn : 0 < n) : OwnF w g n F := by
  obtain ⟨cur, h1, h2, h3⟩ := h
  exact ⟨cur, h1, by omega, h3⟩
theorem ownF_of {w : World} {base n : Nat} {v : Value} {l : List Nat} (h : w.ownsRow base 56 1 v n (l.map U)) (hn : 0 < n) : ∃ g c, v = .slice (some ⟨g, 0, none⟩) n c ∧ base ≤ g ∧ n ≤ c ∧ c ≤ 9223372036854775807 ∧ OwnF w g n (l.getD · 0) := by
  have hl : l.length = n := by simpa using h.1
  rcases h.2 with ⟨_, h0⟩ | ⟨g, cap, cur, hv, hb, hh, hc, hm, hs, ht⟩
  · omega
  · refine ⟨g, cap, hv, hb, hc, by unfold maxLen at hm; omega, cur, hh, by omega, fun i hi => ?_⟩
    have h1 := congrArg (fun x => x[i]?) ht
    simp only [Nat.mul_one] at h1
    have hil : i < l.length := by omega
    rw [List.getElem?_take_of_lt hi, List.getElem?_map, List.getElem?_eq_getElem hil] at h1
    show cur[i]? = some (U (l.getD i 0))
    rw [List.getD_eq_getElem?_getD, List.getElem?_eq_getElem hil]
    simpa using h1
end
section
open Go.RowKit Go.Extern.Stop Go.Stop Go.Extern
set_option linter.unusedVariables false
set_option linter.unusedSimpArgs false

set_option maxRecDepth 100000 in
set_option maxHeartbeats 8000000 in
theorem div64_draws (hi lo y : Nat) (hyB : y < B) (hloB : lo < B) (hlt : hi < y) (w : World) :
    Calls Tryz.prog 166 #[.int .u64 (hi : Int), .int .u64 (lo : Int), .int .u64 (y : Int)] w fun e w' => e = .returned (.tuple #[.int .u64 (((hi * B + lo) / y : Nat) : Int), .int .u64 (((hi * B + lo) % y : Nat) : Int)]) ∧ ∃ k, w' = w.drewN k := by
  have hy0 : ((y : Int) == 0) = false := beq_eq_false_iff_ne.2 (by omega)
  have hle : decide (y ≤ hi) = false := decide_eq_false (by omega)
  have hhB : hi < B := by omega
  by_cases h0 : hi = 0
  · subst h0
    rw [Nat.zero_mul, Nat.zero_add, show ((0 : Nat) : Int) = 0 from rfl]
    have hy1 : decide (y = 0) = false := decide_eq_false (by omega)
    have hy2 : ¬ y = 0 := by omega
    have hy3 : ¬ (y : Int) = 0 := by omega
    have e1 : (lo : Int) / (y : Int) = ((lo / y : Nat) : Int) := (Int.natCast_ediv lo y).symm
    have e2 : (lo : Int) % (y : Int) = ((lo % y : Nat) : Int) := (Int.natCast_emod lo y).symm
    have hwq := wrapN (lo / y) (Nat.lt_of_le_of_lt (Nat.div_le_self _ _) hloB)
    generalize lo / y = qq at e1 hwq ⊢
    generalize lo % y = rr at e2 ⊢
    have E2 := Lib.hid e2
    clear e2
    clear hlt hloB hhB hyB
    go_enter Tryz.func166, Tryz.ntmps166
    go_wp2_with fail
    go_quiet (fail)
    go_wp2
    rw [E2.out]
    go_ret2
    exact ⟨rfl, _, rfl⟩
  · have hz : ((hi : Int) == 0) = false := beq_eq_false_iff_ne.2 (by omega)
    obtain ⟨s, hs, hs1, hs2, hlz⟩ := lz_calls y (by omega) hyB
    obtain ⟨v, v1, v0, un, l, u1, u0, f1, f2, f3, f4, f5, f6, f7, g1, g2, g3, g4, g5, g6, g7, g8, g9⟩ := div64_nums hi lo y s hs hs1 hs2 hlt hloB
    have HL := Lib.hid hlz
    have hv0 : ((v1 : Int) == 0) = false := beq_eq_false_iff_ne.2 (by omega)
    have hv2 : ¬ v1 = 0 := by omega
    have hv3 : ¬ (v1 : Int) = 0 := by omega
    have i5 : (2147483648 : Int) ≤ (v1 : Int) := by omega
    have i6 : (v1 : Int) ≤ 4294967295 := by rw [W_eq] at g3; omega
    have i7 : (0 : Int) ≤ (u1 : Int) := by omega
    have i8 : (u1 : Int) ≤ 4294967295 := by rw [W_eq] at g6; omega
    have j7 : (0 : Int) ≤ (u0 : Int) := by omega
    have j8 : (u0 : Int) ≤ 4294967295 := by rw [W_eq] at g7; omega
    have i9 : (0 : Int) ≤ (v0 : Int) := by omega
    obtain ⟨V1, hV1⟩ : ∃ V1 : Int, (v1 : Int) = V1 := ⟨_, rfl⟩
    obtain ⟨V0, hV0⟩ : ∃ V0 : Int, (v0 : Int) = V0 := ⟨_, rfl⟩
    obtain ⟨U1, hU1⟩ : ∃ U1 : Int, (u1 : Int) = U1 := ⟨_, rfl⟩
    obtain ⟨U0, hU0⟩ : ∃ U0 : Int, (u0 : Int) = U0 := ⟨_, rfl⟩
    obtain ⟨q, r, x, m1, m2, m3, m4, n1, n2, n3, n4⟩ := half_guess un u1 v1 v0 V1 hV1 g2 g4 g3 (by rw [← g1]; exact g5) g6
    have HT := Lib.hid (show Half un u1 v1 v0 q r from ⟨n1, n2, n3, n4⟩)
    rw [hV1] at f2 hv0 hv3 i5 i6
    rw [hV0] at f3 i9
    rw [hU1] at f6 i7 i8
    rw [hU0] at f7 j7 j8
    have HE := Lib.hid (And.intro hV1 (And.intro hV0 (And.intro hU1 hU0)))
    clear hV1 hV0 hU1 hU0 hv2
    have HTl := Lib.hid (show un < v1 * W + v0 by rw [← g1]; exact g5)
    have HTu := Lib.hid g6
    have HSu := Lib.hid g7
    have HB := Lib.hid (And.intro g2 (And.intro g3 (And.intro g4 (And.intro g1 (And.intro g8 (And.intro g9 (And.intro hs1 (And.intro hs2 (And.intro hlt hloB)))))))))
    clear g1 g2 g3 g4 g5 g6 g7 g8 g9 n1 n2 n3 n4 hs1 hs2 hlt hlz hyB hloB hhB
    go_enter Tryz.func166, Tryz.ntmps166
    go_upto_block 0 with (go_at_call 167; (with_reducible refine (HL.out _).mono ?_); rintro ev w1 ⟨rfl, rfl⟩)
    clear f1 f2 f3 f4 f5 f6 f7 m1 m2 m3 m4
    go_cut [15, 16] from 67 to 85 (fun a b wx => HalfMet un u1 (v1 * W + v0) w a b wx)
    case first =>

      go_wp2_with fail
      go_loopg [15, 16] q (fun n a b wr => ∃ q r : Nat, n = q ∧ a = .int .u64 (q : Int) ∧ b = .int .u64 (r : Int) ∧ Half un u1 v1 v0 q r ∧ wr = w)
      case atStart => exact ⟨q, r, rfl, rfl, rfl, HT.out, rfl⟩
      case round =>
        obtain ⟨q, r, hn, rfl, rfl, hh, rfl⟩ := hrel
        have hr1 : r ≤ 4294967295 := by have := hh.2.2.1; rw [W_eq] at this; omega
        have hq1 : q ≤ 4294967298 := by have := hh.2.2.2; rw [W_eq] at this; omega
        have HK := Lib.hid (And.intro hn hh)
        clear hn hh
        obtain ⟨Q, hQ⟩ : ∃ Q : Int, (q : Int) = Q := ⟨_, rfl⟩
        obtain ⟨R, hR⟩ : ∃ R : Int, (r : Int) = R := ⟨_, rfl⟩
        have i1 : 0 ≤ R := by omega
        have i2 : R ≤ 4294967295 := by omega
        have i3 : 0 ≤ Q := by omega
        have i4 : Q ≤ 4294967298 := by omega
        rw [hQ, hR]
        have HF := Lib.hid (And.intro hQ hR)
        clear hQ hR hr1 hq1
        by_cases c1 : 4294967296 ≤ Q
        · have d1 : decide (4294967296 ≤ Q) = true := decide_eq_true c1
          by_cases c2 : 4294967296 ≤ R + V1
          · have d2 : decide (4294967296 ≤ R + V1) = true := decide_eq_true c2
            go_wp2
            go_meet
            obtain ⟨h1, hh⟩ := HK.out
            obtain ⟨e1, e2, e3, e3'⟩ := HE.out
            obtain ⟨e4, e5⟩ := HF.out
            obtain ⟨q', rfl⟩ : ∃ q', q = q' + 1 := ⟨q - 1, by omega⟩
            exact ⟨⟨q', by congr 1; omega, half_brk hh HTl.out HB.out.1 HTu.out (.inl (by rw [W_eq]; omega)) (by rw [W_eq]; omega)⟩, rfl⟩
          · have d2 : decide (4294967296 ≤ R + V1) = false := decide_eq_false c2
            go_wp2
            go_roundg (q - 1)
            case measure =>
              have h1 := HK.out.1
              have h2 := HF.out
              omega
            case rel =>
              obtain ⟨h1, hh⟩ := HK.out
              obtain ⟨e1, e2, e3, e3'⟩ := HE.out
              obtain ⟨e4, e5⟩ := HF.out
              obtain ⟨q', rfl⟩ : ∃ q', q = q' + 1 := ⟨q - 1, by omega⟩
              exact ⟨q', r + v1, rfl, by congr 1; omega, by congr 1; omega, half_nxt hh HTl.out HTu.out (.inl (by rw [W_eq]; omega)) (by rw [W_eq]; omega), rfl⟩
        · have d1 : decide (4294967296 ≤ Q) = false := decide_eq_false c1
          obtain ⟨M, hM⟩ : ∃ M : Int, ((q * v0 : Nat) : Int) = M := ⟨_, rfl⟩
          have hwm : IntKind.u64.wrap (Q * V0) = M := by
            obtain ⟨e1, e2, e3, e3'⟩ := HE.out
            obtain ⟨e4, e5⟩ := HF.out
            rw [← e4, ← e2, ← Int.natCast_mul, ← hM]
            refine wrapN _ ?_
            have h1 : q * v0 ≤ (W - 1) * (W - 1) := Nat.mul_le_mul (by rw [W_eq]; omega) (by have := HB.out.1; omega)
            rw [W_eq] at h1
            rw [B_eq]; omega
          have j1 : 0 ≤ M := by omega
          have HM := Lib.hid hM
          clear hM
          by_cases c3 : 4294967296 * R + U1 < M
          · have d3 : decide (4294967296 * R + U1 < M) = true := decide_eq_true c3
            have i10 : 1 ≤ Q := by
              have h3 := HM.out
              have h4 : q ≠ 0 := by rintro rfl; rw [Nat.zero_mul] at h3; omega
              have := HF.out
              omega
            by_cases c2 : 4294967296 ≤ R + V1
            · have d2 : decide (4294967296 ≤ R + V1) = true := decide_eq_true c2
              go_wp2
              go_meet
              obtain ⟨h1, hh⟩ := HK.out
              obtain ⟨e1, e2, e3, e3'⟩ := HE.out
              obtain ⟨e4, e5⟩ := HF.out
              have e6 := HM.out
              have hc : W ≤ q ∨ W * r + u1 < q * v0 := .inr (by rw [W_eq]; omega)
              obtain ⟨q', rfl⟩ : ∃ q', q = q' + 1 := ⟨q - 1, by omega⟩
              exact ⟨⟨q', by congr 1; omega, half_brk hh HTl.out HB.out.1 HTu.out hc (by rw [W_eq]; omega)⟩, rfl⟩
            · have d2 : decide (4294967296 ≤ R + V1) = false := decide_eq_false c2
              go_wp2
              go_roundg (q - 1)
              case measure =>
                have h1 := HK.out.1
                have h2 := HF.out
                omega
              case rel =>
                obtain ⟨h1, hh⟩ := HK.out
                obtain ⟨e1, e2, e3, e3'⟩ := HE.out
                obtain ⟨e4, e5⟩ := HF.out
                have e6 := HM.out
                have hc : W ≤ q ∨ W * r + u1 < q * v0 := .inr (by rw [W_eq]; omega)
                obtain ⟨q', rfl⟩ : ∃ q', q = q' + 1 := ⟨q - 1, by omega⟩
                exact ⟨q', r + v1, rfl, by congr 1; omega, by congr 1; omega, half_nxt hh HTl.out HTu.out hc (by rw [W_eq]; omega), rfl⟩
          · have d3 : decide (4294967296 * R + U1 < M) = false := decide_eq_false c3
            go_wp2
            go_meet
            obtain ⟨h1, hh⟩ := HK.out
            obtain ⟨e1, e2, e3, e3'⟩ := HE.out
            obtain ⟨e4, e5⟩ := HF.out
            have e6 := HM.out
            exact ⟨⟨q, by congr 1; omega, half_fin hh (by rw [W_eq]; omega)⟩, rfl⟩
    case rest =>
      obtain ⟨⟨q1, rfl, r1, t1, t2⟩, rfl⟩ := hcut
      rw [← HB.out.2.2.2.1] at t1 t2
      have hvB : v < B := by rw [HB.out.2.2.2.2.1]; exact HB.out.2.2.2.2.2.2.2.1
      obtain ⟨x1, x2, x3, k1, k2, k3, k4⟩ := half_rest un u1 q1 v r1 U1 HE.out.2.2.1 t1 (Nat.lt_trans t2 hvB)
      have hr1l : r1 < v1 * W + v0 := by rw [← HB.out.2.2.2.1]; exact t2
      obtain ⟨q, r, x, m1, m2, m3, m4, n1, n2, n3, n4⟩ := half_guess r1 u0 v1 v0 V1 HE.out.1 HB.out.1 HB.out.2.2.1 HB.out.2.1 hr1l HSu.out
      have HS := Lib.hid (show Half r1 u0 v1 v0 q r from ⟨n1, n2, n3, n4⟩)
      have HSl := Lib.hid hr1l
      have HT1 := Lib.hid t1
      clear t1 t2 hvB hr1l n1 n2 n3 n4
      go_upto_block 2 with fail
      clear k1 k2 k3 k4 m1 m2 m3 m4
      go_cut [18, 16] from 102 to 120 (fun a b wx => HalfMet r1 u0 (v1 * W + v0) w a b wx)
      case first =>
        go_wp2_with fail
        go_loopg [18, 16] q (fun n a b wr => ∃ q r : Nat, n = q ∧ a = .int .u64 (q : Int) ∧ b = .int .u64 (r : Int) ∧ Half r1 u0 v1 v0 q r ∧ wr = w)
        case atStart => exact ⟨q, r, rfl, rfl, rfl, HS.out, rfl⟩
        case round =>
          obtain ⟨q, r, hn, rfl, rfl, hh, rfl⟩ := hrel
          have hr1 : r ≤ 4294967295 := by have := hh.2.2.1; rw [W_eq] at this; omega
          have hq1 : q ≤ 4294967298 := by have := hh.2.2.2; rw [W_eq] at this; omega
          have HK := Lib.hid (And.intro hn hh)
          clear hn hh
          obtain ⟨Q, hQ⟩ : ∃ Q : Int, (q : Int) = Q := ⟨_, rfl⟩
          obtain ⟨R, hR⟩ : ∃ R : Int, (r : Int) = R := ⟨_, rfl⟩
          have i1 : 0 ≤ R := by omega
          have i2 : R ≤ 4294967295 := by omega
          have i3 : 0 ≤ Q := by omega
          have i4 : Q ≤ 4294967298 := by omega
          rw [hQ, hR]
          have HF := Lib.hid (And.intro hQ hR)
          clear hQ hR hr1 hq1
          by_cases c1 : 4294967296 ≤ Q
          · have d1 : decide (4294967296 ≤ Q) = true := decide_eq_true c1
            by_cases c2 : 4294967296 ≤ R + V1
            · have d2 : decide (4294967296 ≤ R + V1) = true := decide_eq_true c2
              go_wp2
              go_meet
              obtain ⟨h1, hh⟩ := HK.out
              obtain ⟨e1, e2, e3, e3'⟩ := HE.out
              obtain ⟨e4, e5⟩ := HF.out
              obtain ⟨q', rfl⟩ : ∃ q', q = q' + 1 := ⟨q - 1, by omega⟩
              exact ⟨⟨q', by congr 1; omega, half_brk hh HSl.out HB.out.1 HSu.out (.inl (by rw [W_eq]; omega)) (by rw [W_eq]; omega)⟩, rfl⟩
            · have d2 : decide (4294967296 ≤ R + V1) = false := decide_eq_false c2
              go_wp2
              go_roundg (q - 1)
              case measure =>
                have h1 := HK.out.1
                have h2 := HF.out
                omega
              case rel =>
                obtain ⟨h1, hh⟩ := HK.out
                obtain ⟨e1, e2, e3, e3'⟩ := HE.out
                obtain ⟨e4, e5⟩ := HF.out
                obtain ⟨q', rfl⟩ : ∃ q', q = q' + 1 := ⟨q - 1, by omega⟩
                exact ⟨q', r + v1, rfl, by congr 1; omega, by congr 1; omega, half_nxt hh HSl.out HSu.out (.inl (by rw [W_eq]; omega)) (by rw [W_eq]; omega), rfl⟩
          · have d1 : decide (4294967296 ≤ Q) = false := decide_eq_false c1
            obtain ⟨M, hM⟩ : ∃ M : Int, ((q * v0 : Nat) : Int) = M := ⟨_, rfl⟩
            have hwm : IntKind.u64.wrap (Q * V0) = M := by
              obtain ⟨e1, e2, e3, e3'⟩ := HE.out
              obtain ⟨e4, e5⟩ := HF.out
              rw [← e4, ← e2, ← Int.natCast_mul, ← hM]
              refine wrapN _ ?_
              have h1 : q * v0 ≤ (W - 1) * (W - 1) := Nat.mul_le_mul (by rw [W_eq]; omega) (by have := HB.out.1; omega)
              rw [W_eq] at h1
              rw [B_eq]; omega
            have j1 : 0 ≤ M := by omega
            have HM := Lib.hid hM
            clear hM
            by_cases c3 : 4294967296 * R + U0 < M
            · have d3 : decide (4294967296 * R + U0 < M) = true := decide_eq_true c3
              have i10 : 1 ≤ Q := by
                have h3 := HM.out
                have h4 : q ≠ 0 := by rintro rfl; rw [Nat.zero_mul] at h3; omega
                have := HF.out
                omega
              by_cases c2 : 4294967296 ≤ R + V1
              · have d2 : decide (4294967296 ≤ R + V1) = true := decide_eq_true c2
                go_wp2
                go_meet
                obtain ⟨h1, hh⟩ := HK.out
                obtain ⟨e1, e2, e3, e3'⟩ := HE.out
                obtain ⟨e4, e5⟩ := HF.out
                have e6 := HM.out
                have hc : W ≤ q ∨ W * r + u0 < q * v0 := .inr (by rw [W_eq]; omega)
                obtain ⟨q', rfl⟩ : ∃ q', q = q' + 1 := ⟨q - 1, by omega⟩
                exact ⟨⟨q', by congr 1; omega, half_brk hh HSl.out HB.out.1 HSu.out hc (by rw [W_eq]; omega)⟩, rfl⟩
              · have d2 : decide (4294967296 ≤ R + V1) = false := decide_eq_false c2
                go_wp2
                go_roundg (q - 1)
                case measure =>
                  have h1 := HK.out.1
                  have h2 := HF.out
                  omega
                case rel =>
                  obtain ⟨h1, hh⟩ := HK.out
                  obtain ⟨e1, e2, e3, e3'⟩ := HE.out
                  obtain ⟨e4, e5⟩ := HF.out
                  have e6 := HM.out
                  have hc : W ≤ q ∨ W * r + u0 < q * v0 := .inr (by rw [W_eq]; omega)
                  obtain ⟨q', rfl⟩ : ∃ q', q = q' + 1 := ⟨q - 1, by omega⟩
                  exact ⟨q', r + v1, rfl, by congr 1; omega, by congr 1; omega, half_nxt hh HSl.out HSu.out hc (by rw [W_eq]; omega), rfl⟩
            · have d3 : decide (4294967296 * R + U0 < M) = false := decide_eq_false c3
              go_wp2
              go_meet
              obtain ⟨h1, hh⟩ := HK.out
              obtain ⟨e1, e2, e3, e3'⟩ := HE.out
              obtain ⟨e4, e5⟩ := HF.out
              have e6 := HM.out
              exact ⟨⟨q, by congr 1; omega, half_fin hh (by rw [W_eq]; omega)⟩, rfl⟩
      case rest =>
        obtain ⟨⟨q0, rfl, r0, t1, t2⟩, rfl⟩ := hcut
        rw [← HB.out.2.2.2.1] at t1 t2
        have hvB : v < B := by rw [HB.out.2.2.2.2.1]; exact HB.out.2.2.2.2.2.2.2.1
        obtain ⟨x1, x2, x3, k1, k2, k3, k4⟩ := half_rest r1 u0 q0 v r0 U0 HE.out.2.2.2 t1 (Nat.lt_trans t2 hvB)
        obtain ⟨E1, E2, E3⟩ := div64_end hi lo y s un u1 u0 q1 q0 r1 r0 HB.out.2.2.2.2.2.2.2.2.1 HB.out.2.2.2.2.2.2.2.2.2 HB.out.2.2.2.2.2.1
          (by rw [← HB.out.2.2.2.2.1]; exact HT1.out) (by rw [← HB.out.2.2.2.2.1]; exact t1) (by rw [← HB.out.2.2.2.2.1]; exact t2)
        have l1 : IntKind.u64.wrap ((q1 : Int) * 4294967296) = ((q1 * W : Nat) : Int) := by
          have := wrapN (q1 * W) (by omega)
          rw [W_eq, Int.natCast_mul] at this
          rw [W_eq, Int.natCast_mul]; exact this
        have l2 : IntKind.u64.wrap (((q1 * W : Nat) : Int) + (q0 : Int)) = ((q1 * W + q0 : Nat) : Int) := by
          rw [← Int.natCast_add]; exact wrapN _ E3
        have l3 : (r0 : Int) / 2 ^ s = ((r0 / 2 ^ s : Nat) : Int) := by rw [Int.natCast_ediv, Int.natCast_pow]; rfl
        clear t1 t2 hvB E3
        generalize r0 / 2 ^ s = z at l3 E2
        generalize q1 * W + q0 = z2 at l2 E1
        generalize q1 * W = z1 at l1 l2
        have HD := Lib.hid (And.intro E1 E2)
        clear E1 E2
        go_wp2
        go_ret2
        rw [HD.out.1, HD.out.2]
        exact ⟨rfl, 0, rfl⟩
end
section
open Go.RowKit Go.Extern.Stop Go.Stop Go.Extern
set_option linter.unusedVariables false
set_option linter.unusedSimpArgs false

/-- Limbs in a block, from a place on. -/
def CellsAt (w : World) (g o n : Nat) (F : Nat → Nat) : Prop := g < w.heap.size ∧ ∀ j, j < n → w.cell? ⟨g, o + j, none⟩ = some (.int .u64 ((F j : Nat) : Int))
theorem CellsAt.gr {w w' : World} {g o n : Nat} {F : Nat → Nat} (h : CellsAt w g o n F) (hg : Gr w w') : CellsAt w' g o n F :=
  ⟨Nat.lt_of_lt_of_le h.1 hg.size, fun j hj => (hg.cell h.1).trans (h.2 j hj)⟩
theorem OwnF.cells {w : World} {g n : Nat} {F : Nat → Nat} (h : OwnF w g n F) (o m : Nat) (hm : o + m ≤ n) : CellsAt w g o m (fun j => F (o + j)) :=
  ⟨h.lt, fun j hj => h.cell (by omega)⟩

theorem grownBy_set {w w' : World} {g : Nat} (h : w.grownBy w' (some g)) (i : Nat) (v : Value) : w.grownBy (w'.setCell ⟨g, i, none⟩ v) (some g) :=
  ⟨h.os, h.tape, h.output, by have := h.size; simpa [World.setCell] using this, fun j hj hne => by
    rw [← h.block j hj hne]; exact Below.heap_setCell w' _ v j (by rintro rfl; exact hne rfl)⟩
theorem grownBy_alloc {w w' : World} {g : Nat} (h : w.grownBy w' (some g)) (o : Obj) : w.grownBy (w'.alloc o) (some g) :=
  ⟨h.os, h.tape, h.output, Nat.le_trans h.size (by simp), fun j hj hne => (Below.heap_alloc w' o j (Nat.lt_of_lt_of_le hj h.size)).trans (h.block j hj hne)⟩
theorem grownBy_rf (w : World) (g : Nat) : w.grownBy w (some g) := ⟨rfl, rfl, rfl, Nat.le_refl _, fun _ _ _ => rfl⟩
theorem grownBy_drew {w w' : World} {g : Nat} (h : w.grownBy w' (some g)) (k : Nat) : w.grownBy (w'.drewN k) (some g) := ⟨h.os, h.tape, h.output, h.size, h.block⟩
theorem grownBy_tr {w w' w2 : World} {g : Nat} (h : w.grownBy w' (some g)) (hg : Gr w' w2) : w.grownBy w2 (some g) :=
  ⟨hg.os.trans h.os, hg.tape.trans h.tape, hg.output.trans h.output, Nat.le_trans h.size hg.size, fun j hj hne => (hg.block j (Nat.lt_of_lt_of_le hj h.size)).trans (h.block j hj hne)⟩
theorem grownBy_two {w w' w2 : World} {g : Nat} (h : w.grownBy w' (some g)) (hg : w'.grownBy w2 (some g)) : w.grownBy w2 (some g) :=
  ⟨hg.os.trans h.os, hg.tape.trans h.tape, hg.output.trans h.output, Nat.le_trans h.size hg.size, fun j hj hne => (hg.block j (Nat.lt_of_lt_of_le hj h.size) hne).trans (h.block j hj hne)⟩
set_option maxRecDepth 100000 in
set_option maxHeartbeats 4000000 in
/-- nat.guess: not too small. -/
theorem guess_calls (gu ou cu gv ov cv n : Nat) (F G : Nat → Nat) (w : World) (hn : 2 ≤ n) (hnk : n ≤ 1000000) (hu : CellsAt w gu ou (n + 1) F) (hv : CellsAt w gv ov n G) (hF : ∀ j, F j < B) (hG : ∀ j, G j < B)
    (hlt : rv B F (n + 1) < B * rv B G n) :
    Calls Tryz.prog 169 #[.slice (some ⟨gu, ou, none⟩) (n + 1) cu, .slice (some ⟨gv, ov, none⟩) n cv] w fun e w' => (∃ q : Nat, e = .returned (.int .u64 (q : Int)) ∧ rv B F (n + 1) / rv B G n ≤ q ∧ q < B) ∧ Gr w w' := by
  have hgs := gs_of F G n hn (fun j _ => hF j)
  have hV : 0 < rv B G n := Nat.pos_of_ne_zero (by intro h; rw [h] at hlt; simp at hlt)
  have hmax : rv B F (n + 1) / rv B G n < B := (Nat.div_lt_iff_lt_mul hV).2 hlt
  have hcu2 := hu.2 n (by omega)
  have hcu1 := hu.2 (n - 1) (by omega)
  have hcu0 : ∀ w', Gr w w' → w'.cell? ⟨gu, ou + (n - 2), none⟩ = some (.int .u64 ((F (n - 2) : Nat) : Int)) := fun w' hg => (hu.gr hg).2 (n - 2) (by omega)
  have hcv1 := hv.2 (n - 1) (by omega)
  have hcv0 := hv.2 (n - 2) (by omega)
  have h2B := hF n
  have h1B := hF (n - 1)
  have h0B := hF (n - 2)
  have htB := hG (n - 1)
  have hsB := hG (n - 2)
  generalize rv B F (n + 1) = UU at *
  generalize rv B G n = VV at *
  generalize F n = x2 at *
  generalize F (n - 1) = x1 at *
  generalize F (n - 2) = x0 at *
  generalize G (n - 1) = t at *
  generalize G (n - 2) = s at *
  have HGS := Lib.hid hgs
  have HMX := Lib.hid hmax
  have HC0 := Lib.hid hcu0
  have i1 : ((n : Int) - 1).toNat = n - 1 := by omega
  have i2 : ((n : Int) - 2).toNat = n - 2 := by omega
  have hne : decide ((n : Int) < 1) = false := decide_eq_false (by omega)
  clear hgs hmax hcu0 hu hv hF hG hlt
  by_cases hge : t ≤ x2
  · have b1 : decide ((t : Int) ≤ (x2 : Int)) = true := decide_eq_true (by omega)
    have b1n : decide (t ≤ x2) = true := decide_eq_true hge
    go_enter Tryz.func169, Tryz.ntmps169
    go_wp2_with fail
    go_quiet (fail)
    go_wp2
    go_ret
    refine ⟨⟨18446744073709551615, rfl, ?_, by decide⟩, ?_⟩
    · have := HMX.out
      rw [B_eq] at this
      omega
    · first | exact Gr.rf _ | exact Gr.drew (Gr.rf _) _
  · have b1 : decide ((t : Int) ≤ (x2 : Int)) = false := decide_eq_false (by omega)
    have b1n : decide (t ≤ x2) = false := decide_eq_false hge
    have HD := Lib.hid (fun w' => div64_draws x2 x1 t htB h1B (by omega) w')
    have hst := guess_start HGS.out (by omega : 0 < t)
    have hdm := Nat.div_add_mod (x2 * B + x1) t
    have hml := Nat.mod_lt (x2 * B + x1) (by omega : 0 < t)
    have hqB := short_lt x2 x1 t (by omega) h1B
    generalize hq0 : (x2 * B + x1) / t = q0 at *
    generalize hr0 : (x2 * B + x1) % t = r0 at *
    have HST := Lib.hid hst
    have HDM := Lib.hid hdm
    have HQB := Lib.hid hqB
    have HML := Lib.hid hml
    clear hst hdm hq0 hr0 hqB hml
    go_enter Tryz.func169, Tryz.ntmps169
    have hlt1 : (n : Int) < (n : Int) + 1 := by omega
    have hlt2 : (n : Int) - 1 < (n : Int) + 1 := by omega
    have hlt3 : (1 : Int) ≤ (n : Int) := by omega
    have hlt4 : (2 : Int) ≤ (n : Int) := by omega
    have hw1 : IntKind.i64.wrap ((n : Int) - 1) = (n : Int) - 1 := by rw [IntKind.wrap_i64]; omega
    have hlt5 : (n : Int) - 2 < (n : Int) + 1 := by omega
    have hw2 : IntKind.i64.wrap ((n : Int) - 2) = (n : Int) - 2 := by rw [IntKind.wrap_i64]; omega
    go_wp2_with fail
    go_quiet (fail)
    go_wp2_with fail
    go_quiet ((go_at_call 166; exact (HD.out _).mono fun _ _ ⟨he, m, hm⟩ => ⟨he, (by rw [hm, World.drewN_drewN, Nat.add_assoc]; exact ⟨_, rfl⟩)⟩))
    go_wp2_with fail
    go_loopg [8, 9] q0 (fun k sq sr wr => ∃ q r : Nat, k = q ∧ sq = .int .u64 (q : Int) ∧ sr = .int .u64 (r : Int) ∧ q < B ∧ r < B ∧ Hid (q * t + r = x2 * B + x1) ∧ Hid (UU / VV ≤ q) ∧ Gr w wr)
    case atStart => exact ⟨q0, r0, rfl, rfl, rfl, HQB.out, Nat.lt_trans HML.out htB, Lib.hid (by rw [Nat.mul_comm]; exact HDM.out), HST, by first | exact Gr.drew (Gr.rf w) _ | exact Gr.drew (Gr.drew (Gr.rf w) _) _⟩
    case round =>
      obtain ⟨q, r, hk, rfl, rfl, hqB, hrB, HQR, HUV, hgr⟩ := hrel
      have HKQ := Lib.hid hk
      clear hk
      have hc0 := HC0.out wr hgr
      have hmu := mu_eq q s
      have hlo := muLo_lt q s
      have hhi := muHi_le q s hqB hsB
      have HMU := Lib.hid (fun w' => mul64_calls q s hqB hsB w')
      have hask := guess_ask q s r x0 (muHi q s) (muLo q s) hmu hlo h0B
      generalize muHi q s = hi at *
      generalize muLo q s = lo at *
      have HAS := Lib.hid hask
      clear hask hmu
      by_cases hgo : hi < r ∨ (hi = r ∧ lo ≤ x0)
      · have HGO := Lib.hid hgo
        rcases hgo with h1 | ⟨h1, h2⟩
        · have b1 : decide ((hi : Int) < (r : Int)) = true := decide_eq_true (by omega)
          have b1n : decide (hi < r) = true := decide_eq_true h1
          go_wp2_with (go_at_call 122; (with_reducible refine (HMU.out _).mono ?_); rintro ev w2 ⟨rfl, rfl⟩)
          go_ret
          exact ⟨⟨q, rfl, HUV.out, hqB⟩, by first | exact hgr | exact Gr.drew hgr _⟩
        · subst h1
          have b1 : decide ((hi : Int) < (hi : Int)) = false := decide_eq_false (by omega)
          have b1n : decide (hi < hi) = false := decide_eq_false (by omega)
          have b2 : ((hi : Int) == (hi : Int)) = true := beq_iff_eq.2 rfl
          have b3 : decide ((lo : Int) ≤ (x0 : Int)) = true := decide_eq_true (by omega)
          have b3n : decide (lo ≤ x0) = true := decide_eq_true h2
          go_wp2_with (go_at_call 122; (with_reducible refine (HMU.out _).mono ?_); rintro ev w2 ⟨rfl, rfl⟩)
          go_ret
          exact ⟨⟨q, rfl, HUV.out, hqB⟩, by first | exact hgr | exact Gr.drew hgr _⟩
      · have hm := HAS.out (fun h => hgo (.inl h)) (fun h => hgo (.inr h))
        obtain ⟨m1, m2⟩ := guess_more HGS.out HQR.out hm
        have b1 : decide ((hi : Int) < (r : Int)) = false := decide_eq_false (by omega)
        have b1n : decide (hi < r) = false := decide_eq_false (fun h => hgo (.inl h))
        have hqe : (q - 1) * t + (r + t) = x2 * B + x1 := by
          have := HQR.out
          have e : q * t = (q - 1) * t + t := by
            conv => lhs; rw [show q = q - 1 + 1 by omega]
            rw [Nat.add_mul, Nat.one_mul]
          omega
        have had : (∀ w, (callFunc 123 #[.int .u64 ((r : Nat) : Int), .int .u64 ((t : Nat) : Int), .int .u64 0]).run Tryz.prog w = .ok (.value (.tuple #[.int .u64 ((adLo r t 0 : Nat) : Int), .int .u64 ((adHi r t 0 : Nat) : Int)])) w) := add64_run r t 0 hrB htB (by omega)
        have hade := ad_eq r t 0
        have hal := adLo_lt r t 0
        have hah := adHi_le r t 0 hrB htB (by omega)
        have hqi : (q : Int) - 1 = ((q - 1 : Nat) : Int) := by omega
        have hwq : IntKind.u64.wrap ((q - 1 : Nat) : Int) = ((q - 1 : Nat) : Int) := wrapN _ (by omega)
        have M2 := Lib.hid m2
        have HQE := Lib.hid hqe
        clear hm hqe m2
        generalize adLo r t 0 = lo2 at *
        generalize adHi r t 0 = c2 at *
        have HAE := Lib.hid hade
        clear hade
        by_cases hir : hi = r
        case' pos =>
          have b2 : ((hi : Int) == (r : Int)) = true := beq_iff_eq.2 (by omega)
          have b3 : decide ((lo : Int) ≤ (x0 : Int)) = false := decide_eq_false (fun h => hgo (.inr ⟨hir, by omega⟩))
          have b3n : decide (lo ≤ x0) = false := decide_eq_false (fun h => hgo (.inr ⟨hir, h⟩))
        case' neg =>
          have b2 : ((hi : Int) == (r : Int)) = false := beq_eq_false_iff_ne.2 (by omega)
        all_goals
          clear hgo hir
          by_cases hc2 : c2 = 0
          · subst hc2
            go_wp2_with (go_at_call 122; (with_reducible refine (HMU.out _).mono ?_); rintro ev w2 ⟨rfl, rfl⟩)
            go_roundg (q - 1)
            case measure => have := HKQ.out; omega
            case rel => exact ⟨q - 1, lo2, rfl, by first | rfl | go_num, rfl, by omega, hal, Lib.hid (by rw [← HQE.out]; have := HAE.out; omega), M2, by first | exact hgr | exact Gr.drew hgr _⟩
          · obtain rfl : c2 = 1 := by omega
            go_wp2_with (go_at_call 122; (with_reducible refine (HMU.out _).mono ?_); rintro ev w2 ⟨rfl, rfl⟩)
            go_ret
            exact ⟨⟨q - 1, ret_int (by omega), M2.out, by omega⟩, by first | exact hgr | exact Gr.drew hgr _⟩

theorem bne_cast (n : Nat) : ((n : Int) != 0) = (n != 0) := by
  cases n with
  | zero => rfl
  | succ n => rw [bne_iff_ne.2 (by omega), bne_iff_ne.2 (by omega)]
theorem cell_of_block {w w' : World} {g i : Nat} (e : w'.heap[g]? = w.heap[g]?) : w'.cell? ⟨g, i, none⟩ = w.cell? ⟨g, i, none⟩ := by
  simp only [World.cell?, e]
theorem CellsAt.grown {w w' : World} {g o n k : Nat} {F : Nat → Nat} (h : CellsAt w g o n F) (hg : w.grownBy w' (some k)) (hne : g ≠ k) : CellsAt w' g o n F :=
  ⟨Nat.lt_of_lt_of_le h.1 hg.size, fun j hj => by
    rw [← h.2 j hj]
    exact cell_of_block (hg.block g h.1 (fun e => hne (by injection e)))⟩

set_option maxRecDepth 100000 in
set_option maxHeartbeats 4000000 in
/-- nat.takes. -/
theorem takes_calls (gu ou cu gv ov cv q N : Nat) (l : List Nat) (F : Nat → Nat) (w : World) (hu : OwnF w gu N F) (hN : ou + (l.length + 1) ≤ N) (hv : CellsAt w gv ov l.length (l.getD · 0)) (hl : Limbs l) (hne : gv ≠ gu) (hF : ∀ j, F j < B) (hq : q < B) (hn : l.length ≤ 1000000) :
    Calls Tryz.prog 170 #[.slice (some ⟨gu, ou, none⟩) (l.length + 1) cu, .slice (some ⟨gv, ov, none⟩) l.length cv, .int .u64 (q : Int)] w fun e w' =>
      ∃ (F2 : Nat → Nat) (b2 : Nat), e = .returned (.bool (b2 != 0)) ∧ b2 ≤ 1 ∧ OwnF w' gu N F2 ∧ (∀ j, F2 j < B) ∧ (∀ j, j < ou → F2 j = F j) ∧
        rv B (fun j => F2 (ou + j)) (l.length + 1) + q * val l = rv B (fun j => F (ou + j)) (l.length + 1) + B ^ (l.length + 1) * b2 ∧ w.grownBy w' (some gu) := by
  have HU := Lib.hid hu
  have HV := Lib.hid hv
  have HLM := Lib.hid hl
  have HF := Lib.hid hF
  clear hu hv hl hF
  go_enter Tryz.func170, Tryz.ntmps170
  go_wp2
  go_loopg [7, 8, 16] l.length (fun k sc sb si wr => ∃ (i c b : Nat) (F2 : Nat → Nat), k = l.length - i ∧ i ≤ l.length ∧ sc = .int .u64 (c : Int) ∧ sb = .int .u64 (b : Int) ∧ si = .int .i64 (i : Int) ∧ c < B ∧ b ≤ 1 ∧ Hid (OwnF wr gu N F2) ∧ Hid (∀ j, F2 j < B) ∧ Hid (∀ j, j < ou ∨ ou + i ≤ j → F2 j = F j) ∧
    Hid (rv B (fun j => F2 (ou + j)) i + q * val (l.take i) = rv B (fun j => F (ou + j)) i + B ^ i * (b + c)) ∧ Hid (w.grownBy wr (some gu)))
  case atStart => exact ⟨0, 0, 0, F, rfl, Nat.zero_le _, rfl, rfl, rfl, B_pos, by omega, HU, HF, Lib.hid (fun _ _ => rfl), Lib.hid (by simp [rv_zero, val]), Lib.hid (grownBy_rf w gu)⟩
  case round =>
    obtain ⟨i, c, b, F2, hk, hi, rfl, rfl, rfl, hcB, hb1, HO, HB2, HE, HVV, HG⟩ := hrel
    have HK := Lib.hid hk
    clear hk
    by_cases hlt : i < l.length
    · have b1 : decide (i < l.length) = true := decide_eq_true hlt
      have hxB := getD_lt HLM.out i
      have hcell := HO.out.cell (i := ou + i) (by omega)
      have hfr := HO.out.frozen (ou + i)
      have hcv := (HV.out.grown HG.out hne).2 i hlt
      dsimp only at hcv
      have hfB := HB2.out (ou + i)
      have hmu := mu_eq q (l.getD i 0)
      have hml := muLo_lt q (l.getD i 0)
      have hmh := muHi_le q (l.getD i 0) hq hxB
      have HMU := Lib.hid (fun w' => mul64_calls q (l.getD i 0) hq hxB w')
      have hFe := HE.out (ou + i) (.inr (Nat.le_refl _))
      have hst := fun c2 b2 lo d h1 h2 => takes_step (fun j => F (ou + j)) (fun j => F2 (ou + j)) l i q b c b2 c2 lo d HVV.out h1 h2
      try dsimp only at hst
      rw [← hFe] at hst
      generalize muHi q (l.getD i 0) = hi' at *
      generalize muLo q (l.getD i 0) = lo at *
      generalize l.getD i 0 = x at *
      generalize F2 (ou + i) = f at *
      have had : (∀ w, (callFunc 123 #[.int .u64 ((lo : Nat) : Int), .int .u64 ((c : Nat) : Int), .int .u64 0]).run Tryz.prog w = .ok (.value (.tuple #[.int .u64 ((adLo lo c 0 : Nat) : Int), .int .u64 ((adHi lo c 0 : Nat) : Int)])) w) := add64_run lo c 0 hml hcB (by omega)
      have hae := ad_eq lo c 0
      have hal := adLo_lt lo c 0
      have hah := adHi_le lo c 0 hml hcB (by omega)
      generalize adLo lo c 0 = lo2 at *
      generalize adHi lo c 0 = cc at *
      have hsb := sub64_run f lo2 b hb1
      have hse := su_eq f lo2 b hfB hal hb1
      have hsl := suLo_lt f lo2 b
      have hsh := suHi_le f lo2 b
      generalize suLo f lo2 b = d at *
      generalize suHi f lo2 b = b2 at *
      have HST := Lib.hid (hst (hi' + cc) b2 lo2 d (by rw [← hmu, Nat.mul_add]; omega) hse)
      have hw : hi' + cc < B := by have := B_eq; omega
      have hw2 : hi' + cc ≤ 18446744073709551615 := by have := B_eq; omega
      have HW := Lib.hid hw
      have HSL := Lib.hid hsl
      clear hst hmu hae hse hFe hw hsl
      go_wp2_with (go_at_call 122; (with_reducible refine (HMU.out _).mono ?_); rintro ev w2 ⟨rfl, rfl⟩)
      go_roundg (l.length - (i + 1))
      case measure => have := HK.out; omega
      case rel => exact ⟨i + 1, hi' + cc, b2, (fun j => if j = ou + i then d else F2 j), rfl, by omega, by first | rfl | go_num, rfl, by first | rfl | go_num, HW.out, hsh, Lib.hid (HO.out.set (ou + i) d),
        Lib.hid (fun j => by dsimp only; split; exact HSL.out; exact HB2.out j), Lib.hid (fun j hj => (if_neg (by omega : ¬ j = ou + i)).trans (HE.out j (by omega))),
        Lib.hid (by
          have e := HST.out
          rw [rv_congr B (G := fun j => if j = i then d else F2 (ou + j)) (fun j hj => by dsimp only; by_cases h : j = i; (subst h; rw [if_pos rfl, if_pos rfl]); (rw [if_neg h, if_neg (by omega)]))]
          exact e), Lib.hid (grownBy_set HG.out _ _)⟩
    · obtain rfl : i = l.length := by omega
      have b1 : decide (l.length < l.length) = false := decide_eq_false (by omega)
      have hcell := HO.out.cell (i := ou + l.length) (by omega)
      have hfr := HO.out.frozen (ou + l.length)
      have hfB := HB2.out (ou + l.length)
      have hFe := HE.out (ou + l.length) (.inr (Nat.le_refl _))
      have hst := fun b2 d h => takes_last (fun j => F (ou + j)) (fun j => F2 (ou + j)) l l.length q b c b2 d rfl HVV.out h
      try dsimp only at hst
      rw [← hFe] at hst
      generalize F2 (ou + l.length) = f at *
      have hsb := sub64_run f c b hb1
      have hse := su_eq f c b hfB hcB hb1
      have hsl := suLo_lt f c b
      have hsh := suHi_le f c b
      generalize suLo f c b = d at *
      generalize suHi f c b = b2 at *
      have HST := Lib.hid (hst b2 d hse)
      have HSL := Lib.hid hsl
      clear hst hse hFe hsl
      go_wp2
      go_ret
      exact ⟨(fun j => if j = ou + l.length then d else F2 j), b2, ret_bool (bne_cast b2), hsh, HO.out.set (ou + l.length) d, fun j => by dsimp only; split; exact HSL.out; exact HB2.out j, fun j hj => (if_neg (by omega : ¬ j = ou + l.length)).trans (HE.out j (by omega)), by
        have e := HST.out
        rw [rv_congr B (G := fun j => if j = l.length then d else F2 (ou + j)) (fun j hj => by dsimp only; by_cases h : j = l.length; (subst h; rw [if_pos rfl, if_pos rfl]); (rw [if_neg h, if_neg (by omega)]))]
        exact e, grownBy_set HG.out _ _⟩

set_option maxRecDepth 100000 in
set_option maxHeartbeats 4000000 in
/-- nat.gives. -/
theorem gives_calls (gu ou cu gv ov cv N : Nat) (l : List Nat) (F : Nat → Nat) (w : World) (hu : OwnF w gu N F) (hN : ou + (l.length + 1) ≤ N) (hv : CellsAt w gv ov l.length (l.getD · 0)) (hl : Limbs l) (hne : gv ≠ gu) (hF : ∀ j, F j < B) (hn : l.length ≤ 1000000) :
    Calls Tryz.prog 171 #[.slice (some ⟨gu, ou, none⟩) (l.length + 1) cu, .slice (some ⟨gv, ov, none⟩) l.length cv] w fun e w' =>
      ∃ (F2 : Nat → Nat) (k : Nat), e = .returned (.tuple #[]) ∧ OwnF w' gu N F2 ∧ (∀ j, F2 j < B) ∧ (∀ j, j < ou → F2 j = F j) ∧
        rv B (fun j => F2 (ou + j)) (l.length + 1) + B ^ (l.length + 1) * k = rv B (fun j => F (ou + j)) (l.length + 1) + val l ∧ w.grownBy w' (some gu) := by
  have HU := Lib.hid hu
  have HV := Lib.hid hv
  have HLM := Lib.hid hl
  have HF := Lib.hid hF
  clear hu hv hl hF
  go_enter Tryz.func171, Tryz.ntmps171
  go_wp2
  go_loopg [4, 9] l.length (fun k sc si wr => ∃ (i c : Nat) (F2 : Nat → Nat), k = l.length - i ∧ i ≤ l.length ∧ sc = .int .u64 (c : Int) ∧ si = .int .i64 (i : Int) ∧ c ≤ 1 ∧ Hid (OwnF wr gu N F2) ∧ Hid (∀ j, F2 j < B) ∧ Hid (∀ j, j < ou ∨ ou + i ≤ j → F2 j = F j) ∧
    Hid (rv B (fun j => F2 (ou + j)) i + B ^ i * c = rv B (fun j => F (ou + j)) i + val (l.take i)) ∧ Hid (w.grownBy wr (some gu)))
  case atStart => exact ⟨0, 0, F, rfl, Nat.zero_le _, rfl, rfl, by omega, HU, HF, Lib.hid (fun _ _ => rfl), Lib.hid (by simp [rv_zero, val]), Lib.hid (grownBy_rf w gu)⟩
  case round =>
    obtain ⟨i, c, F2, hk, hi, rfl, rfl, hc1, HO, HB2, HE, HVV, HG⟩ := hrel
    have HK := Lib.hid hk
    clear hk
    by_cases hlt : i < l.length
    · have b1 : decide (i < l.length) = true := decide_eq_true hlt
      have hxB := getD_lt HLM.out i
      have hcell := HO.out.cell (i := ou + i) (by omega)
      have hfr := HO.out.frozen (ou + i)
      have hcv := (HV.out.grown HG.out hne).2 i hlt
      dsimp only at hcv
      have hfB := HB2.out (ou + i)
      have hFe := HE.out (ou + i) (.inr (Nat.le_refl _))
      have hst := fun c2 d h2 => gives_step (fun j => F (ou + j)) (fun j => F2 (ou + j)) l i c c2 d HVV.out h2
      try dsimp only at hst
      rw [← hFe] at hst
      generalize l.getD i 0 = x at *
      generalize F2 (ou + i) = f at *
      have had := add64_run f x c hfB hxB hc1
      have hae := ad_eq f x c
      have hal := adLo_lt f x c
      have hah := adHi_le f x c hfB hxB hc1
      generalize adLo f x c = d at *
      generalize adHi f x c = c2 at *
      have HST := Lib.hid (hst c2 d hae)
      have HSL := Lib.hid hal
      clear hst hae hFe hal
      go_wp2
      go_roundg (l.length - (i + 1))
      case measure => have := HK.out; omega
      case rel => exact ⟨i + 1, c2, (fun j => if j = ou + i then d else F2 j), rfl, by omega, rfl, by first | rfl | go_num, hah, Lib.hid (HO.out.set (ou + i) d),
        Lib.hid (fun j => by dsimp only; split; exact HSL.out; exact HB2.out j), Lib.hid (fun j hj => (if_neg (by omega : ¬ j = ou + i)).trans (HE.out j (by omega))),
        Lib.hid (by
          have e := HST.out
          rw [rv_congr B (G := fun j => if j = i then d else F2 (ou + j)) (fun j hj => by dsimp only; by_cases h : j = i; (subst h; rw [if_pos rfl, if_pos rfl]); (rw [if_neg h, if_neg (by omega)]))]
          exact e), Lib.hid (grownBy_set HG.out _ _)⟩
    · obtain rfl : i = l.length := by omega
      have b1 : decide (l.length < l.length) = false := decide_eq_false (by omega)
      have hcell := HO.out.cell (i := ou + l.length) (by omega)
      have hfr := HO.out.frozen (ou + l.length)
      have hFe := HE.out (ou + l.length) (.inr (Nat.le_refl _))
      have hst := gives_last (fun j => F (ou + j)) (fun j => F2 (ou + j)) l l.length c rfl HVV.out
      try dsimp only at hst
      rw [← hFe] at hst
      generalize F2 (ou + l.length) = f at *
      have hwr := wrapM (f + c)
      have e1 : ((f + c : Nat) : Int) = (f : Int) + (c : Int) := by omega
      rw [e1] at hwr
      have hml := Nat.mod_lt (f + c) B_pos
      generalize (f + c) % B = d at *
      generalize (f + c) / B = k2 at *
      have HST := Lib.hid hst
      have HSL := Lib.hid hml
      clear hst hFe hml e1
      go_wp2
      go_end0
      exact ⟨(fun j => if j = ou + l.length then d else F2 j), k2, rfl, HO.out.set (ou + l.length) d, fun j => by dsimp only; split; exact HSL.out; exact HB2.out j, fun j hj => (if_neg (by omega : ¬ j = ou + l.length)).trans (HE.out j (by omega)), by
        have e := HST.out
        rw [rv_congr B (G := fun j => if j = l.length then d else F2 (ou + j)) (fun j hj => by dsimp only; by_cases h : j = l.length; (subst h; rw [if_pos rfl, if_pos rfl]); (rw [if_neg h, if_neg (by omega)]))]
        exact e, grownBy_set HG.out _ _⟩
end
section
open Go.RowKit Go.Extern.Stop Go.Stop Go.Extern
set_option linter.unusedVariables false
set_option linter.unusedSimpArgs false

/-- The digit that is left of two. -/
theorem shr_bits (x y t : Nat) (ht : t ≤ 63) (hx : x < B) (hy : y < B) :
    bits .or .u64 ((x : Int) / 2 ^ t) (IntKind.u64.wrap (IntKind.u64.wrap ((y : Int) * 2) * 2 ^ (63 - t))) = ((x / 2 ^ t + y % 2 ^ t * 2 ^ (64 - t) : Nat) : Int) := by
  have h1 : (x : Int) / 2 ^ t = ((x / 2 ^ t : Nat) : Int) := by rw [Int.natCast_ediv, Int.natCast_pow]; rfl
  have h2 : IntKind.u64.wrap ((y : Int) * 2) = ((y * 2 ^ 1 % B : Nat) : Int) := by
    have := wrapM (y * 2 ^ 1)
    rw [← this]; congr 1
  have h3 : IntKind.u64.wrap (((y * 2 ^ 1 % B : Nat) : Int) * 2 ^ (63 - t)) = ((y * 2 ^ 1 % B * 2 ^ (63 - t) % B : Nat) : Int) := by
    have := wrapM (y * 2 ^ 1 % B * 2 ^ (63 - t))
    rw [← this]; congr 1
  have h4 : y * 2 ^ 1 % B * 2 ^ (63 - t) % B = y % 2 ^ t * 2 ^ (64 - t) := by
    rw [Nat.mod_mul_mod, Nat.mul_assoc, ← Nat.pow_add, show 1 + (63 - t) = 64 - t by omega]
    conv => lhs; rw [B_split t (by omega), Nat.mul_comm (2 ^ (64 - t)) (2 ^ t)]
    rw [Nat.mul_mod_mul_right]
  have h5 : x / 2 ^ t < 2 ^ (64 - t) := by rw [Nat.div_lt_iff_lt_mul (Nat.two_pow_pos t), ← B_split t (by omega)]; exact hx
  have h6 : x / 2 ^ t < B := Nat.lt_of_le_of_lt (Nat.div_le_self _ _) hx
  have h7 : y % 2 ^ t * 2 ^ (64 - t) < B := by
    have := Nat.mod_lt y (Nat.two_pow_pos t)
    rw [B_split t (by omega), Nat.mul_comm]
    exact Nat.mul_lt_mul_of_pos_left this (Nat.two_pow_pos _)
  rw [h1, h2, h3, h4, bits_or_u64_nat _ _ (by rw [← B_eq]; exact h6) (by rw [← B_eq]; exact h7), Nat.or_comm, or_add _ _ _ h5, Nat.add_comm]
/-- A digit shifted to the left, laid upon what came from below. -/
theorem left_bits (f x s : Nat) (hs : s ≤ 63) (hf : f < 2 ^ s) (hx : x < B) :
    bits .or .u64 (f : Int) (IntKind.u64.wrap ((x : Int) * 2 ^ s)) = ((f + x * 2 ^ s % B : Nat) : Int) ∧ f + x * 2 ^ s % B < B := by
  have h1 : IntKind.u64.wrap ((x : Int) * 2 ^ s) = ((x * 2 ^ s % B : Nat) : Int) := by
    have := wrapM (x * 2 ^ s)
    rw [← this]; congr 1
  have h2 : x * 2 ^ s % B = x % 2 ^ (64 - s) * 2 ^ s := by
    conv => lhs; rw [B_split s (by omega)]
    rw [Nat.mul_mod_mul_right]
  have h3 : 2 ^ s ≤ B := by rw [B_pow]; exact Nat.pow_le_pow_right (by decide) (by omega)
  have h4 : (x % 2 ^ (64 - s) + 1) * 2 ^ s ≤ 2 ^ (64 - s) * 2 ^ s := Nat.mul_le_mul_right _ (Nat.mod_lt _ (Nat.two_pow_pos _))
  rw [← B_split s (by omega), Nat.add_mul, Nat.one_mul] at h4
  refine ⟨?_, by rw [h2]; omega⟩
  rw [h1, h2, bits_or_u64_nat _ _ (by rw [← B_eq]; omega) (by rw [← B_eq]; omega), Nat.or_comm, or_add _ _ _ hf, Nat.add_comm]
/-- What is shifted out of a digit, in two steps. -/
theorem left_out (x s : Nat) (hs : s ≤ 63) : (x : Int) / 2 / 2 ^ (63 - s) = ((x / 2 ^ (64 - s) : Nat) : Int) := by
  have h : x / 2 / 2 ^ (63 - s) = x / 2 ^ (64 - s) := by rw [Nat.div_div_eq_div_mul, ← Nat.pow_succ', show (63 - s).succ = 64 - s by omega]
  rw [← h, Int.natCast_ediv, Int.natCast_ediv, Int.natCast_pow]; rfl

set_option maxRecDepth 100000 in
set_option maxHeartbeats 4000000 in
/-- nat.left. -/
theorem left_calls (v : Value) (l : List Nat) (s : Nat) (w : World) (h : Lim w v l) (hs : s ≤ 63) (hn : l.length ≤ 1000000) :
    Calls Tryz.prog 168 #[v, .int .i64 (s : Int)] w fun e w' => ∃ F : Nat → Nat, e = .returned (.slice (some ⟨w.heap.size, 0, none⟩) (l.length + 1) (l.length + 1)) ∧ OwnF w' w.heap.size (l.length + 1) F ∧ (∀ j, F j < B) ∧ rv B F (l.length + 1) = val l * 2 ^ s ∧ Gr w w' := by
  have HP := Lib.hid h
  obtain ⟨a, c, rfl⟩ := h.slice
  have hmk := make64 (l.length + 1) (by omega)
  have ec : ((l.length + 1 : Nat) : Int) = (l.length : Int) + 1 := by omega
  rw [ec] at hmk
  have hs1 : (63 - (s : Int)).toNat = 63 - s := by omega
  clear h ec
  go_enter Tryz.func168, Tryz.ntmps168
  go_wp2
  clear hmk
  go_loopg [14] l.length (fun k si wr => ∃ (i : Nat) (F : Nat → Nat), k = l.length - i ∧ i ≤ l.length ∧ si = .int .i64 (i : Int) ∧ Hid (OwnF wr w.heap.size (l.length + 1) F) ∧ Hid (∀ j, F j < B) ∧ Hid (F i < 2 ^ s) ∧ Hid (∀ j, i < j → F j = 0) ∧ Hid (rv B F (i + 1) = val (l.take i) * 2 ^ s) ∧ Hid (Gr w wr))
  case atStart => exact ⟨0, fun _ => 0, rfl, Nat.zero_le _, rfl, Lib.hid ((rowU_made w _).own (by omega)), Lib.hid (fun _ => B_pos), Lib.hid (Nat.two_pow_pos s), Lib.hid (fun _ _ => rfl), Lib.hid (by simp [rv_zero, rv_succ, val]), Lib.hid ((Gr.rf w).alloc (Nat.le_refl _) _)⟩
  case round =>
    obtain ⟨i, F, hk, hi, rfl, HO, HFB, HFP, HF0, HFV, HG⟩ := hrel
    have HK := Lib.hid hk
    clear hk
    by_cases hlt : i < l.length
    · have b1 : decide (i < l.length) = true := decide_eq_true hlt
      obtain ⟨g1, o1, c1, e1, hcx⟩ := HP.out.get HG.out i hlt
      cases e1
      have hxB := getD_lt HP.out.1 i
      have hcell := HO.out.cell (i := i) (by omega)
      have hcell2 := HO.out.cell (i := i + 1) (by omega)
      have hfr := HO.out.frozen i
      have hfr2 := HO.out.frozen (i + 1)
      rw [HF0.out (i + 1) (by omega)] at hcell2
      have HST := Lib.hid (left_step F l s i hs HFV.out)
      have hxs := shr_lt (l.getD i 0) s (by omega) hxB
      generalize l.getD i 0 = x at *
      obtain ⟨hb, hbB⟩ := left_bits (F i) x s hs HFP.out hxB
      have ho := left_out x s hs
      have hyB : x / 2 ^ (64 - s) < B := Nat.lt_of_le_of_lt (Nat.div_le_self _ _) hxB
      generalize hfi : F i = f at *
      obtain ⟨d, hd⟩ : ∃ d, f + x * 2 ^ s % B = d := ⟨_, rfl⟩
      obtain ⟨z, hz⟩ : ∃ z, x / 2 ^ (64 - s) = z := ⟨_, rfl⟩
      rw [hd] at hb hbB HST
      rw [hz] at ho hyB HST hxs
      have HXS := Lib.hid hxs
      have HBB := Lib.hid hbB
      have HYB := Lib.hid hyB
      have hsz := HG.out.size
      clear hd hz hfi hxs hbB hyB
      have hb1 : (i : Int) < (l.length : Int) + 1 := by omega
      go_wp2
      have hcd : wr.drew.cell? ⟨w.heap.size, i, none⟩ = some (.int .u64 (f : Int)) := hcell
      refine wp_region_still_tail 9 (by kernel_rfl) (by kernel_rfl) ?_
      simp only [List.take_succ_cons, List.take_zero, List.drop_succ_cons, List.drop_zero]
      change wpStill _ _ wr.drew _ _ _
      generalize wr.drew = W2 at hcd ⊢
      repeat still_step
      refine wpStill_nil ?_
      go_wp2
      go_roundg (l.length - (i + 1))
      case measure => have := HK.out; omega
      case rel => exact ⟨i + 1, (fun j => if j = i + 1 then z else if j = i then d else F j), rfl, by omega, by first | rfl | go_num, Lib.hid ((HO.out.set i d).set (i + 1) z), Lib.hid (fun j => by dsimp only; split; exact HYB.out; split; exact HBB.out; exact HFB.out j), Lib.hid (by dsimp only; rw [if_pos rfl]; exact HXS.out), Lib.hid (fun j hj => by dsimp only; rw [if_neg (by omega), if_neg (by omega)]; exact HF0.out j (by omega)), HST, Lib.hid (gr_drew1 ((HG.out.setCell (a := ⟨w.heap.size, i, none⟩) (Nat.le_refl _) _).setCell (a := ⟨w.heap.size, i + 1, none⟩) (Nat.le_refl _) _))⟩
    · obtain rfl : i = l.length := by omega
      have b1 : decide (l.length < l.length) = false := decide_eq_false (by omega)
      go_wp2
      go_ret
      exact ⟨F, rfl, HO.out, HFB.out, by have h := HFV.out; rw [List.take_of_length_le (Nat.le_refl _)] at h; exact h, HG.out⟩

theorem gr_grown {b w w' : World} {g : Nat} (h : Gr b w) (hg : w.grownBy w' (some g)) (hb : b.heap.size ≤ g) : Gr b w' :=
  ⟨hg.os.trans h.os, hg.tape.trans h.tape, hg.output.trans h.output, Nat.le_trans h.size hg.size, fun i hi => (hg.block i (Nat.lt_of_lt_of_le hi h.size) (fun e => by injection e; omega)).trans (h.block i hi)⟩
theorem OwnF.setOther {w : World} {g n : Nat} {F : Nat → Nat} (h : OwnF w g n F) (a : Addr) (v : Value) (hne : g ≠ a.block) : OwnF (w.setCell a v) g n F :=
  h.of_block (Below.heap_setCell w a v g hne)
theorem CellsAt.setOther {w : World} {g o n : Nat} {F : Nat → Nat} (h : CellsAt w g o n F) (a : Addr) (v : Value) (hne : g ≠ a.block) : CellsAt (w.setCell a v) g o n F :=
  ⟨by have := h.1; simpa [World.setCell] using this, fun j hj => by rw [cell_of_block (Below.heap_setCell w a v g hne)]; exact h.2 j hj⟩
theorem set_lt {G : Nat → Nat} {j x b : Nat} (h : ∀ i, G i < b) (hx : x < b) : ∀ i, (if i = j then x else G i) < b := fun i => by
  split
  · exact hx
  · exact h i
theorem over_start {n U V q x b2 : Nat} (hx : x < B ^ (n + 1)) (hq : U / V ≤ q) (hB : q < B) (hb : b2 ≤ 1) (h : x + q * V = U + B ^ (n + 1) * b2) : Over n U V q x (b2 != 0) := by
  unfold Over
  refine ⟨hx, hq, hB, ?_⟩
  rw [h]
  rcases (show b2 = 0 ∨ b2 = 1 by omega) with e | e
  · rw [e, Nat.mul_zero, if_neg (by decide)]
  · rw [e, Nat.mul_one, if_pos (by decide)]
theorem set_up {F H : Nat → Nat} {i x : Nat} (h : ∀ j, j < i → F j = H j) (hx : x = H i) : ∀ j, j < i + 1 → (fun j => if j = i then x else F j) j = H j := fun j hj => by
  dsimp only
  by_cases e : j = i
  · rw [if_pos e, e]; exact hx
  · rw [if_neg e]; exact h j (by omega)
theorem left_any (v : Value) (l : List Nat) (s : Nat) (w : World) (h : Lim w v l) (hs : s ≤ 63) (hn : l.length ≤ 1000000) :
    Calls Tryz.prog 168 #[v, .int .i64 (s : Int)] w fun e w' => ∃ (g : Nat) (F : Nat → Nat), e = .returned (.slice (some ⟨g, 0, none⟩) (l.length + 1) (l.length + 1)) ∧ w.heap.size ≤ g ∧ OwnF w' g (l.length + 1) F ∧ (∀ j, F j < B) ∧ rv B F (l.length + 1) = val l * 2 ^ s ∧ Gr w w' := by
  refine (left_calls v l s w h hs hn).mono ?_
  rintro e w2 ⟨F, h1, h2, h3, h4, h5⟩
  exact ⟨_, F, h1, Nat.le_refl _, h2, h3, h4, h5⟩
theorem below_pow (l : List Nat) (s : Nat) (h63 : s ≤ 63) (hl : Limbs l) (hne : 0 < l.length) (hs : l.getD (l.length - 1) 0 * 2 ^ s < B) : val l * 2 ^ s < B ^ l.length := by
  have h1 := val_take_getD l (l.length - 1)
  rw [show l.length - 1 + 1 = l.length by omega, List.take_of_length_le (Nat.le_refl _)] at h1
  have h2 := val_lt _ (limbs_take hl (l.length - 1))
  rw [List.length_take, Nat.min_eq_left (by omega)] at h2
  generalize l.getD (l.length - 1) 0 = y at *
  have h3 : B ^ l.length = B ^ (l.length - 1) * B := by rw [← Nat.pow_succ, show (l.length - 1).succ = l.length by omega]
  rw [h1, h3]
  generalize B ^ (l.length - 1) = P at *
  generalize val (l.take (l.length - 1)) = z at *
  have hp := Nat.two_pow_pos s
  have h5 : y < 2 ^ (64 - s) := by
    rw [B_split s (by omega)] at hs
    exact Nat.lt_of_mul_lt_mul_right hs
  have h6 : (y + 1) * 2 ^ s ≤ B := by
    rw [B_split s (by omega)]
    exact Nat.mul_le_mul_right _ h5
  have h7 : z + P * y < P * (y + 1) := by rw [Nat.mul_add, Nat.mul_one]; omega
  calc (z + P * y) * 2 ^ s < P * (y + 1) * 2 ^ s := Nat.mul_lt_mul_of_pos_right h7 hp
    _ = P * ((y + 1) * 2 ^ s) := Nat.mul_assoc _ _ _
    _ ≤ P * B := Nat.mul_le_mul_left _ h6

/-- What the division leaves in memory. -/
theorem row_list (F : Nat → Nat) (n : Nat) : ((List.range n).map F).length = n := by simp
theorem row_getD (F : Nat → Nat) (n j : Nat) (h : j < n) : ((List.range n).map F).getD j 0 = F j := by
  rw [List.getD_eq_getElem?_getD, List.getElem?_map, List.getElem?_range h]; rfl

set_option maxRecDepth 100000 in
set_option maxHeartbeats 8000000 in
/-- nat.long. -/
theorem long_calls (x y : Value) (p q : List Nat) (w : World) (hx : Lim w x p) (hy : Lim w y q) (hq : Norm q) (hq2 : 2 ≤ q.length) (hle : q.length ≤ p.length) (hn : p.length ≤ 1000000) :
    Calls Tryz.prog 120 #[x, y] w fun e w' => ∃ v1 l1 v2 l2, e = .returned (.tuple #[v1, v2]) ∧ Lim w' v1 l1 ∧ Lim w' v2 l2 ∧ val l1 = val p / val q ∧ val l2 = val p % val q ∧ l1.length ≤ 1000000 ∧ l2.length ≤ 1000000 ∧ Gr w w' := by
  have HP := Lib.hid hx
  have HQ := Lib.hid hy
  have hQL := hy.1
  have hPL := hx.1
  obtain ⟨xa, xc, rfl⟩ := hx.slice
  obtain ⟨ya, yc, rfl⟩ := hy.slice
  have htop : q.getD (q.length - 1) 0 ≠ 0 := by
    intro e
    apply hq
    rw [List.getLast?_eq_getElem?, List.getElem?_eq_getElem (by omega)]
    rw [List.getD_eq_getElem?_getD, List.getElem?_eq_getElem (by omega)] at e
    rw [← e]; rfl
  obtain ⟨s, hs, hs1, hs2, hlz⟩ := lz_calls _ (Nat.pos_of_ne_zero htop) (getD_lt hQL _)
  have hroom := long_room p q s hPL hq (by rintro rfl; simp at hq2) hle
  have hvn := below_pow q s hs hQL (by omega) hs2
  have hvq : 0 < val q := Nat.pos_of_ne_zero fun e => by have h := (norm_zero q hq).1 e; rw [h] at hq2; simp at hq2
  have hV0 : 0 < val q * 2 ^ s := Nat.mul_pos hvq (Nat.two_pow_pos s)
  obtain ⟨g0, o0, c0, e0, hc0⟩ := HQ.out.get (Gr.rf w) (q.length - 1) (by omega)
  cases e0
  have HLZ := Lib.hid hlz
  generalize q.getD (q.length - 1) 0 = top at hc0 HLZ
  have hsh := long_shift (val p) (val q) s
  obtain ⟨m, hm⟩ : ∃ m, p.length - q.length + 1 = m := ⟨_, rfl⟩
  rw [hm] at hroom
  have hmn : p.length + 1 = m + q.length := by omega
  have i1 : ((q.length : Int) - 1).toNat = q.length - 1 := by omega
  have hmk := make64 m (by omega)
  have ecm : (m : Int) = (p.length : Int) - (q.length : Int) + 1 := by omega
  have HSH := Lib.hid hsh
  have HRM := Lib.hid hroom
  have HVN := Lib.hid hvn
  have HV0 := Lib.hid hV0
  have HQL := Lib.hid hQL
  clear hx hy hq hs1 hs2 hlz htop hsh hroom hvn hV0 hvq hPL hQL
  have HL1 := Lib.hid (fun w' (hg : Gr w w') => left_any _ p s w' (HP.out.gr hg) hs hn)
  have HL2 := Lib.hid (fun w' (hg : Gr w w') => left_any _ q s w' (HQ.out.gr hg) hs (by omega))
  rw [ecm] at hmk
  have hlq1 : (q.length : Int) ≤ (q.length : Int) + 1 := by omega
  go_enter Tryz.func120, Tryz.ntmps120
  go_wp2_with (go_at_call 167; (with_reducible refine (HLZ.out _).mono ?_); rintro ev w1 ⟨rfl, rfl⟩)
  have hheld0 : Gr w w := Gr.rf w
  go_region_held3 (fun w' => Gr w w') (first | assumption | exact gr_drew1 (by assumption))
    (first
      | (go_at_call 168; (with_reducible refine (HL1.out _ (by assumption)).mono ?_); rintro ev w2 ⟨gu, Fu, rfl, hgu, hOu, hFu, hVu, hg2⟩; have hgm : Gr w w2 := Gr.tr (by assumption) hg2; have HGU := Lib.hid hgu; have HOU := Lib.hid hOu; have HFU := Lib.hid hFu; have HVU := Lib.hid hVu; clear hgu hOu hFu hVu hg2)
      | (go_at_call 168; (with_reducible refine (HL2.out _ (by assumption)).mono ?_); rintro ev w3 ⟨gv, Fv, rfl, hgv, hOv, hFv, hVv, hg3⟩; have hgm3 : Gr w w3 := Gr.tr (by assumption) hg3; have HG3 := Lib.hid hg3; have HGV := Lib.hid hgv; have HOV := Lib.hid hOv; have HFV := Lib.hid hFv; have HVV := Lib.hid hVv; clear hgv hOv hFv hVv hg3))
  have hvl : ((List.range q.length).map Fv).length = q.length := by simp
  have hvL : Limbs ((List.range q.length).map Fv) := fun x hx => by
    obtain ⟨j, _, rfl⟩ := List.mem_map.1 hx
    exact HFV.out j
  have hv0 : Fv q.length = 0 := by
    have h1 := (top_digit Fv q.length (fun j _ => HFV.out j)).1
    have h2 := HVV.out
    have h3 := HVN.out
    by_cases e : Fv q.length = 0
    · exact e
    · have := h1 e; omega
  have hvv : val ((List.range q.length).map Fv) = val q * 2 ^ s := by
    rw [rv_val, ← HVV.out, rv_succ, hv0, Nat.mul_zero, Nat.add_zero]
  have hvc : CellsAt w3 gv 0 q.length (((List.range q.length).map Fv).getD · 0) := ⟨HOV.out.lt, fun j hj => by
    rw [Nat.zero_add, HOV.out.cell (by omega)]
    show _ = some (Value.int .u64 (((((List.range q.length).map Fv).getD j 0 : Nat)) : Int))
    rw [row_getD Fv q.length j hj]⟩
  have hst := long_start (val p * 2 ^ s) (val q * 2 ^ s) q.length m Fu (fun _ => 0) HFU.out (by rw [← hmn]; exact HVU.out) HRM.out
  have hou := HOU.out.gr HG3.out
  rw [hmn] at hou
  have hgue : gu < w3.heap.size := hou.lt
  have hgne : gv ≠ gu := by
    have h1 := HOU.out.lt
    have h2 := HGV.out
    omega
  have hwgu : w.heap.size ≤ gu := HGU.out
  have hwgv : w.heap.size ≤ gv := Nat.le_trans hgm.size HGV.out
  have hwm : w.heap.size ≤ w3.heap.size := hgm3.size
  have hgvl : gv < w3.heap.size := HOV.out.lt
  generalize (List.range q.length).map Fv = vl at hvl hvL hvv hvc
  have HVC := Lib.hid hvc
  have HVL := Lib.hid hvL
  have HVE := Lib.hid hvv
  have HLEN := Lib.hid hvl
  have HST := Lib.hid hst
  have HOUU := Lib.hid hou
  have HGM := Lib.hid hgm3
  clear HGU HOU HFU HVU HG3 HGV HOV HFV HVV hvc hvL hvv hst hou hgm hgm3 hv0 hvl
  clear hheld0 HL1 HL2 HLZ
  have hm1 : 1 ≤ m := by omega
  go_wp2
  clear hmk ecm
  go_loopg [10] m (fun k sj wr => ∃ (R G : Nat → Nat), k ≤ m ∧ sj = .int .i64 ((k : Int) - 1) ∧ Hid (OwnF wr gu (m + q.length) R) ∧ Hid (OwnF wr w3.heap.size m G) ∧ Hid (∀ j, G j < B) ∧ Hid (CellsAt wr gv 0 q.length (vl.getD · 0)) ∧ Hid (Long (val p * 2 ^ s) (val q * 2 ^ s) q.length m k R G) ∧ Hid (Gr w wr))
  case atStart => exact ⟨Fu, fun _ => 0, Nat.le_refl _, by first | rfl | go_num, Lib.hid (HOUU.out.gr ((Gr.rf w3).alloc (Nat.le_refl _) _)), Lib.hid ((rowU_made w3 _).own (by omega)), Lib.hid (fun _ => B_pos), Lib.hid (HVC.out.gr ((Gr.rf w3).alloc (Nat.le_refl _) _)), HST, Lib.hid (HGM.out.tr ((Gr.rf w3).alloc (Nat.le_refl _) _))⟩
  case round =>
    obtain ⟨R, G, hk, rfl, HR, HG, HGB, HV, HLG, HGR⟩ := hrel
    by_cases h0 : 0 < gk
    · obtain ⟨j, rfl⟩ : ∃ j, gk = j + 1 := ⟨gk - 1, by omega⟩
      have hji : ((j + 1 : Nat) : Int) - 1 = (j : Int) := by omega
      rw [hji]
      have hjn : (j : Int).toNat = j := by omega
      have hpart := HLG.out.part
      obtain ⟨ld1, ld2, ld3⟩ := long_digit (val p * 2 ^ s) (val q * 2 ^ s) j HV0.out
      rw [← hpart] at ld1
      have hcu := HR.out.cells j (q.length + 1) (by omega)
      have hRB := HLG.out.1
      have hrl : rv B (vl.getD · 0) q.length = val q * 2 ^ s := by rw [← HVE.out]; exact rv_list vl _ (by rw [HLEN.out]; exact Nat.le_refl _)
      have hgs := guess_calls gu j (m + q.length - j) gv 0 (q.length + 1) q.length (fun i => R (j + i)) (vl.getD · 0) wr hq2 (by omega) hcu HV.out (fun i => hRB _) (fun i => getD_lt HVL.out i) (by rw [hrl]; exact ld1)
      rw [hrl] at hgs
      have HGS := Lib.hid hgs
      have HLT := Lib.hid ld1
      clear hji hpart ld1 ld2 ld3 hcu hgs hrl
      go_wp2_with fail
      rw [show j + q.length + 1 - j = q.length + 1 by omega]
      (with_reducible refine HGS.out.mono ?_)
      rintro ev w5 ⟨⟨gq, rfl, hgq1, hgq2⟩, hg5⟩
      have HR5 := Lib.hid (HR.out.gr hg5)
      have HG5 := Lib.hid (HG.out.gr hg5)
      have HV5 := Lib.hid (HV.out.gr hg5)
      have HGR5 := Lib.hid (HGR.out.tr hg5)
      have hcell := HG5.out.cell (i := j) (by omega)
      have hfr := HG5.out.frozen j
      have HR6 := Lib.hid (HR5.out.setOther ⟨w3.heap.size, j, none⟩ (.int .u64 (gq : Int)) (by show gu ≠ w3.heap.size; omega))
      have HV6 := Lib.hid (HV5.out.setOther ⟨w3.heap.size, j, none⟩ (.int .u64 (gq : Int)) (by show gv ≠ w3.heap.size; omega))
      have HG6 := Lib.hid (HG5.out.set j gq)
      have HGR6 := Lib.hid (HGR5.out.setCell (a := ⟨w3.heap.size, j, none⟩) hwm (.int .u64 (gq : Int)))
      have hcell6 := HG6.out.cell (i := j) (by omega)
      try dsimp only at hcell6
      rw [if_pos rfl] at hcell6
      have hv6 := HV6.out
      rw [← HLEN.out] at hv6
      have htk := takes_calls gu j (m + q.length - j) gv 0 (q.length + 1) gq (m + q.length) vl R _ HR6.out (by rw [HLEN.out]; omega) hv6 HVL.out hgne hRB hgq2 (by rw [HLEN.out]; omega)
      rw [HLEN.out] at htk
      have HTK := Lib.hid htk
      generalize hoj : G j = old at hcell
      have HGQ1 := Lib.hid hgq1
      clear htk hv6 hg5 hoj hgq1
      go_wp2_with (go_at_call 170; (with_reducible refine HTK.out.mono ?_); rintro ev w7 ⟨R7, b2, rfl, hb2, hO7, hB7, hlow, hval, hgw⟩)
      have HO7 := Lib.hid hO7
      have HB7 := Lib.hid hB7
      have HLW := Lib.hid hlow
      have HVA := Lib.hid hval
      have HG7 := Lib.hid (HG6.out.grown hgw (by omega))
      have HV7 := Lib.hid (HV6.out.grown hgw (by omega))
      have HGR7 := Lib.hid (gr_grown HGR6.out hgw hwgu)
      clear hO7 hB7 hlow hval hgw
      go_loopg [12] gq (fun k so wr2 => ∃ (qq : Nat) (ov : Bool) (R2 : Nat → Nat), k = qq ∧ so = .bool ov ∧ Hid (OwnF wr2 gu (m + q.length) R2) ∧ Hid (∀ i, R2 i < B) ∧ Hid (∀ i, i < j → R2 i = R i) ∧ Hid (Over q.length (rv B (fun i => R (j + i)) (q.length + 1)) (val q * 2 ^ s) qq (rv B (fun i => R2 (j + i)) (q.length + 1)) ov) ∧
        Hid (OwnF wr2 w3.heap.size m (fun i => if i = j then qq else G i)) ∧ Hid (CellsAt wr2 gv 0 q.length (vl.getD · 0)) ∧ Hid (Gr w wr2))
      case atStart => exact ⟨gq, (b2 != 0), R7, rfl, rfl, HO7, HB7, HLW, Lib.hid (over_start (rv_lt B _ _ (fun i _ => HB7.out _)) HGQ1.out hgq2 hb2 (by rw [← HVE.out]; exact HVA.out)), HG7, HV7, HGR7⟩
      case round =>
        obtain ⟨qq, ov, R2, hqq, rfl, HO, HB2, HLO, HOV, HGG, HVV, HGRR⟩ := hrel
        have HQQ := Lib.hid hqq
        clear hqq
        cases ov
        case false =>
         as_aux_lemma =>
          obtain ⟨o1, o2⟩ := HOV.out.done HV0.out
          have HNX := Lib.hid (HLG.out.next (by omega) HV0.out HVN.out HB2.out HLO.out o2)
          rw [← o1] at HNX
          clear o1 o2
          go_wp2
          go_roundg j
          case measure => omega
          case rel => exact ⟨R2, _, by omega, by first | rfl | go_num, HO, HGG, Lib.hid (set_lt HGB.out HOV.out.2.2.1), HVV, HNX, HGRR⟩
        case true =>
         as_aux_lemma =>
          obtain ⟨p1, p2⟩ := HOV.out.pos HV0.out
          have hqB := HOV.out.2.2.1
          have hcq := HGG.out.cell (i := j) (by omega)
          try dsimp only at hcq
          rw [if_pos rfl] at hcq
          have hfq := HGG.out.frozen j
          have hqi : (qq : Int) - 1 = ((qq - 1 : Nat) : Int) := by omega
          have hwq : IntKind.u64.wrap ((qq - 1 : Nat) : Int) = ((qq - 1 : Nat) : Int) := wrapN _ (by omega)
          have HO8 := Lib.hid (HO.out.setOther ⟨w3.heap.size, j, none⟩ (.int .u64 ((qq - 1 : Nat) : Int)) (by show gu ≠ w3.heap.size; omega))
          have HV8 := Lib.hid (HVV.out.setOther ⟨w3.heap.size, j, none⟩ (.int .u64 ((qq - 1 : Nat) : Int)) (by show gv ≠ w3.heap.size; omega))
          have HG8 := Lib.hid ((HGG.out.set j (qq - 1)).congr (G := fun i => if i = j then qq - 1 else G i) (fun i _ => by (try dsimp only); by_cases e : i = j; (rw [if_pos e, if_pos e]); (rw [if_neg e, if_neg e, if_neg e])))
          have HGR8 := Lib.hid (HGRR.out.setCell (a := ⟨w3.heap.size, j, none⟩) hwm (.int .u64 ((qq - 1 : Nat) : Int)))
          have hv8 := HV8.out
          rw [← HLEN.out] at hv8
          have hgv8 := gives_calls gu j (m + q.length - j) gv 0 (q.length + 1) (m + q.length) vl R2 _ HO8.out (by rw [HLEN.out]; omega) hv8 HVL.out hgne HB2.out (by rw [HLEN.out]; omega)
          rw [HLEN.out, HVE.out] at hgv8
          have HGV8 := Lib.hid hgv8
          clear hv8 hgv8
          go_wp2_with fail
          (with_reducible refine HGV8.out.mono ?_)
          rintro ev w9 ⟨R9, kk, rfl, hO9, hB9, hlow9, hval9, hgw9⟩
          have HO9 := Lib.hid hO9
          have HB9 := Lib.hid hB9
          have HLW9 := Lib.hid hlow9
          have HG9 := Lib.hid (HG8.out.grown hgw9 (by omega))
          have HV9 := Lib.hid (HV8.out.grown hgw9 (by omega))
          have HGR9 := Lib.hid (gr_grown HGR8.out hgw9 hwgu)
          have hbk := HOV.out.back HV0.out HVN.out (rv_lt B (fun i => R9 (j + i)) (q.length + 1) (fun i _ => hB9 _)) hval9
          have htd := top_digit (fun i => R9 (j + i)) q.length (fun i _ => hB9 _)
          try dsimp only at htd
          have hct := HO9.out.cell (i := j + q.length) (by omega)
          have hdd : ((R9 (j + q.length) : Int) != 0) = decide (B ^ q.length ≤ rv B (fun i => R9 (j + i)) (q.length + 1)) := by
            rw [bne_cast]
            by_cases e : R9 (j + q.length) = 0
            · rw [e, decide_eq_false (fun h => absurd e (htd.2 h))]; rfl
            · rw [decide_eq_true (htd.1 e)]; exact bne_iff_ne.2 e
          generalize decide (B ^ q.length ≤ rv B (fun i => R9 (j + i)) (q.length + 1)) = ov9 at hbk hdd
          generalize R9 (j + q.length) = td at hct hdd
          have HBK := Lib.hid hbk
          clear hO9 hB9 hlow9 hval9 hgw9 hbk htd
          go_wp2
          go_roundg (qq - 1)
          case measure => have := HQQ.out; omega
          case rel => exact ⟨qq - 1, ov9, R9, rfl, by first | rfl | (rw [hdd]), HO9, HB9, Lib.hid (fun i hi => (HLW9.out i hi).trans (HLO.out i hi)), HBK, HG9, HV9, HGR9⟩
    · obtain rfl : gk = 0 := by omega
      rename World => wo
      have hmk2 := make64 q.length (by omega)
      have hRB := HLG.out.1
      have HQUO := Lib.hid ((HLG.out.quot HRM.out).trans HSH.out.1)
      obtain ⟨r1, r2⟩ := HLG.out.rest (by omega)
      have HRST := Lib.hid ((show rv B (shr s R) q.length = _ from (shr_rv s (by omega) R q.length r2).trans (by rw [r1])).trans HSH.out.2)
      clear r1 r2
      have hs1 : (63 - (s : Int)).toNat = 63 - s := by omega
      go_wp2
      clear hmk2
      go_loopg [87] q.length (fun k si wr2 => ∃ (i : Nat) (F : Nat → Nat), k = q.length - i ∧ i ≤ q.length ∧ si = .int .i64 (i : Int) ∧ Hid (OwnF wr2 wo.heap.size q.length F) ∧ Hid (∀ j, F j < B) ∧ Hid (∀ j, j < i → F j = shr s R j) ∧ Hid (Gr wo wr2))
      case atStart => exact ⟨0, fun _ => 0, rfl, Nat.zero_le _, rfl, Lib.hid ((rowU_made wo _).own (by omega)), Lib.hid (fun _ => B_pos), Lib.hid (fun j hj => absurd hj (by omega)), Lib.hid ((Gr.rf wo).alloc (Nat.le_refl _) _)⟩
      case round =>
        obtain ⟨i, F, hk2, hi, rfl, HO, HFB, HFE, HG2⟩ := hrel
        have HK := Lib.hid hk2
        clear hk2
        by_cases hlt : i < q.length
        · have b1 : decide (i < q.length) = true := decide_eq_true hlt
          have hcell := HO.out.cell (i := i) (by omega)
          have hfr := HO.out.frozen i
          have hu0 := (HR.out.gr HG2.out).cell (i := i) (by omega)
          have hu1 := (HR.out.gr HG2.out).cell (i := i + 1) (by omega)
          have hsb := shr_bits (R i) (R (i + 1)) s hs (hRB i) (hRB (i + 1))
          have hsl := shr_limb s hs R hRB i
          have hsd : R i / 2 ^ s + R (i + 1) % 2 ^ s * 2 ^ (64 - s) = shr s R i := rfl
          rw [hsd] at hsb
          have hb1 : (i : Int) < (m : Int) + (q.length : Int) := by omega
          have hb2 : (i : Int) + 1 < (m : Int) + (q.length : Int) := by omega
          have hwi : IntKind.i64.wrap ((i : Int) + 1) = (i : Int) + 1 := by rw [IntKind.wrap_i64]; omega
          have hwi0 : (0 : Int) ≤ (i : Int) + 1 := by omega
          have hwi1 : ((i : Int) + 1).toNat = i + 1 := by omega
          have hws : IntKind.i64.wrap (63 - (s : Int)) = 63 - (s : Int) := by rw [IntKind.wrap_i64]; omega
          have hws0 : (s : Int) ≤ 63 := by omega
          generalize hz : shr s R i = z at *
          generalize R i = x at *
          generalize R (i + 1) = y at *
          generalize F i = old at hcell
          have HZ := Lib.hid hz
          have HSL := Lib.hid hsl
          clear hz hsl hsd
          go_wp2
          have hu0d : wr.drew.cell? ⟨gu, i, none⟩ = some (.int .u64 (x : Int)) := hu0
          have hu1d : wr.drew.cell? ⟨gu, i + 1, none⟩ = some (.int .u64 (y : Int)) := hu1
          refine wp_region_still_tail 19 (by kernel_rfl) (by kernel_rfl) ?_
          simp only [List.take_succ_cons, List.take_zero, List.drop_succ_cons, List.drop_zero]
          change wpStill _ _ wr.drew _ _ _
          generalize wr.drew = W2 at hu0d hu1d ⊢
          repeat still_step
          refine wpStill_nil ?_
          go_wp2
          go_roundg (q.length - (i + 1))
          case measure => have := HK.out; omega
          case rel => exact ⟨i + 1, (fun j => if j = i then z else F j), rfl, by omega, by first | rfl | go_num, Lib.hid (HO.out.set i z), Lib.hid (set_lt HFB.out HSL.out), Lib.hid (set_up HFE.out HZ.out.symm), Lib.hid (gr_drew1 (HG2.out.setCell (a := ⟨wo.heap.size, i, none⟩) (Nat.le_refl _) _))⟩
        · obtain rfl : i = q.length := by omega
          have b1 : decide (q.length < q.length) = false := decide_eq_false (by omega)
          go_wp2
          go_ret2
          refine ⟨_, (List.range m).map fun j => G (0 + j), _, (List.range q.length).map fun j => F (0 + j), rfl, (HG.out.gr HG2.out).lim 0 m m (fun j _ => HGB.out _) (by omega) (Nat.le_refl _) (by omega), HO.out.lim 0 q.length q.length (fun j _ => HFB.out _) (by omega) (Nat.le_refl _) (by omega), ?_, ?_, by simp; omega, by simp; omega, HGR.out.tr HG2.out⟩
          · rw [rv_val, ← HQUO.out]
            exact rv_congr B fun j _ => by rw [Nat.zero_add]
          · rw [rv_val, ← HRST.out]
            exact rv_congr B fun j hj => by rw [Nat.zero_add]; exact HFE.out j hj
end
section
open Go.RowKit Go.Extern.Stop Go.Stop Go.Extern
set_option linter.unusedVariables false
set_option linter.unusedSimpArgs false

set_option maxRecDepth 100000 in
set_option maxHeartbeats 4000000 in
/-- (*Nat).Div by a number of two limbs or more. -/
theorem div2_calls (x y : Value) (a b : Nat) (w : World) (hx : NatAt w x a) (hy : NatAt w y b) (k : Nat) (ha : a < B ^ k) (hb : b < B ^ k) (hk : k ≤ 1000000) (hB : B ≤ b) :
    Calls Tryz.prog 55 #[x, y] w fun e w' => (∃ q r, e = .returned (.tuple #[q, r, .nilIface]) ∧ NatP w' q (a / b) ∧ NatP w' r (a % b)) ∧ Gr w w' := by
  obtain ⟨sa, p, sc, hl, hn, hv, hcl⟩ := limbs_ex x a w hx
  obtain ⟨ta, q, tc, hl2, hn2, hv2, hcl2⟩ := limbs_ex y b w hy
  have h1 := norm_length p hn k (by rw [hv]; exact ha)
  have h2 := norm_length q hn2 k (by rw [hv2]; exact hb)
  have HC := Lib.hid (compare_calls _ _ p q w hl hl2 hn hn2 (by omega) (by omega))
  have hq2 : 2 ≤ q.length := by
    rcases Nat.lt_or_ge q.length 2 with h | h
    · have h3 := val_lt q hl2.1
      have h4 : B ^ q.length ≤ B ^ 1 := Nat.pow_le_pow_right B_pos (by omega)
      rw [Nat.pow_one] at h4
      omega
    · exact h
  subst hv
  subst hv2
  have HL := Lib.hid hcl
  have HM := Lib.hid hcl2
  have HP := Lib.hid hl
  have HQ := Lib.hid hl2
  have HN2 := Lib.hid hn2
  have hpk : p.length ≤ 1000000 := by omega
  have hlen := length_le_of_val p q hl.1 hn2
  have b1 : ((q.length : Int) == 0) = false := beq_eq_false_iff_ne.2 (by omega)
  have b2 : ((q.length : Int) == 1) = false := beq_eq_false_iff_ne.2 (by omega)
  clear hx hy ha hb hn hn2 hcl hcl2 hl hl2 h1 hB
  by_cases hlt : val p < val q
  · have bc : decide (cmpN (val p) (val q) < 0) = true := decide_eq_true (cmpN_neg.2 hlt)
    have HT := Lib.hid hlt
    clear hlt hlen
    generalize hcc : cmpN (val p) (val q) = cc at bc HC
    clear hcc
    go_enter Tryz.func55, Tryz.ntmps55
    go_wp2_with (go_at_call 117; (with_reducible refine HL.out.mono ?_); rintro ev w1 ⟨rfl, rfl⟩)
    go_wp2_with (go_at_call 117; (with_reducible refine HM.out.mono ?_); rintro ev w1 ⟨rfl, rfl⟩)
    go_wp2_with (go_at_call 118; (with_reducible refine HC.out.mono ?_); rintro ev w1 ⟨rfl, hg1⟩)
    go_wp2_with (go_at_call 54; (with_reducible refine (of0_calls _).mono ?_); rintro ev w2 ⟨⟨r1, rfl, hr1⟩, hg2⟩; have HR1 := Lib.hid hr1; clear hr1)
    have HMD := Lib.hid (made_calls _ p w2 (HP.out.gr (hg1.tr hg2)) (by omega))
    go_wp2_with (go_at_call 116; (with_reducible refine HMD.out.mono ?_); rintro ev w3 ⟨⟨r, rfl, hr⟩, hg3⟩; have HR := Lib.hid hr; clear hr)
    go_ret3
    exact ⟨⟨_, _, rfl, by rw [Nat.div_eq_of_lt HT.out]; exact HR1.out.gr hg3, by rw [Nat.mod_eq_of_lt HT.out]; exact HR.out⟩, (hg1.tr hg2).tr hg3⟩
  · have bc : decide (cmpN (val p) (val q) < 0) = false := decide_eq_false (fun h => hlt (cmpN_neg.1 h))
    have hle := hlen (by omega)
    clear hlt hlen
    generalize hcc : cmpN (val p) (val q) = cc at bc HC
    clear hcc
    go_enter Tryz.func55, Tryz.ntmps55
    go_wp2_with (go_at_call 117; (with_reducible refine HL.out.mono ?_); rintro ev w1 ⟨rfl, rfl⟩)
    go_wp2_with (go_at_call 117; (with_reducible refine HM.out.mono ?_); rintro ev w1 ⟨rfl, rfl⟩)
    go_wp2_with (go_at_call 118; (with_reducible refine HC.out.mono ?_); rintro ev w1 ⟨rfl, hg1⟩)
    have HLG := Lib.hid (long_calls _ _ p q w1 (HP.out.gr hg1) (HQ.out.gr hg1) HN2.out hq2 hle hpk)
    go_wp2_with (go_at_call 120; (with_reducible refine HLG.out.mono ?_); rintro ev w2 ⟨v1, l1, v2, l2, rfl, hm1, hm2, he1, he2, hn1, hn2, hg2⟩)
    have HE := Lib.hid (And.intro he1 he2)
    have HN12 := Lib.hid (And.intro hn1 hn2)
    have HM2 := Lib.hid hm2
    have HMD := Lib.hid (made_calls _ l1 w2 hm1 (by omega))
    clear hm1 hm2 he1 he2 hn1 hn2
    go_wp2_with (go_at_call 116; (with_reducible refine HMD.out.mono ?_); rintro ev w3 ⟨⟨r, rfl, hr⟩, hg3⟩; have HR := Lib.hid hr; clear hr)
    have HMD2 := Lib.hid (made_calls _ l2 w3 (HM2.out.gr hg3) (by have := HN12.out.2; omega))
    go_wp2_with (go_at_call 116; (with_reducible refine HMD2.out.mono ?_); rintro ev w4 ⟨⟨r4, rfl, hr4⟩, hg4⟩; have HR4 := Lib.hid hr4; clear hr4)
    go_ret3
    refine ⟨⟨_, _, rfl, ?_, ?_⟩, ((hg1.tr hg2).tr hg3).tr hg4⟩
    · rw [← HE.out.1]; exact HR.out.gr hg4
    · rw [← HE.out.2]; exact HR4.out
/-- (*Nat).Div. -/
theorem div_calls (x y : Value) (a b : Nat) (w : World) (hx : NatAt w x a) (hy : NatAt w y b) (k : Nat) (ha : a < B ^ k) (hb : b < B ^ k) (hk : k ≤ 1000000) :
    Calls Tryz.prog 55 #[x, y] w fun e w' =>
      ((b = 0 → e = .returned (.tuple #[.pointer none, .pointer none, .iface 169 (.int .i64 3)])) ∧ (0 < b → ∃ q r, e = .returned (.tuple #[q, r, .nilIface]) ∧ NatP w' q (a / b) ∧ NatP w' r (a % b))) ∧ Gr w w' := by
  rcases Nat.lt_or_ge b B with h | h
  · exact div1_calls x y a b w hx hy k ha h hk
  · refine (div2_calls x y a b w hx hy k ha hb hk h).mono ?_
    rintro e w' ⟨h1, hg⟩
    exact ⟨⟨fun h0 => absurd h0 (by have := B_pos; omega), fun _ => h1⟩, hg⟩
end
section
open Go.RowKit Go.Extern.Stop Go.Stop Go.Extern
set_option linter.unusedVariables false
set_option linter.unusedSimpArgs false

theorem rv_scale (b : Nat) (F : Nat → Nat) (z n : Nat) (h0 : ∀ j, j < z → F j = 0) : rv b F (z + n) = b ^ z * rv b (fun j => F (z + j)) n := by
  rw [rv_add, rv_nil b F z h0, Nat.zero_add]
/-- The first limb that is not nought. -/
theorem first_limb (F : Nat → Nat) (n : Nat) (h : rv B F n ≠ 0) : ∃ z, z < n ∧ (∀ j, j < z → F j = 0) ∧ F z ≠ 0 := by
  induction n with
  | zero => exact absurd rfl h
  | succ n ih =>
    by_cases h2 : rv B F n = 0
    · refine ⟨n, by omega, fun j hj => ?_, fun e => h (by rw [rv_succ, h2, e, Nat.mul_zero])⟩
      by_cases e : F j = 0
      · exact e
      · exfalso
        have h3 := rv_le B F (j + 1) n (by omega)
        rw [rv_succ] at h3
        have : B ^ j * 1 ≤ B ^ j * F j := Nat.mul_le_mul_left _ (by omega)
        have := Nat.pow_pos (n := j) B_pos
        omega
    · obtain ⟨z, h3, h4, h5⟩ := ih h2
      exact ⟨z, by omega, h4, h5⟩
/-- Its twos are the number's. -/
theorem twos_num (F : Nat → Nat) (z n t o : Nat) (hz : z < n) (h0 : ∀ j, j < z → F j = 0) (hx : F z = 2 ^ t * o) (ho : o % 2 = 1) (ht : t ≤ 63) :
    ∃ p, rv B (fun j => F (z + j)) (n - z) = 2 ^ t * p ∧ p % 2 = 1 ∧ rv B F n = 2 ^ (64 * z + t) * p := by
  obtain ⟨m, hm⟩ : ∃ m, n - z = 1 + m := ⟨n - z - 1, by omega⟩
  have e1 : rv B (fun j => F (z + j)) (n - z) = 2 ^ t * (o + 2 ^ (64 - t) * rv B (fun j => F (z + (1 + j))) m) := by
    rw [hm, rv_add, rv_succ, rv_zero, Nat.pow_zero, Nat.one_mul, Nat.zero_add, Nat.pow_one, Nat.add_zero, hx, Nat.mul_add, ← Nat.mul_assoc, Nat.mul_comm (2 ^ t) (2 ^ (64 - t)), ← B_split t (by omega)]
  refine ⟨_, e1, ?_, ?_⟩
  · obtain ⟨k, hk⟩ : ∃ k, 64 - t = k + 1 := ⟨63 - t, by omega⟩
    rw [hk, Nat.pow_succ, Nat.mul_comm (2 ^ k) 2, Nat.mul_assoc]
    omega
  · rw [show n = z + (n - z) by omega, rv_scale B F z (n - z) h0, e1, B_pow64, Nat.pow_add, Nat.mul_assoc]

set_option maxRecDepth 100000 in
set_option maxHeartbeats 2000000 in
/-- nat.twos. -/
theorem twos_calls (g o c n z t : Nat) (F : Nat → Nat) (w : World) (h : CellsAt w g o n F) (hz : z < n) (h0 : ∀ j, j < z → F j = 0) (hx : F z ≠ 0) (hn : n ≤ 1000000) (ht : t ≤ 63)
    (hcl : ∀ w', Gr w w' → Calls Tryz.prog 241 #[.int .u64 ((F z : Nat) : Int)] w' fun e w2 => e = .returned (.int .i64 (t : Int)) ∧ w' = w2) :
    Calls Tryz.prog 220 #[.slice (some ⟨g, o, none⟩) n c] w fun e w' => e = .returned (.int .i64 ((64 * z + t : Nat) : Int)) ∧ Gr w w' := by
  have HT := Lib.hid hcl
  have HC := Lib.hid h
  have H0 := Lib.hid h0
  clear hcl h h0
  go_enter Tryz.func220, Tryz.ntmps220
  go_wp2
  go_loopg [3] z (fun k si wr => ∃ i : Nat, k = z - i ∧ i ≤ z ∧ si = .int .i64 (i : Int) ∧ Gr w wr)
  case atStart => exact ⟨0, rfl, by omega, rfl, Gr.rf w⟩
  case round =>
    obtain ⟨i, hk, hi, rfl, hgr⟩ := hrel
    have HK := Lib.hid hk
    clear hk
    have hc := (HC.out.gr hgr).2 i (by omega)
    by_cases hlt : i < z
    · rw [H0.out i hlt] at hc
      have hb : ((0 : Nat) : Int) == 0 := rfl
      rw [show ((0 : Nat) : Int) = 0 from rfl] at hc
      go_wp2
      go_roundg (z - (i + 1))
      case measure => have := HK.out; omega
      case rel => exact ⟨i + 1, rfl, by omega, by first | rfl | go_num, by first | exact hgr | exact Gr.drew hgr _⟩
    · obtain rfl : i = z := by omega
      have hb : ((F i : Int) == 0) = false := beq_eq_false_iff_ne.2 (by omega)
      have HTT := HT.out
      generalize F i = x at *
      have HTQ := Lib.hid HTT
      clear HTT
      go_wp2_with (go_at_call 241; (with_reducible refine (HTQ.out _ (by first | exact hgr | exact Gr.drew hgr _)).mono ?_); rintro ev w1 ⟨rfl, rfl⟩)
      go_ret
      exact ⟨ret_int (by omega), by first | exact hgr | exact Gr.drew hgr _⟩

set_option maxRecDepth 100000 in
set_option maxHeartbeats 2000000 in
/-- nat.made at limbs of a block: the slice's own memory is kept. -/
theorem madeOwn_calls (g o c n : Nat) (F : Nat → Nat) (w : World) (h : CellsAt w g o n F) (hn : n ≤ 1000000) (hc : n ≤ c) :
    Calls Tryz.prog 116 #[.slice (some ⟨g, o, none⟩) n c] w fun e w' => e = .returned (.pointer (some ⟨w.heap.size, 0, none⟩)) ∧ ∃ m, m ≤ n ∧ (m = 0 ∨ F (m - 1) ≠ 0) ∧ rv B F m = rv B F n ∧ w' = w.alloc (.cells #[.slice (some ⟨g, o, none⟩) m c] 161) := by
  have HC := Lib.hid h
  clear h
  go_enter Tryz.func116, Tryz.ntmps116
  go_wp2
  go_loopg [0] n (fun k v wr => k ≤ n ∧ v = .slice (some ⟨g, o, none⟩) k c ∧ Hid (rv B F k = rv B F n) ∧ w = wr)
  case atStart => exact ⟨Nat.le_refl _, rfl, Lib.hid rfl, rfl⟩
  case round =>
    obtain ⟨hk, rfl, HV, rfl⟩ := hrel
    by_cases h0 : 0 < gk
    · obtain ⟨j, rfl⟩ : ∃ j, gk = j + 1 := ⟨gk - 1, by omega⟩
      have hc := HC.out.2 j (by omega)
      have hji : ((j + 1 : Nat) : Int) - 1 = (j : Int) := by omega
      have hjn : (j : Int).toNat = j := by omega
      have hpos : decide ((0 : Int) < ((j + 1 : Nat) : Int)) = true := decide_eq_true (by omega)
      by_cases hx : F j = 0
      · have HX := Lib.hid hx
        rw [hx, show ((0 : Nat) : Int) = 0 from rfl] at hc
        clear hx
        go_wp2
        go_roundg j
        case measure => omega
        case rel => exact ⟨by omega, by first | rfl | go_num, Lib.hid (by rw [← HV.out, rv_succ, HX.out, Nat.mul_zero, Nat.add_zero]), rfl⟩
      · have hb : ((F j : Int) == 0) = false := beq_eq_false_iff_ne.2 (by omega)
        have HX := Lib.hid hx
        clear hx
        generalize hf : F j = x at *
        have HF := Lib.hid hf
        clear hf
        go_wp2
        go_ret
        exact ⟨rfl, j + 1, hk, .inr (by rw [Nat.add_sub_cancel, HF.out]; exact HX.out), HV.out, rfl⟩
    · obtain rfl : gk = 0 := by omega
      go_wp2
      go_ret
      exact ⟨rfl, 0, by omega, .inl rfl, HV.out, rfl⟩
end
section
open Go.RowKit Go.Extern.Stop Go.Stop Go.Extern
set_option linter.unusedVariables false
set_option linter.unusedSimpArgs false

/-- A number behind a slice of a block of one's own. -/
def OwnN (w : World) (g N : Nat) (v : Value) (x : Nat) : Prop := ∃ o n c F, v = .slice (some ⟨g, o, none⟩) n c ∧ OwnF w g N F ∧ o + n ≤ N ∧ n ≤ c ∧ c ≤ 9223372036854775807 ∧ n ≤ 1000000 ∧ (∀ j, F j < B) ∧
  (n = 0 ∨ F (o + (n - 1)) ≠ 0) ∧ rv B (fun j => F (o + j)) n = x
theorem OwnN.of_block {w w' : World} {g N x : Nat} {v : Value} (h : OwnN w g N v x) (e : w'.heap[g]? = w.heap[g]?) : OwnN w' g N v x := by
  obtain ⟨o, n, c, F, h1, h2, h3⟩ := h
  exact ⟨o, n, c, F, h1, h2.of_block e, h3⟩
theorem OwnN.lt {w : World} {g N x : Nat} {v : Value} (h : OwnN w g N v x) : g < w.heap.size := by
  obtain ⟨o, n, c, F, h1, h2, h3⟩ := h
  exact h2.lt
theorem OwnN.gr {w w' : World} {g N x : Nat} {v : Value} (h : OwnN w g N v x) (hg : Gr w w') : OwnN w' g N v x := h.of_block (hg.block g h.lt)
theorem OwnN.grown {w w' : World} {g k N x : Nat} {v : Value} (h : OwnN w g N v x) (hg : w.grownBy w' (some k)) (hne : g ≠ k) : OwnN w' g N v x := h.of_block (hg.block g h.lt (fun e => hne (by injection e)))
theorem row_norm (F : Nat → Nat) (n : Nat) (h : n = 0 ∨ F (n - 1) ≠ 0) : Norm ((List.range n).map F) := by
  unfold Norm
  cases n with
  | zero => simp
  | succ n =>
    rw [List.range_succ, List.map_append, List.map_cons, List.map_nil, List.getLast?_concat]
    intro e
    injection e with e
    rcases h with h | h
    · omega
    · exact h e
theorem OwnN.lim {w : World} {g N x : Nat} {v : Value} (h : OwnN w g N v x) : ∃ l, Lim w v l ∧ Norm l ∧ val l = x ∧ l.length ≤ 1000000 := by
  obtain ⟨o, n, c, F, rfl, h2, h3, h4, h5, h6, h7, h8, h9⟩ := h
  refine ⟨(List.range n).map fun j => F (o + j), h2.lim o n c (fun j _ => h7 _) h3 h4 h5, row_norm _ _ h8, by rw [rv_val]; exact h9, by simpa using h6⟩
theorem grown_gr0 {b w w' : World} {g : Nat} (h : Gr b w) (hg : w.grownBy w' (some g)) (hb : b.heap.size ≤ g) : Gr b w' := grown_gr h hg hb
/-- The row of what is shifted, nought beyond its end. -/
def upTo (F : Nat → Nat) (o n i : Nat) : Nat := if i < n then F (o + i) else 0
theorem upTo_in {F : Nat → Nat} {o n i : Nat} (h : i < n) : upTo F o n i = F (o + i) := if_pos h
theorem upTo_out {F : Nat → Nat} {o n i : Nat} (h : ¬ i < n) : upTo F o n i = 0 := if_neg h
theorem upTo_lt {F : Nat → Nat} {o n : Nat} (h : ∀ j, F j < B) (i : Nat) : upTo F o n i < B := by
  unfold upTo; split
  · exact h _
  · exact B_pos
theorem odd_last (t : Nat) (R : Nat → Nat) (i : Nat) (h : R (i + 1) = 0) : shr t R i = R i / 2 ^ t := by unfold shr; rw [h, Nat.zero_mod, Nat.zero_mul, Nat.add_zero]
theorem two_exp (t p t' p' : Nat) (h : 2 ^ t * p = 2 ^ t' * p') (hp : p % 2 = 1) (hp' : p' % 2 = 1) : t = t' := by
  have e := two_unique t p t' p' h hp hp'
  subst e
  have h2 := Nat.eq_of_mul_eq_mul_right (by omega : 0 < p') h
  rcases Nat.lt_trichotomy t t' with h3 | h3 | h3
  · have := Nat.pow_lt_pow_right (by decide : 1 < 2) h3; omega
  · exact h3
  · have := Nat.pow_lt_pow_right (by decide : 1 < 2) h3; omega
theorem lim_cells {w : World} {v : Value} {l : List Nat} (h : Lim w v l) (hne : 0 < l.length) : ∃ g o c, v = .slice (some ⟨g, o, none⟩) l.length c ∧ l.length ≤ c ∧ CellsAt w g o l.length (l.getD · 0) := by
  obtain ⟨g, o, c, h1, h2, h3, h4⟩ := h.at hne
  refine ⟨g, o, c, h1, h2, h3, fun j hj => ?_⟩
  rw [h4 w (Gr.rf w) j hj]
  show _ = some (Value.int .u64 ((l.getD j 0 : Nat) : Int))
  rw [List.getD_eq_getElem?_getD, List.getElem?_eq_getElem hj]; rfl
/-- nat.twos of a number behind a slice. -/
theorem twosL_calls (v : Value) (l : List Nat) (w : World) (hT : BitTab w) (h : Lim w v l) (hx : val l ≠ 0) (hn : l.length ≤ 1000000) (t p : Nat) (e : val l = 2 ^ t * p) (hp : p % 2 = 1) :
    Calls Tryz.prog 220 #[v] w fun e w' => e = .returned (.int .i64 (t : Int)) ∧ Gr w w' := by
  have hne : 0 < l.length := List.length_pos_iff.2 (by rintro rfl; exact hx rfl)
  obtain ⟨g, o, c, rfl, hc, hcells⟩ := lim_cells h hne
  have hrl := rv_list l l.length (Nat.le_refl _)
  obtain ⟨z, hz, h0, hfz⟩ := first_limb (l.getD · 0) l.length (by rw [hrl]; exact hx)
  obtain ⟨t0, o0, e1, e2, ht, hcl⟩ := tz_ex (l.getD z 0) hfz (getD_lt h.1 z)
  obtain ⟨p', _, f2, f3⟩ := twos_num (l.getD · 0) z l.length t0 o0 hz h0 e1 e2 ht
  rw [hrl, e] at f3
  rw [two_exp _ _ _ _ f3 hp f2]
  exact twos_calls g o c l.length z t0 (l.getD · 0) w hcells hz h0 hfz hn ht (fun w' hg => hcl w' (hT.gr hg))

theorem OwnN.cells {w : World} {g N x : Nat} {v : Value} (h : OwnN w g N v x) : ∃ o n c F, v = .slice (some ⟨g, o, none⟩) n c ∧ OwnF w g N F ∧ o + n ≤ N ∧ n ≤ c ∧ c ≤ 9223372036854775807 ∧ n ≤ 1000000 ∧ (∀ j, F j < B) ∧ rv B (fun j => F (o + j)) n = x := by
  obtain ⟨o, n, c, F, h1, h2, h3, h4, h5, h6, h7, h8, h9⟩ := h
  exact ⟨o, n, c, F, h1, h2, h3, h4, h5, h6, h7, h9⟩

set_option maxRecDepth 100000 in
set_option maxHeartbeats 8000000 in
/-- nat.odd. -/
theorem odd_calls (g N : Nat) (v : Value) (x : Nat) (w : World) (hT : BitTab w) (h : OwnN w g N v x) (hx : x ≠ 0) (t p : Nat) (e : x = 2 ^ t * p) (hp : p % 2 = 1) :
    Calls Tryz.prog 221 #[v] w fun e w' => (∃ v', e = .returned v' ∧ OwnN w' g N v' p) ∧ w.grownBy w' (some g) := by
  obtain ⟨o, n, c, F, rfl, hF, hoN, hnc, hcc, hn6, hFB, hv⟩ := h.cells
  obtain ⟨z, hz, h0, hfz⟩ := first_limb (fun j => F (o + j)) n (by rw [hv]; exact hx)
  obtain ⟨t0, o0, e1, e2, ht, hcl⟩ := tz_ex (F (o + z)) hfz (hFB _)
  obtain ⟨p', f1, f2, f3⟩ := twos_num (fun j => F (o + j)) z n t0 o0 hz h0 e1 e2 ht
  rw [hv, e] at f3
  have et := two_exp _ _ _ _ f3 hp f2
  obtain rfl := two_unique _ _ _ _ f3 hp f2
  subst et
  have HT := Lib.hid (twos_calls g o c n z t0 (fun j => F (o + j)) w (hF.cells o n hoN) hz h0 hfz hn6 ht (fun w' hg => hcl w' (hT.gr hg)))
  obtain ⟨n', hn'⟩ : ∃ n', n - z = n' := ⟨_, rfl⟩
  rw [hn'] at f1
  have hR : rv B (upTo F (o + z) n') n' = 2 ^ t0 * p' := by
    rw [← f1]
    exact rv_congr B fun j hj => by rw [upTo_in hj, Nat.add_assoc]
  have hsh := shr_rv t0 (by omega) (upTo F (o + z) n') n' (upTo_out (by omega))
  rw [hR, Nat.mul_div_cancel_left _ (Nat.two_pow_pos t0)] at hsh
  have HSH := Lib.hid hsh
  have HFF := Lib.hid hF
  have HFB := Lib.hid hFB
  have q1 : (64 * (z : Int) + (t0 : Int)) / 64 = (z : Int) := by omega
  have q2 : (64 * (z : Int) + (t0 : Int)) % 64 = (t0 : Int) := by omega
  have q3 : ((64 * z + t0 : Nat) : Int) = 64 * (z : Int) + (t0 : Int) := by omega
  rw [q3] at HT
  have hzn : (z : Int) ≤ (n : Int) := by omega
  have hzz : (z : Int).toNat = z := by omega
  have hnz : z + n' = n := by omega
  clear h hF hx e hp h0 hfz e1 e2 hcl f1 f2 f3 hR hsh hv hFB q3
  go_enter Tryz.func221, Tryz.ntmps221
  go_wp2_with fail
  refine HT.out.mono ?_
  rintro ev w1 ⟨rfl, hg1⟩
  have HG1 := Lib.hid hg1
  have HF1 := Lib.hid (HFF.out.gr hg1)
  clear hg1
  go_wp2_with fail
  rw [q1, q2]
  clear q1 q2
  have hs1 : (63 - (t0 : Int)).toNat = 63 - t0 := by omega
  have hws : IntKind.i64.wrap (63 - (t0 : Int)) = 63 - (t0 : Int) := by rw [IntKind.wrap_i64]; omega
  have hws0 : (t0 : Int) ≤ 63 := by omega
  have hn'6 : n' ≤ 1000000 := by omega
  go_loopg [15] n' (fun k si wr => ∃ (i : Nat) (F2 : Nat → Nat), k = n' - i ∧ i ≤ n' ∧ si = .int .i64 (i : Int) ∧ Hid (OwnF wr g N F2) ∧ Hid (∀ j, F2 j < B) ∧ Hid (∀ j, j < i → F2 (o + z + j) = shr t0 (upTo F (o + z) n') j) ∧ Hid (∀ j, i ≤ j → F2 (o + z + j) = F (o + z + j)) ∧ Hid (w.grownBy wr (some g)))
  case atStart => exact ⟨0, F, rfl, Nat.zero_le _, rfl, HF1, HFB, Lib.hid (fun j hj => absurd hj (by omega)), Lib.hid (fun _ _ => rfl), Lib.hid (grownBy_tr (grownBy_rf w g) HG1.out)⟩
  case round =>
    obtain ⟨i, F2, hk, hi, rfl, HO, HF2, HE1, HE2, HGW⟩ := hrel
    have HK := Lib.hid hk
    clear hk
    by_cases hlt : i < n'
    · have b1 : decide (i < n') = true := decide_eq_true hlt
      have hcell := HO.out.cell (i := o + z + i) (by omega)
      have hfr := HO.out.frozen (o + z + i)
      have hx := HE2.out i (Nat.le_refl _)
      rw [hx] at hcell
      have hxB := HFB.out (o + z + i)
      have hwi : IntKind.i64.wrap ((i : Int) + 1) = (i : Int) + 1 := by rw [IntKind.wrap_i64]; omega
      have hwi0 : (0 : Int) ≤ (i : Int) + 1 := by omega
      have hwi1 : ((i : Int) + 1).toNat = i + 1 := by omega
      have hd1 : (F (o + z + i) : Int) / 2 ^ t0 = ((F (o + z + i) / 2 ^ t0 : Nat) : Int) := by rw [Int.natCast_ediv, Int.natCast_pow]; rfl
      have hdB : F (o + z + i) / 2 ^ t0 < B := Nat.lt_of_le_of_lt (Nat.div_le_self _ _) hxB
      have hoi : o + z + i < N := by omega
      by_cases hl2 : i + 1 < n'
      · have b2 : decide ((i : Int) + 1 < (n' : Int)) = true := decide_eq_true (by omega)
        have b2n : decide (i + 1 < n') = true := decide_eq_true hl2
        have b2i : (i : Int) + 1 < (n' : Int) := by omega
        have hy := HE2.out (i + 1) (by omega)
        have hsb := shr_bits (F (o + z + i)) (F (o + z + (i + 1))) t0 ht hxB (HFB.out _)
        rw [hd1] at hsb
        have hsv : F (o + z + i) / 2 ^ t0 + F (o + z + (i + 1)) % 2 ^ t0 * 2 ^ (64 - t0) = shr t0 (upTo F (o + z) n') i := by
          unfold shr; rw [upTo_in hlt, upTo_in hl2]
        rw [hsv] at hsb
        have hsl := shr_limb t0 ht (upTo F (o + z) n') (upTo_lt HFB.out) i
        have HS1 := Lib.hid (HO.out.set (o + z + i) (F (o + z + i) / 2 ^ t0))
        have hc1 := HS1.out.cell (i := o + z + i) hoi
        have hc2 := HS1.out.cell (i := o + z + (i + 1)) (by omega)
        have hf1 := HS1.out.frozen (o + z + i)
        try dsimp only at hc1 hc2
        rw [if_pos rfl] at hc1
        rw [if_neg (by omega), hy] at hc2
        generalize hz1 : shr t0 (upTo F (o + z) n') i = sv at *
        generalize hxd : F (o + z + i) / 2 ^ t0 = xd at *
        generalize F (o + z + i) = xx at *
        generalize F (o + z + (i + 1)) = yy at *
        have HZ1 := Lib.hid hz1
        have HSL := Lib.hid hsl
        have hd_lt := Lib.hid hdB
        clear hx hxB hdB hy hsv hsl hz1 hxd
        go_wp2
        generalize hW1 : wr.setCell ⟨g, o + z + i, none⟩ (.int .u64 (xd : Int)) = W1 at hc1 hc2 hf1 ⊢
        have HW1 := Lib.hid hW1
        clear hW1 hcell hfr hf1
        have hd1' : W1.drew.cell? ⟨g, o + z + i, none⟩ = some (.int .u64 (xd : Int)) := hc1
        have hd2' : W1.drew.cell? ⟨g, o + z + (i + 1), none⟩ = some (.int .u64 (yy : Int)) := hc2
        have hf1' : W1.frozen? ⟨g, o + z + i, none⟩ = false := by rw [← HW1.out]; exact HS1.out.frozen _
        refine wp_region_still_tail 15 (by kernel_rfl) (by kernel_rfl) ?_
        simp only [List.take_succ_cons, List.take_zero, List.drop_succ_cons, List.drop_zero]
        change wpStill _ _ W1.drew _ _ _
        generalize W1.drew = W2 at hd1' hd2' ⊢
        repeat still_step
        refine wpStill_nil ?_
        go_wp2
        go_roundg (n' - (i + 1))
        case measure => have := HK.out; omega
        case rel => exact ⟨i + 1, (fun j => if j = o + z + i then sv else (if j = o + z + i then xd else F2 j)), rfl, by omega, by first | rfl | go_num, Lib.hid (by have h := HS1.out.set (o + z + i) sv; rw [HW1.out] at h; exact h), Lib.hid (set_lt (set_lt HF2.out hd_lt.out) HSL.out), Lib.hid (fun j hj => by
          by_cases e : j = i
          · subst e; dsimp only; rw [if_pos rfl]; exact HZ1.out.symm
          · dsimp only; rw [if_neg (by omega), if_neg (by omega)]; exact HE1.out j (by omega)), Lib.hid (fun j hj => by dsimp only; rw [if_neg (by omega), if_neg (by omega)]; exact HE2.out j (by omega)), Lib.hid (by
          have h := grownBy_set (grownBy_set HGW.out (o + z + i) (.int .u64 (xd : Int))) (o + z + i) (.int .u64 (sv : Int))
          rw [HW1.out] at h
          exact grownBy_drew h 1)⟩
      · have b2 : decide ((i : Int) + 1 < (n' : Int)) = false := decide_eq_false (by omega)
        have b2n : decide (i + 1 < n') = false := decide_eq_false hl2
        have hsv := odd_last t0 (upTo F (o + z) n') i (upTo_out hl2)
        rw [upTo_in hlt] at hsv
        have HS1 := Lib.hid (HO.out.set (o + z + i) (F (o + z + i) / 2 ^ t0))
        generalize hxd : F (o + z + i) / 2 ^ t0 = xd at *
        generalize F (o + z + i) = xx at *
        have HSV := Lib.hid hsv
        have HDB := Lib.hid hdB
        clear hx hxB hdB hsv hxd
        go_wp2
        go_roundg (n' - (i + 1))
        case measure => have := HK.out; omega
        case rel => exact ⟨i + 1, (fun j => if j = o + z + i then xd else F2 j), rfl, by omega, by first | rfl | go_num, HS1, Lib.hid (set_lt HF2.out HDB.out), Lib.hid (fun j hj => by
          by_cases e : j = i
          · subst e; dsimp only; rw [if_pos rfl]; exact HSV.out.symm
          · dsimp only; rw [if_neg (by omega)]; exact HE1.out j (by omega)), Lib.hid (fun j hj => by dsimp only; rw [if_neg (by omega)]; exact HE2.out j (by omega)), Lib.hid (grownBy_set HGW.out _ _)⟩
    · obtain rfl : i = n' := by omega
      have b1 : decide (i < i) = false := decide_eq_false (by omega)
      have hmd := madeOwn_calls g (o + z) (c - z) i (fun j => F2 (o + z + j)) wr (HO.out.cells (o + z) i (by omega)) hn'6 (by omega)
      have HMD := Lib.hid hmd
      have hval : rv B (fun j => F2 (o + z + j)) i = p' := by
        rw [← HSH.out]
        exact rv_congr B fun j hj => HE1.out j hj
      have HVL := Lib.hid hval
      clear hmd hval
      go_wp2_with fail
      (with_reducible refine HMD.out.mono ?_)
      rintro ev w2 ⟨rfl, m, hm1, hm2, hm3, rfl⟩
      have HM2 := Lib.hid hm2
      have HM3 := Lib.hid hm3
      clear hm2 hm3
      go_wp2
      go_ret
      exact ⟨⟨_, rfl, o + z, m, c - z, F2, rfl, HO.out.of_block (Below.heap_alloc wr _ g HO.out.lt), by omega, by omega, by omega, by omega, HF2.out, HM2.out, by rw [HM3.out]; exact HVL.out⟩, grownBy_alloc HGW.out _⟩
end
section
open Go.RowKit Go.Extern.Stop Go.Stop Go.Extern
set_option linter.unusedVariables false
set_option linter.unusedSimpArgs false

set_option maxRecDepth 100000 in
set_option maxHeartbeats 8000000 in
/-- nat.less. -/
theorem less_calls (g N h M : Nat) (u v : Value) (x y : Nat) (w : World) (hx : OwnN w g N u x) (hy : OwnN w h M v y) (hgh : h ≠ g) (hlt : y < x) :
    Calls Tryz.prog 222 #[u, v] w fun e w' => (∃ u', e = .returned u' ∧ OwnN w' g N u' (x - y)) ∧ w.grownBy w' (some g) := by
  obtain ⟨lq, hlq, hnq, hvq, hlq6⟩ := hy.lim
  obtain ⟨o, n, c, F, rfl, hF, hoN, hnc, hcc, hn6, hFB, hv⟩ := hx.cells
  obtain ⟨ya, yc, rfl⟩ := hlq.slice
  have hpl : ((List.range n).map fun j => F (o + j)).length = n := by simp
  have hpL : Limbs ((List.range n).map fun j => F (o + j)) := fun z hz => by
    obtain ⟨j, _, rfl⟩ := List.mem_map.1 hz
    exact hFB _
  have hpv : val ((List.range n).map fun j => F (o + j)) = x := by rw [rv_val]; exact hv
  have hpg : ∀ j, j < n → ((List.range n).map fun j => F (o + j)).getD j 0 = F (o + j) := fun j hj => row_getD (fun j => F (o + j)) n j hj
  generalize (List.range n).map (fun j => F (o + j)) = p at hpl hpL hpv hpg
  have hle : lq.length ≤ n := by rw [← hpl]; exact length_le_of_val p lq hpL hnq (by omega)
  have hsv := val_sub p lq hpL hlq.1 (by omega) (by omega)
  rw [hpl, hpv, hvq] at hsv
  have HSV := Lib.hid hsv
  have HPG := Lib.hid hpg
  have HFF := Lib.hid hF
  have HFB := Lib.hid hFB
  have HQ := Lib.hid hlq
  have HGH := Lib.hid hgh
  have hqg : ∀ w', w.grownBy w' (some g) → ∀ i, i < lq.length → ∃ g2 o2 c2, (Value.slice ya lq.length yc = .slice (some ⟨g2, o2, none⟩) lq.length c2) ∧ w'.cell? ⟨g2, o2 + i, none⟩ = some (.int .u64 ((lq.getD i 0 : Nat) : Int)) := fun w' hg i hi => by
    obtain ⟨o', n', c', F', e1, h2, _⟩ := hy
    obtain ⟨g2, o2, c2, e3, _, hc⟩ := lim_cells hlq (by omega)
    cases e3
    cases e1
    exact ⟨_, _, _, rfl, (hc.grown hg hgh).2 i hi⟩
  have HQG := Lib.hid hqg
  clear hx hy hlt hlq hnq hvq hlq6 hF hFB hv hpL hpv hpg hsv hgh hqg
  go_enter Tryz.func222, Tryz.ntmps222
  go_wp2
  go_loopg [5, 10] n (fun k sb si wr => ∃ (i : Nat) (F2 : Nat → Nat), k = n - i ∧ i ≤ n ∧ sb = .int .u64 ((subC (p.getD · 0) (lq.getD · 0) i : Nat) : Int) ∧ si = .int .i64 (i : Int) ∧ Hid (OwnF wr g N F2) ∧ Hid (∀ j, F2 j < B) ∧ Hid (∀ j, j < i → F2 (o + j) = subD (p.getD · 0) (lq.getD · 0) j) ∧ Hid (∀ j, i ≤ j → F2 (o + j) = F (o + j)) ∧ Hid (w.grownBy wr (some g)))
  case atStart => exact ⟨0, F, rfl, Nat.zero_le _, rfl, rfl, HFF, HFB, Lib.hid (fun j hj => absurd hj (by omega)), Lib.hid (fun _ _ => rfl), Lib.hid (grownBy_rf w g)⟩
  case round =>
    obtain ⟨i, F2, hk, hi, rfl, rfl, HO, HF2, HE1, HE2, HGW⟩ := hrel
    have HK := Lib.hid hk
    clear hk
    by_cases hlt : i < n
    · have b1 : decide (i < n) = true := decide_eq_true hlt
      have hcell := HO.out.cell (i := o + i) (by omega)
      have hfr := HO.out.frozen (o + i)
      rw [HE2.out i (Nat.le_refl _), ← HPG.out i hlt] at hcell
      have hsb := sub64_run (p.getD i 0) (lq.getD i 0) (subC (p.getD · 0) (lq.getD · 0) i) (subC_le _ _ i)
      have hsd : suLo (p.getD i 0) (lq.getD i 0) (subC (p.getD · 0) (lq.getD · 0) i) = subD (p.getD · 0) (lq.getD · 0) i := rfl
      have hsc : suHi (p.getD i 0) (lq.getD i 0) (subC (p.getD · 0) (lq.getD · 0) i) = subC (p.getD · 0) (lq.getD · 0) (i + 1) := rfl
      rw [hsd, hsc] at hsb
      have hsl : subD (p.getD · 0) (lq.getD · 0) i < B := suLo_lt _ _ _
      have hq0 : ¬ i < lq.length → lq.getD i 0 = 0 := fun h => by rw [List.getD_eq_getElem?_getD, List.getElem?_eq_none (by omega)]; rfl
      have hqc := HQG.out wr HGW.out i
      generalize hdd : subD (p.getD · 0) (lq.getD · 0) i = d at *
      generalize hc2 : subC (p.getD · 0) (lq.getD · 0) (i + 1) = c2 at *
      generalize subC (p.getD · 0) (lq.getD · 0) i = c1 at *
      generalize p.getD i 0 = xx at *
      have HDD := Lib.hid hdd
      have HC2 := Lib.hid hc2
      have HSL := Lib.hid hsl
      clear hdd hc2 hsl hsd hsc
      by_cases hlq2 : i < lq.length
      case' pos =>
        have b2 : decide (i < lq.length) = true := decide_eq_true hlq2
        obtain ⟨g2, o2, c3, e2, hcq⟩ := hqc hlq2
        cases e2
        clear hq0 hqc
        generalize lq.getD i 0 = yy at *
      case' neg =>
        have b2 : decide (i < lq.length) = false := decide_eq_false hlq2
        rw [hq0 hlq2, show ((0 : Nat) : Int) = 0 from rfl] at hsb
        clear hq0 hqc
      all_goals
        go_wp2
        go_roundg (n - (i + 1))
        case measure => have := HK.out; omega
        case rel => exact ⟨i + 1, (fun j => if j = o + i then d else F2 j), rfl, by omega, by rw [HC2.out], by first | rfl | go_num, Lib.hid (HO.out.set (o + i) d), Lib.hid (set_lt HF2.out HSL.out), Lib.hid (fun j hj => by
          by_cases e : j = i
          · subst e; dsimp only; rw [if_pos rfl]; exact HDD.out.symm
          · dsimp only; rw [if_neg (by omega)]; exact HE1.out j (by omega)), Lib.hid (fun j hj => by dsimp only; rw [if_neg (by omega)]; exact HE2.out j (by omega)), Lib.hid (grownBy_set HGW.out _ _)⟩
    · obtain rfl : i = n := by omega
      have b1 : decide (i < i) = false := decide_eq_false (by omega)
      have hmd := madeOwn_calls g o c i (fun j => F2 (o + j)) wr (HO.out.cells o i (by omega)) hn6 (by omega)
      have HMD := Lib.hid hmd
      have hval : rv B (fun j => F2 (o + j)) i = x - y := by
        rw [← HSV.out, rv_val]
        exact rv_congr B fun j hj => HE1.out j hj
      have HVL := Lib.hid hval
      clear hmd hval
      go_wp2_with fail
      (with_reducible refine HMD.out.mono ?_)
      rintro ev w2 ⟨rfl, m, hm1, hm2, hm3, rfl⟩
      have HM2 := Lib.hid hm2
      have HM3 := Lib.hid hm3
      clear hm2 hm3
      go_wp2
      go_ret
      exact ⟨⟨_, rfl, o, m, c, F2, rfl, HO.out.of_block (Below.heap_alloc wr _ g HO.out.lt), by omega, by omega, by omega, by omega, HF2.out, HM2.out, by rw [HM3.out]; exact HVL.out⟩, grownBy_alloc HGW.out _⟩

theorem two_parts (x : Nat) (h : x ≠ 0) : ∃ t p, x = 2 ^ t * p ∧ p % 2 = 1 := by
  induction x using Nat.strongRecOn with
  | _ x ih =>
    rcases Nat.mod_two_eq_zero_or_one x with h2 | h2
    · obtain ⟨t, p, e1, e2⟩ := ih (x / 2) (by omega) (by omega)
      refine ⟨t + 1, p, ?_, e2⟩
      rw [Nat.pow_succ, Nat.mul_comm (2 ^ t) 2, Nat.mul_assoc, ← e1]
      omega
    · exact ⟨0, x, by simp, h2⟩
theorem two_le (x t p k : Nat) (e : x = 2 ^ t * p) (hp : p % 2 = 1) (hx : x < B ^ k) : t ≤ 64 * k ∧ p ≤ x := by
  have h1 : 2 ^ t * 1 ≤ 2 ^ t * p := Nat.mul_le_mul_left _ (by omega)
  rw [B_pow64] at hx
  refine ⟨?_, by rw [e]; exact Nat.le_mul_of_pos_left _ (Nat.two_pow_pos t)⟩
  have h2 : 2 ^ t < 2 ^ (64 * k) := by omega
  exact Nat.le_of_lt ((Nat.pow_lt_pow_iff_right (by decide : 1 < 2)).1 h2)
set_option maxRecDepth 100000 in
/-- slices.Clone of a number's limbs. -/
theorem cloneN_calls (x : Value) (p : List Nat) (w : World) (hx : Lim w x p) (hn : Norm p) (hne : 0 < p.length) (hl : p.length ≤ 1000000) :
    Calls Tryz.prog 124 #[x] w fun e w' => (∃ g v, e = .returned v ∧ OwnN w' g p.length v (val p) ∧ w.heap.size ≤ g) ∧ Gr w w' := by
  obtain ⟨g, o, c, rfl, hc, hcells⟩ := lim_cells hx hne
  refine (clone_calls g o p.length c p w rfl hl hcells.2).mono ?_
  rintro e w' ⟨v, rfl, hw, hb⟩
  obtain ⟨g2, c2, rfl, hg2, hc2, hc3, hO⟩ := ownF_of hw hne
  refine ⟨⟨g2, _, rfl, ⟨0, p.length, c2, _, rfl, hO, by omega, hc2, hc3, hl, getD_lt hx.1, ?_, ?_⟩, hg2⟩, Gr.below hb⟩
  · refine .inr fun e => hn ?_
    rw [Nat.zero_add] at e
    rw [List.getLast?_eq_getElem?, List.getElem?_eq_getElem (by omega)]
    rw [List.getD_eq_getElem?_getD, List.getElem?_eq_getElem (by omega)] at e
    rw [← e]; rfl
  · rw [← rv_list p p.length (Nat.le_refl _)]
    exact rv_congr B fun j _ => by rw [Nat.zero_add]

set_option maxRecDepth 100000 in
set_option maxHeartbeats 8000000 in
/-- nat.common. -/
theorem common_calls (x y : Value) (l1 l2 : List Nat) (w : World) (hT : BitTab w) (hx : Lim w x l1) (hy : Lim w y l2) (hn1 : Norm l1) (hn2 : Norm l2) (h10 : val l1 ≠ 0) (h20 : val l2 ≠ 0) (k : Nat) (h1k : val l1 < B ^ k) (h2k : val l2 < B ^ k) (hk : k ≤ 100000) :
    Calls Tryz.prog 183 #[x, y] w fun e w' => (∃ r, e = .returned r ∧ NatAt w' r (Nat.gcd (val l1) (val l2))) ∧ Gr w w' := by
  obtain ⟨s, p', e1, e2⟩ := two_parts (val l1) h10
  obtain ⟨t, q', e3, e4⟩ := two_parts (val l2) h20
  obtain ⟨hs, hp⟩ := two_le _ s p' k e1 e2 h1k
  obtain ⟨ht, hq⟩ := two_le _ t q' k e3 e4 h2k
  have hl1 := norm_length l1 hn1 k h1k
  have hl2 := norm_length l2 hn2 k h2k
  have hg : Nat.gcd (val l1) (val l2) = Nat.gcd p' q' * 2 ^ min s t := by rw [e1, e3, gcd_twos s t p' q' e2 e4, Nat.mul_comm]
  rw [hg]
  have hmm : min (s : Int) (t : Int) = ((min s t : Nat) : Int) := by omega
  have hmb : 2 ^ min s t ≤ val l1 := by
    rw [e1]
    calc 2 ^ min s t ≤ 2 ^ s := Nat.pow_le_pow_right (by decide) (Nat.min_le_left _ _)
      _ ≤ 2 ^ s * p' := Nat.le_mul_of_pos_right _ (by omega)
  have hm63 : min s t ≤ 6400000 := by omega
  generalize min s t = m at hg hmm hm63 hmb ⊢
  have H1 := Lib.hid (twosL_calls x l1 w hT hx h10 (by omega) s p' e1 e2)
  have H2 := Lib.hid (fun w' (hg : Gr w w') => twosL_calls y l2 w' (hT.gr hg) (hy.gr hg) h20 (by omega) t q' e3 e4)
  have hne1 : 0 < l1.length := List.length_pos_iff.2 (by rintro rfl; exact h10 rfl)
  have hne2 : 0 < l2.length := List.length_pos_iff.2 (by rintro rfl; exact h20 rfl)
  have HC1 := Lib.hid (fun w' (hg : Gr w w') => cloneN_calls x l1 w' (hx.gr hg) hn1 hne1 (by omega))
  have HC2 := Lib.hid (fun w' (hg : Gr w w') => cloneN_calls y l2 w' (hy.gr hg) hn2 hne2 (by omega))
  have HTT := Lib.hid hT
  have HP := Lib.hid (And.intro e2 (Nat.lt_of_le_of_lt hp h1k))
  have HQ := Lib.hid (And.intro e4 (Nat.lt_of_le_of_lt hq h2k))
  have HE := Lib.hid (And.intro e1 e3)
  have H0 := Lib.hid (And.intro h10 h20)
  have HMB := Lib.hid (Nat.lt_of_le_of_lt hmb h1k)
  clear hT hx hy hn1 hn2 e1 e2 e3 e4 hs hp ht hq hg h10 h20 h1k h2k hmb hne1 hne2
  go_enter Tryz.func183, Tryz.ntmps183
  go_wp2_with fail
  refine H1.out.mono ?_
  rintro ev w1 ⟨rfl, hg1⟩
  go_wp2_with fail
  refine (H2.out _ hg1).mono ?_
  rintro ev w2 ⟨rfl, hg2⟩
  have HG2 := Lib.hid (hg1.tr hg2)
  clear hg1 hg2
  go_wp2_with fail
  refine (HC1.out _ HG2.out).mono ?_
  rintro ev w3 ⟨⟨g, v1, rfl, how1, hg1⟩, hgr3⟩
  have HG3 := Lib.hid (HG2.out.tr hgr3)
  have hwg : w.heap.size ≤ g := Nat.le_trans HG2.out.size hg1
  have HD1 := Lib.hid (odd_calls g l1.length v1 (val l1) w3 (HTT.out.gr HG3.out) how1 H0.out.1 s p' HE.out.1 HP.out.1)
  clear hgr3 how1 hg1
  go_wp2_with fail
  refine HD1.out.mono ?_
  rintro ev w4 ⟨⟨u1, rfl, how4⟩, hgw4⟩
  have HO4 := Lib.hid how4
  have HG4 := Lib.hid (gr_grown HG3.out hgw4 hwg)
  clear how4 hgw4
  go_wp2_with fail
  refine (HC2.out _ HG4.out).mono ?_
  rintro ev w5 ⟨⟨h, v2, rfl, how5, hh1⟩, hgr5⟩
  have HG5 := Lib.hid (HG4.out.tr hgr5)
  have hgh : g < h := Nat.lt_of_lt_of_le HO4.out.lt hh1
  have hwh : w.heap.size ≤ h := by omega
  have HO5 := Lib.hid (HO4.out.gr hgr5)
  have HD2 := Lib.hid (odd_calls h l2.length v2 (val l2) w5 (HTT.out.gr HG5.out) how5 H0.out.2 t q' HE.out.2 HQ.out.1)
  clear hgr5 how5 hh1
  go_wp2_with fail
  refine HD2.out.mono ?_
  rintro ev w6 ⟨⟨u2, rfl, how6⟩, hgw6⟩
  have HO6 := Lib.hid how6
  have HO6a := Lib.hid (HO5.out.grown hgw6 (by omega))
  have HG6 := Lib.hid (gr_grown HG5.out hgw6 hwh)
  clear how6 hgw6 hmm
  go_wp2_with fail
  go_loopg [0, 1] (p' + q') (fun n s0 s1 wr => ∃ (g h N M x y : Nat), n = x + y ∧ g ≠ h ∧ w.heap.size ≤ g ∧ w.heap.size ≤ h ∧ x % 2 = 1 ∧ y % 2 = 1 ∧ Hid (OwnN wr g N s0 x) ∧ Hid (OwnN wr h M s1 y) ∧ Hid (x < B ^ k ∧ y < B ^ k) ∧ Hid (Nat.gcd x y = Nat.gcd p' q') ∧ Hid (Gr w wr))
  case atStart => exact ⟨g, h, l1.length, l2.length, p', q', rfl, by omega, hwg, hwh, HP.out.1, HQ.out.1, HO6a, HO6, Lib.hid ⟨HP.out.2, HQ.out.2⟩, Lib.hid rfl, HG6⟩
  case round =>
    obtain ⟨g, h, N, M, x, y, hn, hgh, hwg, hwh, hx1, hy1, HX, HY, HB, HGC, HGR⟩ := hrel
    have HN := Lib.hid hn
    clear hn
    obtain ⟨la, hla, hna, hva, hla6⟩ := HX.out.lim
    obtain ⟨lb, hlb, hnb, hvb, hlb6⟩ := HY.out.lim
    have hcmp := compare_calls _ _ la lb wr hla hlb hna hnb (by omega) (by omega)
    rw [hva, hvb] at hcmp
    rcases Nat.lt_trichotomy x y with hlt | heq | hgt
    · rw [cmpN_lt hlt] at hcmp
      have HCM := Lib.hid hcmp
      obtain ⟨t2, p2, e1, e2⟩ := two_parts (y - x) (by omega)
      have hgl := gcd_less y x t2 p2 hx1 (by omega) e1
      have hpl : p2 ≤ y - x := by rw [e1]; exact Nat.le_mul_of_pos_left _ (Nat.two_pow_pos t2)
      have HE1 := Lib.hid e1
      have HGL := Lib.hid hgl
      clear hcmp hla hlb hna hnb hva hvb e1 hgl
      go_wp2_with fail
      refine HCM.out.mono ?_
      rintro ev w1 ⟨rfl, hg1⟩
      have HLS := Lib.hid (less_calls h M g N _ _ y x w1 (HY.out.gr hg1) (HX.out.gr hg1) hgh hlt)
      have HX1 := Lib.hid (HX.out.gr hg1)
      have HG1 := Lib.hid (HGR.out.tr hg1)
      clear hg1
      go_wp2_with fail
      refine HLS.out.mono ?_
      rintro ev w2 ⟨⟨u', rfl, ho2⟩, hgw2⟩
      have HX2 := Lib.hid (HX1.out.grown hgw2 hgh)
      have HG2' := Lib.hid (gr_grown HG1.out hgw2 hwh)
      have HDO := Lib.hid (odd_calls h M u' (y - x) w2 (HTT.out.gr HG2'.out) ho2 (by omega) t2 p2 HE1.out e2)
      clear ho2 hgw2
      go_wp2_with fail
      refine HDO.out.mono ?_
      rintro ev w3 ⟨⟨u3, rfl, ho3⟩, hgw3⟩
      have HX3 := Lib.hid (HX2.out.grown hgw3 hgh)
      have HG3' := Lib.hid (gr_grown HG2'.out hgw3 hwh)
      have HO3 := Lib.hid ho3
      clear ho3 hgw3
      go_wp2
      go_roundg (p2 + x)
      case measure => have := HN.out; omega
      case rel => exact ⟨h, g, M, N, p2, x, rfl, fun e => hgh e.symm, hwh, hwg, e2, hx1, HO3, HX3, Lib.hid ⟨Nat.lt_of_le_of_lt (by omega) HB.out.2, HB.out.1⟩, Lib.hid (by rw [HGL.out, Nat.gcd_comm]; exact HGC.out), HG3'⟩
    · subst heq
      rw [cmpN_eq] at hcmp
      have HCM := Lib.hid hcmp
      have hmd := fun w1 (hg : Gr wr w1) => made_calls _ la w1 (hla.gr hg) (by omega)
      rw [hva] at hmd
      have HMD := Lib.hid hmd
      clear hcmp hla hlb hna hnb hva hvb hmd
      go_wp2_with fail
      refine HCM.out.mono ?_
      rintro ev w1 ⟨rfl, hg1⟩
      go_wp2_with (go_at_call 116; (with_reducible refine (HMD.out _ hg1).mono ?_); rintro ev w2 ⟨⟨r2, rfl, hr2⟩, hg2⟩; have HR2 := Lib.hid hr2; clear hr2)
      go_wp2_with (go_at_call 130; (with_reducible refine (bit_calls m (by omega) _).mono ?_); rintro ev w3 ⟨⟨r3, rfl, hr3⟩, hg3⟩; have HR3 := Lib.hid hr3; clear hr3)
      have HMU := Lib.hid (mul_calls _ _ x (2 ^ m) w3 (HR2.out.gr hg3).at_ HR3.out.at_ k HB.out.1 HMB.out (by omega))
      go_wp2_with (go_at_call 58; (with_reducible refine HMU.out.mono ?_); rintro ev w4 ⟨⟨r4, rfl, hr4⟩, hg4⟩; have HR4 := Lib.hid hr4; clear hr4)
      go_ret
      refine ⟨⟨_, rfl, ?_⟩, (((HGR.out.tr hg1).tr hg2).tr hg3).tr hg4⟩
      have := HGC.out
      rw [Nat.gcd_self] at this
      rw [← this]
      exact HR4.out.at_
    · rw [cmpN_gt hgt] at hcmp
      have HCM := Lib.hid hcmp
      obtain ⟨t2, p2, e1, e2⟩ := two_parts (x - y) (by omega)
      have hgl := gcd_less x y t2 p2 hy1 (by omega) e1
      have hpl : p2 ≤ x - y := by rw [e1]; exact Nat.le_mul_of_pos_left _ (Nat.two_pow_pos t2)
      have HE1 := Lib.hid e1
      have HGL := Lib.hid hgl
      clear hcmp hla hlb hna hnb hva hvb e1 hgl
      go_wp2_with fail
      refine HCM.out.mono ?_
      rintro ev w1 ⟨rfl, hg1⟩
      have HLS := Lib.hid (less_calls g N h M _ _ x y w1 (HX.out.gr hg1) (HY.out.gr hg1) (fun e => hgh e.symm) hgt)
      have HY1 := Lib.hid (HY.out.gr hg1)
      have HG1 := Lib.hid (HGR.out.tr hg1)
      clear hg1
      go_wp2_with fail
      refine HLS.out.mono ?_
      rintro ev w2 ⟨⟨u', rfl, ho2⟩, hgw2⟩
      have HY2 := Lib.hid (HY1.out.grown hgw2 (fun e => hgh e.symm))
      have HG2' := Lib.hid (gr_grown HG1.out hgw2 hwg)
      have HDO := Lib.hid (odd_calls g N u' (x - y) w2 (HTT.out.gr HG2'.out) ho2 (by omega) t2 p2 HE1.out e2)
      clear ho2 hgw2
      go_wp2_with fail
      refine HDO.out.mono ?_
      rintro ev w3 ⟨⟨u3, rfl, ho3⟩, hgw3⟩
      have HY3 := Lib.hid (HY2.out.grown hgw3 (fun e => hgh e.symm))
      have HG3' := Lib.hid (gr_grown HG2'.out hgw3 hwg)
      have HO3 := Lib.hid ho3
      clear ho3 hgw3
      go_wp2
      go_roundg (p2 + y)
      case measure => have := HN.out; omega
      case rel => exact ⟨g, h, N, M, p2, y, rfl, hgh, hwg, hwh, e2, hy1, HO3, HY3, Lib.hid ⟨Nat.lt_of_le_of_lt (by omega) HB.out.1, HB.out.2⟩, Lib.hid (by rw [HGL.out]; exact HGC.out), HG3'⟩

set_option maxRecDepth 100000 in
set_option maxHeartbeats 4000000 in
/-- (*Nat).Gcd. -/
theorem gcd_calls (x y : Value) (a b : Nat) (w : World) (hT : BitTab w) (hx : NatAt w x a) (hy : NatAt w y b) (k0 : Nat) (ha : a < B ^ k0) (hb : b < B ^ k0) (hk0 : k0 ≤ 100000) :
    Calls Tryz.prog 132 #[x, y] w fun e w' => (∃ r, e = .returned r ∧ NatAt w' r (Nat.gcd a b)) ∧ Gr w w' := by
  have HC := Lib.hid (cmp_calls x y a b w hx hy k0 ha hb (by omega))
  have HTT := Lib.hid hT
  by_cases hlt : a < b
  case' pos =>
    have b1 : decide (cmpN a b < 0) = true := decide_eq_true (cmpN_neg.2 hlt)
    generalize cmpN a b = cc at b1 HC
    have HX := Lib.hid hy
    have HY := Lib.hid hx
    have hm : b < B ^ k0 := hb
    have hle : a ≤ b := by omega
    rw [Nat.gcd_comm]
    clear hx hy ha hb hlt hT
    obtain ⟨m, hm1⟩ : ∃ m, m = b := ⟨_, rfl⟩
    subst hm1
    obtain ⟨k, hk1⟩ : ∃ k, k = a := ⟨_, rfl⟩
    subst hk1
    obtain ⟨u, hu⟩ : ∃ u, u = y := ⟨_, rfl⟩
    subst hu
    obtain ⟨v, hv⟩ : ∃ v, v = x := ⟨_, rfl⟩
    subst hv
  case' neg =>
    have b1 : decide (cmpN a b < 0) = false := decide_eq_false (fun h => hlt (cmpN_neg.1 h))
    generalize cmpN a b = cc at b1 HC
    have HX := Lib.hid hx
    have HY := Lib.hid hy
    have hm : a < B ^ k0 := ha
    have hle : b ≤ a := by omega
    clear hx hy ha hb hlt hT
    obtain ⟨m, hm1⟩ : ∃ m, m = a := ⟨_, rfl⟩
    subst hm1
    obtain ⟨k, hk1⟩ : ∃ k, k = b := ⟨_, rfl⟩
    subst hk1
    obtain ⟨u, hu⟩ : ∃ u, u = x := ⟨_, rfl⟩
    subst hu
    obtain ⟨v, hv⟩ : ∃ v, v = y := ⟨_, rfl⟩
    subst hv
  all_goals
    have HB := Lib.hid (show m < B ^ k0 ∧ k < B ^ k0 from ⟨hm, by omega⟩)
    clear hm
    by_cases hk0 : k = 0
    · subst hk0
      go_enter Tryz.func132, Tryz.ntmps132
      go_wp2_with (go_at_call 60; (with_reducible refine HC.out.mono ?_); rintro ev w1 ⟨rfl, hg1⟩)
      have HZ := zero_calls v 0 w1 (HY.out.gr hg1)
      rw [show ((0 : Nat) == 0) = true from rfl] at HZ
      have HZ := Lib.hid HZ
      go_wp2_with (go_at_call 78; (with_reducible refine HZ.out.mono ?_); rintro ev w2 ⟨rfl, rfl⟩)
      obtain ⟨sa, p, sc, hl, hnm, hv, hcl⟩ := limbs_ex u m w1 (HX.out.gr hg1)
      have HMD := Lib.hid (made_calls _ p w1 hl (by have := norm_length p hnm k0 (by rw [hv]; exact HB.out.1); omega))
      rw [hv] at HMD
      have HL := Lib.hid hcl
      clear hl hnm hv hcl
      go_wp2_with (go_at_call 117; (with_reducible refine HL.out.mono ?_); rintro ev w2 ⟨rfl, rfl⟩)
      go_wp2_with (go_at_call 116; (with_reducible refine HMD.out.mono ?_); rintro ev w2 ⟨⟨r, rfl, hr⟩, hg2⟩; have HR := Lib.hid hr; clear hr)
      go_ret
      refine ⟨⟨_, rfl, ?_⟩, hg1.tr hg2⟩
      rw [Nat.gcd_zero_right]
      exact HR.out.at_
    · have hkb : (k == 0) = false := beq_eq_false_iff_ne.2 hk0
      have HK0 := Lib.hid hk0
      clear hk0
      go_enter Tryz.func132, Tryz.ntmps132
      go_wp2_with (go_at_call 60; (with_reducible refine HC.out.mono ?_); rintro ev w1 ⟨rfl, hg1⟩)
      have HZ := zero_calls v k w1 (HY.out.gr hg1)
      rw [hkb] at HZ
      have HZ := Lib.hid HZ
      go_wp2_with (go_at_call 78; (with_reducible refine HZ.out.mono ?_); rintro ev w2 ⟨rfl, rfl⟩)
      have HD := Lib.hid (div_calls u v m k w1 (HX.out.gr hg1) (HY.out.gr hg1) k0 HB.out.1 HB.out.2 (by omega))
      go_wp2_with (go_at_call 55; (with_reducible refine HD.out.mono ?_); rintro ev w2 ⟨⟨_, hdv⟩, hg2⟩; obtain ⟨qq, rr, rfl, hq1, hr1⟩ := hdv (Nat.pos_of_ne_zero HK0.out); have HQ1 := Lib.hid hq1; have HR1 := Lib.hid hr1; clear hq1 hr1 hdv)
      have hml := Nat.mod_lt m (Nat.pos_of_ne_zero HK0.out)
      have hgr : Nat.gcd m k = Nat.gcd k (m % k) := by rw [Nat.gcd_comm, Nat.gcd_rec, Nat.gcd_comm]
      generalize m % k = r at HR1 hml hgr
      have HML := Lib.hid hml
      have HGR := Lib.hid hgr
      clear hml hgr
      have HZ2 := zero_calls rr r w2 HR1.out
      by_cases hr0 : r = 0
      · rw [show (r == 0) = true from beq_iff_eq.2 hr0] at HZ2
        have HZ2 := Lib.hid HZ2
        have HR0 := Lib.hid hr0
        clear hr0
        go_wp2_with (go_at_call 78; (with_reducible refine HZ2.out.mono ?_); rintro ev w3 ⟨rfl, rfl⟩)
        obtain ⟨sa, p, sc, hl, hnm, hv, hcl⟩ := limbs_ex v k w2 ((HY.out.gr hg1).gr hg2)
        have HMD := Lib.hid (made_calls _ p w2 hl (by have := norm_length p hnm k0 (by rw [hv]; exact HB.out.2); omega))
        rw [hv] at HMD
        have HL := Lib.hid hcl
        clear hl hnm hv hcl
        go_wp2_with (go_at_call 117; (with_reducible refine HL.out.mono ?_); rintro ev w3 ⟨rfl, rfl⟩)
        go_wp2_with (go_at_call 116; (with_reducible refine HMD.out.mono ?_); rintro ev w3 ⟨⟨r3, rfl, hr3⟩, hg3⟩; have HR3 := Lib.hid hr3; clear hr3)
        go_ret
        refine ⟨⟨_, rfl, ?_⟩, (hg1.tr hg2).tr hg3⟩
        rw [HGR.out, HR0.out, Nat.gcd_zero_right]
        exact HR3.out.at_
      · rw [show (r == 0) = false from beq_eq_false_iff_ne.2 hr0] at HZ2
        have HZ2 := Lib.hid HZ2
        obtain ⟨sa1, pa, sc1, hla, hna, hva, hcl1⟩ := limbs_ex v k w2 ((HY.out.gr hg1).gr hg2)
        obtain ⟨sa2, pb, sc2, hlb, hnb, hvb, hcl2⟩ := limbs_ex rr r w2 HR1.out
        have HCO := common_calls _ _ pa pb w2 (HTT.out.gr (hg1.tr hg2)) hla hlb hna hnb (by rw [hva]; exact HK0.out) (by rw [hvb]; exact hr0) k0 (by rw [hva]; exact HB.out.2) (by rw [hvb]; exact Nat.lt_trans HML.out HB.out.2) hk0
        rw [hva, hvb] at HCO
        have HCO := Lib.hid HCO
        have HL1 := Lib.hid hcl1
        have HL2 := Lib.hid hcl2
        clear hla hlb hna hnb hva hvb hcl1 hcl2 hr0
        go_wp2_with (go_at_call 78; (with_reducible refine HZ2.out.mono ?_); rintro ev w3 ⟨rfl, rfl⟩)
        go_wp2_with (go_at_call 117; (with_reducible refine HL1.out.mono ?_); rintro ev w3 ⟨rfl, rfl⟩)
        go_wp2_with (go_at_call 117; (with_reducible refine HL2.out.mono ?_); rintro ev w3 ⟨rfl, rfl⟩)
        go_wp2_with (go_at_call 183; (with_reducible refine HCO.out.mono ?_); rintro ev w3 ⟨⟨r3, rfl, hr3⟩, hg3⟩; have HR3 := Lib.hid hr3; clear hr3)
        go_ret
        refine ⟨⟨_, rfl, ?_⟩, (hg1.tr hg2).tr hg3⟩
        rw [HGR.out]
        exact HR3.out
end
end Go.Proofs.YtcjjgdoafkdeaaaGreatDoor
