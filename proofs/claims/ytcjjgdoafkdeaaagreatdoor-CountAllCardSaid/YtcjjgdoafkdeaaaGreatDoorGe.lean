/- Layer 2: Mul, by contract; Layer 2: Mul, by contract; Layer 2: plain law of bits.Div64's two half divisions; Layer 2: the numbers of bits.Div64. -/
import Derived.Test.YtcjjgdoafkdeaaaGreatDoorGd
import Derived.Test.YtcjjgdoafkdeaaaGreatDoorShelf
import Derived.Laws.Bits64b
import Derived.Lib.Mul64
namespace Go.Proofs.YtcjjgdoafkdeaaaGreatDoor
section
open Go.RowKit Go.Extern.Stop Go.Stop Go.Extern
set_option linter.unusedVariables false
set_option linter.unusedSimpArgs false

theorem mul64_calls (x y : Nat) (hx : x < B) (hy : y < B) (w : World) :
    Calls Tryz.prog 122 #[.int .u64 (x : Int), .int .u64 (y : Int)] w fun e w' => e = .returned (.tuple #[.int .u64 ((muHi x y : Nat) : Int), .int .u64 ((muLo x y : Nat) : Int)]) ∧ w = w' := by
  rw [B_eq] at hx hy
  refine (Tryz.bits_Mul64 x y hx hy w).mono ?_
  rintro e w' ⟨rfl, rfl⟩
  exact ⟨by unfold muHi muLo; rw [B_eq], rfl⟩
/-- A round's numbers: f + x * y + c in two limbs. -/
theorem mul_round (x y f c : Nat) (hx : x < B) (hy : y < B) (hf : f < B) (hc : c < B) : ∃ hi lo lo1 c1 lo2 c2 : Nat,
    (∀ w, Calls Tryz.prog 122 #[.int .u64 (x : Int), .int .u64 (y : Int)] w fun e w' => e = .returned (.tuple #[.int .u64 (hi : Int), .int .u64 (lo : Int)]) ∧ w = w') ∧
    (∀ w, (callFunc 123 #[.int .u64 (lo : Int), .int .u64 (f : Int), .int .u64 0]).run Tryz.prog w = .ok (.value (.tuple #[.int .u64 (lo1 : Int), .int .u64 (c1 : Int)])) w) ∧
    (∀ w, (callFunc 123 #[.int .u64 (lo1 : Int), .int .u64 (c : Int), .int .u64 0]).run Tryz.prog w = .ok (.value (.tuple #[.int .u64 (lo2 : Int), .int .u64 (c2 : Int)])) w) ∧
    hi + c1 ≤ 18446744073709551615 ∧ hi + c1 + c2 ≤ 18446744073709551615 ∧ lo2 < B ∧ lo2 + B * (hi + c1 + c2) = f + x * y + c := by
  have h1 := muHi_le x y hx hy
  have h2 := mu_eq x y
  have h3 := muLo_lt x y
  have h4 := ad_eq (muLo x y) f 0
  have h5 := adLo_lt (muLo x y) f 0
  have h6 := adHi_le (muLo x y) f 0 h3 hf (by omega)
  have h7 := ad_eq (adLo (muLo x y) f 0) c 0
  have h8 := adLo_lt (adLo (muLo x y) f 0) c 0
  refine ⟨muHi x y, muLo x y, adLo (muLo x y) f 0, adHi (muLo x y) f 0, adLo (adLo (muLo x y) f 0) c 0, adHi (adLo (muLo x y) f 0) c 0, mul64_calls x y hx hy, ?_, ?_, ?_⟩
  · exact add64_run _ _ 0 h3 hf (by omega)
  · exact add64_run _ _ 0 h5 hc (by omega)
  · generalize muHi x y = hi at *
    generalize muLo x y = lo at *
    generalize adHi lo f 0 = c1 at *
    generalize adLo lo f 0 = lo1 at *
    generalize adHi lo1 c 0 = c2 at *
    generalize adLo lo1 c 0 = lo2 at *
    have h9 : lo2 + B * (hi + c1 + c2) = f + x * y + c := by rw [Nat.mul_add, Nat.mul_add]; omega
    have h10 : x * y ≤ (B - 1) * (B - 1) := Nat.mul_le_mul (by omega) (by omega)
    generalize x * y = xy at *
    rw [B_eq] at *
    refine ⟨by omega, by omega, h8, h9⟩

/-- The inner loop's sum. -/
theorem mul_step (F F' : Nat → Nat) (i k c c' lo x : Nat) (b : List Nat)
    (h : val ((List.range (i + k)).map F') + B ^ (i + k) * c = val ((List.range (i + k)).map F) + B ^ i * (x * val (b.take k)))
    (hs : lo + B * c' = F (i + k) + x * b.getD k 0 + c) :
    val ((List.range (i + (k + 1))).map (fun j => if j = i + k then lo else F' j)) + B ^ (i + (k + 1)) * c' = val ((List.range (i + (k + 1))).map F) + B ^ i * (x * val (b.take (k + 1))) := by
  rw [← Nat.add_assoc, val_map_succ, val_map_succ, val_take_getD, if_pos rfl, val_map_congr (G := F') (fun j hj => if_neg (by omega))]
  have hm : B ^ (i + k) * (lo + B * c') = B ^ (i + k) * (F (i + k) + x * b.getD k 0 + c) := by rw [hs]
  have e1 : B ^ i * (x * (B ^ k * b.getD k 0)) = B ^ (i + k) * (x * b.getD k 0) := by rw [Nat.pow_add]; ac_rfl
  have e2 : B ^ (i + k + 1) * c' = B ^ (i + k) * (B * c') := by rw [Nat.pow_succ, Nat.mul_assoc]
  rw [Nat.mul_add x, Nat.mul_add, e1, e2]
  simp only [Nat.mul_add] at hm
  omega
/-- The outer loop's sum. -/
theorem mul_next (F F' : Nat → Nat) (i c : Nat) (a b : List Nat)
    (h : val ((List.range (i + b.length)).map F) = val (a.take i) * val b)
    (h' : val ((List.range (i + b.length)).map F') + B ^ (i + b.length) * c = val ((List.range (i + b.length)).map F) + B ^ i * (a.getD i 0 * val (b.take b.length))) :
    val ((List.range (i + 1 + b.length)).map (fun j => if j = i + b.length then c else F' j)) = val (a.take (i + 1)) * val b := by
  rw [Nat.add_right_comm, val_map_succ, if_pos rfl, val_map_congr (G := F') (fun j hj => if_neg (by omega)), h', h, val_take_getD, Nat.add_mul, List.take_of_length_le (Nat.le_refl _), Nat.mul_assoc]
end
section
open Go.RowKit Go.Extern.Stop Go.Stop Go.Extern
set_option linter.unusedVariables false
set_option linter.unusedSimpArgs false

set_option maxRecDepth 100000 in
set_option maxHeartbeats 4000000 in
/-- (*Nat).Mul. -/
theorem mul_calls (x y : Value) (a b : Nat) (w : World) (hx : NatAt w x a) (hy : NatAt w y b) (k : Nat) (ha : a < B ^ k) (hb : b < B ^ k) (hk : k ≤ 1000000) :
    Calls Tryz.prog 58 #[x, y] w fun e w' => (∃ r, e = .returned r ∧ NatP w' r (a * b)) ∧ Gr w w' := by
  obtain ⟨sa, p, sc, hl, hn, hv, hcl⟩ := limbs_ex x a w hx
  obtain ⟨ta, q, tc, hl2, hn2, hv2, hcl2⟩ := limbs_ex y b w hy
  have h1 := norm_length p hn k (by rw [hv]; exact ha)
  have h2 := norm_length q hn2 k (by rw [hv2]; exact hb)
  subst hv
  subst hv2
  have HL := Lib.hid hcl
  have HM := Lib.hid hcl2
  have HP := Lib.hid hl
  have HQ := Lib.hid hl2
  have hpk : p.length ≤ 1000000 := by omega
  have hqk : q.length ≤ 1000000 := by omega
  have hmk := make64 (p.length + q.length) (by omega)
  have ec : ((p.length + q.length : Nat) : Int) = (p.length : Int) + (q.length : Int) := by omega
  rw [ec] at hmk
  clear hx hy ha hb hn hn2 hcl hcl2 hl hl2 h1 h2 ec
  go_enter Tryz.func58, Tryz.ntmps58
  go_wp2_with (go_at_call 117; (with_reducible refine HL.out.mono ?_); rintro ev w1 ⟨rfl, rfl⟩)
  go_wp2_with (go_at_call 117; (with_reducible refine HM.out.mono ?_); rintro ev w1 ⟨rfl, rfl⟩)
  clear HL HM hmk
  go_loopg [28] p.length (fun n i wr => ∃ ii F, n = p.length - ii ∧ ii ≤ p.length ∧ i = .int .i64 (ii : Int) ∧ RowU wr w.heap.size (p.length + q.length) F ∧ (∀ j, F j < B) ∧
    val ((List.range (ii + q.length)).map F) = val (p.take ii) * val q ∧ Gr w wr)
  case atStart => exact ⟨0, fun _ => 0, by omega, by omega, rfl, rowU_made w _, fun _ => B_pos, by
    rw [show (List.range (0 + q.length)).map (fun _ => 0) = List.replicate (0 + q.length) 0 by simp [List.map_const'], val_replicate]; simp [val], (Gr.rf w).alloc (Nat.le_refl _) _⟩
  case round =>
    obtain ⟨ii, F, hn, hii, rfl, hrow, hFb, hF, hgr⟩ := hrel
    have HN := Lib.hid hn
    have HW := Lib.hid hrow
    have HF := Lib.hid hF
    have HFB := Lib.hid hFb
    clear hn hrow hF hFb
    by_cases hlt : ii < p.length
    · have b2 : decide (ii < p.length) = true := decide_eq_true hlt
      obtain ⟨g1, o1, c1, e1, hc1⟩ := HP.out.get hgr ii hlt
      cases e1
      have hxB := getD_lt HP.out.1 ii
      generalize hxx : p.getD ii 0 = xx at hc1 hxB
      have HXX := Lib.hid hxx
      clear hxx
      go_wp2
      go_loopg [10, 35] q.length (fun n c kx wr2 => ∃ (kk : Nat) (F2 : Nat → Nat) (cc : Nat), n = q.length - kk ∧ kk ≤ q.length ∧ c = .int .u64 (cc : Int) ∧ cc < B ∧ kx = .int .i64 (kk : Int) ∧ RowU wr2 w.heap.size (p.length + q.length) F2 ∧ (∀ j, F2 j < B) ∧
        (∀ j, ii + kk ≤ j → F2 j = F j) ∧ val ((List.range (ii + kk)).map F2) + B ^ (ii + kk) * cc = val ((List.range (ii + kk)).map F) + B ^ ii * (xx * val (q.take kk)) ∧ Gr w wr2)
      case atStart => exact ⟨0, F, 0, by omega, by omega, rfl, B_pos, rfl, HW.out, HFB.out, fun _ _ => rfl, by simp [val], hgr⟩
      case round =>
        obtain ⟨kk, F2, cc, hn2, hkk, rfl, hcB, rfl, hrow2, hF2b, hF2e, hF2, hgr2⟩ := hrel
        have HN2 := Lib.hid hn2
        have HW2 := Lib.hid hrow2
        have HF2 := Lib.hid hF2
        have HF2B := Lib.hid hF2b
        have HF2E := Lib.hid hF2e
        clear hn2 hrow2 hF2 hF2b hF2e
        by_cases hlq : kk < q.length
        · have b3 : decide (kk < q.length) = true := decide_eq_true hlq
          obtain ⟨g2, o2, c2', e2, hc2⟩ := HQ.out.get hgr2 kk hlq
          cases e2
          have hyB := getD_lt HQ.out.1 kk
          have hcell := HW2.out.cell (i := ii + kk) (by omega)
          have hfr := World.rowIs.frozen HW2.out (ii + kk)
          have ht : ((ii : Int) + (kk : Int)).toNat = ii + kk := by omega
          have hst := mul_step F F2 ii kk cc
          have hF0 := HF2E.out (ii + kk) (Nat.le_refl _)
          have hfB := HF2B.out (ii + kk)
          rw [← hF0] at hst
          generalize hyy : q.getD kk 0 = yy at hc2 hyB
          generalize F2 (ii + kk) = ff at hcell hfB hst
          obtain ⟨hi, lo, lo1, c1', lo2, c2, hm, ha1, ha2, hs1, hs2, hl2, hsum⟩ := mul_round xx yy ff cc hxB hyB hfB hcB
          have HM := Lib.hid hm
          have HYY := Lib.hid hyy
          have HS := Lib.hid hsum
          have HST := Lib.hid hst
          clear hm hyy hsum hst hF0
          have hcB2 : hi + c1' + c2 < B := by have := B_eq; omega
          have HL2 := Lib.hid hl2
          have HCB := Lib.hid hcB2
          clear hyB hfB hcB hl2 hcB2
          go_wp2_with (go_at_call 122; (with_reducible refine (HM.out _).mono ?_); rintro ev w1 ⟨rfl, rfl⟩)
          go_roundg (q.length - (kk + 1))
          case measure => have := HN2.out; omega
          case rel =>
            exact ⟨kk + 1, (fun j => if j = ii + kk then lo2 else F2 j), hi + c1' + c2, rfl, by omega, by first | rfl | go_num, HCB.out, by first | rfl | go_num, HW2.out.set (ii + kk) lo2,
              fun j => by dsimp only; split; exact HL2.out; exact HF2B.out j,
              fun j hj => (if_neg (by omega : ¬ j = ii + kk)).trans (HF2E.out j (by omega)),
              HST.out (hi + c1' + c2) lo2 xx q HF2.out (by rw [HYY.out]; exact HS.out), hgr2.setCell (Nat.le_refl _) _⟩
        · have b3 : decide (kk < q.length) = false := decide_eq_false hlq
          have hke : kk = q.length := by omega
          subst hke
          have hcell := HW2.out.cell (i := ii + q.length) (by omega)
          have hfr := World.rowIs.frozen HW2.out (ii + q.length)
          have ht : ((ii : Int) + (q.length : Int)).toNat = ii + q.length := by omega
          generalize F2 (ii + q.length) = ff at hcell
          have HCB := Lib.hid hcB
          clear hcB hxB
          go_wp2
          go_roundg (p.length - (ii + 1))
          case measure => have := HN.out; omega
          case rel =>
            exact ⟨ii + 1, (fun j => if j = ii + q.length then cc else F2 j), rfl, by omega, by first | rfl | go_num, HW2.out.set (ii + q.length) cc,
              fun j => by dsimp only; split; exact HCB.out; exact HF2B.out j,
              mul_next F F2 ii cc p q HF.out (by rw [HXX.out]; exact HF2.out), hgr2.setCell (Nat.le_refl _) _⟩
    · have b2 : decide (ii < p.length) = false := decide_eq_false hlt
      have hke : ii = p.length := by omega
      subst hke
      have hmd := made_calls _ _ _ (HW.out.lim (fun j _ => HFB.out j) (by omega)) (by rw [List.length_map, List.length_range]; omega)
      rw [HF.out, List.take_of_length_le (Nat.le_refl _)] at hmd
      have HMD := Lib.hid hmd
      clear hmd
      go_wp2_with (go_at_call 116; (with_reducible refine HMD.out.mono ?_); rintro ev w1 ⟨⟨r, rfl, hr⟩, hg⟩; have HR := Lib.hid hr; clear hr)
      go_ret
      exact ⟨⟨_, rfl, HR.out⟩, hgr.tr hg⟩
end
section

/-- Half a limb. -/
def W : Nat := 4294967296
theorem W_eq : W = 4294967296 := rfl
/-- The guess is right from below. -/
theorem half_exit (v1 v0 un u1 q r : Nat) (h : q * v1 + r = un) (hc : q * v0 ≤ W * r + u1) : q * (v1 * W + v0) ≤ un * W + u1 := by
  subst h
  rw [Nat.mul_add, Nat.add_mul, ← Nat.mul_assoc, Nat.mul_comm r W]
  omega
/-- The first guess is not too small. -/
theorem half_start (v1 v0 un u1 : Nat) (hv : 0 < v1) (hu : u1 < W) : un * W + u1 < (un / v1 + 1) * (v1 * W + v0) := by
  have h1 : un < (un / v1 + 1) * v1 := by
    have h2 := Nat.div_add_mod un v1
    have h3 := Nat.mod_lt un hv
    rw [Nat.add_mul, Nat.one_mul, Nat.mul_comm (un / v1) v1]; omega
  have h2 : (un + 1) * W ≤ (un / v1 + 1) * v1 * W := Nat.mul_le_mul_right W h1
  rw [Nat.mul_add, ← Nat.mul_assoc]
  rw [Nat.add_mul, Nat.one_mul] at h2
  have : un * W + u1 < (un / v1 + 1) * v1 * W := by omega
  omega
/-- Where the loop goes on the guess is too great. -/
theorem half_more (v1 v0 un u1 q r : Nat) (h : q * v1 + r = un) (hun : un < v1 * W + v0) (hu : u1 < W) (hc : W ≤ q ∨ W * r + u1 < q * v0) : un * W + u1 < q * (v1 * W + v0) := by
  rcases hc with hc | hc
  · have h1 : W * (v1 * W + v0) ≤ q * (v1 * W + v0) := Nat.mul_le_mul_right _ hc
    have h2 : (un + 1) * W ≤ (v1 * W + v0) * W := Nat.mul_le_mul_right W hun
    rw [Nat.add_mul, Nat.one_mul] at h2
    rw [Nat.mul_comm (v1 * W + v0) W] at h2
    omega
  · subst h
    rw [Nat.mul_add, Nat.add_mul, ← Nat.mul_assoc, Nat.mul_comm r W]
    omega
/-- The first guess is at most by two too great. -/
theorem half_bound (v1 v0 un : Nat) (hv : 2147483648 ≤ v1) (hv0 : v0 < W) (hun : un < v1 * W + v0) : un / v1 ≤ W + 2 := by
  have h : un < (W + 3) * v1 := by
    rw [W_eq] at *
    omega
  have := (Nat.div_lt_iff_lt_mul (by omega)).2 h
  omega
/-- At the loop's other end. -/
theorem half_break (v0 q r u1 : Nat) (hq : q ≤ W + 1) (hr : W ≤ r) (hv0 : v0 < W) : q * v0 ≤ W * r + u1 := by
  have h1 : q * v0 ≤ (W + 1) * (W - 1) := Nat.mul_le_mul hq (by omega)
  have h2 : W * W ≤ W * r := Nat.mul_le_mul_left _ hr
  have h3 : (W + 1) * (W - 1) ≤ W * W := by rw [W_eq]; omega
  omega
/-- The guess is the quotient. -/
theorem half_div (v N q : Nat) (h1 : q * v ≤ N) (h2 : N < (q + 1) * v) : N / v = q ∧ N % v = N - q * v := by
  have hv : 0 < v := Nat.pos_of_ne_zero (by rintro rfl; simp at h2)
  have e : N / v = q := (Nat.div_eq_iff hv).2 ⟨h1, by rw [Nat.add_mul, Nat.one_mul] at h2; omega⟩
  refine ⟨e, ?_⟩
  have := Nat.div_add_mod N v
  rw [e, Nat.mul_comm v q] at this
  omega
/-- Two half divisions are one. -/
theorem div_halves (v un u1 u0 : Nat) (hv : 0 < v) (q1 q0 r1 r0 : Nat) (h1 : un * W + u1 = q1 * v + r1) (h0 : r1 * W + u0 = q0 * v + r0) (hr : r0 < v) :
    (un * (W * W) + u1 * W + u0) / v = q1 * W + q0 ∧ (un * (W * W) + u1 * W + u0) % v = r0 := by
  have e : un * (W * W) + u1 * W + u0 = v * (q1 * W + q0) + r0 := by
    have t : (un * W + u1) * W = (q1 * v + r1) * W := by rw [h1]
    have t2 : v * (q1 * W + q0) = q1 * v * W + q0 * v := by rw [Nat.mul_add, ← Nat.mul_assoc, Nat.mul_comm v q1, Nat.mul_comm v q0]
    rw [Nat.add_mul, Nat.add_mul, Nat.mul_assoc un] at t
    rw [t2]
    omega
  rw [e]
  constructor
  · rw [Nat.mul_add_div hv, Nat.div_eq_of_lt hr, Nat.add_zero]
  · rw [Nat.mul_add_mod, Nat.mod_eq_of_lt hr]
end
section
open Go.RowKit Go.Extern.Stop Go.Stop Go.Extern

theorem wrapN (a : Nat) (ha : a < B) : IntKind.u64.wrap (a : Int) = (a : Int) := by rw [B_eq] at ha; rw [IntKind.wrap_u64]; omega
theorem wrapM (a : Nat) : IntKind.u64.wrap (a : Int) = ((a % B : Nat) : Int) := by rw [B_eq, IntKind.wrap_u64]; omega
theorem maskN (a : Nat) (ha : a < B) : bits .and .u64 (a : Int) 4294967295 = ((a % W : Nat) : Int) := by
  rw [B_eq] at ha
  have h := bits_and_u64_nat a 4294967295 ha (by omega)
  have e : a &&& 4294967295 = a % 4294967296 := Nat.and_two_pow_sub_one_eq_mod a 32
  rw [e] at h
  exact h
theorem or_add (x a s : Nat) (ha : a < 2 ^ s) : (x * 2 ^ s) ||| a = x * 2 ^ s + a := by
  rw [Nat.mul_comm, Nat.two_pow_add_eq_or_of_lt ha]
theorem B_pow : B = 2 ^ 64 := by rw [B_eq]
theorem B_split (s : Nat) (hs : s ≤ 64) : B = 2 ^ (64 - s) * 2 ^ s := by rw [B_pow, ← Nat.pow_add]; congr 1; omega
/-- What is shifted out and what stays. -/
theorem shl_parts (lo s : Nat) (hs : s ≤ 64) : lo * 2 ^ s = B * (lo / 2 ^ (64 - s)) + lo * 2 ^ s % B := by
  have h := Nat.div_add_mod (lo * 2 ^ s) B
  have e : lo * 2 ^ s / B = lo / 2 ^ (64 - s) := by rw [B_split s hs, Nat.mul_div_mul_right _ _ (Nat.two_pow_pos s)]
  rw [e] at h
  exact h.symm
theorem shr_lt (lo s : Nat) (hs : s ≤ 64) (hlo : lo < B) : lo / 2 ^ (64 - s) < 2 ^ s := by
  rw [Nat.div_lt_iff_lt_mul (Nat.two_pow_pos _), Nat.mul_comm, ← B_split s hs]; exact hlo
theorem hi_fits (hi y s : Nat) (hlt : hi < y) : hi * 2 ^ s + 2 ^ s ≤ y * 2 ^ s := by
  rw [← Nat.succ_mul]; exact Nat.mul_le_mul_right _ hlt
end
end Go.Proofs.YtcjjgdoafkdeaaaGreatDoor
