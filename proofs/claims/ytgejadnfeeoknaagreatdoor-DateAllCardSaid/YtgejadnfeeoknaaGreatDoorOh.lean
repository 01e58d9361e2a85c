/- Layer 5: decimals: Round, Units by contract; (*Int).Small; strings.Cut at one sign. -/
import Derived.Test.YtgejadnfeeoknaaGreatDoorOf
import Derived.Test.YtgejadnfeeoknaaGreatDoorOg
import Derived.Lib.IndexLaws
import Derived.Deep.QuietTactic
import Derived.BigQuiet
namespace Go.Proofs.YtgejadnfeeoknaaGreatDoor
open Go.RowKit Go.Extern.Stop Go.Stop Go.Extern Go.Sort
set_option linter.unusedVariables false
set_option linter.unusedSimpArgs false

theorem ret_small {a b : Int} (h : a = b) : Ending.returned (.tuple #[.int .i64 a, .bool true]) = .returned (.tuple #[.int .i64 b, .bool true]) := by rw [h]
set_option maxRecDepth 100000 in
set_option maxHeartbeats 2000000 in
/-- (*Int).Small. -/
theorem small_int (v : Value) (z : Int) (w : World) (h : IntAt w v z) (k : Nat) (hb : z.natAbs < B ^ k) (hk : k ≤ 1000000) :
    Calls Tryz.prog 141 #[v] w fun e w' =>
      ((-9223372036854775808 ≤ z ∧ z ≤ 9223372036854775807 → e = .returned (.tuple #[.int .i64 z, .bool true])) ∧ (z < -9223372036854775808 ∨ 9223372036854775807 < z → e = .returned (.tuple #[.int .i64 0, .bool false]))) ∧ Gr w w' := by
  have HA := Lib.hid (abs_calls v z w h)
  have HS := Lib.hid (fun w' (hg : Gr w w') => sign_calls v z w' (h.gr hg))
  have HSM := Lib.hid (fun (r : Value) (w' : World) (hi : NatAt w' r z.natAbs) => small_nat r z.natAbs w' hi k hb hk)
  have hsn := sign_neg_iff z
  generalize z.sign = sg at HS hsn
  clear h hb
  by_cases hB : z.natAbs < B
  · rw [B_eq] at hB
    obtain ⟨M, hM⟩ : ∃ M : Int, (z.natAbs : Int) = M := ⟨_, rfl⟩
    have hM0 : 0 ≤ M := by omega
    have hM1 : M ≤ 18446744073709551615 := by omega
    have HBB := Lib.hid hB
    rw [hM] at HSM
    by_cases hz : z < 0
    · have hzM : z = -M := by omega
      have b1 : decide (sg < 0) = true := decide_eq_true (hsn.2 hz)
      have b1' : decide (0 ≤ sg) = false := decide_eq_false (by have := hsn.2 hz; omega)
      by_cases hle : M ≤ 9223372036854775808
      · have b2 : decide (M ≤ 9223372036854775808) = true := decide_eq_true hle
        have hcv : wrap64 (IntKind.u64.wrap (-M)) = z := by rw [IntKind.wrap_u64, wrap64]; omega
        have HC := Lib.hid hcv
        have HH := Lib.hid (And.intro hz (And.intro hzM hle))
        clear hz hzM hle hcv hsn hM hB b1'
        go_enter Tryz.func141, Tryz.ntmps141
        go_wp2_with (go_at_call 107; (with_reducible refine HA.out.mono ?_); rintro ev w1 ⟨⟨r1, rfl, hr1⟩, hg1⟩; have HR1 := Lib.hid hr1; clear hr1)
        have HX := Lib.hid (HSM.out r1 w1 HR1.out)
        go_wp2_with (go_at_call 179; (with_reducible refine HX.out.mono ?_); rintro ev w2 ⟨⟨hs1, _⟩, rfl⟩; obtain rfl := hs1 (by rw [B_eq]; exact HBB.out); clear hs1)
        have HS4 := Lib.hid (HS.out _ hg1)
        go_wp2_with (go_at_call 106; (with_reducible refine HS4.out.mono ?_); rintro ev w3 ⟨rfl, hg3⟩)
        go_ret2
        refine ⟨⟨fun _ => ?_, fun h => ?_⟩, hg1.tr hg3⟩
        · exact ret_small HC.out
        · exfalso; have := HH.out; omega
      · have b2 : decide (M ≤ 9223372036854775808) = false := decide_eq_false hle
        have HH := Lib.hid (And.intro hz (And.intro hzM hle))
        clear hz hzM hle hsn hM hB
        go_enter Tryz.func141, Tryz.ntmps141
        go_wp2_with (go_at_call 107; (with_reducible refine HA.out.mono ?_); rintro ev w1 ⟨⟨r1, rfl, hr1⟩, hg1⟩; have HR1 := Lib.hid hr1; clear hr1)
        have HX := Lib.hid (HSM.out r1 w1 HR1.out)
        go_wp2_with (go_at_call 179; (with_reducible refine HX.out.mono ?_); rintro ev w2 ⟨⟨hs1, _⟩, rfl⟩; obtain rfl := hs1 (by rw [B_eq]; exact HBB.out); clear hs1)
        have HS4 := Lib.hid (HS.out _ hg1)
        go_wp2_with (go_at_call 106; (with_reducible refine HS4.out.mono ?_); rintro ev w3 ⟨rfl, hg3⟩)
        have HS5 := Lib.hid (HS.out _ (hg1.tr hg3))
        go_wp2_with (go_at_call 106; (with_reducible refine HS5.out.mono ?_); rintro ev w4 ⟨rfl, hg4⟩)
        go_ret2
        refine ⟨⟨fun h => ?_, fun _ => rfl⟩, (hg1.tr hg3).tr hg4⟩
        exfalso; have := HH.out; omega
    · have hzM : z = M := by omega
      have b1 : decide (sg < 0) = false := decide_eq_false (fun h => hz (hsn.1 h))
      have b1' : decide (0 ≤ sg) = true := decide_eq_true (by have := of_decide_eq_false b1; omega)
      by_cases hle : M < 9223372036854775808
      · have b2 : decide (M < 9223372036854775808) = true := decide_eq_true hle
        have hcv : IntKind.i64.wrap M = z := by rw [IntKind.wrap_i64]; omega
        have HC := Lib.hid hcv
        have HH := Lib.hid (And.intro hz (And.intro hzM hle))
        clear hz hzM hcv hsn hM hB
        go_enter Tryz.func141, Tryz.ntmps141
        go_wp2_with (go_at_call 107; (with_reducible refine HA.out.mono ?_); rintro ev w1 ⟨⟨r1, rfl, hr1⟩, hg1⟩; have HR1 := Lib.hid hr1; clear hr1)
        have HX := Lib.hid (HSM.out r1 w1 HR1.out)
        go_wp2_with (go_at_call 179; (with_reducible refine HX.out.mono ?_); rintro ev w2 ⟨⟨hs1, _⟩, rfl⟩; obtain rfl := hs1 (by rw [B_eq]; exact HBB.out); clear hs1)
        have HS4 := Lib.hid (HS.out _ hg1)
        go_wp2_with (go_at_call 106; (with_reducible refine HS4.out.mono ?_); rintro ev w3 ⟨rfl, hg3⟩)
        have HS5 := Lib.hid (HS.out _ (hg1.tr hg3))
        go_wp2_with (go_at_call 106; (with_reducible refine HS5.out.mono ?_); rintro ev w4 ⟨rfl, hg4⟩)
        go_ret2
        refine ⟨⟨fun _ => ?_, fun h => ?_⟩, (hg1.tr hg3).tr hg4⟩
        · exact ret_small HH.out.2.1.symm
        · exfalso; have := HH.out; omega
      · have b2 : decide (M < 9223372036854775808) = false := decide_eq_false hle
        have HH := Lib.hid (And.intro hz (And.intro hzM hle))
        clear hz hzM hle hsn hM hB
        go_enter Tryz.func141, Tryz.ntmps141
        go_wp2_with (go_at_call 107; (with_reducible refine HA.out.mono ?_); rintro ev w1 ⟨⟨r1, rfl, hr1⟩, hg1⟩; have HR1 := Lib.hid hr1; clear hr1)
        have HX := Lib.hid (HSM.out r1 w1 HR1.out)
        go_wp2_with (go_at_call 179; (with_reducible refine HX.out.mono ?_); rintro ev w2 ⟨⟨hs1, _⟩, rfl⟩; obtain rfl := hs1 (by rw [B_eq]; exact HBB.out); clear hs1)
        have HS4 := Lib.hid (HS.out _ hg1)
        go_wp2_with (go_at_call 106; (with_reducible refine HS4.out.mono ?_); rintro ev w3 ⟨rfl, hg3⟩)
        have HS5 := Lib.hid (HS.out _ (hg1.tr hg3))
        go_wp2_with (go_at_call 106; (with_reducible refine HS5.out.mono ?_); rintro ev w4 ⟨rfl, hg4⟩)
        go_ret2
        refine ⟨⟨fun h => ?_, fun _ => rfl⟩, (hg1.tr hg3).tr hg4⟩
        exfalso; have := HH.out; omega
  · have HBB := Lib.hid hB
    have hBz : z < -9223372036854775808 ∨ 9223372036854775807 < z := by rw [B_eq] at hB; omega
    have HH := Lib.hid hBz
    clear hB hBz hsn
    go_enter Tryz.func141, Tryz.ntmps141
    go_wp2_with (go_at_call 107; (with_reducible refine HA.out.mono ?_); rintro ev w1 ⟨⟨r1, rfl, hr1⟩, hg1⟩; have HR1 := Lib.hid hr1; clear hr1)
    have HX := Lib.hid (HSM.out r1 w1 HR1.out)
    go_wp2_with (go_at_call 179; (with_reducible refine HX.out.mono ?_); rintro ev w2 ⟨⟨_, hs1⟩, rfl⟩; obtain rfl := hs1 (by have := HBB.out; omega); clear hs1)
    go_ret2
    refine ⟨⟨fun h => ?_, fun _ => rfl⟩, hg1⟩
    exfalso; have := HH.out; omega

theorem round_bd (n : Int) (p k d : Nat) (m : Int) (hn : n.natAbs < B ^ k) (hp : p ≤ 20) : (n * ((10 ^ p : Nat) : Int)).natAbs + 1 < B ^ (k + 2) ∧ roundN (n * ((10 ^ p : Nat) : Int)).natAbs d m < B ^ (k + 2) ∧ ((10 ^ p : Nat) : Int).natAbs < B ^ (k + 2) ∧ n.natAbs < B ^ (k + 2) := by
  have h1 : (10 : Nat) ^ p ≤ 10 ^ 20 := Nat.pow_le_pow_right (by decide) hp
  have h3 : (10 : Nat) ^ 20 + 2 ≤ B ^ 2 := by decide
  have h4 : B ^ (k + 2) = B ^ k * B ^ 2 := Nat.pow_add _ _ _
  have h5 : 0 < B ^ k := Nat.pow_pos B_pos
  have h6 : (n * ((10 ^ p : Nat) : Int)).natAbs = n.natAbs * 10 ^ p := by rw [Int.natAbs_mul, Int.natAbs_natCast]
  rw [h6, h4, Int.natAbs_natCast]
  generalize B ^ k = P at *
  generalize n.natAbs = a at *
  generalize 10 ^ p = t at *
  have h7 : a * t ≤ (P - 1) * 10 ^ 20 := Nat.mul_le_mul (by omega) h1
  have h8 : P * (10 ^ 20 + 2) ≤ P * B ^ 2 := Nat.mul_le_mul_left _ h3
  have h9 : (P - 1) * 10 ^ 20 + 10 ^ 20 = P * 10 ^ 20 := by rw [← Nat.succ_mul]; congr 1; omega
  rw [Nat.mul_add] at h8
  have h10 : roundN (a * t) d m ≤ a * t + 1 := by
    have := Nat.div_le_self (a * t) d
    unfold roundN; split <;> omega
  have h11 : P * 1 ≤ P * 10 ^ 20 := Nat.mul_le_mul_left _ (by decide)
  refine ⟨by omega, by omega, by omega, by omega⟩

set_option maxRecDepth 100000 in
set_option maxHeartbeats 2000000 in
/-- dec.Round. -/
theorem round_calls (v : Value) (n : Int) (d p : Nat) (m : Int) (w : World) (h : RatAt w v n d) (k : Nat) (hn : n.natAbs < B ^ k) (hd : d < B) (hk : k ≤ 500) (hp : p ≤ 20) (hm : m = 1 ∨ m = 2 ∨ m = 3) (hT : PowTab w) :
    Calls Tryz.prog 94 #[v, .int .i64 (p : Int), .int .i64 m] w fun e w' =>
      e = .returned (.tuple #[.string ⟨(placedL (sgn (decide (n * ((10 ^ p : Nat) : Int) < 0)) (roundN (n * ((10 ^ p : Nat) : Int)).natAbs d m)) p).toArray⟩, .nilIface]) ∧ Gr w w' := by
  have HM := Lib.hid (mode_calls m w)
  rw [show decide (1 ≤ m ∧ m ≤ 3) = true from decide_eq_true (by omega)] at HM
  have HN := Lib.hid (num_calls v n d w h)
  have HD := Lib.hid (fun w' (hg : Gr w w') => den_calls v n d w' (h.gr hg))
  have HTE := Lib.hid (fun w => ten_calls p hp w)
  obtain ⟨q1, q2, q3, q4⟩ := round_bd n p k d m hn hp
  have HMU := Lib.hid (fun (x y : Value) (w' : World) hx hy => mul_int x y n ((10 ^ p : Nat) : Int) w' hx hy (k + 2) q4 q3 (by omega))
  have HWH := Lib.hid (fun (x y : Value) (w' : World) hx hy => whole_calls x y (n * ((10 ^ p : Nat) : Int)) (d : Int) m w' hx hy (k + 2) q1 (by simpa using hd) (by have := h.pos; omega) (by omega) (by omega) hm)
  rw [Int.natAbs_natCast] at HWH
  have HPL := Lib.hid (fun (x : Value) (w' : World) hx ht => placed_calls x (sgn (decide (n * ((10 ^ p : Nat) : Int) < 0)) (roundN (n * ((10 ^ p : Nat) : Int)).natAbs d m)) p w' hx (k + 2) (by rw [sgn_abs]; exact q2) (by omega) (by omega) hp ht)
  have HTT := Lib.hid hT
  generalize sgn (decide (n * ((10 ^ p : Nat) : Int) < 0)) (roundN (n * ((10 ^ p : Nat) : Int)).natAbs d m) = R at *
  generalize n * ((10 ^ p : Nat) : Int) = N at *
  generalize ((10 ^ p : Nat) : Int) = T at *
  have b1 : decide ((20 : Int) < (p : Int)) = false := decide_eq_false (by omega)
  clear h hn hd hm hT q1 q2 q3 q4
  go_enter Tryz.func94, Tryz.ntmps94
  go_wp2_with (go_at_call 133; (with_reducible refine HM.out.mono ?_); rintro ev w1 ⟨rfl, rfl⟩)
  go_wp2_with (go_at_call 80; (with_reducible refine HN.out.mono ?_); rintro ev w1 ⟨⟨r1, rfl, hr1⟩, hg1⟩; have HR1 := Lib.hid hr1; clear hr1)
  go_wp2_with (go_at_call 136; (with_reducible refine (HTE.out _).mono ?_); rintro ev w2 ⟨⟨r2, rfl, hr2⟩, hg2⟩; have HR2 := Lib.hid hr2; clear hr2)
  have H3 := Lib.hid (HMU.out r1 r2 w2 (HR1.out.gr hg2) HR2.out.at_)
  go_wp2_with (go_at_call 90; (with_reducible refine H3.out.mono ?_); rintro ev w3 ⟨⟨r3, rfl, hr3⟩, hg3⟩; have HR3 := Lib.hid hr3; clear hr3)
  have g3 := (hg1.tr hg2).tr hg3
  have H4 := Lib.hid (HD.out w3 g3)
  go_wp2_with (go_at_call 78; (with_reducible refine H4.out.mono ?_); rintro ev w4 ⟨⟨r4, rfl, hr4⟩, hg4⟩; have HR4 := Lib.hid hr4; clear hr4)
  have g4 := g3.tr hg4
  have H5 := Lib.hid (HWH.out r3 r4 w4 (HR3.out.gr hg4).at_ HR4.out)
  go_wp2_with (go_at_call 135; (with_reducible refine H5.out.mono ?_); rintro ev w5 ⟨⟨r5, rfl, hr5⟩, hg5⟩; have HR5 := Lib.hid hr5; clear hr5)
  have g5 := g4.tr hg5
  have H6 := Lib.hid (HPL.out r5 w5 HR5.out.at_ (HTT.out.gr g5))
  go_wp2_with (go_at_call 134; (with_reducible refine H6.out.mono ?_); rintro ev w6 ⟨rfl, hg6⟩)
  go_ret2
  exact ⟨rfl, g5.tr hg6⟩

set_option maxRecDepth 100000 in
set_option maxHeartbeats 2000000 in
/-- dec.Units. -/
theorem units_calls (v : Value) (n : Int) (d : Nat) (m : Int) (w : World) (h : RatAt w v n d) (k : Nat) (hn : n.natAbs + 1 < B ^ k) (hd : d < B) (hk1 : 2 ≤ k) (hk : k ≤ 500) (hm : m = 1 ∨ m = 2 ∨ m = 3)
    (hf : -9223372036854775808 ≤ sgn (decide (n < 0)) (roundN n.natAbs d m) ∧ sgn (decide (n < 0)) (roundN n.natAbs d m) ≤ 9223372036854775807) :
    Calls Tryz.prog 96 #[v, .int .i64 m] w fun e w' => e = .returned (.tuple #[.int .i64 (sgn (decide (n < 0)) (roundN n.natAbs d m)), .nilIface]) ∧ Gr w w' := by
  have HM := Lib.hid (mode_calls m w)
  rw [show decide (1 ≤ m ∧ m ≤ 3) = true from decide_eq_true (by omega)] at HM
  have HN := Lib.hid (num_calls v n d w h)
  have HD := Lib.hid (fun w' (hg : Gr w w') => den_calls v n d w' (h.gr hg))
  have HWH := Lib.hid (fun (x y : Value) (w' : World) hx hy => whole_calls x y n (d : Int) m w' hx hy k hn (by simpa using hd) (by have := h.pos; omega) hk1 (by omega) hm)
  rw [Int.natAbs_natCast] at HWH
  have HSM := Lib.hid (fun (x : Value) (w' : World) hx => small_int x (sgn (decide (n < 0)) (roundN n.natAbs d m)) w' hx 1 (by rw [Nat.pow_one, B_eq]; omega) (by omega))
  generalize sgn (decide (n < 0)) (roundN n.natAbs d m) = R at *
  have HF := Lib.hid hf
  clear h hn hd hm hf
  go_enter Tryz.func96, Tryz.ntmps96
  go_wp2_with (go_at_call 133; (with_reducible refine HM.out.mono ?_); rintro ev w1 ⟨rfl, rfl⟩)
  go_wp2_with (go_at_call 80; (with_reducible refine HN.out.mono ?_); rintro ev w1 ⟨⟨r1, rfl, hr1⟩, hg1⟩; have HR1 := Lib.hid hr1; clear hr1)
  have H4 := Lib.hid (HD.out w1 hg1)
  go_wp2_with (go_at_call 78; (with_reducible refine H4.out.mono ?_); rintro ev w4 ⟨⟨r4, rfl, hr4⟩, hg4⟩; have HR4 := Lib.hid hr4; clear hr4)
  have g4 := hg1.tr hg4
  have H5 := Lib.hid (HWH.out r1 r4 w4 (HR1.out.gr hg4) HR4.out)
  go_wp2_with (go_at_call 135; (with_reducible refine H5.out.mono ?_); rintro ev w5 ⟨⟨r5, rfl, hr5⟩, hg5⟩; have HR5 := Lib.hid hr5; clear hr5)
  have g5 := g4.tr hg5
  have H6 := Lib.hid (HSM.out r5 w5 HR5.out.at_)
  go_wp2_with (go_at_call 141; (with_reducible refine H6.out.mono ?_); rintro ev w6 ⟨⟨hs1, _⟩, hg6⟩; obtain rfl := hs1 HF.out; clear hs1)
  go_ret2
  exact ⟨rfl, g5.tr hg6⟩

set_option maxRecDepth 100000 in
/-- strings.Cut at a sign that is there. -/
theorem cut_has (s : ByteArray) (c : UInt8) (i : Nat) (hi : Lib.indexByte s.data.toList c = (i : Int)) (hlt : i < s.size) (hs : s.size ≤ 1000000000) (w : World) :
    Calls Tryz.prog 138 #[.string s, .string ⟨#[c]⟩] w fun e w' => e = .returned (.tuple #[.string (s.extract 0 i), .string (s.extract (i + 1) s.size), .bool true]) ∧ Gr w w' := by
  have HI := Tryz.stringslite_Index_one s c
  rw [hi] at HI
  have HI := Lib.hid HI
  clear hi
  have h1 : Calls Tryz.prog 178 #[.string s, .string ⟨#[c]⟩] w fun e w' => e = .returned (.tuple #[.string (s.extract 0 i), .string (s.extract (i + 1) s.size), .bool true]) ∧ Gr w w' := by
    go_enter Tryz.func178, Tryz.ntmps178
    go_wp2_with (go_at_call 203; (with_reducible refine (HI.out _).mono ?_); rintro ev w1 ⟨rfl, rfl⟩)
    go_quiet (fail)
    go_wp2
    go_ret3
    exact ⟨rfl, Gr.drew (Gr.rf _) _⟩
  have H1 := Lib.hid h1
  clear h1
  go_enter Tryz.func138, Tryz.ntmps138
  go_wp2_with (go_at_call 178; (with_reducible refine H1.out.mono ?_); rintro ev w1 ⟨rfl, hg1⟩)
  go_ret3
  exact ⟨rfl, hg1⟩
set_option maxRecDepth 100000 in
/-- strings.Cut at a sign that is not there. -/
theorem cut_none (s : ByteArray) (c : UInt8) (hi : Lib.indexByte s.data.toList c = -1) (w : World) :
    Calls Tryz.prog 138 #[.string s, .string ⟨#[c]⟩] w fun e w' => e = .returned (.tuple #[.string s, .string ⟨#[]⟩, .bool false]) ∧ Gr w w' := by
  have HI := Tryz.stringslite_Index_one s c
  rw [hi] at HI
  have HI := Lib.hid HI
  clear hi
  have h1 : Calls Tryz.prog 178 #[.string s, .string ⟨#[c]⟩] w fun e w' => e = .returned (.tuple #[.string s, .string ⟨#[]⟩, .bool false]) ∧ Gr w w' := by
    go_enter Tryz.func178, Tryz.ntmps178
    go_wp2_with (go_at_call 203; (with_reducible refine (HI.out _).mono ?_); rintro ev w1 ⟨rfl, rfl⟩)
    go_ret3
    exact ⟨rfl, Gr.rf _⟩
  have H1 := Lib.hid h1
  clear h1
  go_enter Tryz.func138, Tryz.ntmps138
  go_wp2_with (go_at_call 178; (with_reducible refine H1.out.mono ?_); rintro ev w1 ⟨rfl, hg1⟩)
  go_ret3
  exact ⟨rfl, hg1⟩
end Go.Proofs.YtgejadnfeeoknaaGreatDoor
