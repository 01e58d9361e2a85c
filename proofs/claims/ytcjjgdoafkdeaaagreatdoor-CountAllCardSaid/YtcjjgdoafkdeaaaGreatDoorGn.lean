/- Layer 5: decimals: placed by contract; (*Int).Small; Layer 5: decimals: Round, Units by contract; (*Int).Small; strings.Cut at one sign; Layer 5: decimals: Get of two texts. -/
import Derived.Test.YtcjjgdoafkdeaaaGreatDoorGl
import Derived.Test.YtcjjgdoafkdeaaaGreatDoorGj
import Derived.Deep.QuietTactic
import Derived.BigQuiet
import Derived.Test.YtcjjgdoafkdeaaaGreatDoorOf
import Derived.Lib.IndexLaws
namespace Go.Proofs.YtcjjgdoafkdeaaaGreatDoor
section
open Go.RowKit Go.Extern.Stop Go.Stop Go.Extern Go.Sort
set_option linter.unusedVariables false
set_option linter.unusedSimpArgs false

/-- Digits with a point. -/
def padL (l : List UInt8) (p : Nat) : List UInt8 := if l.length ≤ p then List.replicate (p + 1 - l.length) 48 ++ l else l
def pointL (l : List UInt8) (p : Nat) : List UInt8 := if 0 < p then l.take (l.length - p) ++ 46 :: l.drop (l.length - p) else l
def placedL (z : Int) (p : Nat) : List UInt8 := if z < 0 then 45 :: pointL (padL (Lib.decDigits z.natAbs) p) p else pointL (padL (Lib.decDigits z.natAbs) p) p

theorem rep_ba (c : Nat) (hc : c ≤ 100000) (w : World) : ∃ R : ByteArray, R.data.toList = List.replicate c 48 ∧ R.size = c ∧
    Calls Tryz.prog 126 #[.string ⟨#[48]⟩, .int .i64 (c : Int)] w fun e w' => e = .returned (.string R) ∧ Gr w w' := by
  obtain ⟨R, h1, h2, h3⟩ := rep_ex c hc
  exact ⟨R, h1, h2, h3 w⟩
theorem cat_list (a b : ByteArray) : (a ++ b).data.toList = a.data.toList ++ b.data.toList := by rw [ByteArray.data_append, Array.toList_append]

theorem point_ba (T : ByteArray) (p : Nat) (hp : 0 < p) : (T.extract 0 (T.size - p) ++ ⟨#[46]⟩ ++ T.extract (T.size - p) T.size).data.toList = pointL T.data.toList p := by
  obtain ⟨h1, h2, _⟩ := piece T (T.size - p) (Nat.sub_le _ _)
  rw [cat_list, cat_list, h1, h2, Lib.size_eq]
  unfold pointL
  rw [if_pos hp, List.append_assoc]
  rfl
theorem point_len (l : List UInt8) (p : Nat) : (pointL l p).length ≤ l.length + 1 := by
  unfold pointL
  split
  · rw [List.length_append, List.length_cons, List.length_take, List.length_drop]; omega
  · omega
theorem placed_neg (z : Int) (p : Nat) (T : ByteArray) (hz : z < 0) (h : T.data.toList = pointL (padL (Lib.decDigits z.natAbs) p) p) : (⟨#[45]⟩ : ByteArray) ++ T = ⟨(placedL z p).toArray⟩ := by
  apply ba_ext
  rw [cat_list, h]; unfold placedL; rw [if_pos hz]; rfl
theorem placed_pos (z : Int) (p : Nat) (T : ByteArray) (hz : ¬ z < 0) (h : T.data.toList = pointL (padL (Lib.decDigits z.natAbs) p) p) : T = ⟨(placedL z p).toArray⟩ := by
  apply ba_ext
  rw [h]; unfold placedL; rw [if_neg hz]

set_option maxRecDepth 100000 in
set_option maxHeartbeats 4000000 in
/-- dec.placed. -/
theorem placed_calls (v : Value) (z : Int) (p : Nat) (w : World) (h : IntAt w v z) (m : Nat) (hb : z.natAbs < B ^ m) (hm0 : 1 ≤ m) (hm : m ≤ 1000) (hp : p ≤ 20) (hT : PowTab w) :
    Calls Tryz.prog 70 #[v, .int .i64 (p : Int)] w fun e w' => e = .returned (.string ⟨(placedL z p).toArray⟩) ∧ Gr w w' := by
  have HA := Lib.hid (abs_calls v z w h)
  have HS := Lib.hid (fun w' (hg : Gr w w') => sign_calls v z w' (h.gr hg))
  have HTX := Lib.hid (fun (r : Value) (w' : World) (hi : NatAt w' r z.natAbs) (ht : PowTab w') => text_nat r z.natAbs w' hi m hb hm0 hm ht)
  obtain ⟨S, hS⟩ : ∃ S : ByteArray, S = ⟨(Lib.decDigits z.natAbs).toArray⟩ := ⟨_, rfl⟩
  have hsz : S.size ≤ 20 * m := by
    rw [hS, Lib.size_eq]
    exact nd_le (20 * m) _ (by omega) (Nat.lt_of_lt_of_le hb (B_le_ten m))
  have hs1 : 1 ≤ S.size := by rw [hS, Lib.size_eq]; exact nd_pos _
  have hsl : S.data.toList = Lib.decDigits z.natAbs := by rw [hS]
  rw [← hS] at HTX
  have HSL := Lib.hid hsl
  have HTT := Lib.hid hT
  have hsn := sign_neg_iff z
  generalize z.sign = sg at HS hsn
  clear h hb hS hsl hT
  rcases (by omega : S.size ≤ p ∨ (p < S.size ∧ 0 < p) ∨ p = 0) with hlp | ⟨hlp, hp1⟩ | hlp
  case' inl =>
    have b1 : decide (S.size ≤ p) = true := decide_eq_true hlp
    obtain ⟨R, hR, hRs, hrep⟩ := rep_ex (p + 1 - S.size) (by omega)
    have hcz : ((p + 1 - S.size : Nat) : Int) = (p : Int) + 1 - (S.size : Int) := by omega
    rw [hcz] at hrep
    have HRP := Lib.hid hrep
    have hT1 : (R ++ S).data.toList = padL (Lib.decDigits z.natAbs) p := by
      rw [cat_list, hR, HSL.out]; unfold padL
      rw [if_pos (by rw [← HSL.out, ← Lib.size_eq]; exact hlp), ← HSL.out, ← Lib.size_eq]
    have hTs0 : (R ++ S).size = p + 1 := by rw [ByteArray.size_append, hRs]; omega
    have HT1 := Lib.hid hT1
    have HTS := Lib.hid hTs0
    clear hTs0 hrep hcz hR hT1
    go_enter Tryz.func70, Tryz.ntmps70
    go_wp2_with (go_at_call 97; (with_reducible refine HA.out.mono ?_); rintro ev w1 ⟨⟨r1, rfl, hr1⟩, hg1⟩; have HR1 := Lib.hid hr1; clear hr1)
    have HX := Lib.hid (HTX.out r1 w1 HR1.out (HTT.out.gr hg1))
    go_wp2_with (go_at_call 61; (with_reducible refine HX.out.mono ?_); rintro ev w2 ⟨rfl, hg2⟩)
    go_wp2_with (go_at_call 126; (with_reducible refine (HRP.out _).mono ?_); rintro ev w3 ⟨rfl, hg3⟩)
    have hgc := (hg1.tr hg2).tr hg3
    have hTs : p < (R ++ S).size := by have := HTS.out; omega
    have hTm : (R ++ S).size ≤ 1000000 := by have := HTS.out; omega
    have hp0 : 0 < p := by omega
    generalize R ++ S = T at HT1 HTS hTs hTm ⊢
    clear HTS hRs
    clear hs1 hsz hlp b1
  case' inr.inl =>
    have b1 : decide (S.size ≤ p) = false := decide_eq_false (by omega)
    have hT1 : S.data.toList = padL (Lib.decDigits z.natAbs) p := by
      rw [HSL.out]; unfold padL
      rw [if_neg (by rw [← HSL.out, ← Lib.size_eq]; omega)]
    have HT1 := Lib.hid hT1
    clear hT1
    go_enter Tryz.func70, Tryz.ntmps70
    go_wp2_with (go_at_call 97; (with_reducible refine HA.out.mono ?_); rintro ev w1 ⟨⟨r1, rfl, hr1⟩, hg1⟩; have HR1 := Lib.hid hr1; clear hr1)
    have HX := Lib.hid (HTX.out r1 w1 HR1.out (HTT.out.gr hg1))
    go_wp2_with (go_at_call 61; (with_reducible refine HX.out.mono ?_); rintro ev w2 ⟨rfl, hg2⟩)
    have hgc := hg1.tr hg2
    have hTs : p < S.size := by omega
    have hTm : S.size ≤ 1000000 := by omega
    have hp0 : 0 < p := by omega
    obtain ⟨T, hTe⟩ : ∃ T, T = S := ⟨_, rfl⟩
    subst hTe
    clear hs1 hsz hlp b1 hp1
  case' inr.inr =>
    subst hlp
    have b1 : decide (S.size ≤ 0) = false := decide_eq_false (by omega)
    have hT1 : S.data.toList = pointL (padL (Lib.decDigits z.natAbs) 0) 0 := by
      rw [HSL.out]; unfold padL pointL
      rw [if_neg (by omega), if_neg (by rw [← HSL.out, ← Lib.size_eq]; omega)]
    have HT1 := Lib.hid hT1
    have HZ := Lib.hid hsn
    rw [show ((0 : Nat) : Int) = 0 from rfl]
    have b1' : decide (S = ByteArray.empty) = false := decide_eq_false (fun h => by rw [h] at hs1; simp at hs1)
    clear hT1
  any_goals
    (have hgc' := hgc
     go_quiet (fail)
     have hg4 := Gr.drew hgc' nq
     have HS4 := Lib.hid (HS.out _ hg4)
     have hpt := point_ba T p hp0
     have hps := point_len T.data.toList p
     rw [← hpt, ← Lib.size_eq, ← Lib.size_eq] at hps
     rw [HT1.out] at hpt
     generalize T.extract 0 (T.size - p) ++ ⟨#[46]⟩ ++ T.extract (T.size - p) T.size = TT at hpt hps ⊢
     have HPT := Lib.hid hpt
     clear hpt
     have HSN := Lib.hid hsn
     by_cases hz : z < 0
     · have b2 : decide (sg < 0) = true := decide_eq_true (HSN.out.2 hz)
       have HZ := Lib.hid hz
       clear hz hsn
       go_wp2_with (go_at_call 89; (with_reducible refine HS4.out.mono ?_); rintro ev w5 ⟨rfl, hg5⟩)
       go_ret
       exact ⟨ret_str (placed_neg z p TT HZ.out HPT.out), hg4.tr hg5⟩
     · have b2 : decide (sg < 0) = false := decide_eq_false (fun h => hz (HSN.out.1 h))
       have HZ := Lib.hid hz
       clear hz hsn
       go_wp2_with (go_at_call 89; (with_reducible refine HS4.out.mono ?_); rintro ev w5 ⟨rfl, hg5⟩)
       go_ret
       exact ⟨ret_str (placed_pos z p TT (by have := HZ.out; omega) HPT.out), hg4.tr hg5⟩)
  by_cases hz : z < 0
  · have b2 : decide (sg < 0) = true := decide_eq_true (HZ.out.2 hz)
    have HZZ := Lib.hid hz
    clear hz hsn
    go_enter Tryz.func70, Tryz.ntmps70
    go_wp2_with (go_at_call 97; (with_reducible refine HA.out.mono ?_); rintro ev w1 ⟨⟨r1, rfl, hr1⟩, hg1⟩; have HR1 := Lib.hid hr1; clear hr1)
    have HX := Lib.hid (HTX.out r1 w1 HR1.out (HTT.out.gr hg1))
    go_wp2_with (go_at_call 61; (with_reducible refine HX.out.mono ?_); rintro ev w2 ⟨rfl, hg2⟩)
    have HS4 := Lib.hid (HS.out w2 (hg1.tr hg2))
    go_wp2_with (go_at_call 89; (with_reducible refine HS4.out.mono ?_); rintro ev w5 ⟨rfl, hg5⟩)
    go_ret
    exact ⟨ret_str (placed_neg z 0 S HZZ.out HT1.out), (hg1.tr hg2).tr hg5⟩
  · have b2 : decide (sg < 0) = false := decide_eq_false (fun h => hz (HZ.out.1 h))
    have HZZ := Lib.hid hz
    clear hz hsn
    go_enter Tryz.func70, Tryz.ntmps70
    go_wp2_with (go_at_call 97; (with_reducible refine HA.out.mono ?_); rintro ev w1 ⟨⟨r1, rfl, hr1⟩, hg1⟩; have HR1 := Lib.hid hr1; clear hr1)
    have HX := Lib.hid (HTX.out r1 w1 HR1.out (HTT.out.gr hg1))
    go_wp2_with (go_at_call 61; (with_reducible refine HX.out.mono ?_); rintro ev w2 ⟨rfl, hg2⟩)
    have HS4 := Lib.hid (HS.out w2 (hg1.tr hg2))
    go_wp2_with (go_at_call 89; (with_reducible refine HS4.out.mono ?_); rintro ev w5 ⟨rfl, hg5⟩)
    go_ret
    exact ⟨ret_str (placed_pos z 0 S (by have := HZZ.out; omega) HT1.out), (hg1.tr hg2).tr hg5⟩
end
section
open Go.RowKit Go.Extern.Stop Go.Stop Go.Extern Go.Sort
set_option linter.unusedVariables false
set_option linter.unusedSimpArgs false

theorem ret_small {a b : Int} (h : a = b) : Ending.returned (.tuple #[.int .i64 a, .bool true]) = .returned (.tuple #[.int .i64 b, .bool true]) := by rw [h]
set_option maxRecDepth 100000 in
set_option maxHeartbeats 2000000 in
/-- (*Int).Small. -/
theorem small_int (v : Value) (z : Int) (w : World) (h : IntAt w v z) (k : Nat) (hb : z.natAbs < B ^ k) (hk : k ≤ 1000000) :
    Calls Tryz.prog 83 #[v] w fun e w' =>
      ((-9223372036854775808 ≤ z ∧ z ≤ 9223372036854775807 → e = .returned (.tuple #[.int .i64 z, .bool true])) ∧ (z < -9223372036854775808 ∨ 9223372036854775807 < z → e = .returned (.tuple #[.int .i64 0, .bool false]))) ∧ Gr w w' := by
  have HA := Lib.hid (abs_calls v z w h)
  have HS := Lib.hid (fun w' (hg : Gr w w') => sign_calls v z w' (h.gr hg))
  have HSM := Lib.hid (fun (r : Value) (w' : World) (hi : NatAt w' r z.natAbs) => small_nat r z.natAbs w' hi k hb hk)
  have hsn := sign_neg_iff z
  generalize z.sign = sg at HS hsn
  clear h hb
  by_cases hB : z.natAbs < B
  · rw [B_eq] at hB
    obtain ⟨M, hM⟩ : ∃ M : Int, (z.natAbs : Int) = M := ⟨_, rfl⟩
    have hM0 : 0 ≤ M := by omega
    have hM1 : M ≤ 18446744073709551615 := by omega
    have HBB := Lib.hid hB
    rw [hM] at HSM
    by_cases hz : z < 0
    · have hzM : z = -M := by omega
      have b1 : decide (sg < 0) = true := decide_eq_true (hsn.2 hz)
      have b1' : decide (0 ≤ sg) = false := decide_eq_false (by have := hsn.2 hz; omega)
      by_cases hle : M ≤ 9223372036854775808
      · have b2 : decide (M ≤ 9223372036854775808) = true := decide_eq_true hle
        have hcv : wrap64 (IntKind.u64.wrap (-M)) = z := by rw [IntKind.wrap_u64, wrap64]; omega
        have HC := Lib.hid hcv
        have HH := Lib.hid (And.intro hz (And.intro hzM hle))
        clear hz hzM hle hcv hsn hM hB b1'
        go_enter Tryz.func83, Tryz.ntmps83
        go_wp2_with (go_at_call 97; (with_reducible refine HA.out.mono ?_); rintro ev w1 ⟨⟨r1, rfl, hr1⟩, hg1⟩; have HR1 := Lib.hid hr1; clear hr1)
        have HX := Lib.hid (HSM.out r1 w1 HR1.out)
        go_wp2_with (go_at_call 143; (with_reducible refine HX.out.mono ?_); rintro ev w2 ⟨⟨hs1, _⟩, rfl⟩; obtain rfl := hs1 (by rw [B_eq]; exact HBB.out); clear hs1)
        have HS4 := Lib.hid (HS.out _ hg1)
        go_wp2_with (go_at_call 89; (with_reducible refine HS4.out.mono ?_); rintro ev w3 ⟨rfl, hg3⟩)
        go_ret2
        refine ⟨⟨fun _ => ?_, fun h => ?_⟩, hg1.tr hg3⟩
        · exact ret_small HC.out
        · exfalso; have := HH.out; omega
      · have b2 : decide (M ≤ 9223372036854775808) = false := decide_eq_false hle
        have HH := Lib.hid (And.intro hz (And.intro hzM hle))
        clear hz hzM hle hsn hM hB
        go_enter Tryz.func83, Tryz.ntmps83
        go_wp2_with (go_at_call 97; (with_reducible refine HA.out.mono ?_); rintro ev w1 ⟨⟨r1, rfl, hr1⟩, hg1⟩; have HR1 := Lib.hid hr1; clear hr1)
        have HX := Lib.hid (HSM.out r1 w1 HR1.out)
        go_wp2_with (go_at_call 143; (with_reducible refine HX.out.mono ?_); rintro ev w2 ⟨⟨hs1, _⟩, rfl⟩; obtain rfl := hs1 (by rw [B_eq]; exact HBB.out); clear hs1)
        have HS4 := Lib.hid (HS.out _ hg1)
        go_wp2_with (go_at_call 89; (with_reducible refine HS4.out.mono ?_); rintro ev w3 ⟨rfl, hg3⟩)
        have HS5 := Lib.hid (HS.out _ (hg1.tr hg3))
        go_wp2_with (go_at_call 89; (with_reducible refine HS5.out.mono ?_); rintro ev w4 ⟨rfl, hg4⟩)
        go_ret2
        refine ⟨⟨fun h => ?_, fun _ => rfl⟩, (hg1.tr hg3).tr hg4⟩
        exfalso; have := HH.out; omega
    · have hzM : z = M := by omega
      have b1 : decide (sg < 0) = false := decide_eq_false (fun h => hz (hsn.1 h))
      have b1' : decide (0 ≤ sg) = true := decide_eq_true (by have := of_decide_eq_false b1; omega)
      by_cases hle : M < 9223372036854775808
      · have b2 : decide (M < 9223372036854775808) = true := decide_eq_true hle
        have hcv : IntKind.i64.wrap M = z := by rw [IntKind.wrap_i64]; omega
        have HC := Lib.hid hcv
        have HH := Lib.hid (And.intro hz (And.intro hzM hle))
        clear hz hzM hcv hsn hM hB
        go_enter Tryz.func83, Tryz.ntmps83
        go_wp2_with (go_at_call 97; (with_reducible refine HA.out.mono ?_); rintro ev w1 ⟨⟨r1, rfl, hr1⟩, hg1⟩; have HR1 := Lib.hid hr1; clear hr1)
        have HX := Lib.hid (HSM.out r1 w1 HR1.out)
        go_wp2_with (go_at_call 143; (with_reducible refine HX.out.mono ?_); rintro ev w2 ⟨⟨hs1, _⟩, rfl⟩; obtain rfl := hs1 (by rw [B_eq]; exact HBB.out); clear hs1)
        have HS4 := Lib.hid (HS.out _ hg1)
        go_wp2_with (go_at_call 89; (with_reducible refine HS4.out.mono ?_); rintro ev w3 ⟨rfl, hg3⟩)
        have HS5 := Lib.hid (HS.out _ (hg1.tr hg3))
        go_wp2_with (go_at_call 89; (with_reducible refine HS5.out.mono ?_); rintro ev w4 ⟨rfl, hg4⟩)
        go_ret2
        refine ⟨⟨fun _ => ?_, fun h => ?_⟩, (hg1.tr hg3).tr hg4⟩
        · exact ret_small HH.out.2.1.symm
        · exfalso; have := HH.out; omega
      · have b2 : decide (M < 9223372036854775808) = false := decide_eq_false hle
        have HH := Lib.hid (And.intro hz (And.intro hzM hle))
        clear hz hzM hle hsn hM hB
        go_enter Tryz.func83, Tryz.ntmps83
        go_wp2_with (go_at_call 97; (with_reducible refine HA.out.mono ?_); rintro ev w1 ⟨⟨r1, rfl, hr1⟩, hg1⟩; have HR1 := Lib.hid hr1; clear hr1)
        have HX := Lib.hid (HSM.out r1 w1 HR1.out)
        go_wp2_with (go_at_call 143; (with_reducible refine HX.out.mono ?_); rintro ev w2 ⟨⟨hs1, _⟩, rfl⟩; obtain rfl := hs1 (by rw [B_eq]; exact HBB.out); clear hs1)
        have HS4 := Lib.hid (HS.out _ hg1)
        go_wp2_with (go_at_call 89; (with_reducible refine HS4.out.mono ?_); rintro ev w3 ⟨rfl, hg3⟩)
        have HS5 := Lib.hid (HS.out _ (hg1.tr hg3))
        go_wp2_with (go_at_call 89; (with_reducible refine HS5.out.mono ?_); rintro ev w4 ⟨rfl, hg4⟩)
        go_ret2
        refine ⟨⟨fun h => ?_, fun _ => rfl⟩, (hg1.tr hg3).tr hg4⟩
        exfalso; have := HH.out; omega
  · have HBB := Lib.hid hB
    have hBz : z < -9223372036854775808 ∨ 9223372036854775807 < z := by rw [B_eq] at hB; omega
    have HH := Lib.hid hBz
    clear hB hBz hsn
    go_enter Tryz.func83, Tryz.ntmps83
    go_wp2_with (go_at_call 97; (with_reducible refine HA.out.mono ?_); rintro ev w1 ⟨⟨r1, rfl, hr1⟩, hg1⟩; have HR1 := Lib.hid hr1; clear hr1)
    have HX := Lib.hid (HSM.out r1 w1 HR1.out)
    go_wp2_with (go_at_call 143; (with_reducible refine HX.out.mono ?_); rintro ev w2 ⟨⟨_, hs1⟩, rfl⟩; obtain rfl := hs1 (by have := HBB.out; omega); clear hs1)
    go_ret2
    refine ⟨⟨fun h => ?_, fun _ => rfl⟩, hg1⟩
    exfalso; have := HH.out; omega

theorem round_bd (n : Int) (p k d : Nat) (m : Int) (hn : n.natAbs < B ^ k) (hp : p ≤ 20) : (n * ((10 ^ p : Nat) : Int)).natAbs + 1 < B ^ (k + 2) ∧ roundN (n * ((10 ^ p : Nat) : Int)).natAbs d m < B ^ (k + 2) ∧ ((10 ^ p : Nat) : Int).natAbs < B ^ (k + 2) ∧ n.natAbs < B ^ (k + 2) := by
  have h1 : (10 : Nat) ^ p ≤ 10 ^ 20 := Nat.pow_le_pow_right (by decide) hp
  have h3 : (10 : Nat) ^ 20 + 2 ≤ B ^ 2 := by decide
  have h4 : B ^ (k + 2) = B ^ k * B ^ 2 := Nat.pow_add _ _ _
  have h5 : 0 < B ^ k := Nat.pow_pos B_pos
  have h6 : (n * ((10 ^ p : Nat) : Int)).natAbs = n.natAbs * 10 ^ p := by rw [Int.natAbs_mul, Int.natAbs_natCast]
  rw [h6, h4, Int.natAbs_natCast]
  generalize B ^ k = P at *
  generalize n.natAbs = a at *
  generalize 10 ^ p = t at *
  have h7 : a * t ≤ (P - 1) * 10 ^ 20 := Nat.mul_le_mul (by omega) h1
  have h8 : P * (10 ^ 20 + 2) ≤ P * B ^ 2 := Nat.mul_le_mul_left _ h3
  have h9 : (P - 1) * 10 ^ 20 + 10 ^ 20 = P * 10 ^ 20 := by rw [← Nat.succ_mul]; congr 1; omega
  rw [Nat.mul_add] at h8
  have h10 : roundN (a * t) d m ≤ a * t + 1 := by
    have := Nat.div_le_self (a * t) d
    unfold roundN; split <;> omega
  have h11 : P * 1 ≤ P * 10 ^ 20 := Nat.mul_le_mul_left _ (by decide)
  refine ⟨by omega, by omega, by omega, by omega⟩

set_option maxRecDepth 100000 in
set_option maxHeartbeats 2000000 in
/-- dec.Round. -/
theorem round_calls (v : Value) (n : Int) (d p : Nat) (m : Int) (w : World) (h : RatAt w v n d) (k : Nat) (hn : n.natAbs < B ^ k) (hd : d < B) (hk : k ≤ 500) (hp : p ≤ 20) (hm : m = 1 ∨ m = 2 ∨ m = 3) (hT : PowTab w) :
    Calls Tryz.prog 13 #[v, .int .i64 (p : Int), .int .i64 m] w fun e w' =>
      e = .returned (.tuple #[.string ⟨(placedL (sgn (decide (n * ((10 ^ p : Nat) : Int) < 0)) (roundN (n * ((10 ^ p : Nat) : Int)).natAbs d m)) p).toArray⟩, .nilIface]) ∧ Gr w w' := by
  have HM := Lib.hid (mode_calls m w)
  rw [show decide (1 ≤ m ∧ m ≤ 3) = true from decide_eq_true (by omega)] at HM
  have HN := Lib.hid (num_calls v n d w h)
  have HD := Lib.hid (fun w' (hg : Gr w w') => den_calls v n d w' (h.gr hg))
  have HTE := Lib.hid (fun w => ten_calls p hp w)
  obtain ⟨q1, q2, q3, q4⟩ := round_bd n p k d m hn hp
  have HMU := Lib.hid (fun (x y : Value) (w' : World) hx hy => mul_int x y n ((10 ^ p : Nat) : Int) w' hx hy (k + 2) q4 q3 (by omega))
  have HWH := Lib.hid (fun (x y : Value) (w' : World) hx hy => whole_calls x y (n * ((10 ^ p : Nat) : Int)) (d : Int) m w' hx hy (k + 2) q1 (by simpa using hd) (by have := h.pos; omega) (by omega) (by omega) hm)
  rw [Int.natAbs_natCast] at HWH
  have HPL := Lib.hid (fun (x : Value) (w' : World) hx ht => placed_calls x (sgn (decide (n * ((10 ^ p : Nat) : Int) < 0)) (roundN (n * ((10 ^ p : Nat) : Int)).natAbs d m)) p w' hx (k + 2) (by rw [sgn_abs]; exact q2) (by omega) (by omega) hp ht)
  have HTT := Lib.hid hT
  generalize sgn (decide (n * ((10 ^ p : Nat) : Int) < 0)) (roundN (n * ((10 ^ p : Nat) : Int)).natAbs d m) = R at *
  generalize n * ((10 ^ p : Nat) : Int) = N at *
  generalize ((10 ^ p : Nat) : Int) = T at *
  have b1 : decide ((20 : Int) < (p : Int)) = false := decide_eq_false (by omega)
  clear h hn hd hm hT q1 q2 q3 q4
  go_enter Tryz.func13, Tryz.ntmps13
  go_wp2_with (go_at_call 69; (with_reducible refine HM.out.mono ?_); rintro ev w1 ⟨rfl, rfl⟩)
  go_wp2_with (go_at_call 42; (with_reducible refine HN.out.mono ?_); rintro ev w1 ⟨⟨r1, rfl, hr1⟩, hg1⟩; have HR1 := Lib.hid hr1; clear hr1)
  go_wp2_with (go_at_call 73; (with_reducible refine (HTE.out _).mono ?_); rintro ev w2 ⟨⟨r2, rfl, hr2⟩, hg2⟩; have HR2 := Lib.hid hr2; clear hr2)
  have H3 := Lib.hid (HMU.out r1 r2 w2 (HR1.out.gr hg2) HR2.out.at_)
  go_wp2_with (go_at_call 72; (with_reducible refine H3.out.mono ?_); rintro ev w3 ⟨⟨r3, rfl, hr3⟩, hg3⟩; have HR3 := Lib.hid hr3; clear hr3)
  have g3 := (hg1.tr hg2).tr hg3
  have H4 := Lib.hid (HD.out w3 g3)
  go_wp2_with (go_at_call 44; (with_reducible refine H4.out.mono ?_); rintro ev w4 ⟨⟨r4, rfl, hr4⟩, hg4⟩; have HR4 := Lib.hid hr4; clear hr4)
  have g4 := g3.tr hg4
  have H5 := Lib.hid (HWH.out r3 r4 w4 (HR3.out.gr hg4).at_ HR4.out)
  go_wp2_with (go_at_call 71; (with_reducible refine H5.out.mono ?_); rintro ev w5 ⟨⟨r5, rfl, hr5⟩, hg5⟩; have HR5 := Lib.hid hr5; clear hr5)
  have g5 := g4.tr hg5
  have H6 := Lib.hid (HPL.out r5 w5 HR5.out.at_ (HTT.out.gr g5))
  go_wp2_with (go_at_call 70; (with_reducible refine H6.out.mono ?_); rintro ev w6 ⟨rfl, hg6⟩)
  go_ret2
  exact ⟨rfl, g5.tr hg6⟩

set_option maxRecDepth 100000 in
set_option maxHeartbeats 2000000 in
/-- dec.Units. -/
theorem units_calls (v : Value) (n : Int) (d : Nat) (m : Int) (w : World) (h : RatAt w v n d) (k : Nat) (hn : n.natAbs + 1 < B ^ k) (hd : d < B) (hk1 : 2 ≤ k) (hk : k ≤ 500) (hm : m = 1 ∨ m = 2 ∨ m = 3)
    (hf : -9223372036854775808 ≤ sgn (decide (n < 0)) (roundN n.natAbs d m) ∧ sgn (decide (n < 0)) (roundN n.natAbs d m) ≤ 9223372036854775807) :
    Calls Tryz.prog 22 #[v, .int .i64 m] w fun e w' => e = .returned (.tuple #[.int .i64 (sgn (decide (n < 0)) (roundN n.natAbs d m)), .nilIface]) ∧ Gr w w' := by
  have HM := Lib.hid (mode_calls m w)
  rw [show decide (1 ≤ m ∧ m ≤ 3) = true from decide_eq_true (by omega)] at HM
  have HN := Lib.hid (num_calls v n d w h)
  have HD := Lib.hid (fun w' (hg : Gr w w') => den_calls v n d w' (h.gr hg))
  have HWH := Lib.hid (fun (x y : Value) (w' : World) hx hy => whole_calls x y n (d : Int) m w' hx hy k hn (by simpa using hd) (by have := h.pos; omega) hk1 (by omega) hm)
  rw [Int.natAbs_natCast] at HWH
  have HSM := Lib.hid (fun (x : Value) (w' : World) hx => small_int x (sgn (decide (n < 0)) (roundN n.natAbs d m)) w' hx 1 (by rw [Nat.pow_one, B_eq]; omega) (by omega))
  generalize sgn (decide (n < 0)) (roundN n.natAbs d m) = R at *
  have HF := Lib.hid hf
  clear h hn hd hm hf
  go_enter Tryz.func22, Tryz.ntmps22
  go_wp2_with (go_at_call 69; (with_reducible refine HM.out.mono ?_); rintro ev w1 ⟨rfl, rfl⟩)
  go_wp2_with (go_at_call 42; (with_reducible refine HN.out.mono ?_); rintro ev w1 ⟨⟨r1, rfl, hr1⟩, hg1⟩; have HR1 := Lib.hid hr1; clear hr1)
  have H4 := Lib.hid (HD.out w1 hg1)
  go_wp2_with (go_at_call 44; (with_reducible refine H4.out.mono ?_); rintro ev w4 ⟨⟨r4, rfl, hr4⟩, hg4⟩; have HR4 := Lib.hid hr4; clear hr4)
  have g4 := hg1.tr hg4
  have H5 := Lib.hid (HWH.out r1 r4 w4 (HR1.out.gr hg4) HR4.out)
  go_wp2_with (go_at_call 71; (with_reducible refine H5.out.mono ?_); rintro ev w5 ⟨⟨r5, rfl, hr5⟩, hg5⟩; have HR5 := Lib.hid hr5; clear hr5)
  have g5 := g4.tr hg5
  have H6 := Lib.hid (HSM.out r5 w5 HR5.out.at_)
  go_wp2_with (go_at_call 83; (with_reducible refine H6.out.mono ?_); rintro ev w6 ⟨⟨hs1, _⟩, hg6⟩; obtain rfl := hs1 HF.out; clear hs1)
  go_ret2
  exact ⟨rfl, g5.tr hg6⟩

set_option maxRecDepth 100000 in
/-- strings.Cut at a sign that is there. -/
theorem cut_has (s : ByteArray) (c : UInt8) (i : Nat) (hi : Lib.indexByte s.data.toList c = (i : Int)) (hlt : i < s.size) (hs : s.size ≤ 1000000000) (w : World) :
    Calls Tryz.prog 75 #[.string s, .string ⟨#[c]⟩] w fun e w' => e = .returned (.tuple #[.string (s.extract 0 i), .string (s.extract (i + 1) s.size), .bool true]) ∧ Gr w w' := by
  have HI := Tryz.stringslite_Index_one s c
  rw [hi] at HI
  have HI := Lib.hid HI
  clear hi
  have h1 : Calls Tryz.prog 134 #[.string s, .string ⟨#[c]⟩] w fun e w' => e = .returned (.tuple #[.string (s.extract 0 i), .string (s.extract (i + 1) s.size), .bool true]) ∧ Gr w w' := by
    go_enter Tryz.func134, Tryz.ntmps134
    go_wp2_with (go_at_call 185; (with_reducible refine (HI.out _).mono ?_); rintro ev w1 ⟨rfl, rfl⟩)
    go_quiet (fail)
    go_wp2
    go_ret3
    exact ⟨rfl, Gr.drew (Gr.rf _) _⟩
  have H1 := Lib.hid h1
  clear h1
  go_enter Tryz.func75, Tryz.ntmps75
  go_wp2_with (go_at_call 134; (with_reducible refine H1.out.mono ?_); rintro ev w1 ⟨rfl, hg1⟩)
  go_ret3
  exact ⟨rfl, hg1⟩
set_option maxRecDepth 100000 in
/-- strings.Cut at a sign that is not there. -/
theorem cut_none (s : ByteArray) (c : UInt8) (hi : Lib.indexByte s.data.toList c = -1) (w : World) :
    Calls Tryz.prog 75 #[.string s, .string ⟨#[c]⟩] w fun e w' => e = .returned (.tuple #[.string s, .string ⟨#[]⟩, .bool false]) ∧ Gr w w' := by
  have HI := Tryz.stringslite_Index_one s c
  rw [hi] at HI
  have HI := Lib.hid HI
  clear hi
  have h1 : Calls Tryz.prog 134 #[.string s, .string ⟨#[c]⟩] w fun e w' => e = .returned (.tuple #[.string s, .string ⟨#[]⟩, .bool false]) ∧ Gr w w' := by
    go_enter Tryz.func134, Tryz.ntmps134
    go_wp2_with (go_at_call 185; (with_reducible refine (HI.out _).mono ?_); rintro ev w1 ⟨rfl, rfl⟩)
    go_ret3
    exact ⟨rfl, Gr.rf _⟩
  have H1 := Lib.hid h1
  clear h1
  go_enter Tryz.func75, Tryz.ntmps75
  go_wp2_with (go_at_call 134; (with_reducible refine H1.out.mono ?_); rintro ev w1 ⟨rfl, hg1⟩)
  go_ret3
  exact ⟨rfl, hg1⟩
end
section
open Go.RowKit Go.Extern.Stop Go.Stop Go.Extern Go.Sort
set_option linter.unusedVariables false
set_option linter.unusedSimpArgs false

theorem RatAt.cop {w : World} {v : Value} {n : Int} {d : Nat} (h : RatAt w v n d) : Nat.gcd n.natAbs d = 1 := by
  rcases h with ⟨_, _, rfl⟩ | ⟨b, p, q, _, _, _, _, _, _, hc⟩
  · exact Nat.gcd_one_right _
  · exact hc
/-- Lowest terms are one. -/
theorem rat_unique (n N z e : Int) (d D : Nat) (he : e ≠ 0) (h1 : n * e = z * (d : Int)) (h2 : N * e = z * (D : Int)) (hd : 0 < d) (hD : 0 < D) (c1 : Nat.gcd n.natAbs d = 1) (c2 : Nat.gcd N.natAbs D = 1) : n = N ∧ d = D := by
  have h3 : n * (D : Int) = N * (d : Int) := by
    apply Int.eq_of_mul_eq_mul_right he
    calc n * (D : Int) * e = n * e * (D : Int) := by ac_rfl
      _ = z * (d : Int) * (D : Int) := by rw [h1]
      _ = z * (D : Int) * (d : Int) := by ac_rfl
      _ = N * e * (d : Int) := by rw [h2]
      _ = N * (d : Int) * e := by ac_rfl
  have h4 : n.natAbs * D = N.natAbs * d := by
    have := congrArg Int.natAbs h3
    rw [Int.natAbs_mul, Int.natAbs_mul, Int.natAbs_natCast, Int.natAbs_natCast] at this
    exact this
  have hdD : d ∣ D := Nat.Coprime.dvd_of_dvd_mul_left (show Nat.Coprime d n.natAbs from by rw [Nat.coprime_comm]; exact c1) ⟨N.natAbs, by rw [h4, Nat.mul_comm]⟩
  have hDd : D ∣ d := Nat.Coprime.dvd_of_dvd_mul_left (show Nat.Coprime D N.natAbs from by rw [Nat.coprime_comm]; exact c2) ⟨n.natAbs, by rw [← h4, Nat.mul_comm]⟩
  have hdd : d = D := Nat.dvd_antisymm hdD hDd
  subst hdd
  exact ⟨Int.eq_of_mul_eq_mul_right (by omega) h3, rfl⟩

theorem cp_150 (w : World) : Calls Tryz.prog 74 #[.string ⟨#[45, 49, 46, 53, 48]⟩, .string ⟨#[45]⟩] w fun e w' => e = .returned (.tuple #[.string ⟨#[49, 46, 53, 48]⟩, .bool true]) ∧ w = w' :=
  (Tryz.strings_CutPrefix ⟨#[45, 49, 46, 53, 48]⟩ ⟨#[45]⟩ w).mono (by rintro e w' ⟨rfl, rfl⟩; exact ⟨rfl, rfl⟩)
theorem cut_150 (w : World) : Calls Tryz.prog 75 #[.string ⟨#[49, 46, 53, 48]⟩, .string ⟨#[46]⟩] w fun e w' => e = .returned (.tuple #[.string ⟨#[49]⟩, .string ⟨#[53, 48]⟩, .bool true]) ∧ Gr w w' :=
  (cut_has ⟨#[49, 46, 53, 48]⟩ 46 1 (by decide) (by decide) (by decide) w).mono (by rintro e w' ⟨rfl, hg⟩; exact ⟨rfl, hg⟩)
theorem trim_50 (w : World) : Calls Tryz.prog 76 #[.string ⟨#[53, 48]⟩, .string ⟨#[48, 49, 50, 51, 52, 53, 54, 55, 56, 57]⟩] w fun e w' => e = .returned (.string ⟨#[]⟩) ∧ Gr w w' :=
  (trim_calls ⟨#[53, 48]⟩ (by decide) w).mono (by rintro e w' ⟨rfl, hg⟩; exact ⟨rfl, hg⟩)
set_option maxRecDepth 100000 in
theorem trimLeft_150 (w : World) : Calls Tryz.prog 77 #[.string ((⟨#[49]⟩ : ByteArray) ++ (⟨#[53, 48]⟩ : ByteArray)), .string ⟨#[48]⟩] w fun e w' => e = .returned (.string ⟨#[49, 53, 48]⟩) ∧ w = w' :=
  (Tryz.strings_TrimLeft_one ((⟨#[49]⟩ : ByteArray) ++ (⟨#[53, 48]⟩ : ByteArray)) 48 (by decide) w).mono (by rw [cat_list]; rintro e w' ⟨rfl, rfl⟩; exact ⟨rfl, rfl⟩)
theorem get_1 (w : World) : Calls Tryz.prog 53 #[.string ⟨#[49]⟩] w fun e w' => (∃ r, e = .returned (.tuple #[r, .nilIface]) ∧ NatP w' r 1) ∧ Gr w w' :=
  get_nat_ok ⟨#[49]⟩ w (by decide) (by decide) (by unfold Dig; decide) (.inl rfl)
theorem get_0 (w : World) : Calls Tryz.prog 53 #[.string ⟨#[48]⟩] w fun e w' => (∃ r, e = .returned (.tuple #[r, .nilIface]) ∧ NatP w' r 0) ∧ Gr w w' :=
  get_nat_ok ⟨#[48]⟩ w (by decide) (by decide) (by unfold Dig; decide) (.inl rfl)
theorem get_150 (w : World) : Calls Tryz.prog 53 #[.string ⟨#[49, 53, 48]⟩] w fun e w' => (∃ r, e = .returned (.tuple #[r, .nilIface]) ∧ NatP w' r 150) ∧ Gr w w' :=
  get_nat_ok ⟨#[49, 53, 48]⟩ w (by decide) (by decide) (by unfold Dig; decide) (.inr (fun _ => by show (49 : UInt8).toNat ≠ 48; decide))

set_option maxRecDepth 100000 in
set_option maxHeartbeats 2000000 in
/-- dec.Get("-1.50"). -/
theorem get_dec_150 (w : World) (hT : BitTab w) :
    Calls Tryz.prog 14 #[.string ⟨#[45, 49, 46, 53, 48]⟩] w fun e w' => (∃ b, e = .returned (.tuple #[.pointer (some ⟨b, 0, none⟩), .int .i64 2, .nilIface]) ∧ RatAt w' (.pointer (some ⟨b, 0, none⟩)) (-3) 2) ∧ Gr w w' := by
  have HTT := Lib.hid hT
  clear hT
  go_enter Tryz.func14, Tryz.ntmps14
  go_wp2_with (go_at_call 74; (with_reducible refine (cp_150 _).mono ?_); rintro ev w1 ⟨rfl, rfl⟩)
  go_wp2_with (go_at_call 75; (with_reducible refine (cut_150 _).mono ?_); rintro ev w1 ⟨rfl, hg1⟩)
  go_wp2_with (go_at_call 76; (with_reducible refine (trim_50 _).mono ?_); rintro ev w2 ⟨rfl, hg2⟩)
  go_wp2_with (go_at_call 53; (with_reducible refine (get_1 _).mono ?_); rintro ev w3 ⟨⟨r3, rfl, hr3⟩, hg3⟩; clear hr3)
  go_wp2_with (go_at_call 53; (with_reducible refine (get_0 _).mono ?_); rintro ev w4 ⟨⟨r4, rfl, hr4⟩, hg4⟩; clear hr4)
  go_wp2_with (go_at_call 77; (with_reducible refine (trimLeft_150 _).mono ?_); rintro ev w5 ⟨rfl, rfl⟩)
  go_wp2_with (go_at_call 53; (with_reducible refine (get_150 _).mono ?_); rintro ev w6 ⟨⟨r6, rfl, hr6⟩, hg6⟩; have HR6 := Lib.hid hr6; clear hr6)
  have hz := zero_calls r6 150 w6 HR6.out
  rw [show ((150 : Nat) == 0) = false from rfl] at hz
  have HZ := Lib.hid hz
  clear hz
  go_wp2_with (go_at_call 78; (with_reducible refine HZ.out.mono ?_); rintro ev w7 ⟨rfl, rfl⟩)
  have HN := Lib.hid (newP_calls true r6 150 w6 HR6.out)
  go_wp2_with (go_at_call 66; (with_reducible refine HN.out.mono ?_); rintro ev w8 ⟨⟨r8, rfl, hr8⟩, hg8⟩; have HR8 := Lib.hid hr8; clear hr8)
  have ht := ten_calls 2 (by decide) w8
  rw [show ((2 : Nat) : Int) = 2 from rfl] at ht
  have HTE := Lib.hid ht
  clear ht
  go_wp2_with (go_at_call 73; (with_reducible refine HTE.out.mono ?_); rintro ev w9 ⟨⟨r9, rfl, hr9⟩, hg9⟩; have HR9 := Lib.hid hr9; clear hr9)
  have hgt := ((hg1.tr hg2).tr hg3).tr ((hg4.tr hg6).tr (hg8.tr hg9))
  have HNR := Lib.hid (newRat_calls r8 r9 (-150) 100 w9 (HTT.out.gr hgt) (HR8.out.gr hg9).at_ HR9.out.at_ (by decide) (by decide))
  go_wp2_with (go_at_call 65; (with_reducible refine HNR.out.mono ?_); rintro ev w10 ⟨⟨_, hnew⟩, hg10⟩; obtain ⟨b, n, d, rfl, hr, hnd, _⟩ := hnew (by decide); have HR := Lib.hid (And.intro hr hnd); clear hnew hr hnd)
  go_ret3
  obtain ⟨hr, hnd⟩ := HR.out
  obtain ⟨e1, e2⟩ := rat_unique n (-3) (-150) 100 d 2 (by decide) hnd (by decide) hr.pos (by decide) hr.cop (by decide)
  subst e1
  subst e2
  exact ⟨⟨b, rfl, hr⟩, hgt.tr hg10⟩

set_option maxRecDepth 100000 in
/-- dec.Get(""). -/
theorem get_dec_nil (w : World) :
    Calls Tryz.prog 14 #[.string ⟨#[]⟩] w fun e w' => e = .returned (.tuple #[.pointer none, .int .i64 0, .iface 169 (.int .i64 1)]) ∧ Gr w w' := by
  have HO := Lib.hid (of_calls 1 rfl)
  have HCP : ∀ w, Calls Tryz.prog 74 #[.string ⟨#[]⟩, .string ⟨#[45]⟩] w fun e w' => e = .returned (.tuple #[.string ⟨#[]⟩, .bool false]) ∧ w = w' := fun w =>
    (Tryz.strings_CutPrefix ⟨#[]⟩ ⟨#[45]⟩ w).mono (by rintro e w' ⟨rfl, rfl⟩; exact ⟨rfl, rfl⟩)
  have HCP := Lib.hid HCP
  have HCU := Lib.hid (fun w => cut_none ⟨#[]⟩ 46 (by decide) w)
  have HG := Lib.hid (fun w => get_nat_bad ⟨#[]⟩ w (by decide) (.inl rfl))
  go_enter Tryz.func14, Tryz.ntmps14
  go_wp2_with (go_at_call 74; (with_reducible refine (HCP.out _).mono ?_); rintro ev w1 ⟨rfl, rfl⟩)
  go_wp2_with (go_at_call 75; (with_reducible refine (HCU.out _).mono ?_); rintro ev w1 ⟨rfl, hg1⟩)
  go_wp2_with (go_at_call 53; (with_reducible refine (HG.out _).mono ?_); rintro ev w2 ⟨rfl, hg2⟩)
  go_wp2_with (go_at_call 68; (with_reducible refine (HO.out _).mono ?_); rintro ev w3 ⟨rfl, rfl⟩)
  go_ret3
  exact ⟨rfl, hg1.tr hg2⟩
end
end Go.Proofs.YtcjjgdoafkdeaaaGreatDoor
