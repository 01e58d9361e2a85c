/- Layer 5: decimals: placed by contract; (*Int).Small. -/
import Derived.Test.YtgejadnfeeoknaaGreatDoorOe
import Derived.Test.YtgejadnfeeoknaaGreatDoorNz
import Derived.Deep.QuietTactic
import Derived.BigQuiet
namespace Go.Proofs.YtgejadnfeeoknaaGreatDoor
open Go.RowKit Go.Extern.Stop Go.Stop Go.Extern Go.Sort
set_option linter.unusedVariables false
set_option linter.unusedSimpArgs false

/-- Digits with a point. -/
def padL (l : List UInt8) (p : Nat) : List UInt8 := if l.length ≤ p then List.replicate (p + 1 - l.length) 48 ++ l else l
def pointL (l : List UInt8) (p : Nat) : List UInt8 := if 0 < p then l.take (l.length - p) ++ 46 :: l.drop (l.length - p) else l
def placedL (z : Int) (p : Nat) : List UInt8 := if z < 0 then 45 :: pointL (padL (Lib.decDigits z.natAbs) p) p else pointL (padL (Lib.decDigits z.natAbs) p) p

theorem rep_ba (c : Nat) (hc : c ≤ 100000) (w : World) : ∃ R : ByteArray, R.data.toList = List.replicate c 48 ∧ R.size = c ∧
    Calls Tryz.prog 83 #[.string ⟨#[48]⟩, .int .i64 (c : Int)] w fun e w' => e = .returned (.string R) ∧ Gr w w' := by
  obtain ⟨R, h1, h2, h3⟩ := rep_ex c hc
  exact ⟨R, h1, h2, h3 w⟩
theorem cat_list (a b : ByteArray) : (a ++ b).data.toList = a.data.toList ++ b.data.toList := by rw [ByteArray.data_append, Array.toList_append]

theorem point_ba (T : ByteArray) (p : Nat) (hp : 0 < p) : (T.extract 0 (T.size - p) ++ ⟨#[46]⟩ ++ T.extract (T.size - p) T.size).data.toList = pointL T.data.toList p := by
  obtain ⟨h1, h2, _⟩ := piece T (T.size - p) (Nat.sub_le _ _)
  rw [cat_list, cat_list, h1, h2, Lib.size_eq]
  unfold pointL
  rw [if_pos hp, List.append_assoc]
  rfl
theorem point_len (l : List UInt8) (p : Nat) : (pointL l p).length ≤ l.length + 1 := by
  unfold pointL
  split
  · rw [List.length_append, List.length_cons, List.length_take, List.length_drop]; omega
  · omega
theorem placed_neg (z : Int) (p : Nat) (T : ByteArray) (hz : z < 0) (h : T.data.toList = pointL (padL (Lib.decDigits z.natAbs) p) p) : (⟨#[45]⟩ : ByteArray) ++ T = ⟨(placedL z p).toArray⟩ := by
  apply ba_ext
  rw [cat_list, h]; unfold placedL; rw [if_pos hz]; rfl
theorem placed_pos (z : Int) (p : Nat) (T : ByteArray) (hz : ¬ z < 0) (h : T.data.toList = pointL (padL (Lib.decDigits z.natAbs) p) p) : T = ⟨(placedL z p).toArray⟩ := by
  apply ba_ext
  rw [h]; unfold placedL; rw [if_neg hz]

set_option maxRecDepth 100000 in
set_option maxHeartbeats 4000000 in
/-- dec.placed. -/
theorem placed_calls (v : Value) (z : Int) (p : Nat) (w : World) (h : IntAt w v z) (m : Nat) (hb : z.natAbs < B ^ m) (hm0 : 1 ≤ m) (hm : m ≤ 1000) (hp : p ≤ 20) (hT : PowTab w) :
    Calls Tryz.prog 134 #[v, .int .i64 (p : Int)] w fun e w' => e = .returned (.string ⟨(placedL z p).toArray⟩) ∧ Gr w w' := by
  have HA := Lib.hid (abs_calls v z w h)
  have HS := Lib.hid (fun w' (hg : Gr w w') => sign_calls v z w' (h.gr hg))
  have HTX := Lib.hid (fun (r : Value) (w' : World) (hi : NatAt w' r z.natAbs) (ht : PowTab w') => text_nat r z.natAbs w' hi m hb hm0 hm ht)
  obtain ⟨S, hS⟩ : ∃ S : ByteArray, S = ⟨(Lib.decDigits z.natAbs).toArray⟩ := ⟨_, rfl⟩
  have hsz : S.size ≤ 20 * m := by
    rw [hS, Lib.size_eq]
    exact nd_le (20 * m) _ (by omega) (Nat.lt_of_lt_of_le hb (B_le_ten m))
  have hs1 : 1 ≤ S.size := by rw [hS, Lib.size_eq]; exact nd_pos _
  have hsl : S.data.toList = Lib.decDigits z.natAbs := by rw [hS]
  rw [← hS] at HTX
  have HSL := Lib.hid hsl
  have HTT := Lib.hid hT
  have hsn := sign_neg_iff z
  generalize z.sign = sg at HS hsn
  clear h hb hS hsl hT
  rcases (by omega : S.size ≤ p ∨ (p < S.size ∧ 0 < p) ∨ p = 0) with hlp | ⟨hlp, hp1⟩ | hlp
  case' inl =>
    have b1 : decide (S.size ≤ p) = true := decide_eq_true hlp
    obtain ⟨R, hR, hRs, hrep⟩ := rep_ex (p + 1 - S.size) (by omega)
    have hcz : ((p + 1 - S.size : Nat) : Int) = (p : Int) + 1 - (S.size : Int) := by omega
    rw [hcz] at hrep
    have HRP := Lib.hid hrep
    have hT1 : (R ++ S).data.toList = padL (Lib.decDigits z.natAbs) p := by
      rw [cat_list, hR, HSL.out]; unfold padL
      rw [if_pos (by rw [← HSL.out, ← Lib.size_eq]; exact hlp), ← HSL.out, ← Lib.size_eq]
    have hTs0 : (R ++ S).size = p + 1 := by rw [ByteArray.size_append, hRs]; omega
    have HT1 := Lib.hid hT1
    have HTS := Lib.hid hTs0
    clear hTs0 hrep hcz hR hT1
    go_enter Tryz.func134, Tryz.ntmps134
    go_wp2_with (go_at_call 107; (with_reducible refine HA.out.mono ?_); rintro ev w1 ⟨⟨r1, rfl, hr1⟩, hg1⟩; have HR1 := Lib.hid hr1; clear hr1)
    have HX := Lib.hid (HTX.out r1 w1 HR1.out (HTT.out.gr hg1))
    go_wp2_with (go_at_call 101; (with_reducible refine HX.out.mono ?_); rintro ev w2 ⟨rfl, hg2⟩)
    go_wp2_with (go_at_call 83; (with_reducible refine (HRP.out _).mono ?_); rintro ev w3 ⟨rfl, hg3⟩)
    have hgc := (hg1.tr hg2).tr hg3
    have hTs : p < (R ++ S).size := by have := HTS.out; omega
    have hTm : (R ++ S).size ≤ 1000000 := by have := HTS.out; omega
    have hp0 : 0 < p := by omega
    generalize R ++ S = T at HT1 HTS hTs hTm ⊢
    clear HTS hRs
    clear hs1 hsz hlp b1
  case' inr.inl =>
    have b1 : decide (S.size ≤ p) = false := decide_eq_false (by omega)
    have hT1 : S.data.toList = padL (Lib.decDigits z.natAbs) p := by
      rw [HSL.out]; unfold padL
      rw [if_neg (by rw [← HSL.out, ← Lib.size_eq]; omega)]
    have HT1 := Lib.hid hT1
    clear hT1
    go_enter Tryz.func134, Tryz.ntmps134
    go_wp2_with (go_at_call 107; (with_reducible refine HA.out.mono ?_); rintro ev w1 ⟨⟨r1, rfl, hr1⟩, hg1⟩; have HR1 := Lib.hid hr1; clear hr1)
    have HX := Lib.hid (HTX.out r1 w1 HR1.out (HTT.out.gr hg1))
    go_wp2_with (go_at_call 101; (with_reducible refine HX.out.mono ?_); rintro ev w2 ⟨rfl, hg2⟩)
    have hgc := hg1.tr hg2
    have hTs : p < S.size := by omega
    have hTm : S.size ≤ 1000000 := by omega
    have hp0 : 0 < p := by omega
    obtain ⟨T, hTe⟩ : ∃ T, T = S := ⟨_, rfl⟩
    subst hTe
    clear hs1 hsz hlp b1 hp1
  case' inr.inr =>
    subst hlp
    have b1 : decide (S.size ≤ 0) = false := decide_eq_false (by omega)
    have hT1 : S.data.toList = pointL (padL (Lib.decDigits z.natAbs) 0) 0 := by
      rw [HSL.out]; unfold padL pointL
      rw [if_neg (by omega), if_neg (by rw [← HSL.out, ← Lib.size_eq]; omega)]
    have HT1 := Lib.hid hT1
    have HZ := Lib.hid hsn
    rw [show ((0 : Nat) : Int) = 0 from rfl]
    have b1' : decide (S = ByteArray.empty) = false := decide_eq_false (fun h => by rw [h] at hs1; simp at hs1)
    clear hT1
  any_goals
    (have hgc' := hgc
     go_quiet (fail)
     have hg4 := Gr.drew hgc' nq
     have HS4 := Lib.hid (HS.out _ hg4)
     have hpt := point_ba T p hp0
     have hps := point_len T.data.toList p
     rw [← hpt, ← Lib.size_eq, ← Lib.size_eq] at hps
     rw [HT1.out] at hpt
     generalize T.extract 0 (T.size - p) ++ ⟨#[46]⟩ ++ T.extract (T.size - p) T.size = TT at hpt hps ⊢
     have HPT := Lib.hid hpt
     clear hpt
     have HSN := Lib.hid hsn
     by_cases hz : z < 0
     · have b2 : decide (sg < 0) = true := decide_eq_true (HSN.out.2 hz)
       have HZ := Lib.hid hz
       clear hz hsn
       go_wp2_with (go_at_call 106; (with_reducible refine HS4.out.mono ?_); rintro ev w5 ⟨rfl, hg5⟩)
       go_ret
       exact ⟨ret_str (placed_neg z p TT HZ.out HPT.out), hg4.tr hg5⟩
     · have b2 : decide (sg < 0) = false := decide_eq_false (fun h => hz (HSN.out.1 h))
       have HZ := Lib.hid hz
       clear hz hsn
       go_wp2_with (go_at_call 106; (with_reducible refine HS4.out.mono ?_); rintro ev w5 ⟨rfl, hg5⟩)
       go_ret
       exact ⟨ret_str (placed_pos z p TT (by have := HZ.out; omega) HPT.out), hg4.tr hg5⟩)
  by_cases hz : z < 0
  · have b2 : decide (sg < 0) = true := decide_eq_true (HZ.out.2 hz)
    have HZZ := Lib.hid hz
    clear hz hsn
    go_enter Tryz.func134, Tryz.ntmps134
    go_wp2_with (go_at_call 107; (with_reducible refine HA.out.mono ?_); rintro ev w1 ⟨⟨r1, rfl, hr1⟩, hg1⟩; have HR1 := Lib.hid hr1; clear hr1)
    have HX := Lib.hid (HTX.out r1 w1 HR1.out (HTT.out.gr hg1))
    go_wp2_with (go_at_call 101; (with_reducible refine HX.out.mono ?_); rintro ev w2 ⟨rfl, hg2⟩)
    have HS4 := Lib.hid (HS.out w2 (hg1.tr hg2))
    go_wp2_with (go_at_call 106; (with_reducible refine HS4.out.mono ?_); rintro ev w5 ⟨rfl, hg5⟩)
    go_ret
    exact ⟨ret_str (placed_neg z 0 S HZZ.out HT1.out), (hg1.tr hg2).tr hg5⟩
  · have b2 : decide (sg < 0) = false := decide_eq_false (fun h => hz (HZ.out.1 h))
    have HZZ := Lib.hid hz
    clear hz hsn
    go_enter Tryz.func134, Tryz.ntmps134
    go_wp2_with (go_at_call 107; (with_reducible refine HA.out.mono ?_); rintro ev w1 ⟨⟨r1, rfl, hr1⟩, hg1⟩; have HR1 := Lib.hid hr1; clear hr1)
    have HX := Lib.hid (HTX.out r1 w1 HR1.out (HTT.out.gr hg1))
    go_wp2_with (go_at_call 101; (with_reducible refine HX.out.mono ?_); rintro ev w2 ⟨rfl, hg2⟩)
    have HS4 := Lib.hid (HS.out w2 (hg1.tr hg2))
    go_wp2_with (go_at_call 106; (with_reducible refine HS4.out.mono ?_); rintro ev w5 ⟨rfl, hg5⟩)
    go_ret
    exact ⟨ret_str (placed_pos z 0 S (by have := HZZ.out; omega) HT1.out), (hg1.tr hg2).tr hg5⟩
end Go.Proofs.YtgejadnfeeoknaaGreatDoor
