/- Layer 6: date: padded and Text by contract; Layer 6: count: Days and Part by contract, 30E/360. -/
import Derived.Test.YtcjjgdoafkdeaaaGreatDoorHb
import Derived.Test.YtcjjgdoafkdeaaaGreatDoorHa
import Derived.Test.YtcjjgdoafkdeaaaGreatDoorGn
import Derived.Deep.RegionHeld3
import Derived.Test.YtcjjgdoafkdeaaaGreatDoorDe
import Derived.Test.YtcjjgdoafkdeaaaGreatDoorGl
namespace Go.Proofs.YtcjjgdoafkdeaaaGreatDoor
section
open Go.RowKit Go.Extern.Stop Go.Stop Go.Extern
set_option linter.unusedVariables false
set_option linter.unusedSimpArgs false

theorem itoa_natN (n : Nat) : Lib.itoa (n : Int) = Lib.decDigits n := by unfold Lib.itoa; rw [if_neg (by omega)]; rfl
theorem itoaN_ex (n : Nat) (h : n < 10000) : ∃ S : ByteArray, S.data.toList = Lib.decDigits n ∧ 1 ≤ S.size ∧ S.size ≤ 4 ∧
    ∀ w, PowTab w → Calls Tryz.prog 201 #[.int .i64 (n : Int)] w fun e w' => e = .returned (.string S) ∧ Gr w w' := by
  have h1 := nd_le 4 n (by decide) (by omega)
  have h2 := nd_pos n
  refine ⟨⟨(Lib.decDigits n).toArray⟩, rfl, by simpa [ByteArray.size] using h2, by simpa [ByteArray.size] using h1, fun w hT => ?_⟩
  refine (Tryz.strconv_Itoa n (by omega) (by omega) w hT).mono ?_
  rintro e w' ⟨rfl, k, os, rfl⟩
  rw [itoa_natN]
  exact ⟨rfl, grow_gr _ _ _⟩
set_option maxRecDepth 100000 in
/-- date.padded. -/
theorem padded_calls (n c : Nat) (h : n < 10000) (hc : c ≤ 4) (w : World) (hT : PowTab w) :
    Calls Tryz.prog 161 #[.int .i64 (n : Int), .int .i64 (c : Int)] w fun e w' => e = .returned (.string ⟨(pad c n).toArray⟩) ∧ Gr w w' := by
  obtain ⟨S, hS, h1, h2, hcall⟩ := itoaN_ex n h
  have HC := Lib.hid (hcall w hT)
  obtain ⟨R, hR, hR1, hrep⟩ := rep_ex (c - S.size) (by omega)
  have hmax : max ((c : Int) - (S.size : Int)) 0 = ((c - S.size : Nat) : Int) := by omega
  have HE : Hid (R ++ S = ⟨(pad c n).toArray⟩) := Lib.hid (by
    apply ba_ext
    rw [cat_list, hR, hS]
    unfold pad
    rw [← hS, ← Lib.size_eq])
  have HRR := Lib.hid hrep
  have hRS : R.size + S.size ≤ 100 := by omega
  clear hrep hcall hT hS hR
  generalize hz : ((c - S.size : Nat) : Int) = z at hmax HRR
  have HZ := Lib.hid hz
  clear hz
  go_enter Tryz.func161, Tryz.ntmps161
  go_wp2_with (go_at_call 201; (with_reducible refine HC.out.mono ?_); rintro ev w1 ⟨rfl, hg1⟩)
  go_wp2_with (go_at_call 126; (refine (HRR.out _).mono ?_); rintro ev w2 ⟨rfl, hg2⟩)
  go_ret
  exact ⟨ret_str HE.out, hg1.tr hg2⟩
theorem pad4_calls (n : Nat) (h : n < 10000) (w : World) (hT : PowTab w) : Calls Tryz.prog 161 #[.int .i64 (n : Int), .int .i64 4] w fun e w' => e = .returned (.string ⟨(pad 4 n).toArray⟩) ∧ Gr w w' := padded_calls n 4 h (by omega) w hT
theorem pad2_calls (n : Nat) (h : n < 10000) (w : World) (hT : PowTab w) : Calls Tryz.prog 161 #[.int .i64 (n : Int), .int .i64 2] w fun e w' => e = .returned (.string ⟨(pad 2 n).toArray⟩) ∧ Gr w w' := padded_calls n 2 h (by omega) w hT
theorem grOne {w w' : World} (h : Gr w w') : Gr w w'.drew := ⟨h.os, h.tape, h.output, h.size, h.block⟩
theorem isDay_nat {d y m k : Int} (h : IsDay d y m k) : ∃ a b c : Nat, y = a ∧ m = b ∧ k = c ∧ 1900 ≤ a ∧ a ≤ 2199 ∧ 1 ≤ b ∧ b ≤ 12 ∧ 1 ≤ c ∧ c ≤ 31 := by
  obtain ⟨h1, h2, h3, h4, h5, h6, _⟩ := h
  have := (lenM_bd y m).2
  exact ⟨y.toNat, m.toNat, k.toNat, by omega, by omega, by omega, by omega, by omega, by omega, by omega, by omega, by omega⟩
set_option maxRecDepth 100000 in
theorem text_no (d : Int) (w : World) (h : d < 0 ∨ 109572 < d) : Calls Tryz.prog 106 #[.int .i64 d] w fun e w' => e = .returned (.string ⟨#[]⟩) ∧ Gr w w' := by
  have HC := Lib.hid (fun w => civil_no d w h)
  clear h
  go_enter Tryz.func106, Tryz.ntmps106
  go_wp2_with (go_at_call 99; (refine (HC.out _).mono ?_); rintro ev w1 ⟨rfl, hg1⟩)
  go_ret
  exact ⟨rfl, hg1.tr ((Gr.rf w1).alloc (Nat.le_refl _) _)⟩

set_option maxRecDepth 100000 in
set_option maxHeartbeats 2000000 in
/-- date.Text. -/
theorem dtext_calls (d y m k : Int) (h : IsDay d y m k) (w : World) (hT : PowTab w) :
    Calls Tryz.prog 106 #[.int .i64 d] w fun e w' => e = .returned (.string ⟨(dayL y.toNat m.toNat k.toNat).toArray⟩) ∧ Gr w w' := by
  obtain ⟨a, b, c, rfl, rfl, rfl, ha, ha', hb, hb', hc, hc'⟩ := isDay_nat h
  have HC := Lib.hid (civil_calls d a b c h w)
  obtain ⟨A4, hA⟩ : ∃ A4 : ByteArray, A4 = ⟨(pad 4 a).toArray⟩ := ⟨_, rfl⟩
  obtain ⟨B2, hB⟩ : ∃ B2 : ByteArray, B2 = ⟨(pad 2 b).toArray⟩ := ⟨_, rfl⟩
  obtain ⟨C2, hC⟩ : ∃ C2 : ByteArray, C2 = ⟨(pad 2 c).toArray⟩ := ⟨_, rfl⟩
  have hPA := fun w (hT : PowTab w) => pad4_calls a (by omega) w hT
  have hPB := fun w (hT : PowTab w) => pad2_calls b (by omega) w hT
  have hPC := fun w (hT : PowTab w) => pad2_calls c (by omega) w hT
  rw [← hA] at hPA
  rw [← hB] at hPB
  rw [← hC] at hPC
  have HPA := Lib.hid hPA
  have HPB := Lib.hid hPB
  have HPC := Lib.hid hPC
  have sA : A4.size = 4 := by rw [hA, Lib.size_eq]; exact pad_len_four a (by omega) (by omega)
  have sB : B2.size = 2 := by rw [hB, Lib.size_eq]; exact pad_len_two b (by omega)
  have sC : C2.size = 2 := by rw [hC, Lib.size_eq]; exact pad_len_two c (by omega)
  have hcat : A4 ++ ⟨#[45]⟩ ++ B2 ++ ⟨#[45]⟩ ++ C2 = ⟨(dayL a b c).toArray⟩ := by
    apply ba_ext
    rw [cat_list, cat_list, cat_list, cat_list, hA, hB, hC]
    unfold dayL
    simp
  have HCC := Lib.hid hcat
  have HT := Lib.hid hT
  have s1 : (⟨#[45]⟩ : ByteArray).size = 1 := rfl
  rw [show ((a : Int)).toNat = a from rfl, show ((b : Int)).toNat = b from rfl, show ((c : Int)).toNat = c from rfl]
  clear hcat hT hPA hPB hPC hA hB hC h
  go_enter Tryz.func106, Tryz.ntmps106
  go_wp2_with (go_at_call 99; (refine HC.out.mono ?_); rintro ev w1 ⟨rfl, hg1⟩)
  have hblk : (w1.alloc (.cells #[.int .i64 (a : Int), .int .i64 (b : Int), .int .i64 (c : Int)] 131)).heap[w1.heap.size]? = some (.cells #[.int .i64 (a : Int), .int .i64 (b : Int), .int .i64 (c : Int)] 131 (0, 0)) := heap_alloc_new w1 _
  have hga : Gr w (w1.alloc (.cells #[.int .i64 (a : Int), .int .i64 (b : Int), .int .i64 (c : Int)] 131)) := hg1.tr ((Gr.rf w1).alloc (Nat.le_refl _) _)
  generalize w1.alloc (.cells #[.int .i64 (a : Int), .int .i64 (b : Int), .int .i64 (c : Int)] 131) = W1 at hblk hga ⊢
  generalize w1.heap.size = bb at hblk ⊢
  have heldOf : ∀ w', Gr W1 w' → (w'.cell? ⟨bb, 0, none⟩ = some (.int .i64 (a : Int)) ∧ w'.cell? ⟨bb, 1, none⟩ = some (.int .i64 (b : Int)) ∧ w'.cell? ⟨bb, 2, none⟩ = some (.int .i64 (c : Int)) ∧ Gr W1 w') := fun w' hg =>
    ⟨heap_cell (hg.heap hblk) 0, heap_cell (hg.heap hblk) 1, heap_cell (hg.heap hblk) 2, hg⟩
  have hinit := Gr.rf W1
  have HO := Lib.hid heldOf
  have HT1 : Hid (∀ w', Gr W1 w' → PowTab w') := Lib.hid fun w' hg => HT.out.gr (hga.tr hg)
  clear heldOf
  go_region_held3 (fun w' => w'.cell? ⟨bb, 0, none⟩ = some (.int .i64 (a : Int)) ∧ w'.cell? ⟨bb, 1, none⟩ = some (.int .i64 (b : Int)) ∧ w'.cell? ⟨bb, 2, none⟩ = some (.int .i64 (c : Int)) ∧ Gr W1 w')
    (first | exact HO.out _ (by assumption) | exact HO.out _ (grOne (by assumption)) | (go_split_ands; exact HO.out _ (by assumption)) | (go_split_ands; exact HO.out _ (grOne (by assumption))))
    (first
      | (go_at_call 161; go_split_ands; (with_reducible refine (HPA.out _ ?ht).mono ?_); (case ht => exact HT1.out _ (by assumption)); rintro ev w2 ⟨rfl, hgn⟩; have hgm : Gr W1 w2 := Gr.tr (by assumption) hgn)
      | (go_at_call 161; go_split_ands; (with_reducible refine (HPB.out _ ?ht).mono ?_); (case ht => exact HT1.out _ (by assumption)); rintro ev w2 ⟨rfl, hgn⟩; have hgm : Gr W1 w2 := Gr.tr (by assumption) hgn)
      | (go_at_call 161; go_split_ands; (with_reducible refine (HPC.out _ ?ht).mono ?_); (case ht => exact HT1.out _ (by assumption)); rintro ev w2 ⟨rfl, hgn⟩; have hgm : Gr W1 w2 := Gr.tr (by assumption) hgn))
  go_wp2
  go_ret
  exact ⟨ret_str HCC.out, hga.tr (by assumption)⟩
end
section
open Go.RowKit Go.Extern.Stop Go.Stop Go.Extern
set_option linter.unusedVariables false
set_option linter.unusedSimpArgs false

/-- Days by 30E/360. -/
def days30 (y m k y' m' k' : Int) : Int := 360 * (y' - y) + 30 * (m' - m) + min k' 30 - min k 30
set_option maxRecDepth 100000 in
theorem cmay_calls (k : Int) (w : World) : Calls Tryz.prog 52 #[.int .i64 k] w fun e w' => e = .returned (.bool (decide (1 ≤ k ∧ k ≤ 4))) ∧ w = w' := by
  by_cases h1 : 1 ≤ k
  · by_cases h2 : k ≤ 4
    · rw [decide_eq_true (And.intro h1 h2)]
      go_enter Tryz.func52, Tryz.ntmps52
      go_wp2
      go_ret
      exact ⟨rfl, rfl⟩
    · rw [decide_eq_false (fun h : 1 ≤ k ∧ k ≤ 4 => h2 h.2)]
      have h3 : decide (k ≤ 4) = false := decide_eq_false h2
      go_enter Tryz.func52, Tryz.ntmps52
      go_wp2
      go_ret
      exact ⟨rfl, rfl⟩
  · rw [decide_eq_false (fun h : 1 ≤ k ∧ k ≤ 4 => h1 h.1)]
    have h3 : decide (1 ≤ k) = false := decide_eq_false h1
    go_enter Tryz.func52, Tryz.ntmps52
    go_wp2
    go_ret
    exact ⟨rfl, rfl⟩
set_option maxRecDepth 100000 in
set_option maxHeartbeats 1000000 in
theorem days30_calls (a b y m k y' m' k' : Int) (h : IsDay a y m k) (h' : IsDay b y' m' k') (w : World) :
    Calls Tryz.prog 50 #[.int .i64 1, .int .i64 a, .int .i64 b] w fun e w' => e = .returned (.int .i64 (days30 y m k y' m' k')) ∧ Gr w w' := by
  have HC := Lib.hid (fun w => civil_calls a y m k h w)
  have HD := Lib.hid (fun w => civil_calls b y' m' k' h' w)
  have a0 := h.1
  have a1 := h.2.1
  have a2 := h.2.2.1
  have a3 := h.2.2.2.1
  have a4 := h.2.2.2.2.1
  have a5 := h.2.2.2.2.2.1
  have b0 := h'.1
  have b1 := h'.2.1
  have b2 := h'.2.2.1
  have b3 := h'.2.2.2.1
  have b4 := h'.2.2.2.2.1
  have b5 := h'.2.2.2.2.2.1
  have a6 := (lenM_bd y m).2
  have b6 := (lenM_bd y' m').2
  have a7 : k ≤ 31 := by omega
  have b7 : k' ≤ 31 := by omega
  have HM := Lib.hid (fun w => cmay_calls 1 w)
  clear h h' a5 b5 a6 b6
  unfold days30
  go_enter Tryz.func50, Tryz.ntmps50
  go_wp2_with ((go_at_call 99; (with_reducible refine (HC.out _).mono ?_); rintro ev w1 ⟨rfl, hg1⟩))
  have hblk : (w1.alloc (.cells #[.int .i64 y, .int .i64 m, .int .i64 k] 131)).heap[w1.heap.size]? = some (.cells #[.int .i64 y, .int .i64 m, .int .i64 k] 131 (0, 0)) := heap_alloc_new w1 _
  have hga : Gr w (w1.alloc (.cells #[.int .i64 y, .int .i64 m, .int .i64 k] 131)) := hg1.tr ((Gr.rf w1).alloc (Nat.le_refl _) _)
  generalize w1.alloc (.cells #[.int .i64 y, .int .i64 m, .int .i64 k] 131) = W1 at hblk hga ⊢
  generalize w1.heap.size = bb at hblk ⊢
  have HBK := Lib.hid hblk
  have HGA := Lib.hid hga
  clear hga hblk hg1
  go_wp2_with fail
  refine (HD.out _).mono ?_
  rintro ev w2 ⟨rfl, hg2⟩
  have hb2 := hg2.heap HBK.out
  have c0 := heap_cell hb2 0
  have c1 := heap_cell hb2 1
  have c2 := heap_cell hb2 2
  have HG2 := Lib.hid hg2
  have hlt := cells_lt hb2
  have hn1 : bb ≠ w2.heap.size := by omega
  have hn2 : w2.heap.size ≠ bb := by omega
  clear hb2 hg2
  go_wp2_with (go_at_call 52; (with_reducible refine (HM.out _).mono ?_); rintro ev w3 ⟨rfl, rfl⟩)
  go_ret
  exact ⟨rfl, (HGA.out.tr HG2.out).tr ((Gr.rf w2).alloc (Nat.le_refl _) _)⟩
theorem days30_bd (y m k y' m' k' : Int) (h : 1900 ≤ y ∧ y ≤ 2199 ∧ 1 ≤ m ∧ m ≤ 12 ∧ 1 ≤ k) (h' : 1900 ≤ y' ∧ y' ≤ 2199 ∧ 1 ≤ m' ∧ m' ≤ 12 ∧ 1 ≤ k') : -200000 ≤ days30 y m k y' m' k' ∧ days30 y m k y' m' k' ≤ 200000 := by
  unfold days30; omega
set_option maxRecDepth 100000 in
theorem part1_calls (d : Int) (w : World) (h0 : 0 ≤ d) (h1 : d ≤ 109572) : Calls Tryz.prog 112 #[.int .i64 d] w fun e w' => e = .returned (.bool true) ∧ w = w' := by
  have hw := fun w => weekday_calls d w h0 h1
  have hz0 := Int.emod_nonneg (d + 1) (show (7 : Int) ≠ 0 by decide)
  generalize (d + 1) % 7 = z at hw hz0
  have HW := Lib.hid hw
  have bz : decide (0 ≤ z) = true := decide_eq_true hz0
  clear hw
  go_enter Tryz.func112, Tryz.ntmps112
  go_wp2_with (go_at_call 108; (with_reducible refine (HW.out _).mono ?_); rintro ev w1 ⟨rfl, rfl⟩)
  go_ret
  exact ⟨rfl, rfl⟩
/-- What a part of a year by 30E/360 is: a fraction in lowest terms. -/
def PartIs (z e : Int) (w : World) (ev : Ending) (w' : World) : Prop := (∃ b n d, ev = .returned (.tuple #[.pointer (some ⟨b, 0, none⟩), .nilIface]) ∧ RatAt w' (.pointer (some ⟨b, 0, none⟩)) n d ∧ n * e = z * (d : Int) ∧ n.natAbs ≤ z.natAbs ∧ d ≤ e.natAbs) ∧ Gr w w'
set_option maxRecDepth 100000 in
set_option maxHeartbeats 1000000 in
theorem part30_calls (a b y m k y' m' k' s t f : Int) (h : IsDay a y m k) (h' : IsDay b y' m' k') (hab : a ≤ b) (w : World) (hT : BitTab w) :
    Calls Tryz.prog 47 #[.int .i64 1, .int .i64 a, .int .i64 b, .int .i64 s, .int .i64 t, .int .i64 f] w (PartIs (days30 y m k y' m' k') 360 w) := by
  have hra := isDay_range h
  have hrb := isDay_range h'
  have hdb := days30_bd y m k y' m' k' ⟨h.1, h.2.1, h.2.2.1, h.2.2.2.1, h.2.2.2.2.1⟩ ⟨h'.1, h'.2.1, h'.2.2.1, h'.2.2.2.1, h'.2.2.2.2.1⟩
  have HM := Lib.hid (fun w => cmay_calls 1 w)
  have HA := Lib.hid (fun w => part1_calls a w hra.1 hra.2)
  have HB := Lib.hid (fun w => part1_calls b w hrb.1 hrb.2)
  have HD := Lib.hid (fun w => days30_calls a b y m k y' m' k' h h' w)
  have hO := fun w (hT : BitTab w) => ofRat_calls (days30 y m k y' m' k') 360 w hT (by omega) (by omega) (by decide) (by decide)
  have HTT := Lib.hid hT
  have bab : decide (b < a) = false := decide_eq_false (by omega)
  clear h h' hra hrb hT hab
  generalize days30 y m k y' m' k' = D at HD hO hdb ⊢
  have HO := Lib.hid hO
  clear hO
  go_enter Tryz.func47, Tryz.ntmps47
  go_wp2_with (first | (go_at_call 52; (with_reducible refine (HM.out _).mono ?_); rintro ev w3 ⟨rfl, rfl⟩) | (go_at_call 112; (with_reducible refine (HA.out _).mono ?_); rintro ev w3 ⟨rfl, rfl⟩) | (go_at_call 112; (with_reducible refine (HB.out _).mono ?_); rintro ev w3 ⟨rfl, rfl⟩) | (go_at_call 50; (with_reducible refine (HD.out _).mono ?_); rintro ev w3 ⟨rfl, hg3⟩))
  have HO3 := Lib.hid (HO.out w3 (HTT.out.gr hg3))
  have HG3 := Lib.hid hg3
  clear hg3
  go_wp2_with fail
  refine HO3.out.mono ?_
  rintro ev w4 ⟨⟨_, hr⟩, hg4⟩
  obtain ⟨b4, n4, d4, rfl, hr4, hnd, hn4, hd4⟩ := hr (by decide)
  have HR := Lib.hid (And.intro hr4 (And.intro hnd (And.intro hn4 hd4)))
  clear hr4 hnd hn4 hd4
  go_wp2
  go_ret2
  exact ⟨⟨b4, n4, d4, rfl, HR.out⟩, HG3.out.tr hg4⟩
end
end Go.Proofs.YtcjjgdoafkdeaaaGreatDoor
