/- Layer 6: 'texts of days are in the days' order; of another form they are none', walked. -/
import Derived.Test.YtgejadnfeeoknaaGreatDoorMh
import Derived.Test.YtgejadnfeeoknaaGreatDoorLc
namespace Go.Proofs.YtgejadnfeeoknaaGreatDoor
open Go.RowKit Go.Extern.Stop Go.Stop Go.Extern
set_option linter.unusedVariables false
set_option linter.unusedSimpArgs false

open Go.Op (bytesLess)
theorem short9_calls (A : ByteArray) (h : A.size = 10) (w : World) : Calls Tryz.prog 41 #[.string (A.extract 0 9)] w fun e w' => e = .returned (.tuple #[.int .i64 0, .iface 89 (.int .i64 1)]) ∧ Gr w w' := by
  have hz : (A.extract 0 9).size = 9 := by
    obtain ⟨b0, b1, b2, b3, b4, b5, b6, b7, b8, b9, rfl⟩ := bytes10 A h
    rfl
  have hc := get_calls (A.extract 0 9) (by rw [hz]; decide) w
  rw [getE_no (formOk_len (show (A.extract 0 9).data.toList.length ≠ 10 from fun e => by rw [show (A.extract 0 9).data.toList.length = (A.extract 0 9).size from rfl, hz] at e; cases e))] at hc
  exact hc
theorem long11_calls (A : ByteArray) (h : A.size = 10) (w : World) : Calls Tryz.prog 41 #[.string (A ++ ⟨#[48]⟩)] w fun e w' => e = .returned (.tuple #[.int .i64 0, .iface 89 (.int .i64 1)]) ∧ Gr w w' := by
  have hz : (A ++ ⟨#[48]⟩).size = 11 := by rw [ByteArray.size_append, h]; rfl
  have hc := get_calls (A ++ ⟨#[48]⟩) (by rw [hz]; decide) w
  rw [getE_no (formOk_len (show (A ++ ⟨#[48]⟩).data.toList.length ≠ 10 from fun e => by rw [show (A ++ ⟨#[48]⟩).data.toList.length = (A ++ ⟨#[48]⟩).size from rfl, hz] at e; cases e))] at hc
  exact hc
theorem setCell_heap {w : World} {b : Nat} {cs : Array Value} {T : TypeId} {fr : Nat × Nat} (hb : w.heap[b]? = some (.cells cs T fr)) (i : Nat) (v : Value) :
    (w.setCell ⟨b, i, none⟩ v).heap[b]? = some (.cells (cs.setIfInBounds i v) T fr) := by
  simp [World.setCell, Array.getElem?_modify, hb]
theorem bytes_free (w : World) (A : ByteArray) (r : Nat) (hr : r < A.size) : (Lib.bytesWorld w 5 A).frozen? ⟨w.heap.size, r, none⟩ = false := by
  have hn := Lib.bytesWorld_at_new w 5 A
  have hcr := Lib.bytesWorld_cell w 5 A r hr
  rw [heap_cell hn] at hcr
  have hlt : r < (Lib.bytesCells w 5 A).size := by
    rcases Nat.lt_or_ge r (Lib.bytesCells w 5 A).size with h | h
    · exact h
    · rw [Array.getElem?_eq_none h] at hcr; cases hcr
  simp [World.frozen?, hn]
  omega
/-- The bytes of a text, one of them set: read back. -/
theorem conv_set (w : World) (A : ByteArray) (r : Nat) (cb : UInt8) (hr : r < A.size) (w' : World) (cap : Nat) (hg : Gr ((Lib.bytesWorld w 5 A).setCell ⟨w.heap.size, r, none⟩ (.int .u8 (cb.toNat : Int))) w') :
    (convert 58 9 (.slice (some ⟨w.heap.size, 0, none⟩) A.size cap)).run Tryz.prog w' = .ok (.string ⟨(A.data.toList.set r cb).toArray⟩) w' := by
  have hlen : (A.data.toList.set r cb).length = A.size := by rw [List.length_set]; rfl
  rw [← hlen]
  refine run_convert_bytes_back (P := Tryz.prog) w' 58 9 5 ⟨w.heap.size, 0, none⟩ cap (A.data.toList.set r cb) (by kernel_rfl) (by kernel_rfl) (by kernel_rfl) (fun j hj => ?_)
  have hj2 : j < A.size := by rw [hlen] at hj; exact hj
  have hn := Lib.bytesWorld_at_new w 5 A
  have hs := hg.heap (setCell_heap hn r (.int .u8 (cb.toNat : Int)))
  rw [Lib.add_plain, heap_cell hs, Nat.zero_add]
  have hc := Lib.bytesWorld_cell w 5 A j hj2
  rw [heap_cell hn] at hc
  have hcr := Lib.bytesWorld_cell w 5 A r hr
  rw [heap_cell hn] at hcr
  have hlt : r < (Lib.bytesCells w 5 A).size := by
    rcases Nat.lt_or_ge r (Lib.bytesCells w 5 A).size with h | h
    · exact h
    · rw [Array.getElem?_eq_none h] at hcr; cases hcr
  by_cases e : r = j
  · subst e
    simp [hlt]
  · rw [Array.getElem?_setIfInBounds_ne e, hc, List.getElem_set_ne e]
    simp [List.getD, List.getElem?_eq_getElem (show j < A.data.toList.length from hj2)]
set_option maxRecDepth 100000 in
set_option maxHeartbeats 8000000 in
theorem dateText_calls (a b t c : Int) (a0 : -9223372036854775808 ≤ a) (a1 : a ≤ 9223372036854775807) (b0 : -9223372036854775808 ≤ b) (b1 : b ≤ 9223372036854775807) (t0 : -9223372036854775808 ≤ t) (t1 : t ≤ 9223372036854775807) (c0 : 0 ≤ c) (c1 : c ≤ 255) (w : World) (hM : Met2 w) :
    Calls Tryz.prog 15 #[.int .i64 a, .int .i64 b, .int .i64 t, .int .u8 c] w fun e w' => e = .returned (.bool true) ∧ Gr w w' := by
  have HBG := Lib.hid (begun6_calls w hM)
  have HM := Lib.hid hM
  have HDA := Lib.hid (fun w => day6_calls a w)
  have HDB := Lib.hid (fun w => day6_calls b w)
  have hda := day6_bd a
  have hdb := day6_bd b
  generalize a % 109573 = x at HDA hda
  generalize b % 109573 = y at HDB hdb
  obtain ⟨y1, m1, k1, h1⟩ := isDay_of x hda.1 hda.2
  obtain ⟨y2, m2, k2, h2⟩ := isDay_of y hdb.1 hdb.2
  obtain ⟨A, B, hAs, hAB, hAe, hTA, hTB⟩ := texts_two h1 h2
  have HTA := Lib.hid hTA
  have HTB := Lib.hid hTB
  obtain ⟨R, hR1, hR2, hR0, hR3, q0, q1⟩ := mod_two t 10 (by decide)
  obtain ⟨r, rfl⟩ : ∃ r : Nat, R = (r : Int) := ⟨R.toNat, by omega⟩
  obtain ⟨cb, rfl⟩ : ∃ cb : UInt8, c = (cb.toNat : Int) := ⟨UInt8.ofNat c.toNat, by
    have : (UInt8.ofNat c.toNat).toNat = c.toNat % 256 := rfl
    rw [this]; omega⟩
  obtain ⟨D, cc, v, hG1, hG2, hSM⟩ := get_pair (A.data.toList.set r cb)
  have hrA : r < A.size := by omega
  have hz : (⟨(A.data.toList.set r cb).toArray⟩ : ByteArray).size = 10 := by
    show (A.data.toList.set r cb).length = 10
    rw [List.length_set]; exact hAs
  have hg1 := fun w => get_calls ⟨(A.data.toList.set r cb).toArray⟩ (by rw [hz]; decide) w
  have hg2 := fun w => rget_calls ⟨(A.data.toList.set r cb).toArray⟩ (by rw [hz]; decide) w
  simp only [show (⟨(A.data.toList.set r cb).toArray⟩ : ByteArray).data.toList = A.data.toList.set r cb from rfl, hG1, hG2] at hg1 hg2
  have hcv := fun w w' cap hg => conv_set w A r cb hrA w' cap hg
  simp only [hAs] at hcv
  generalize (⟨(A.data.toList.set r cb).toArray⟩ : ByteArray) = P at hg1 hg2 hcv
  have HG1 := Lib.hid hg1
  have HG2 := Lib.hid hg2
  have HCV := Lib.hid hcv
  have HSM := Lib.hid hSM
  have HSH := Lib.hid (fun w => short9_calls A hAs w)
  have HLG := Lib.hid (fun w => long11_calls A hAs w)
  have HFR := Lib.hid (fun w => bytes_free w A r hrA)
  have HCL := Lib.hid (fun w => Lib.bytesWorld_cell w 5 A r hrA)
  have kc := fun w => Lib.run_convert_string_bytes (P := Tryz.prog) (u := .string) w 9 58 5 A (by kernel_rfl) (by kernel_rfl) (by kernel_rfl)
  have s1 : (⟨#[48]⟩ : ByteArray).size = 1 := rfl
  clear hM hTA hTB hG1 hG2 hSM hg1 hg2 hcv h1 h2 hda hdb hz
  go_enter Tryz.func15, Tryz.ntmps15
  go_wp2_with (first | (go_at_call 16; (with_reducible refine HBG.out.mono ?_); rintro ev w1 ⟨rfl, hg1⟩) | (go_at_call 25; (with_reducible refine (HDA.out _).mono ?_); rintro ev w2 ⟨rfl, rfl⟩) | (go_at_call 25; (with_reducible refine (HDB.out _).mono ?_); rintro ev w2 ⟨rfl, rfl⟩))
  refine (HTA.out _ (HM.out.keep hg1).2.2).mono ?_
  rintro ev w2 ⟨rfl, hg2⟩
  go_wp2_with fail
  refine (HTB.out _ (HM.out.keep (hg1.tr hg2)).2.2).mono ?_
  rintro ev w3 ⟨rfl, hg3⟩
  have HG3 := Lib.hid ((hg1.tr hg2).tr hg3)
  have c0 := HCL.out w3
  have fz := HFR.out w3
  have HGB := Lib.hid (bytes_gr w3 5 A)
  have kc3 := kc w3
  clear hg1 hg2 hg3 kc
  go_wp2_with fail
  have HC1 := Lib.hid (fun w' cap hg => HCV.out w3 w' cap hg)
  have HG4 := Lib.hid (grSet (HG3.out.tr HGB.out) (show w.heap.size ≤ (⟨w3.heap.size, r, none⟩ : Addr).block from HG3.out.size) (.int .u8 (cb.toNat : Int)))
  clear c0 fz kc3
  generalize (Lib.bytesWorld w3 5 A).setCell ⟨w3.heap.size, r, none⟩ (.int .u8 (cb.toNat : Int)) = W4 at HC1 HG4 ⊢
  generalize grownCap w3 10 0 5 = kk
  generalize w3.heap.size = bb at HC1 ⊢
  have kc4 := HC1.out W4 kk (Gr.rf _)
  rw [kc4]
  go_wp2_with fail
  refine (HG1.out _).mono ?_
  rintro ev w5 ⟨rfl, hg5⟩
  clear kc4
  have kc5 := HC1.out w5 kk hg5
  go_wp2_with fail
  refine (HG2.out _).mono ?_
  rintro ev w6 ⟨rfl, hg6⟩
  clear kc5
  go_wp2_with fail
  refine (HSH.out _).mono ?_
  rintro ev w7 ⟨rfl, hg7⟩
  go_wp2_with fail
  refine (HLG.out _).mono ?_
  rintro ev w8 ⟨rfl, hg8⟩
  have HG8 := Lib.hid (((HG4.out.tr hg5).tr (hg6.tr hg7)).tr hg8)
  clear hg5 hg6 hg7 hg8
  go_wp2_with fail
  refine (HSM.out _ (HM.out.keep HG8.out).1).mono ?_
  rintro ev w9 ⟨rfl, hg9⟩
  have HG9 := Lib.hid (HG8.out.tr hg9)
  clear hg9
  go_wp2_with fail
  refine (sameForm_calls _ (HM.out.keep HG9.out).1).mono ?_
  rintro ev w10 ⟨rfl, hg10⟩
  have HG10 := Lib.hid (HG9.out.tr hg10)
  clear hg10
  go_wp2_with fail
  refine (sameForm_calls _ (HM.out.keep HG10.out).1).mono ?_
  rintro ev w11 ⟨rfl, hg11⟩
  go_wp2
  go_ret
  exact ⟨by first | rfl | simp, HG10.out.tr hg11⟩
end Go.Proofs.YtgejadnfeeoknaaGreatDoor
