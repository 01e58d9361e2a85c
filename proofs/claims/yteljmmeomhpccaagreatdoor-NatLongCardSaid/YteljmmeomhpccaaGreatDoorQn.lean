/- Layer 2: 'texts of four thousand digits, and not one more', walked. -/
import Derived.Test.YteljmmeomhpccaaGreatDoorQk
import Derived.Laws.IdiomStrings
import Derived.Deep.RegionHeld3
namespace Go.Proofs.YteljmmeomhpccaaGreatDoor
open Go.RowKit Go.Extern.Stop Go.Stop Go.Extern Go.Sort
set_option linter.unusedVariables false
set_option linter.unusedSimpArgs false

theorem rem_two (y k : Int) (hk : 0 < k) : ∃ R : Int, (y.tmod k + k) % k = R ∧ y.tmod k % k = R ∧ 0 ≤ R ∧ R < k ∧ -k < y.tmod k ∧ y.tmod k < k := by
  have h := Int.tmod_lt_of_pos y hk
  have h2 := Int.tmod_lt_of_pos (-y) hk
  rw [Int.neg_tmod] at h2
  exact ⟨(y.tmod k + k) % k, rfl, (Int.add_emod_right _ _).symm, Int.emod_nonneg _ (by omega), Int.emod_lt_of_pos _ hk, by omega, h⟩
/-- A row of bytes of which the first k are laid. -/
def RowB (w : World) (b n k d : Nat) : Prop := w.rowIs b 5 n (fun j => .int .u8 ((if j < k then d else 0 : Nat) : Int))
theorem RowB.gr {w w' : World} {b n k d : Nat} (h : RowB w b n k d) (hg : Gr w w') : RowB w' b n k d := World.rowIs.of_block h (hg.block b (World.rowIs.lt h))
theorem RowB.dr {w : World} {b n k d : Nat} (h : RowB w b n k d) (m : Nat) : RowB (w.drewN m) b n k d := h
theorem RowB.cell {w : World} {b n k d : Nat} (h : RowB w b n k d) {i : Nat} (hi : i < n) : w.cell? ⟨b, i, none⟩ = some (.int .u8 ((if i < k then d else 0 : Nat) : Int)) := World.rowIs.cell h hi
theorem RowB.set {w : World} {b n k d : Nat} (h : RowB w b n k d) : RowB (w.setCell ⟨b, k, none⟩ (.int .u8 (d : Int))) b n (k + 1) d :=
  (World.rowIs.set h k (.int .u8 (d : Int))).congr fun j hj => by
    by_cases e : j = k
    · subst e; rw [if_pos rfl, if_pos (by omega)]
    · rw [if_neg e]
      by_cases e2 : j < k
      · rw [if_pos e2, if_pos (by omega)]
      · rw [if_neg e2, if_neg (by omega)]
theorem underB : Tryz.prog.underlying 23 = some (.slice 5) := by kernel_rfl
theorem infoB : (Tryz.prog.info? 5).map (fun i => (i.zero, i.size, i.bytes)) = some (some (.int .u8 0), 1, 1) := by kernel_rfl
theorem makeB (n : Nat) (h : n ≤ 1000000) (w : World) : (Instr.makeSlice 23 (.int .i64 (n : Int)) (.int .i64 (n : Int))).run Tryz.prog w = .ok (.slice (some ⟨w.heap.size, 0, none⟩) n n) (w.alloc (.cells (madeCells #[.int .u8 0] n) 5)) :=
  run_make_row' 23 5 (.int .u8 0) 1 underB infoB rfl .i64 .i64 n (by omega) (by omega) w
theorem rowB_made (w : World) (n d : Nat) : RowB (w.alloc (.cells (madeCells #[.int .u8 0] n) 5)) w.heap.size n 0 d := (World.rowIs_made w (.int .u8 0) n 5).congr (fun j hj => by simp)
theorem strB (w : World) (b n d : Nat) (hd : d < 256) (h : RowB w b n n d) : (convert 23 9 (.slice (some ⟨b, 0, none⟩) n n)).run Tryz.prog w = .ok (.string ⟨(List.replicate n (UInt8.ofNat d)).toArray⟩) w := by
  have := run_convert_bytes_back (P := Tryz.prog) w 23 9 5 ⟨b, 0, none⟩ n (List.replicate n (UInt8.ofNat d)) underB (by kernel_rfl) (by kernel_rfl) (fun j hj => by
    rw [List.length_replicate] at hj
    rw [Go.WideShapes.add_plain, Nat.zero_add, h.cell hj, if_pos hj, List.getElem_replicate, UInt8.toNat_ofNat', Nat.mod_eq_of_lt hd])
  rwa [List.length_replicate] at this
theorem dig_rep (n d : Nat) (h0 : 48 ≤ d) (h1 : d ≤ 57) : Dig (List.replicate n (UInt8.ofNat d)) := by
  intro c hc
  rw [(List.mem_replicate.1 hc).2, UInt8.toNat_ofNat', Nat.mod_eq_of_lt (by omega)]
  exact ⟨h0, h1⟩

theorem gr_alloc_of {W w : World} {o : Obj} (h : Gr W w) : Gr W (w.alloc o) := h.tr ((Gr.rf w).alloc (Nat.le_refl _) _)
theorem gr_drew_of {W w : World} (h : Gr W w) : Gr W w.drew := ⟨h.os, h.tape, h.output, h.size, h.block⟩
set_option maxRecDepth 100000 in
set_option maxHeartbeats 8000000 in
theorem natLong_calls (n c : Int) (n0 : -9223372036854775808 ≤ n) (n1 : n ≤ 9223372036854775807) (c0 : 0 ≤ c) (c1 : c ≤ 255) (w : World) (hM : Met2 w) :
    Calls Tryz.prog 3 #[.int .i64 n, .int .u8 c] w fun e w' => e = .returned (.bool true) ∧ Gr w w' := by
  have HM := Lib.hid hM
  have HBG := Lib.hid (begun_met w hM)
  clear hM
  obtain ⟨R, hR1, hR2, hR0, hR3, t0, t1⟩ := rem_two n 20 (by decide)
  obtain ⟨M, hM1⟩ : ∃ M : Nat, 3990 + R = (M : Int) := ⟨(3990 + R).toNat, by omega⟩
  have hMl : 3990 ≤ M ∧ M ≤ 4009 := by omega
  obtain ⟨q, hq1, hq2, hq3⟩ : ∃ q : Nat, c % 9 = (q : Int) ∧ c.tmod 9 = (q : Int) ∧ q ≤ 8 := ⟨(c % 9).toNat, by omega, by rw [Int.tmod_eq_emod_of_nonneg c0]; omega, by omega⟩
  obtain ⟨D, hD⟩ : ∃ D : Nat, 49 + (q : Int) = (D : Int) ∧ D = 49 + q := ⟨49 + q, by omega, rfl⟩
  have hDl : 49 ≤ D ∧ D ≤ 57 := by omega
  have hmk := makeB M (by omega)
  obtain ⟨S, hS⟩ : ∃ S : ByteArray, S = ⟨(List.replicate M (UInt8.ofNat D)).toArray⟩ := ⟨_, rfl⟩
  have hSz : S.size = M := by rw [hS]; simp [ByteArray.size]
  have hSL : S.data.toList = List.replicate M (UInt8.ofNat D) := by rw [hS]
  have hdg : Dig S.data.toList := by rw [hSL]; exact dig_rep M D (by omega) (by omega)
  have hfst : ∀ h : 0 < S.size, (S[0]'h).toNat ≠ 48 := fun h => by
    have e : S[0]'h = UInt8.ofNat D := by
      subst hS
      show (List.replicate M (UInt8.ofNat D)).toArray[0]'_ = _
      simp
    rw [e, UInt8.toNat_ofNat', Nat.mod_eq_of_lt (by omega)]
    omega
  have HST := Lib.hid (fun w b (h : RowB w b M M D) => by have := strB w b M D (by omega) h; rw [← hS] at this; exact this)
  have HS := Lib.hid (show Dig S.data.toList ∧ S.size = M ∧ ∀ h : 0 < S.size, (S[0]'h).toNat ≠ 48 from ⟨hdg, hSz, hfst⟩)
  have HDL := Lib.hid hDl
  have hD1 := hD.1
  clear hS hSL hdg hfst hD hSz
  go_enter Tryz.func3, Tryz.ntmps3
  go_wp2_with (go_at_call 6; (with_reducible refine HBG.out.mono ?_); rintro ev w1 ⟨rfl, hg1⟩)
  have HG1 := Lib.hid hg1
  clear hg1
  go_loopg [22] M (fun g sx wr => ∃ k : Nat, g = M - k ∧ k ≤ M ∧ sx = .int .i64 (k : Int) ∧ Hid (RowB wr w1.heap.size M k D) ∧ Hid (Gr w1 wr))
  case atStart => exact ⟨0, rfl, Nat.zero_le _, rfl, Lib.hid (rowB_made w1 M D), Lib.hid ((Gr.rf w1).alloc (Nat.le_refl _) _)⟩
  case round =>
    obtain ⟨k, hg, hk, rfl, HR, HG⟩ := hrel
    have HGG := Lib.hid hg
    clear hg
    by_cases hlt : k < M
    · have b1 : decide ((k : Int) < (M : Int)) = true := decide_eq_true (by omega)
      have b1n : decide (k < M) = true := decide_eq_true hlt
      have hcell := HR.out.cell (i := k) hlt
      rw [if_neg (Nat.lt_irrefl k)] at hcell
      have hfr := World.rowIs.frozen HR.out k
      go_wp2
      go_roundg (M - (k + 1))
      case measure => have := HGG.out; omega
      case rel => exact ⟨k + 1, rfl, by omega, by go_num, Lib.hid HR.out.set, Lib.hid (HG.out.setCell (Nat.le_refl _) _)⟩
    · have hke : k = M := by omega
      subst hke
      have b1 : decide ((k : Int) < (k : Int)) = false := decide_eq_false (by omega)
      have b1n : decide (k < k) = false := decide_eq_false (by omega)
      have hst := HST.out wr w1.heap.size HR.out
      by_cases hM4 : k ≤ 4000
      · have b4 : decide ((4000 : Int) < (k : Int)) = false := decide_eq_false (by omega)
        have b4n : decide (4000 < k) = false := decide_eq_false (by omega)
        have HGT := Lib.hid (get_nat_ok S wr (by have := HS.out.2.1; omega) (by have := HS.out.2.1; omega) HS.out.1 (.inr HS.out.2.2))
        have hdl : dv S.data.toList < B ^ 250 := Nat.lt_of_lt_of_le (dv_lt _ HS.out.1) (ten_pow_le _ 250 (by rw [← Lib.size_eq]; have := HS.out.2.1; omega))
        have HDV := Lib.hid hdl
        have HDD := Lib.hid (show Lib.decDigits (dv S.data.toList) = S.data.toList from digits_of _ _ rfl HS.out.1 (by
          intro h
          have h1 := HS.out.2.1
          rw [Lib.size_eq, h] at h1
          simp at h1
          omega) (.inr (by
          intro h
          cases hl : S.data.toList with
          | nil => rw [hl] at h; cases h
          | cons a l =>
            rw [hl] at h
            injection h with h
            have h0 : 0 < S.size := by have := HS.out.2.1; omega
            have h1 := HS.out.2.2 h0
            have h2 : S.data.toList[0]'(by rw [hl]; simp) = S[0]'h0 := by rw [Array.getElem_toList]; rfl
            rw [← h2] at h1
            simp only [hl, List.getElem_cons_zero] at h1
            rw [h] at h1
            exact h1 rfl)))
        clear hdl
        go_wp2_with (go_at_call 7; (with_reducible refine HGT.out.mono ?_); rintro ev w2 ⟨⟨r, rfl, hr⟩, hg2⟩; have HR2 := Lib.hid hr; clear hr)
        have HG2 := Lib.hid hg2
        have HRW := Lib.hid (HR.out.gr hg2)
        have HTX := Lib.hid (show ∀ w', Gr w2 w' → Calls Tryz.prog 9 #[r] w' fun e w'' => e = .returned (.string S) ∧ Gr w2 w'' from fun w' hg => by
          refine (text_nat r _ w' (HR2.out.gr hg).at_ 250 HDV.out (by decide) (by decide) (HM.out.2.2.gr ((HG1.out.tr (HG.out.tr HG2.out)).tr hg))).mono ?_
          rintro e w'' ⟨rfl, hg2⟩
          exact ⟨by rw [HDD.out], hg.tr hg2⟩)
        clear hst hg2
        have hst := HST.out w2 w1.heap.size HRW.out
        go_wp2_with fail
        go_region_held3 (fun w' => (convert 23 9 (.slice (some ⟨w1.heap.size, 0, none⟩) k k)).run Tryz.prog w' = .ok (.string S) w')
          (first | (refine HST.out _ _ (HRW.out.gr ?_); repeat' (first | assumption | exact Gr.rf _ | refine gr_alloc_of ?_ | refine gr_drew_of ?_)))
          (first | (go_at_call 9; (with_reducible refine (HTX.out _ ?hh).mono ?_); (case hh => repeat' (first | assumption | exact Gr.rf _ | refine gr_alloc_of ?_ | refine gr_drew_of ?_)); rintro ev wz ⟨rfl, hgz⟩))
        all_goals
          go_wp2
          go_ret
          exact ⟨by first | rfl | simp, HG1.out.tr (HG.out.tr (HG2.out.tr (by repeat' (first | assumption | exact Gr.rf _ | refine gr_alloc_of ?_ | refine gr_drew_of ?_))))⟩
      · have b4 : decide ((4000 : Int) < (k : Int)) = true := decide_eq_true (by omega)
        have b4n : decide (4000 < k) = true := decide_eq_true (by omega)
        have HGT := Lib.hid (get_nat_bad S wr (by have := HS.out.2.1; omega) (.inr (.inl (by have := HS.out.2.1; omega))))
        go_wp2_with (go_at_call 7; (with_reducible refine HGT.out.mono ?_); rintro ev w2 ⟨rfl, hg2⟩)
        have HSO := Lib.hid (same_own 1 w2 (HM.out.1.gr (HG1.out.tr (HG.out.tr hg2))))
        go_wp2_with (go_at_call 8; (with_reducible refine HSO.out.mono ?_); rintro ev w3 ⟨rfl, hg3⟩)
        go_ret
        exact ⟨by first | rfl | simp, HG1.out.tr (HG.out.tr (hg2.tr hg3))⟩
end Go.Proofs.YteljmmeomhpccaaGreatDoor
