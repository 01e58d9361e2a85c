/- Layer 5's reference: Of, Dec by contract. -/
import Derived.Test.YtcjjgdoafkdeaaaGreatDoorJe
import Derived.Test.YtcjjgdoafkdeaaaGreatDoorGn
import Derived.Deep.MidRow
namespace Go.Proofs.YtcjjgdoafkdeaaaGreatDoor
open Go.RowKit Go.Extern.Stop Go.Stop Go.Extern Go.Sort
set_option linter.unusedVariables false
set_option linter.unusedSimpArgs false

theorem heap_frz {w : World} {b : Nat} {cs : Array Value} {t : TypeId} (h : w.heap[b]? = some (.cells cs t (0, 0))) (i : Nat) : w.frozen? ⟨b, i, none⟩ = false := frozen_of_row w b i cs t h
/-- A store over what is no limb. -/
theorem lim_setw {w : World} {v : Value} {l : List Nat} (h : Lim w v l) (p : Addr) (u x : Value) (hp : w.cell? p = some x) (hx : ∀ n, x ≠ U n) : Lim (w.setCell p u) v l := by
  refine ⟨h.1, ?_⟩
  rcases h.2 with h1 | ⟨g, o, c, hv, hc, hm, hl, hcell⟩
  · exact .inl h1
  · refine .inr ⟨g, o, c, hv, hc, hm, by rw [World.size_setCell]; exact hl, fun i hi => ?_⟩
    rw [World.cell?_setCell_other w p _ u (fun e => hx l[i] (by
      have h2 := hcell i hi
      rw [← e, hp] at h2
      injection h2))]
    exact hcell i hi
theorem ret_of {w2 : World} {bb : Nat} {u0 u1 x y : Value} (c0 : w2.cell? ⟨bb, 0, none⟩ = some u0) (c1 : w2.cell? ⟨bb, 1, none⟩ = some u1) (tmps : Array Value) (h2 : tmps.getD 2 undef = .pointer (some ⟨bb, 0, none⟩)) :
    (results Tryz.f96 tmps).run Tryz.prog ((w2.setCell ⟨bb, 0, none⟩ x).setCell ⟨bb, 1, none⟩ y) = .ok (.agg #[x, y]) ((w2.setCell ⟨bb, 0, none⟩ x).setCell ⟨bb, 1, none⟩ y) := by
  have d0 : ((w2.setCell ⟨bb, 0, none⟩ x).setCell ⟨bb, 1, none⟩ y).cell? ⟨bb, 0, none⟩ = some x := by
    rw [World.cell?_setCell_other _ _ _ _ (by simp)]
    exact World.cell?_setCell_same _ _ _ (by rw [c0])
  have d1 : ((w2.setCell ⟨bb, 0, none⟩ x).setCell ⟨bb, 1, none⟩ y).cell? ⟨bb, 1, none⟩ = some y :=
    World.cell?_setCell_same _ _ _ (by rw [World.cell?_setCell_other _ _ _ _ (by simp), c1])
  have hl := run_loadVar_mid (P := Tryz.prog) ((w2.setCell ⟨bb, 0, none⟩ x).setCell ⟨bb, 1, none⟩ y) bb 0 27 [x, y] _ (fun j v hj => by
    rcases j with _ | _ | j
    · rw [← hj]; exact d0
    · rw [← hj]; exact d1
    · simp at hj) Tryz.underlying27 rfl (by kernel_rfl)
  generalize (w2.setCell ⟨bb, 0, none⟩ x).setCell ⟨bb, 1, none⟩ y = W at hl ⊢
  unfold results
  rw [show Tryz.f96.results = #[.cell 2 27] from rfl]
  have k2 : tmps[2]?.getD undef = .pointer (some ⟨bb, 0, none⟩) := by simpa using h2
  simp [k2, asAddr, hl, Sem.run_bind, Sem.run_pure]
set_option maxRecDepth 100000 in
set_option maxHeartbeats 4000000 in
/-- rentierref2.Of. -/
theorem rOf_calls (z : Int) (h0 : -9223372036854775808 ≤ z) (h1 : z ≤ 9223372036854775807) (w : World) :
    Calls Tryz.prog 96 #[.int .i64 z] w fun e w' => (∃ v, e = .returned (.agg #[.bool (decide (z < 0)), v]) ∧ RN w' v z.natAbs) ∧ Gr w w' := by
  have hB : z.natAbs < B := by rw [B_eq]; omega
  have HOU := Lib.hid (fun w' => ofU_calls z.natAbs hB w')
  by_cases hz : z < 0
  · have b1 : decide (z < 0) = true := decide_eq_true hz
    rw [b1]
    obtain ⟨k, hk⟩ : ∃ k : Nat, -(z + 1) = (k : Int) := ⟨(-(z + 1)).toNat, by omega⟩
    have hk2 : (z.natAbs : Int) = (k : Int) + 1 := by omega
    have hzw : IntKind.i64.wrap (z + 1) = z + 1 := by rw [IntKind.wrap_i64]; omega
    have hkw : IntKind.i64.wrap (k : Int) = (k : Int) := by rw [IntKind.wrap_i64]; omega
    have hkw2 : IntKind.u64.wrap (k : Int) = (k : Int) := by rw [IntKind.wrap_u64]; omega
    have hkw3 : IntKind.u64.wrap ((k : Int) + 1) = (k : Int) + 1 := by rw [IntKind.wrap_u64]; omega
    generalize z.natAbs = m at *
    rw [hk2] at HOU
    have HMM := Lib.hid hk2
    clear hk2 hB
    go_enter Tryz.func96, Tryz.ntmps96
    go_wp2_with fail
    refine (HOU.out _).mono ?_
    rintro ev w2 ⟨⟨v, rfl, hv⟩, hg2⟩
    obtain ⟨sa, sc, rfl⟩ := Lim.slice hv
    have hblk := heap_alloc_new w (.cells #[.bool false, .slice none 0 0] 27)
    have HG2 := Lib.hid (Gr.tr ((Gr.rf w).alloc (Nat.le_refl _) _) hg2)
    have hb2 := hg2.heap hblk
    have c0 := heap_cell hb2 0
    have c1 := heap_cell hb2 1
    have f0 := heap_frz hb2 0
    have f1 := heap_frz hb2 1
    have HV := Lib.hid hv
    clear hblk hg2 hb2 hv
    go_wp2
    (try simp only [Exit.inBlock, Exit.then])
    refine bodyPost_ret (ret_of c0 c1 _ rfl) rfl ?_
    exact ⟨⟨_, rfl, lim_setw (lim_setw HV.out _ _ _ c0 (fun n h => by cases h)) _ _ _ ((World.cell?_setCell_other _ _ _ _ (by simp)).trans c1) (fun n h => by cases h)⟩, Gr.setCell (Gr.setCell HG2.out (Nat.le_refl _) _) (Nat.le_refl _) _⟩
  · have b1 : decide (z < 0) = false := decide_eq_false hz
    rw [b1]
    obtain ⟨k, rfl⟩ : ∃ k : Nat, z = (k : Int) := ⟨z.toNat, by omega⟩
    rw [Int.natAbs_natCast] at HOU hB ⊢
    have hkw2 : IntKind.u64.wrap (k : Int) = (k : Int) := by rw [IntKind.wrap_u64]; omega
    go_enter Tryz.func96, Tryz.ntmps96
    go_wp2_with fail
    refine (HOU.out _).mono ?_
    rintro ev w2 ⟨⟨v, rfl, hv⟩, hg2⟩
    obtain ⟨sa, sc, rfl⟩ := Lim.slice hv
    have hblk := heap_alloc_new w (.cells #[.bool false, .slice none 0 0] 27)
    have HG2 := Lib.hid (Gr.tr ((Gr.rf w).alloc (Nat.le_refl _) _) hg2)
    have hb2 := hg2.heap hblk
    have c0 := heap_cell hb2 0
    have c1 := heap_cell hb2 1
    have f0 := heap_frz hb2 0
    have f1 := heap_frz hb2 1
    have HV := Lib.hid hv
    clear hblk hg2 hb2 hv
    go_wp2
    (try simp only [Exit.inBlock, Exit.then])
    refine bodyPost_ret (ret_of c0 c1 _ rfl) rfl ?_
    exact ⟨⟨_, rfl, lim_setw (lim_setw HV.out _ _ _ c0 (fun n h => by cases h)) _ _ _ ((World.cell?_setCell_other _ _ _ _ (by simp)).trans c1) (fun n h => by cases h)⟩, Gr.setCell (Gr.setCell HG2.out (Nat.le_refl _) _) (Nat.le_refl _) _⟩

set_option maxRecDepth 100000 in
set_option maxHeartbeats 8000000 in
/-- rentierref2.Dec. -/
theorem rDec_calls (neg : Bool) (v : Value) (n p : Nat) (w : World) (h : RN w v n) (k : Nat) (hn : n < Dg.D ^ k) (hk : k ≤ 250) (hp : p ≤ 20) :
    Calls Tryz.prog 38 #[.agg #[.bool neg, v], .int .i64 (p : Int)] w fun e w' => e = .returned (.string ⟨(if neg then 45 :: pointL (padL (Lib.decDigits n) p) p else pointL (padL (Lib.decDigits n) p) p).toArray⟩) ∧ Gr w w' := by
  obtain ⟨X, hX⟩ : ∃ X : ByteArray, X = ⟨(Lib.decDigits n).toArray⟩ := ⟨_, rfl⟩
  have hXL : X.data.toList = Lib.decDigits n := by rw [hX]
  have hsz : X.size ≤ 9 * 250 := by
    rw [hX, Lib.size_eq]
    exact nd_le (9 * 250) _ (by omega) (Nat.lt_of_lt_of_le (b_up hn hk) (Nat.le_of_eq (D_pow 250)))
  have HRT := Lib.hid (fun w' (hg : Gr w w') => r_text (w := w') (h.gr hg) hn hk hX)
  have hblk := heap_alloc_new w (.cells #[.bool neg, v] 27)
  have HBK := Lib.hid hblk
  have hg1 : Gr w (w.alloc (.cells #[.bool neg, v] 27)) := (Gr.rf w).alloc (Nat.le_refl _) _
  have HG1 := Lib.hid hg1
  have HXL := Lib.hid hXL
  clear hX hXL h hn hblk hg1
  go_enter Tryz.func38, Tryz.ntmps38
  go_wp2_with (go_at_call 81; (with_reducible refine (HRT.out _ HG1.out).mono ?_); rintro ev w2 ⟨rfl, hg2⟩; have HG2 := Lib.hid (HG1.out.tr hg2); have HB2 := Lib.hid (hg2.heap HBK.out); clear hg2)
  go_loopg [5] (p + 1) (fun g st wr => ∃ (j : Nat) (T : ByteArray), g = p + 1 - j ∧ st = .string T ∧ Hid (T.data.toList = List.replicate j 48 ++ X.data.toList) ∧ T.size = j + X.size ∧ (j = 0 ∨ j + X.size ≤ p + 1) ∧ w2 = wr)
  case atStart => exact ⟨0, X, rfl, rfl, Lib.hid rfl, by omega, .inl rfl, rfl⟩
  case round =>
    obtain ⟨j, T, hg, rfl, HT, hTs, hj, rfl⟩ := hrel
    have HGG := Lib.hid hg
    clear hg
    by_cases hle : T.size ≤ p
    · have b1 : decide ((T.size : Int) ≤ (p : Int)) = true := decide_eq_true (by omega)
      have b1n : decide (T.size ≤ p) = true := decide_eq_true hle
      have HN := Lib.hid (show ((⟨#[48]⟩ : ByteArray) ++ T).data.toList = List.replicate (j + 1) 48 ++ X.data.toList by
        rw [byte_cons, HT.out, List.replicate_succ]; rfl)
      have hns : ((⟨#[48]⟩ : ByteArray) ++ T).size = j + 1 + X.size := by rw [ByteArray.size_append, hTs]; show 1 + _ = _; omega
      go_wp2
      go_roundg (p + 1 - (j + 1))
      case measure => have := HGG.out; omega
      case rel => exact ⟨j + 1, (⟨#[48]⟩ : ByteArray) ++ T, rfl, by first | rfl | simp, HN, hns, .inr (by omega), rfl⟩
    · have b1 : decide ((T.size : Int) ≤ (p : Int)) = false := decide_eq_false (by omega)
      have b1n : decide (T.size ≤ p) = false := decide_eq_false hle
      have HPD := Lib.hid (show T.data.toList = padL (Lib.decDigits n) p by
        rw [HT.out, HXL.out]
        have hxs : X.size = (Lib.decDigits n).length := by rw [Lib.size_eq, HXL.out]
        unfold padL
        by_cases hx : (Lib.decDigits n).length ≤ p
        · rw [if_pos hx, show p + 1 - (Lib.decDigits n).length = j by omega]
        · rw [if_neg hx, show j = 0 by omega]; rfl)
      have hT3 : T.size ≤ 3000 := by omega
      clear hTs hj
      have hc0 := heap_cell HB2.out 0
      rw [show (#[Value.bool neg, v] : Array Value)[0]? = some (.bool neg) from rfl] at hc0
      rcases Nat.eq_zero_or_pos p with hp0 | hp0
      · have b2 : decide ((0 : Int) < (p : Int)) = false := decide_eq_false (by omega)
        have b2n : decide (0 < p) = false := decide_eq_false (by omega)
        have HPL := Lib.hid (show T.data.toList = pointL (padL (Lib.decDigits n) p) p by rw [HPD.out]; unfold pointL; rw [if_neg (by omega)])
        clear hp0 b1 b1n
        cases neg
        all_goals
          go_wp2
          go_ret
          refine ⟨ret_str ?_, HG2.out⟩
          apply ba_ext
          first
          | (rw [HPL.out]; try rfl; done)
          | (rw [HPL.out]; rfl)
          | (rw [HPL.out])
          | (rw [byte_cons, HPL.out]; rfl)
          | (rw [byte_cons, HPL.out])
      · have b2 : decide ((0 : Int) < (p : Int)) = true := decide_eq_true (by omega)
        have b2n : decide (0 < p) = true := decide_eq_true hp0
        have hsb : ((T.size : Int) - (p : Int)).toNat = T.size - p := by omega
        have hs1 : (p : Int) ≤ (T.size : Int) := by omega
        have hs2 : (T.size : Int) - (p : Int) ≤ (T.size : Int) := by omega
        have hsw : IntKind.i64.wrap ((T.size : Int) - (p : Int)) = (T.size : Int) - (p : Int) := by rw [IntKind.wrap_i64]; omega
        have HPL := Lib.hid (show (T.extract 0 (T.size - p) ++ ⟨#[46]⟩ ++ T.extract (T.size - p) T.size).data.toList = pointL (padL (Lib.decDigits n) p) p by rw [point_ba T p hp0, HPD.out])
        cases neg
        all_goals
          go_wp2_with fail
          go_quiet (fail)
          go_wp2
          go_ret
          refine ⟨ret_str ?_, Gr.drew HG2.out _⟩
          apply ba_ext
          first
          | (rw [HPL.out]; try rfl; done)
          | (rw [HPL.out]; rfl)
          | (rw [HPL.out])
          | (rw [byte_cons, HPL.out]; rfl)
          | (rw [byte_cons, HPL.out])
end Go.Proofs.YtcjjgdoafkdeaaaGreatDoor
