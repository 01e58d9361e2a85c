/- Layer 4's reference: GetQ of a text. -/
import Derived.Test.YtcjjgdoafkdeaaaGreatDoorWh
import Derived.Test.YtcjjgdoafkdeaaaGreatDoorWj
import Derived.Test.YtcjjgdoafkdeaaaGreatDoorQh
namespace Go.Proofs.YtcjjgdoafkdeaaaGreatDoor
open Go.RowKit Go.Extern.Stop Go.Stop Go.Extern Go.Sort
set_option linter.unusedVariables false
set_option linter.unusedSimpArgs false

theorem extract_all (s : ByteArray) : s.extract 0 s.size = s := ba_ext (by
  have h := (piece s s.size (Nat.le_refl _)).1
  rw [h, List.take_of_length_le (by rw [← Lib.size_eq]; exact Nat.le_refl _)])
theorem dv_D28 (t : ByteArray) (h : Dig t.data.toList) (hs : t.size ≤ 250) : dv t.data.toList < Dg.D ^ 28 := by
  refine Nat.lt_of_lt_of_le (dv_lt _ h) ?_
  rw [← Lib.size_eq]
  exact Nat.le_trans (Nat.pow_le_pow_right (by decide) hs) (by show 10 ^ 250 ≤ 1000000000 ^ 28; decide)
/-- Where the first stroke lies, or the end. -/
theorem cutQ_at {s t u : ByteArray} (h : CutQ s t u) : ∃ I : Nat, I ≤ s.size ∧ s.extract 0 I = t ∧ (∀ j (hj : j < s.size), j < I → (s[j]'hj).toNat ≠ 47) ∧ ((∃ hI : I < s.size, (s[I]'hI).toNat = 47 ∧ s.extract (I + 1) s.size = u) ∨ (I = s.size ∧ t = s ∧ u = ⟨#[49]⟩)) := by
  have key : ∀ (j : Nat) (hj : j < s.size), s.data.toList[j]? = some (s[j]'hj) := fun j hj => by
    have hl : j < s.data.toList.length := by rw [← Lib.size_eq]; exact hj
    rw [List.getElem?_eq_getElem hl, at_list s j hj hl]
  rcases h with ⟨i, hi, hlt, rfl, rfl⟩ | ⟨hi, rfl, rfl⟩
  · obtain ⟨h1, h2⟩ := Lib.indexByte_some hi
    refine ⟨i, by omega, rfl, fun j hj hji e => ?_, .inl ⟨hlt, ?_, rfl⟩⟩
    · exact h2 j hji (by rw [key j hj]; congr 1; exact UInt8.toNat_inj.1 e)
    · rw [key i hlt] at h1
      injection h1 with h1
      rw [h1]; rfl
  · refine ⟨t.size, Nat.le_refl _, extract_all t, fun j hj _ e => ?_, .inr ⟨rfl, rfl, rfl⟩⟩
    exact Lib.indexByte_none hi j (by rw [key j hj]; congr 1; exact UInt8.toNat_inj.1 e)
theorem ret_getq {W : World} {bb : Nat} (x y z o : Value) (hW : W.rangeAt bb 0 [x, y, z]) (tmps : Array Value) (h2 : tmps.getD 2 undef = .pointer (some ⟨bb, 0, none⟩)) (h3 : tmps.getD 3 undef = o) :
    (results Tryz.f40 tmps).run Tryz.prog W = .ok (.tuple #[.agg #[x, y, z], o]) W := by
  have hl := run_loadVar_mid (P := Tryz.prog) W bb 0 29 [x, y, z] _ hW Tryz.underlying29 rfl (by kernel_rfl)
  unfold results
  rw [show Tryz.f40.results = #[.cell 2 29, .tmp 3] from rfl]
  have k2 : tmps[2]?.getD undef = .pointer (some ⟨bb, 0, none⟩) := by simpa using h2
  have k3 : tmps[3]?.getD undef = o := by simpa using h3
  simp [k2, k3, asAddr, hl, Sem.run_bind, Sem.run_pure]
set_option maxRecDepth 100000 in
set_option maxHeartbeats 8000000 in
theorem rgetQ_s1 (s t t2 u : ByteArray) (neg : Bool) (hs : s.size ≤ 240) (hp : Parts t t2 neg) (z1 : t.size ≤ s.size) (z2 : u.size ≤ s.size + 1) (I : Nat) (hI : I ≤ s.size) (hex : s.extract 0 I = t) (hno : ∀ j (hj : j < s.size), j < I → (s[j]'hj).toNat ≠ 47) (hjs : I < s.size) (h47 : (s[I]'hjs).toNat = 47) (hu : s.extract (I + 1) s.size = u) (hi : IntT t2 neg) (w : World) :
    Calls Tryz.prog 40 #[.string s] w fun e w' => ((QT s t2 u neg → ∃ b p1 l1 c1 p2 l2 c2, e = .returned (.tuple #[.agg #[.bool b, .slice p1 l1 c1, .slice p2 l2 c2], .bool true])) ∧ (¬ QT s t2 u neg → ∃ b p1 l1 c1 p2 l2 c2, e = .returned (.tuple #[.agg #[.bool b, .slice p1 l1 c1, .slice p2 l2 c2], .bool false]))) ∧ Gr w w' := by
  have z3 := size_parts hp
  have HGI := Lib.hid (fun w => rgetI_calls t t2 neg w (by omega) hp)
  have HGN := Lib.hid (fun w => rgetN_calls u w)
  have HNO := Lib.hid hno
  have HEX := Lib.hid hex
  have H47 := Lib.hid h47
  have HZ := Lib.hid (And.intro hs (And.intro z1 (And.intro z2 z3)))
  have HI := Lib.hid hi
  clear hp z1 z2 z3 hno hex hi
  have hbk := heap_alloc_new w (.cells #[.bool false, .slice none 0 0, .slice none 0 0] 29)
  have HBK := Lib.hid hbk
  have HG0 : Hid (Gr w (w.alloc (.cells #[.bool false, .slice none 0 0, .slice none 0 0] 29))) := Lib.hid ((Gr.rf w).alloc (Nat.le_refl _) _)
  clear hbk
  go_enter Tryz.func40, Tryz.ntmps40
  go_wp2_with fail
  generalize w.alloc (.cells #[.bool false, .slice none 0 0, .slice none 0 0] 29) = w0 at *
  go_loopg [4] (I + 1) (fun g k wr => ∃ j : Nat, g = I + 1 - j ∧ j ≤ I ∧ k = .int .i64 (j : Int) ∧ w0 = wr)
  case atStart => exact ⟨0, rfl, Nat.zero_le _, rfl, rfl⟩
  case round =>
    obtain ⟨j, hg, hji, rfl, rfl⟩ := hrel
    have HGG := Lib.hid hg
    clear hg
    by_cases hlt : j < I
    · have hjs : j < s.size := by omega
      have b1 : decide ((j : Int) < (s.size : Int)) = true := decide_eq_true (by omega)
      have b1n : decide (j < s.size) = true := decide_eq_true hjs
      have hx := HNO.out j hjs hlt
      have b2 : (((s[j]'hjs).toNat : Int) == 47) = false := beq_eq_false_iff_ne.2 (by omega)
      have b2n : ((s[j]'hjs).toNat == 47) = false := beq_eq_false_iff_ne.2 hx
      clear hx
      go_wp2
      go_roundg (I + 1 - (j + 1))
      case measure => have := HGG.out; omega
      case rel => exact ⟨j + 1, rfl, by omega, by first | rfl | go_num, rfl⟩
    · have hjI : j = I := by omega
      subst hjI
      clear hlt hji
      have hex := HEX.out
      have hj0 : (j : Int) ≤ (s.size : Int) := by omega
      have HOU : Hid (∀ w', Calls Tryz.prog 27 #[.int .u64 1] w' fun e w2 => (∃ r, e = .returned r ∧ RN w2 r 1) ∧ Gr w' w2) := Lib.hid (fun w' => r_ofU 1 (by decide) w')
      have h47 := H47.out
      have b1 : decide ((j : Int) < (s.size : Int)) = true := decide_eq_true (by omega)
      have b1n : decide (j < s.size) = true := decide_eq_true hjs
      have b2 : (((s[j]'hjs).toNat : Int) == 47) = true := beq_iff_eq.2 (by omega)
      have b2n : ((s[j]'hjs).toNat == 47) = true := beq_iff_eq.2 h47
      have hw1 : IntKind.i64.wrap ((j : Int) + 1) = (j : Int) + 1 := by rw [IntKind.wrap_i64]; have := HZ.out.1; omega
      have hw2 : (j : Int) + 1 ≤ (s.size : Int) := by omega
      have hw3 : ((j : Int) + 1).toNat = j + 1 := by omega
      clear h47
      go_wp2_with fail
      refine (HGI.out _).mono ?_
      rintro ev w2 ⟨⟨hr1, hr2⟩, hg2⟩
      have HG2 := Lib.hid hg2
      obtain ⟨v, rfl, hv⟩ := hr1 HI.out
      obtain ⟨va, vl, vc, rfl⟩ : ∃ x l c, v = .slice x l c := by
        obtain ⟨x, c, h⟩ := rn_len hv
        exact ⟨x, _, c, h⟩
      have HV := Lib.hid hv
      clear hr1 hr2 hg2 hv
      go_wp2_with fail
      have hbz := heap_alloc_new w2 (.cells #[.bool neg, .slice va vl vc] 27)
      have hgz0 : Gr w2 (w2.alloc (.cells #[.bool neg, .slice va vl vc] 27)) := (Gr.rf w2).alloc (Nat.le_refl _) _
      generalize w2.alloc (.cells #[.bool neg, .slice va vl vc] 27) = wz at *
      have HGZ := Lib.hid hgz0
      have HTX : Hid (∀ w', Gr wz w' → (Gr wz w' ∧ w'.cell? ⟨w2.heap.size, 0, none⟩ = some (.bool neg) ∧ w'.cell? ⟨w2.heap.size, 1, none⟩ = some (.slice va vl vc))) := Lib.hid (fun w' hg => ⟨hg, heap_cell (hg.heap hbz) 0, heap_cell (hg.heap hbz) 1⟩)
      have hgd : Gr wz wz.drew := Gr.drew (Gr.rf wz) 1
      clear hbz hgz0
      go_region_held3 (fun w' => Gr wz w' ∧ w'.cell? ⟨w2.heap.size, 0, none⟩ = some (.bool neg) ∧ w'.cell? ⟨w2.heap.size, 1, none⟩ = some (.slice va vl vc))
        (first | exact HTX.out _ hgd | exact HTX.out _ hg4 | exact HTX.out _ (Gr.drew ((Gr.rf wz).alloc (Nat.le_refl _) _) 1) | exact HTX.out _ (Gr.tr hg4 ((Gr.rf _).alloc (Nat.le_refl _) _)) | exact HTX.out _ (Gr.setCell (Gr.setCell (Gr.setCell hg4 (Nat.le_refl _) _) (Nat.le_refl _) _) (Nat.le_refl _) _) | fail)
        (first | (go_at_call 27; go_split_ands; refine (HOU.out _).mono ?_; rintro ev w4 ⟨⟨r4, rfl, hr4⟩, hg4'⟩; have hg4 : Gr wz w4 := Gr.tr (by assumption) hg4'; have HR4 := Lib.hid hr4; (try (have hb7 := hg4'.heap (show (wz.alloc (.cells #[.bool false, .slice none 0 0, .slice none 0 0] 29)).drew.heap[wz.heap.size]? = _ from heap_alloc_new wz _); have q0 := heap_cell hb7 0; have q1 := heap_cell hb7 1; have q2 := heap_cell hb7 2; have p0 := heap_frz hb7 0; have p1 := heap_frz hb7 1; have p2 := heap_frz hb7 2)); obtain ⟨r4a, r4c, hr4e⟩ := rn_len hr4; subst hr4e; clear hr4))
      all_goals clear HTX HOU
      · have hb7 := heap_alloc_new w4 (.cells #[.bool neg, .slice va vl vc, .slice r4a (Dg.digs 1).length r4c] 29)
        have hga : Gr w4 (w4.alloc (.cells #[.bool neg, .slice va vl vc, .slice r4a (Dg.digs 1).length r4c] 29)) := (Gr.rf w4).alloc (Nat.le_refl _) _
        have HG5 := Lib.hid (hg4.tr hga)
        have HRA := Lib.hid (HV.out.gr (HGZ.out.tr (hg4.tr hga)))
        have HR1 := Lib.hid (HR4.out.gr hga)
        have m0 := heap_cell hb7 0
        have m1 := heap_cell hb7 1
        have m2 := heap_cell hb7 2
        have n2 := heap_frz hb7 2
        have hlt := heap_lt hb7
        have HLT : Hid (w.heap.size < w4.heap.size ∧ ¬ (w.heap.size = w4.heap.size)) := Lib.hid (by have a1 := HG2.out.size; have a2 := HGZ.out.size; have a3 := heap_lt HBK.out; have a4 := hg4.size; omega)
        generalize w4.alloc (.cells #[.bool neg, .slice va vl vc, .slice r4a (Dg.digs 1).length r4c] 29) = w5 at *
        clear hb7 hga
        clear hgd hg4'
        go_wp2_with fail
        refine (HGN.out _).mono ?_
        rintro ev w6 ⟨⟨hs1, hs2⟩, hg6⟩
        have HG6 := Lib.hid (HG5.out.tr hg6)
        have l0 := (Below.cell hg6 (p := ⟨w4.heap.size, 0, none⟩) hlt).trans m0
        have l1 := (Below.cell hg6 (p := ⟨w4.heap.size, 1, none⟩) hlt).trans m1
        have l2 := (Below.cell hg6 (p := ⟨w4.heap.size, 2, none⟩) hlt).trans m2
        have n3 := (Below.frozen hg6 (p := ⟨w4.heap.size, 2, none⟩) hlt).trans n2
        have hbq := ((HG2.out.tr HGZ.out).tr HG6.out).heap HBK.out
        have y0 := heap_cell hbq 0
        have y1 := heap_cell hbq 1
        have y2 := heap_cell hbq 2
        have g0 := heap_frz hbq 0
        have g1 := heap_frz hbq 1
        have g2 := heap_frz hbq 2
        have hne : ¬ (w.heap.size = w4.heap.size) := HLT.out.2
        have hne2 : ¬ (w4.heap.size = w.heap.size) := fun e => HLT.out.2 e.symm
        have HGF := Lib.hid (HG0.out.tr ((HG2.out.tr HGZ.out).tr HG6.out))
        have H6S : Hid (w4.heap.size < w6.heap.size) := Lib.hid (Nat.lt_of_lt_of_le hlt hg6.size)
        clear hbq m0 m1 m2 n2 hlt
        by_cases hn : NumT u
        · obtain ⟨r6, rfl, hr6⟩ := hs1 hn
          have HN := Lib.hid hn
          by_cases hD : dv u.data.toList = 0
          · obtain ⟨r6a, r6c, rfl⟩ := rn_len hr6
            have hl0 : (Dg.digs (dv u.data.toList)).length = 0 := by rw [hD, Dg.digs_zero]; rfl
            rw [hl0]
            have HQ := Lib.hid (show ¬ QT s t2 u neg from fun h => h.2.2.1 hD)
            clear hs1 hs2 hn hg6 hl0 hD hr6
            have Y0 := (World.cell?_setCell_other w6 ⟨w4.heap.size, 2, none⟩ ⟨w.heap.size, 0, none⟩ (.slice r6a 0 r6c) (by simp [hne, hne2])).trans y0
            have Y1 := (World.cell?_setCell_other w6 ⟨w4.heap.size, 2, none⟩ ⟨w.heap.size, 1, none⟩ (.slice r6a 0 r6c) (by simp [hne, hne2])).trans y1
            have Y2 := (World.cell?_setCell_other w6 ⟨w4.heap.size, 2, none⟩ ⟨w.heap.size, 2, none⟩ (.slice r6a 0 r6c) (by simp [hne, hne2])).trans y2
            have HE := Lib.hid (three_set (w6.setCell ⟨w4.heap.size, 2, none⟩ (.slice r6a 0 r6c)) w.heap.size (.bool false) (.slice none 0 0) (.slice none 0 0) _ _ _ Y0 Y1 Y2 (fun n h => by cases h) (fun n h => by cases h) (fun n h => by cases h))
            clear Y0 Y1 Y2
            go_wp2
            (try simp only [Exit.inBlock, Exit.then])
            refine bodyPost_ret (ret_getq _ _ _ _ HE.out.1 _ rfl rfl) rfl ?_
            exact ⟨⟨fun h => absurd h HQ.out, fun _ => ⟨_, _, _, _, _, _, _, rfl⟩⟩, HE.out.2.2 w (Gr.setCell HGF.out (Nat.le_of_lt HLT.out.1) _) (Nat.le_refl _)⟩
          · obtain ⟨r6a, r6c, rfl⟩ := rn_len hr6
            have hl0 : decide (0 < (Dg.digs (dv u.data.toList)).length) = true := decide_eq_true (digs_len_pos _ (by omega))
            have HR6 := Lib.hid hr6
            generalize (Dg.digs (dv u.data.toList)).length = L6 at *
            have hDt := dv_D28 t2 HI.out.1.2.2.2 (by have := HZ.out; omega)
            have hDu := dv_D28 u hn.2.2.2 (by have := HZ.out; omega)
            have HRA6 := Lib.hid (HRA.out.gr hg6)
            have HQD := Lib.hid (show QT s t2 u neg ↔ ratText (sgn neg (dv t2.data.toList / Nat.gcd (dv t2.data.toList) (dv u.data.toList))) (dv u.data.toList / Nat.gcd (dv t2.data.toList) (dv u.data.toList)) = s.data.toList from ⟨fun h => h.2.2.2, fun h => ⟨HI.out, hn, hD, h⟩⟩)
            have hsg : (neg && decide (0 < dv t2.data.toList / Nat.gcd (dv t2.data.toList) (dv u.data.toList))) = neg := by
              cases neg
              · rfl
              · have ha := HI.out.2 rfl
                rw [decide_eq_true (Nat.div_pos (Nat.gcd_le_left _ (by omega)) (Nat.gcd_pos_of_pos_right _ (by omega)))]; rfl
            have hr6u := hr6
            generalize dv u.data.toList = D at *
            generalize dv t2.data.toList = A at *
            obtain ⟨T, hT⟩ : ∃ T : ByteArray, T = ⟨(ratText (sgn neg (A / Nat.gcd A D)) (D / Nat.gcd A D)).toArray⟩ := ⟨_, rfl⟩
            have hTl : T.data.toList = ratText (sgn neg (A / Nat.gcd A D)) (D / Nat.gcd A D) := by rw [hT]
            have HQX := Lib.hid (rQText_calls neg (.slice va vl vc) (.slice r6a L6 r6c) A D (w6.setCell ⟨w4.heap.size, 2, none⟩ (.slice r6a L6 r6c)) (show RN _ _ _ from lim_setw HRA6.out _ _ _ l2 (fun n h => by cases h)) (show RN _ _ _ from lim_setw HR6.out _ _ _ l2 (fun n h => by cases h)) (by omega) 28 hDt hDu (by decide) (by decide) T (by rw [hsg]; exact hT))
            have x0 := (World.cell?_setCell_other w6 ⟨w4.heap.size, 2, none⟩ ⟨w4.heap.size, 0, none⟩ (.slice r6a L6 r6c) (by simp)).trans l0
            have x1 := (World.cell?_setCell_other w6 ⟨w4.heap.size, 2, none⟩ ⟨w4.heap.size, 1, none⟩ (.slice r6a L6 r6c) (by simp)).trans l1
            have x2 := World.cell?_setCell_same w6 ⟨w4.heap.size, 2, none⟩ (.slice r6a L6 r6c) (show _ = some _ from l2)
            have Y0 := (World.cell?_setCell_other w6 ⟨w4.heap.size, 2, none⟩ ⟨w.heap.size, 0, none⟩ (.slice r6a L6 r6c) (by simp [hne, hne2])).trans y0
            have Y1 := (World.cell?_setCell_other w6 ⟨w4.heap.size, 2, none⟩ ⟨w.heap.size, 1, none⟩ (.slice r6a L6 r6c) (by simp [hne, hne2])).trans y1
            have Y2 := (World.cell?_setCell_other w6 ⟨w4.heap.size, 2, none⟩ ⟨w.heap.size, 2, none⟩ (.slice r6a L6 r6c) (by simp [hne, hne2])).trans y2
            have HLW : Hid (w.heap.size < (w6.setCell ⟨w4.heap.size, 2, none⟩ (.slice r6a L6 r6c)).heap.size ∧ w4.heap.size < (w6.setCell ⟨w4.heap.size, 2, none⟩ (.slice r6a L6 r6c)).heap.size) := Lib.hid (by rw [World.size_setCell]; have a1 := HLT.out.1; have a2 := H6S.out; omega)
            have HFR : Hid (∀ i, i < 3 → (w6.setCell ⟨w4.heap.size, 2, none⟩ (.slice r6a L6 r6c)).frozen? ⟨w.heap.size, i, none⟩ = false) := Lib.hid (fun i hi => by
              rw [World.frozen?_setCell]
              rcases i with _ | _ | _ | i
              · exact g0
              · exact g1
              · exact g2
              · omega)
            have HXY := Lib.hid (And.intro (And.intro x0 (And.intro x1 x2)) (And.intro Y0 (And.intro Y1 Y2)))
            have HGW := Lib.hid (Gr.setCell (a := ⟨w4.heap.size, 2, none⟩) HGF.out (Nat.le_of_lt HLT.out.1) (.slice r6a L6 r6c))
            have HDX := Lib.hid hD
            have HTL := Lib.hid hTl
            clear Y0 Y1 Y2 hs1 hs2 hn hg6 hD hr6 hr6u hTl hT hsg hDt hDu
            go_wp2_with fail
            refine HQX.out.mono ?_
            rintro ev w8 ⟨rfl, hg8⟩
            have HG8 := Lib.hid (HGW.out.tr hg8)
            have Z0 := (Below.cell hg8 (p := ⟨w.heap.size, 0, none⟩) HLW.out.1).trans HXY.out.2.1
            have Z1 := (Below.cell hg8 (p := ⟨w.heap.size, 1, none⟩) HLW.out.1).trans HXY.out.2.2.1
            have Z2 := (Below.cell hg8 (p := ⟨w.heap.size, 2, none⟩) HLW.out.1).trans HXY.out.2.2.2
            have u0 := (Below.frozen hg8 (p := ⟨w.heap.size, 0, none⟩) HLW.out.1).trans (HFR.out 0 (by decide))
            have u1 := (Below.frozen hg8 (p := ⟨w.heap.size, 1, none⟩) HLW.out.1).trans (HFR.out 1 (by decide))
            have u2 := (Below.frozen hg8 (p := ⟨w.heap.size, 2, none⟩) HLW.out.1).trans (HFR.out 2 (by decide))
            have X0 := (Below.cell hg8 (p := ⟨w4.heap.size, 0, none⟩) HLW.out.2).trans HXY.out.1.1
            have X1 := (Below.cell hg8 (p := ⟨w4.heap.size, 1, none⟩) HLW.out.2).trans HXY.out.1.2.1
            have X2 := (Below.cell hg8 (p := ⟨w4.heap.size, 2, none⟩) HLW.out.2).trans HXY.out.1.2.2
            have Z0 : w8.cell? ⟨w.heap.size, 0, none⟩ = some (.bool false) := Z0
            have Z1 : w8.cell? ⟨w.heap.size, 1, none⟩ = some (.slice none 0 0) := Z1
            have Z2 : w8.cell? ⟨w.heap.size, 2, none⟩ = some (.slice none 0 0) := Z2
            clear hg8 l0 l1 l2 y0 y1 y2 g0 g1 g2 n3 x0 x1 x2
            by_cases hTs : T = s
            · have HQ := Lib.hid (show QT s t2 u neg from HQD.out.2 (by rw [← HTL.out, hTs]))
              subst hTs
              have HE := Lib.hid (three_set w8 w.heap.size (.bool neg) (.slice va vl vc) (.slice r6a L6 r6c) _ _ _ Z0 Z1 Z2 (fun n h => by cases h) (fun n h => by cases h) (fun n h => by cases h))
              clear Z0 Z1 Z2
              go_wp2
              (try simp only [Exit.inBlock, Exit.then])
              refine bodyPost_ret (ret_getq _ _ _ _ HE.out.1 _ rfl rfl) rfl ?_
              exact ⟨⟨fun _ => ⟨_, _, _, _, _, _, _, rfl⟩, fun h => absurd HQ.out h⟩, HE.out.2.2 w HG8.out (Nat.le_refl _)⟩
            · have e1 := str_ne hTs
              have HQ := Lib.hid (show ¬ QT s t2 u neg from fun h => hTs (ba_ext (by rw [HTL.out]; exact HQD.out.1 h)))
              clear hTs
              have HE := Lib.hid (three_set w8 w.heap.size (.bool false) (.slice none 0 0) (.slice none 0 0) _ _ _ Z0 Z1 Z2 (fun n h => by cases h) (fun n h => by cases h) (fun n h => by cases h))
              clear Z0 Z1 Z2
              go_wp2
              (try simp only [Exit.inBlock, Exit.then])
              refine bodyPost_ret (ret_getq _ _ _ _ HE.out.1 _ rfl rfl) rfl ?_
              exact ⟨⟨fun h => absurd h HQ.out, fun _ => ⟨_, _, _, _, _, _, _, rfl⟩⟩, HE.out.2.2 w HG8.out (Nat.le_refl _)⟩
        · have HN := Lib.hid hn
          obtain rfl := hs2 hn
          clear hs1 hs2 hn hg6
          have Y0 := (World.cell?_setCell_other w6 ⟨w4.heap.size, 2, none⟩ ⟨w.heap.size, 0, none⟩ (.slice none 0 0) (by simp [hne, hne2])).trans y0
          have Y1 := (World.cell?_setCell_other w6 ⟨w4.heap.size, 2, none⟩ ⟨w.heap.size, 1, none⟩ (.slice none 0 0) (by simp [hne, hne2])).trans y1
          have Y2 := (World.cell?_setCell_other w6 ⟨w4.heap.size, 2, none⟩ ⟨w.heap.size, 2, none⟩ (.slice none 0 0) (by simp [hne, hne2])).trans y2
          have HE := Lib.hid (three_set (w6.setCell ⟨w4.heap.size, 2, none⟩ (.slice none 0 0)) w.heap.size (.bool false) (.slice none 0 0) (.slice none 0 0) _ _ _ Y0 Y1 Y2 (fun n h => by cases h) (fun n h => by cases h) (fun n h => by cases h))
          clear Y0 Y1 Y2
          go_wp2
          (try simp only [Exit.inBlock, Exit.then])
          refine bodyPost_ret (ret_getq _ _ _ _ HE.out.1 _ rfl rfl) rfl ?_
          exact ⟨⟨fun h => absurd h.2.1 HN.out, fun _ => ⟨_, _, _, _, _, _, _, rfl⟩⟩, HE.out.2.2 w (Gr.setCell HGF.out (Nat.le_of_lt HLT.out.1) _) (Nat.le_refl _)⟩
      · have hb7 : w4.heap[wz.heap.size]? = some (.cells #[.bool false, .slice none 0 0, .slice none 0 0] 29 (0, 0)) := hg4'.heap (heap_alloc_new wz _)
        have q0 := heap_cell hb7 0
        have q1 := heap_cell hb7 1
        have q2 := heap_cell hb7 2
        have p2 := heap_frz hb7 2
        have HW := Lib.hid (three_set w4 wz.heap.size (.bool neg) (.slice va vl vc) (.slice r4a (Dg.digs 1).length r4c) _ _ _ q0 q1 q2 (fun n h => by cases h) (fun n h => by cases h) (fun n h => by cases h))
        have HG5 := Lib.hid (HW.out.2.2 wz hg4 (Nat.le_refl _))
        have m0 := HW.out.1 0 _ rfl
        have m1 := HW.out.1 1 _ rfl
        have m2 := HW.out.1 2 _ rfl
        have HRA := Lib.hid (show RN _ _ _ from HW.out.2.1 _ _ (HV.out.gr (HGZ.out.tr hg4)))
        have HR1 := Lib.hid (show RN _ _ _ from HW.out.2.1 _ _ HR4.out)
        have n2 : ((((w4.setCell ⟨wz.heap.size, 0, none⟩ (.bool neg)).setCell ⟨wz.heap.size, 1, none⟩ (.slice va vl vc)).setCell ⟨wz.heap.size, 2, none⟩ (.slice r4a (Dg.digs 1).length r4c))).frozen? ⟨wz.heap.size, 2, none⟩ = false := by rw [World.frozen?_setCell, World.frozen?_setCell, World.frozen?_setCell]; exact p2
        have hlt : wz.heap.size < ((((w4.setCell ⟨wz.heap.size, 0, none⟩ (.bool neg)).setCell ⟨wz.heap.size, 1, none⟩ (.slice va vl vc)).setCell ⟨wz.heap.size, 2, none⟩ (.slice r4a (Dg.digs 1).length r4c))).heap.size := by rw [World.size_setCell, World.size_setCell, World.size_setCell]; exact heap_lt hb7
        have HLT : Hid (w.heap.size < wz.heap.size ∧ ¬ (w.heap.size = wz.heap.size)) := Lib.hid (by have a1 := HG2.out.size; have a2 := HGZ.out.size; have a3 := heap_lt HBK.out; omega)
        generalize (((w4.setCell ⟨wz.heap.size, 0, none⟩ (.bool neg)).setCell ⟨wz.heap.size, 1, none⟩ (.slice va vl vc)).setCell ⟨wz.heap.size, 2, none⟩ (.slice r4a (Dg.digs 1).length r4c)) = w5 at *
        clear q0 q1 q2 p2 hb7
        clear hgd hg4'
        go_wp2_with fail
        refine (HGN.out _).mono ?_
        rintro ev w6 ⟨⟨hs1, hs2⟩, hg6⟩
        have HG6 := Lib.hid (HG5.out.tr hg6)
        have l0 := (Below.cell hg6 (p := ⟨wz.heap.size, 0, none⟩) hlt).trans m0
        have l1 := (Below.cell hg6 (p := ⟨wz.heap.size, 1, none⟩) hlt).trans m1
        have l2 := (Below.cell hg6 (p := ⟨wz.heap.size, 2, none⟩) hlt).trans m2
        have n3 := (Below.frozen hg6 (p := ⟨wz.heap.size, 2, none⟩) hlt).trans n2
        have hbq := ((HG2.out.tr HGZ.out).tr HG6.out).heap HBK.out
        have y0 := heap_cell hbq 0
        have y1 := heap_cell hbq 1
        have y2 := heap_cell hbq 2
        have g0 := heap_frz hbq 0
        have g1 := heap_frz hbq 1
        have g2 := heap_frz hbq 2
        have hne : ¬ (w.heap.size = wz.heap.size) := HLT.out.2
        have hne2 : ¬ (wz.heap.size = w.heap.size) := fun e => HLT.out.2 e.symm
        have HGF := Lib.hid (HG0.out.tr ((HG2.out.tr HGZ.out).tr HG6.out))
        have H6S : Hid (wz.heap.size < w6.heap.size) := Lib.hid (Nat.lt_of_lt_of_le hlt hg6.size)
        clear hbq m0 m1 m2 n2 hlt
        by_cases hn : NumT u
        · obtain ⟨r6, rfl, hr6⟩ := hs1 hn
          have HN := Lib.hid hn
          by_cases hD : dv u.data.toList = 0
          · obtain ⟨r6a, r6c, rfl⟩ := rn_len hr6
            have hl0 : (Dg.digs (dv u.data.toList)).length = 0 := by rw [hD, Dg.digs_zero]; rfl
            rw [hl0]
            have HQ := Lib.hid (show ¬ QT s t2 u neg from fun h => h.2.2.1 hD)
            clear hs1 hs2 hn hg6 hl0 hD hr6
            have Y0 := (World.cell?_setCell_other w6 ⟨wz.heap.size, 2, none⟩ ⟨w.heap.size, 0, none⟩ (.slice r6a 0 r6c) (by simp [hne, hne2])).trans y0
            have Y1 := (World.cell?_setCell_other w6 ⟨wz.heap.size, 2, none⟩ ⟨w.heap.size, 1, none⟩ (.slice r6a 0 r6c) (by simp [hne, hne2])).trans y1
            have Y2 := (World.cell?_setCell_other w6 ⟨wz.heap.size, 2, none⟩ ⟨w.heap.size, 2, none⟩ (.slice r6a 0 r6c) (by simp [hne, hne2])).trans y2
            have HE := Lib.hid (three_set (w6.setCell ⟨wz.heap.size, 2, none⟩ (.slice r6a 0 r6c)) w.heap.size (.bool false) (.slice none 0 0) (.slice none 0 0) _ _ _ Y0 Y1 Y2 (fun n h => by cases h) (fun n h => by cases h) (fun n h => by cases h))
            clear Y0 Y1 Y2
            go_wp2
            (try simp only [Exit.inBlock, Exit.then])
            refine bodyPost_ret (ret_getq _ _ _ _ HE.out.1 _ rfl rfl) rfl ?_
            exact ⟨⟨fun h => absurd h HQ.out, fun _ => ⟨_, _, _, _, _, _, _, rfl⟩⟩, HE.out.2.2 w (Gr.setCell HGF.out (Nat.le_of_lt HLT.out.1) _) (Nat.le_refl _)⟩
          · obtain ⟨r6a, r6c, rfl⟩ := rn_len hr6
            have hl0 : decide (0 < (Dg.digs (dv u.data.toList)).length) = true := decide_eq_true (digs_len_pos _ (by omega))
            have HR6 := Lib.hid hr6
            generalize (Dg.digs (dv u.data.toList)).length = L6 at *
            have hDt := dv_D28 t2 HI.out.1.2.2.2 (by have := HZ.out; omega)
            have hDu := dv_D28 u hn.2.2.2 (by have := HZ.out; omega)
            have HRA6 := Lib.hid (HRA.out.gr hg6)
            have HQD := Lib.hid (show QT s t2 u neg ↔ ratText (sgn neg (dv t2.data.toList / Nat.gcd (dv t2.data.toList) (dv u.data.toList))) (dv u.data.toList / Nat.gcd (dv t2.data.toList) (dv u.data.toList)) = s.data.toList from ⟨fun h => h.2.2.2, fun h => ⟨HI.out, hn, hD, h⟩⟩)
            have hsg : (neg && decide (0 < dv t2.data.toList / Nat.gcd (dv t2.data.toList) (dv u.data.toList))) = neg := by
              cases neg
              · rfl
              · have ha := HI.out.2 rfl
                rw [decide_eq_true (Nat.div_pos (Nat.gcd_le_left _ (by omega)) (Nat.gcd_pos_of_pos_right _ (by omega)))]; rfl
            have hr6u := hr6
            generalize dv u.data.toList = D at *
            generalize dv t2.data.toList = A at *
            obtain ⟨T, hT⟩ : ∃ T : ByteArray, T = ⟨(ratText (sgn neg (A / Nat.gcd A D)) (D / Nat.gcd A D)).toArray⟩ := ⟨_, rfl⟩
            have hTl : T.data.toList = ratText (sgn neg (A / Nat.gcd A D)) (D / Nat.gcd A D) := by rw [hT]
            have HQX := Lib.hid (rQText_calls neg (.slice va vl vc) (.slice r6a L6 r6c) A D (w6.setCell ⟨wz.heap.size, 2, none⟩ (.slice r6a L6 r6c)) (show RN _ _ _ from lim_setw HRA6.out _ _ _ l2 (fun n h => by cases h)) (show RN _ _ _ from lim_setw HR6.out _ _ _ l2 (fun n h => by cases h)) (by omega) 28 hDt hDu (by decide) (by decide) T (by rw [hsg]; exact hT))
            have x0 := (World.cell?_setCell_other w6 ⟨wz.heap.size, 2, none⟩ ⟨wz.heap.size, 0, none⟩ (.slice r6a L6 r6c) (by simp)).trans l0
            have x1 := (World.cell?_setCell_other w6 ⟨wz.heap.size, 2, none⟩ ⟨wz.heap.size, 1, none⟩ (.slice r6a L6 r6c) (by simp)).trans l1
            have x2 := World.cell?_setCell_same w6 ⟨wz.heap.size, 2, none⟩ (.slice r6a L6 r6c) (show _ = some _ from l2)
            have Y0 := (World.cell?_setCell_other w6 ⟨wz.heap.size, 2, none⟩ ⟨w.heap.size, 0, none⟩ (.slice r6a L6 r6c) (by simp [hne, hne2])).trans y0
            have Y1 := (World.cell?_setCell_other w6 ⟨wz.heap.size, 2, none⟩ ⟨w.heap.size, 1, none⟩ (.slice r6a L6 r6c) (by simp [hne, hne2])).trans y1
            have Y2 := (World.cell?_setCell_other w6 ⟨wz.heap.size, 2, none⟩ ⟨w.heap.size, 2, none⟩ (.slice r6a L6 r6c) (by simp [hne, hne2])).trans y2
            have HLW : Hid (w.heap.size < (w6.setCell ⟨wz.heap.size, 2, none⟩ (.slice r6a L6 r6c)).heap.size ∧ wz.heap.size < (w6.setCell ⟨wz.heap.size, 2, none⟩ (.slice r6a L6 r6c)).heap.size) := Lib.hid (by rw [World.size_setCell]; have a1 := HLT.out.1; have a2 := H6S.out; omega)
            have HFR : Hid (∀ i, i < 3 → (w6.setCell ⟨wz.heap.size, 2, none⟩ (.slice r6a L6 r6c)).frozen? ⟨w.heap.size, i, none⟩ = false) := Lib.hid (fun i hi => by
              rw [World.frozen?_setCell]
              rcases i with _ | _ | _ | i
              · exact g0
              · exact g1
              · exact g2
              · omega)
            have HXY := Lib.hid (And.intro (And.intro x0 (And.intro x1 x2)) (And.intro Y0 (And.intro Y1 Y2)))
            have HGW := Lib.hid (Gr.setCell (a := ⟨wz.heap.size, 2, none⟩) HGF.out (Nat.le_of_lt HLT.out.1) (.slice r6a L6 r6c))
            have HDX := Lib.hid hD
            have HTL := Lib.hid hTl
            clear Y0 Y1 Y2 hs1 hs2 hn hg6 hD hr6 hr6u hTl hT hsg hDt hDu
            go_wp2_with fail
            refine HQX.out.mono ?_
            rintro ev w8 ⟨rfl, hg8⟩
            have HG8 := Lib.hid (HGW.out.tr hg8)
            have Z0 := (Below.cell hg8 (p := ⟨w.heap.size, 0, none⟩) HLW.out.1).trans HXY.out.2.1
            have Z1 := (Below.cell hg8 (p := ⟨w.heap.size, 1, none⟩) HLW.out.1).trans HXY.out.2.2.1
            have Z2 := (Below.cell hg8 (p := ⟨w.heap.size, 2, none⟩) HLW.out.1).trans HXY.out.2.2.2
            have u0 := (Below.frozen hg8 (p := ⟨w.heap.size, 0, none⟩) HLW.out.1).trans (HFR.out 0 (by decide))
            have u1 := (Below.frozen hg8 (p := ⟨w.heap.size, 1, none⟩) HLW.out.1).trans (HFR.out 1 (by decide))
            have u2 := (Below.frozen hg8 (p := ⟨w.heap.size, 2, none⟩) HLW.out.1).trans (HFR.out 2 (by decide))
            have X0 := (Below.cell hg8 (p := ⟨wz.heap.size, 0, none⟩) HLW.out.2).trans HXY.out.1.1
            have X1 := (Below.cell hg8 (p := ⟨wz.heap.size, 1, none⟩) HLW.out.2).trans HXY.out.1.2.1
            have X2 := (Below.cell hg8 (p := ⟨wz.heap.size, 2, none⟩) HLW.out.2).trans HXY.out.1.2.2
            have Z0 : w8.cell? ⟨w.heap.size, 0, none⟩ = some (.bool false) := Z0
            have Z1 : w8.cell? ⟨w.heap.size, 1, none⟩ = some (.slice none 0 0) := Z1
            have Z2 : w8.cell? ⟨w.heap.size, 2, none⟩ = some (.slice none 0 0) := Z2
            clear hg8 l0 l1 l2 y0 y1 y2 g0 g1 g2 n3 x0 x1 x2
            by_cases hTs : T = s
            · have HQ := Lib.hid (show QT s t2 u neg from HQD.out.2 (by rw [← HTL.out, hTs]))
              subst hTs
              have HE := Lib.hid (three_set w8 w.heap.size (.bool neg) (.slice va vl vc) (.slice r6a L6 r6c) _ _ _ Z0 Z1 Z2 (fun n h => by cases h) (fun n h => by cases h) (fun n h => by cases h))
              clear Z0 Z1 Z2
              go_wp2
              (try simp only [Exit.inBlock, Exit.then])
              refine bodyPost_ret (ret_getq _ _ _ _ HE.out.1 _ rfl rfl) rfl ?_
              exact ⟨⟨fun _ => ⟨_, _, _, _, _, _, _, rfl⟩, fun h => absurd HQ.out h⟩, HE.out.2.2 w HG8.out (Nat.le_refl _)⟩
            · have e1 := str_ne hTs
              have HQ := Lib.hid (show ¬ QT s t2 u neg from fun h => hTs (ba_ext (by rw [HTL.out]; exact HQD.out.1 h)))
              clear hTs
              have HE := Lib.hid (three_set w8 w.heap.size (.bool false) (.slice none 0 0) (.slice none 0 0) _ _ _ Z0 Z1 Z2 (fun n h => by cases h) (fun n h => by cases h) (fun n h => by cases h))
              clear Z0 Z1 Z2
              go_wp2
              (try simp only [Exit.inBlock, Exit.then])
              refine bodyPost_ret (ret_getq _ _ _ _ HE.out.1 _ rfl rfl) rfl ?_
              exact ⟨⟨fun h => absurd h HQ.out, fun _ => ⟨_, _, _, _, _, _, _, rfl⟩⟩, HE.out.2.2 w HG8.out (Nat.le_refl _)⟩
        · have HN := Lib.hid hn
          obtain rfl := hs2 hn
          clear hs1 hs2 hn hg6
          have Y0 := (World.cell?_setCell_other w6 ⟨wz.heap.size, 2, none⟩ ⟨w.heap.size, 0, none⟩ (.slice none 0 0) (by simp [hne, hne2])).trans y0
          have Y1 := (World.cell?_setCell_other w6 ⟨wz.heap.size, 2, none⟩ ⟨w.heap.size, 1, none⟩ (.slice none 0 0) (by simp [hne, hne2])).trans y1
          have Y2 := (World.cell?_setCell_other w6 ⟨wz.heap.size, 2, none⟩ ⟨w.heap.size, 2, none⟩ (.slice none 0 0) (by simp [hne, hne2])).trans y2
          have HE := Lib.hid (three_set (w6.setCell ⟨wz.heap.size, 2, none⟩ (.slice none 0 0)) w.heap.size (.bool false) (.slice none 0 0) (.slice none 0 0) _ _ _ Y0 Y1 Y2 (fun n h => by cases h) (fun n h => by cases h) (fun n h => by cases h))
          clear Y0 Y1 Y2
          go_wp2
          (try simp only [Exit.inBlock, Exit.then])
          refine bodyPost_ret (ret_getq _ _ _ _ HE.out.1 _ rfl rfl) rfl ?_
          exact ⟨⟨fun h => absurd h.2.1 HN.out, fun _ => ⟨_, _, _, _, _, _, _, rfl⟩⟩, HE.out.2.2 w (Gr.setCell HGF.out (Nat.le_of_lt HLT.out.1) _) (Nat.le_refl _)⟩
set_option maxRecDepth 100000 in
set_option maxHeartbeats 8000000 in
theorem rgetQ_s0 (s t t2 u : ByteArray) (neg : Bool) (hs : s.size ≤ 240) (hp : Parts t t2 neg) (z1 : t.size ≤ s.size) (z2 : u.size ≤ s.size + 1) (I : Nat) (hI : I ≤ s.size) (hex : s.extract 0 I = t) (hno : ∀ j (hj : j < s.size), j < I → (s[j]'hj).toNat ≠ 47) (hjs : I < s.size) (h47 : (s[I]'hjs).toNat = 47) (hu : s.extract (I + 1) s.size = u) (hi : ¬ IntT t2 neg) (w : World) :
    Calls Tryz.prog 40 #[.string s] w fun e w' => ((QT s t2 u neg → ∃ b p1 l1 c1 p2 l2 c2, e = .returned (.tuple #[.agg #[.bool b, .slice p1 l1 c1, .slice p2 l2 c2], .bool true])) ∧ (¬ QT s t2 u neg → ∃ b p1 l1 c1 p2 l2 c2, e = .returned (.tuple #[.agg #[.bool b, .slice p1 l1 c1, .slice p2 l2 c2], .bool false]))) ∧ Gr w w' := by
  have z3 := size_parts hp
  have HGI := Lib.hid (fun w => rgetI_calls t t2 neg w (by omega) hp)
  have HGN := Lib.hid (fun w => rgetN_calls u w)
  have HNO := Lib.hid hno
  have HEX := Lib.hid hex
  have H47 := Lib.hid h47
  have HZ := Lib.hid (And.intro hs (And.intro z1 (And.intro z2 z3)))
  have HI := Lib.hid hi
  clear hp z1 z2 z3 hno hex hi
  have hbk := heap_alloc_new w (.cells #[.bool false, .slice none 0 0, .slice none 0 0] 29)
  have HBK := Lib.hid hbk
  have HG0 : Hid (Gr w (w.alloc (.cells #[.bool false, .slice none 0 0, .slice none 0 0] 29))) := Lib.hid ((Gr.rf w).alloc (Nat.le_refl _) _)
  clear hbk
  go_enter Tryz.func40, Tryz.ntmps40
  go_wp2_with fail
  generalize w.alloc (.cells #[.bool false, .slice none 0 0, .slice none 0 0] 29) = w0 at *
  go_loopg [4] (I + 1) (fun g k wr => ∃ j : Nat, g = I + 1 - j ∧ j ≤ I ∧ k = .int .i64 (j : Int) ∧ w0 = wr)
  case atStart => exact ⟨0, rfl, Nat.zero_le _, rfl, rfl⟩
  case round =>
    obtain ⟨j, hg, hji, rfl, rfl⟩ := hrel
    have HGG := Lib.hid hg
    clear hg
    by_cases hlt : j < I
    · have hjs : j < s.size := by omega
      have b1 : decide ((j : Int) < (s.size : Int)) = true := decide_eq_true (by omega)
      have b1n : decide (j < s.size) = true := decide_eq_true hjs
      have hx := HNO.out j hjs hlt
      have b2 : (((s[j]'hjs).toNat : Int) == 47) = false := beq_eq_false_iff_ne.2 (by omega)
      have b2n : ((s[j]'hjs).toNat == 47) = false := beq_eq_false_iff_ne.2 hx
      clear hx
      go_wp2
      go_roundg (I + 1 - (j + 1))
      case measure => have := HGG.out; omega
      case rel => exact ⟨j + 1, rfl, by omega, by first | rfl | go_num, rfl⟩
    · have hjI : j = I := by omega
      subst hjI
      clear hlt hji
      have hex := HEX.out
      have hj0 : (j : Int) ≤ (s.size : Int) := by omega
      have HOU : Hid (∀ w', Calls Tryz.prog 27 #[.int .u64 1] w' fun e w2 => (∃ r, e = .returned r ∧ RN w2 r 1) ∧ Gr w' w2) := Lib.hid (fun w' => r_ofU 1 (by decide) w')
      have h47 := H47.out
      have b1 : decide ((j : Int) < (s.size : Int)) = true := decide_eq_true (by omega)
      have b1n : decide (j < s.size) = true := decide_eq_true hjs
      have b2 : (((s[j]'hjs).toNat : Int) == 47) = true := beq_iff_eq.2 (by omega)
      have b2n : ((s[j]'hjs).toNat == 47) = true := beq_iff_eq.2 h47
      have hw1 : IntKind.i64.wrap ((j : Int) + 1) = (j : Int) + 1 := by rw [IntKind.wrap_i64]; have := HZ.out.1; omega
      have hw2 : (j : Int) + 1 ≤ (s.size : Int) := by omega
      have hw3 : ((j : Int) + 1).toNat = j + 1 := by omega
      clear h47
      go_wp2_with fail
      refine (HGI.out _).mono ?_
      rintro ev w2 ⟨⟨hr1, hr2⟩, hg2⟩
      have HG2 := Lib.hid hg2
      obtain rfl := hr2 HI.out
      clear hr1 hr2 hg2
      go_wp2_with fail
      have hbz := heap_alloc_new w2 (.cells #[.bool false, .slice none 0 0] 27)
      have hgz0 : Gr w2 (w2.alloc (.cells #[.bool false, .slice none 0 0] 27)) := (Gr.rf w2).alloc (Nat.le_refl _) _
      generalize w2.alloc (.cells #[.bool false, .slice none 0 0] 27) = wz at *
      have HGZ := Lib.hid hgz0
      have HTX : Hid (∀ w', Gr wz w' → (Gr wz w' ∧ w'.cell? ⟨w2.heap.size, 0, none⟩ = some (.bool false) ∧ w'.cell? ⟨w2.heap.size, 1, none⟩ = some (.slice none 0 0))) := Lib.hid (fun w' hg => ⟨hg, heap_cell (hg.heap hbz) 0, heap_cell (hg.heap hbz) 1⟩)
      have hgd : Gr wz wz.drew := Gr.drew (Gr.rf wz) 1
      clear hbz hgz0
      go_region_held3 (fun w' => Gr wz w' ∧ w'.cell? ⟨w2.heap.size, 0, none⟩ = some (.bool false) ∧ w'.cell? ⟨w2.heap.size, 1, none⟩ = some (.slice none 0 0))
        (first | exact HTX.out _ hgd | exact HTX.out _ hg4 | exact HTX.out _ (Gr.drew ((Gr.rf wz).alloc (Nat.le_refl _) _) 1) | exact HTX.out _ (Gr.tr hg4 ((Gr.rf _).alloc (Nat.le_refl _) _)) | exact HTX.out _ (Gr.setCell (Gr.setCell (Gr.setCell hg4 (Nat.le_refl _) _) (Nat.le_refl _) _) (Nat.le_refl _) _) | fail)
        (first | (go_at_call 27; go_split_ands; refine (HOU.out _).mono ?_; rintro ev w4 ⟨⟨r4, rfl, hr4⟩, hg4'⟩; have hg4 : Gr wz w4 := Gr.tr (by assumption) hg4'; have HR4 := Lib.hid hr4; (try (have hb7 := hg4'.heap (show (wz.alloc (.cells #[.bool false, .slice none 0 0, .slice none 0 0] 29)).drew.heap[wz.heap.size]? = _ from heap_alloc_new wz _); have q0 := heap_cell hb7 0; have q1 := heap_cell hb7 1; have q2 := heap_cell hb7 2; have p0 := heap_frz hb7 0; have p1 := heap_frz hb7 1; have p2 := heap_frz hb7 2)); obtain ⟨r4a, r4c, hr4e⟩ := rn_len hr4; subst hr4e; clear hr4))
      all_goals clear HTX HOU
      · have hb7 := heap_alloc_new w4 (.cells #[.bool false, .slice none 0 0, .slice r4a (Dg.digs 1).length r4c] 29)
        have hga : Gr w4 (w4.alloc (.cells #[.bool false, .slice none 0 0, .slice r4a (Dg.digs 1).length r4c] 29)) := (Gr.rf w4).alloc (Nat.le_refl _) _
        have HG5 := Lib.hid (hg4.tr hga)
        have m0 := heap_cell hb7 0
        have m1 := heap_cell hb7 1
        have m2 := heap_cell hb7 2
        have n2 := heap_frz hb7 2
        have hlt := heap_lt hb7
        have HLT : Hid (w.heap.size < w4.heap.size ∧ ¬ (w.heap.size = w4.heap.size)) := Lib.hid (by have a1 := HG2.out.size; have a2 := HGZ.out.size; have a3 := heap_lt HBK.out; have a4 := hg4.size; omega)
        generalize w4.alloc (.cells #[.bool false, .slice none 0 0, .slice r4a (Dg.digs 1).length r4c] 29) = w5 at *
        clear hb7 hga
        clear hgd hg4'
        have hbq := ((HG2.out.tr HGZ.out).tr HG5.out).heap HBK.out
        have y0 := heap_cell hbq 0
        have y1 := heap_cell hbq 1
        have y2 := heap_cell hbq 2
        have g0 := heap_frz hbq 0
        have g1 := heap_frz hbq 1
        have g2 := heap_frz hbq 2
        have HGF := Lib.hid (HG0.out.tr ((HG2.out.tr HGZ.out).tr HG5.out))
        have HE := Lib.hid (three_set w5 w.heap.size (.bool false) (.slice none 0 0) (.slice none 0 0) _ _ _ y0 y1 y2 (fun n h => by cases h) (fun n h => by cases h) (fun n h => by cases h))
        clear hbq m0 m1 m2 n2 hlt
        go_wp2
        (try simp only [Exit.inBlock, Exit.then])
        refine bodyPost_ret (ret_getq _ _ _ _ HE.out.1 _ rfl rfl) rfl ?_
        exact ⟨⟨fun h => absurd h.1 HI.out, fun _ => ⟨_, _, _, _, _, _, _, rfl⟩⟩, HE.out.2.2 w HGF.out (Nat.le_refl _)⟩
      · have hb7 : w4.heap[wz.heap.size]? = some (.cells #[.bool false, .slice none 0 0, .slice none 0 0] 29 (0, 0)) := hg4'.heap (heap_alloc_new wz _)
        have q0 := heap_cell hb7 0
        have q1 := heap_cell hb7 1
        have q2 := heap_cell hb7 2
        have p2 := heap_frz hb7 2
        have HW := Lib.hid (three_set w4 wz.heap.size (.bool false) (.slice none 0 0) (.slice r4a (Dg.digs 1).length r4c) _ _ _ q0 q1 q2 (fun n h => by cases h) (fun n h => by cases h) (fun n h => by cases h))
        have HG5 := Lib.hid (HW.out.2.2 wz hg4 (Nat.le_refl _))
        have m0 := HW.out.1 0 _ rfl
        have m1 := HW.out.1 1 _ rfl
        have m2 := HW.out.1 2 _ rfl
        have n2 : ((((w4.setCell ⟨wz.heap.size, 0, none⟩ (.bool false)).setCell ⟨wz.heap.size, 1, none⟩ (.slice none 0 0)).setCell ⟨wz.heap.size, 2, none⟩ (.slice r4a (Dg.digs 1).length r4c))).frozen? ⟨wz.heap.size, 2, none⟩ = false := by rw [World.frozen?_setCell, World.frozen?_setCell, World.frozen?_setCell]; exact p2
        have hlt : wz.heap.size < ((((w4.setCell ⟨wz.heap.size, 0, none⟩ (.bool false)).setCell ⟨wz.heap.size, 1, none⟩ (.slice none 0 0)).setCell ⟨wz.heap.size, 2, none⟩ (.slice r4a (Dg.digs 1).length r4c))).heap.size := by rw [World.size_setCell, World.size_setCell, World.size_setCell]; exact heap_lt hb7
        have HLT : Hid (w.heap.size < wz.heap.size ∧ ¬ (w.heap.size = wz.heap.size)) := Lib.hid (by have a1 := HG2.out.size; have a2 := HGZ.out.size; have a3 := heap_lt HBK.out; omega)
        generalize (((w4.setCell ⟨wz.heap.size, 0, none⟩ (.bool false)).setCell ⟨wz.heap.size, 1, none⟩ (.slice none 0 0)).setCell ⟨wz.heap.size, 2, none⟩ (.slice r4a (Dg.digs 1).length r4c)) = w5 at *
        clear q0 q1 q2 p2 hb7
        clear hgd hg4'
        have hbq := ((HG2.out.tr HGZ.out).tr HG5.out).heap HBK.out
        have y0 := heap_cell hbq 0
        have y1 := heap_cell hbq 1
        have y2 := heap_cell hbq 2
        have g0 := heap_frz hbq 0
        have g1 := heap_frz hbq 1
        have g2 := heap_frz hbq 2
        have HGF := Lib.hid (HG0.out.tr ((HG2.out.tr HGZ.out).tr HG5.out))
        have HE := Lib.hid (three_set w5 w.heap.size (.bool false) (.slice none 0 0) (.slice none 0 0) _ _ _ y0 y1 y2 (fun n h => by cases h) (fun n h => by cases h) (fun n h => by cases h))
        clear hbq m0 m1 m2 n2 hlt
        go_wp2
        (try simp only [Exit.inBlock, Exit.then])
        refine bodyPost_ret (ret_getq _ _ _ _ HE.out.1 _ rfl rfl) rfl ?_
        exact ⟨⟨fun h => absurd h.1 HI.out, fun _ => ⟨_, _, _, _, _, _, _, rfl⟩⟩, HE.out.2.2 w HGF.out (Nat.le_refl _)⟩
set_option maxRecDepth 100000 in
set_option maxHeartbeats 8000000 in
theorem rgetQ_n1 (s t t2 u : ByteArray) (neg : Bool) (hs : s.size ≤ 240) (hp : Parts t t2 neg) (z1 : t.size ≤ s.size) (z2 : u.size ≤ s.size + 1) (I : Nat) (hI : I ≤ s.size) (hex : s.extract 0 I = t) (hno : ∀ j (hj : j < s.size), j < I → (s[j]'hj).toNat ≠ 47) (hje : I = s.size) (HN1 : Hid (NumT u ∧ dv u.data.toList = 1)) (hi : IntT t2 neg) (w : World) :
    Calls Tryz.prog 40 #[.string s] w fun e w' => ((QT s t2 u neg → ∃ b p1 l1 c1 p2 l2 c2, e = .returned (.tuple #[.agg #[.bool b, .slice p1 l1 c1, .slice p2 l2 c2], .bool true])) ∧ (¬ QT s t2 u neg → ∃ b p1 l1 c1 p2 l2 c2, e = .returned (.tuple #[.agg #[.bool b, .slice p1 l1 c1, .slice p2 l2 c2], .bool false]))) ∧ Gr w w' := by
  have z3 := size_parts hp
  have HGI := Lib.hid (fun w => rgetI_calls t t2 neg w (by omega) hp)
  have HGN := Lib.hid (fun w => rgetN_calls u w)
  have HNO := Lib.hid hno
  have HEX := Lib.hid hex
  have HZ := Lib.hid (And.intro hs (And.intro z1 (And.intro z2 z3)))
  have HI := Lib.hid hi
  clear hp z1 z2 z3 hno hex hi
  have hbk := heap_alloc_new w (.cells #[.bool false, .slice none 0 0, .slice none 0 0] 29)
  have HBK := Lib.hid hbk
  have HG0 : Hid (Gr w (w.alloc (.cells #[.bool false, .slice none 0 0, .slice none 0 0] 29))) := Lib.hid ((Gr.rf w).alloc (Nat.le_refl _) _)
  clear hbk
  go_enter Tryz.func40, Tryz.ntmps40
  go_wp2_with fail
  generalize w.alloc (.cells #[.bool false, .slice none 0 0, .slice none 0 0] 29) = w0 at *
  go_loopg [4] (I + 1) (fun g k wr => ∃ j : Nat, g = I + 1 - j ∧ j ≤ I ∧ k = .int .i64 (j : Int) ∧ w0 = wr)
  case atStart => exact ⟨0, rfl, Nat.zero_le _, rfl, rfl⟩
  case round =>
    obtain ⟨j, hg, hji, rfl, rfl⟩ := hrel
    have HGG := Lib.hid hg
    clear hg
    by_cases hlt : j < I
    · have hjs : j < s.size := by omega
      have b1 : decide ((j : Int) < (s.size : Int)) = true := decide_eq_true (by omega)
      have b1n : decide (j < s.size) = true := decide_eq_true hjs
      have hx := HNO.out j hjs hlt
      have b2 : (((s[j]'hjs).toNat : Int) == 47) = false := beq_eq_false_iff_ne.2 (by omega)
      have b2n : ((s[j]'hjs).toNat == 47) = false := beq_eq_false_iff_ne.2 hx
      clear hx
      go_wp2
      go_roundg (I + 1 - (j + 1))
      case measure => have := HGG.out; omega
      case rel => exact ⟨j + 1, rfl, by omega, by first | rfl | go_num, rfl⟩
    · have hjI : j = I := by omega
      subst hjI
      clear hlt hji
      have hex := HEX.out
      have hj0 : (j : Int) ≤ (s.size : Int) := by omega
      have HOU : Hid (∀ w', Calls Tryz.prog 27 #[.int .u64 1] w' fun e w2 => (∃ r, e = .returned r ∧ RN w2 r 1) ∧ Gr w' w2) := Lib.hid (fun w' => r_ofU 1 (by decide) w')
      have b1 : decide ((j : Int) < (s.size : Int)) = false := decide_eq_false (by omega)
      have b1n : decide (j < s.size) = false := decide_eq_false (by omega)
      clear hje
      go_wp2_with fail
      refine (HGI.out _).mono ?_
      rintro ev w2 ⟨⟨hr1, hr2⟩, hg2⟩
      have HG2 := Lib.hid hg2
      obtain ⟨v, rfl, hv⟩ := hr1 HI.out
      obtain ⟨va, vl, vc, rfl⟩ : ∃ x l c, v = .slice x l c := by
        obtain ⟨x, c, h⟩ := rn_len hv
        exact ⟨x, _, c, h⟩
      have HV := Lib.hid hv
      clear hr1 hr2 hg2 hv
      go_wp2_with fail
      have hbz := heap_alloc_new w2 (.cells #[.bool neg, .slice va vl vc] 27)
      have hgz0 : Gr w2 (w2.alloc (.cells #[.bool neg, .slice va vl vc] 27)) := (Gr.rf w2).alloc (Nat.le_refl _) _
      generalize w2.alloc (.cells #[.bool neg, .slice va vl vc] 27) = wz at *
      have HGZ := Lib.hid hgz0
      have HTX : Hid (∀ w', Gr wz w' → (Gr wz w' ∧ w'.cell? ⟨w2.heap.size, 0, none⟩ = some (.bool neg) ∧ w'.cell? ⟨w2.heap.size, 1, none⟩ = some (.slice va vl vc))) := Lib.hid (fun w' hg => ⟨hg, heap_cell (hg.heap hbz) 0, heap_cell (hg.heap hbz) 1⟩)
      have hgd : Gr wz wz.drew := Gr.drew (Gr.rf wz) 1
      clear hbz hgz0
      go_region_held3 (fun w' => Gr wz w' ∧ w'.cell? ⟨w2.heap.size, 0, none⟩ = some (.bool neg) ∧ w'.cell? ⟨w2.heap.size, 1, none⟩ = some (.slice va vl vc))
        (first | exact HTX.out _ hgd | exact HTX.out _ hg4 | exact HTX.out _ (Gr.drew ((Gr.rf wz).alloc (Nat.le_refl _) _) 1) | exact HTX.out _ (Gr.tr hg4 ((Gr.rf _).alloc (Nat.le_refl _) _)) | exact HTX.out _ (Gr.setCell (Gr.setCell (Gr.setCell hg4 (Nat.le_refl _) _) (Nat.le_refl _) _) (Nat.le_refl _) _) | fail)
        (first | (go_at_call 27; go_split_ands; refine (HOU.out _).mono ?_; rintro ev w4 ⟨⟨r4, rfl, hr4⟩, hg4'⟩; have hg4 : Gr wz w4 := Gr.tr (by assumption) hg4'; have HR4 := Lib.hid hr4; (try (have hb7 := hg4'.heap (show (wz.alloc (.cells #[.bool false, .slice none 0 0, .slice none 0 0] 29)).drew.heap[wz.heap.size]? = _ from heap_alloc_new wz _); have q0 := heap_cell hb7 0; have q1 := heap_cell hb7 1; have q2 := heap_cell hb7 2; have p0 := heap_frz hb7 0; have p1 := heap_frz hb7 1; have p2 := heap_frz hb7 2)); obtain ⟨r4a, r4c, hr4e⟩ := rn_len hr4; subst hr4e; clear hr4))
      all_goals clear HTX HOU
      · have hb7 := heap_alloc_new w4 (.cells #[.bool neg, .slice va vl vc, .slice r4a (Dg.digs 1).length r4c] 29)
        have hga : Gr w4 (w4.alloc (.cells #[.bool neg, .slice va vl vc, .slice r4a (Dg.digs 1).length r4c] 29)) := (Gr.rf w4).alloc (Nat.le_refl _) _
        have HG5 := Lib.hid (hg4.tr hga)
        have HRA := Lib.hid (HV.out.gr (HGZ.out.tr (hg4.tr hga)))
        have HR1 := Lib.hid (HR4.out.gr hga)
        have m0 := heap_cell hb7 0
        have m1 := heap_cell hb7 1
        have m2 := heap_cell hb7 2
        have n2 := heap_frz hb7 2
        have hlt := heap_lt hb7
        have HLT : Hid (w.heap.size < w4.heap.size ∧ ¬ (w.heap.size = w4.heap.size)) := Lib.hid (by have a1 := HG2.out.size; have a2 := HGZ.out.size; have a3 := heap_lt HBK.out; have a4 := hg4.size; omega)
        generalize w4.alloc (.cells #[.bool neg, .slice va vl vc, .slice r4a (Dg.digs 1).length r4c] 29) = w5 at *
        clear hb7 hga
        clear hgd hg4'
        have hbq := ((HG2.out.tr HGZ.out).tr HG5.out).heap HBK.out
        have y0 := heap_cell hbq 0
        have y1 := heap_cell hbq 1
        have y2 := heap_cell hbq 2
        have g0 := heap_frz hbq 0
        have g1 := heap_frz hbq 1
        have g2 := heap_frz hbq 2
        have hne : ¬ (w.heap.size = w4.heap.size) := HLT.out.2
        have hne2 : ¬ (w4.heap.size = w.heap.size) := fun e => HLT.out.2 e.symm
        have HGF := Lib.hid (HG0.out.tr ((HG2.out.tr HGZ.out).tr HG5.out))
        have hn := HN1.out.1
        have hD : dv u.data.toList ≠ 0 := by rw [HN1.out.2]; decide
        generalize (Dg.digs 1).length = L6 at *
        have hDt := dv_D28 t2 HI.out.1.2.2.2 (by have := HZ.out; omega)
        have HRA6 := HRA
        have HQD := Lib.hid (show QT s t2 u neg ↔ ratText (sgn neg (dv t2.data.toList / Nat.gcd (dv t2.data.toList) (dv u.data.toList))) (dv u.data.toList / Nat.gcd (dv t2.data.toList) (dv u.data.toList)) = s.data.toList from ⟨fun h => h.2.2.2, fun h => ⟨HI.out, hn, hD, h⟩⟩)
        have hsg : (neg && decide (0 < dv t2.data.toList / Nat.gcd (dv t2.data.toList) (dv u.data.toList))) = neg := by
          cases neg
          · rfl
          · have ha := HI.out.2 rfl
            rw [decide_eq_true (Nat.div_pos (Nat.gcd_le_left _ (by omega)) (Nat.gcd_pos_of_pos_right _ (by omega)))]; rfl
        rw [HN1.out.2] at HQD hsg
        generalize dv t2.data.toList = A at *
        obtain ⟨T, hT⟩ : ∃ T : ByteArray, T = ⟨(ratText (sgn neg (A / Nat.gcd A 1)) (1 / Nat.gcd A 1)).toArray⟩ := ⟨_, rfl⟩
        have hTl : T.data.toList = ratText (sgn neg (A / Nat.gcd A 1)) (1 / Nat.gcd A 1) := by rw [hT]
        have HQX := Lib.hid (rQText_calls neg (.slice va vl vc) (.slice r4a L6 r4c) A 1 w5 HRA.out HR1.out (by decide) 28 hDt (b_one (by decide)) (by decide) (by decide) T (by rw [hsg]; exact hT))
        have HLW : Hid (w.heap.size < w5.heap.size ∧ w4.heap.size < w5.heap.size) := Lib.hid ⟨by have a1 := HLT.out.1; omega, hlt⟩
        have HFR : Hid (∀ i, i < 3 → w5.frozen? ⟨w.heap.size, i, none⟩ = false) := Lib.hid (fun i hi => by
          rcases i with _ | _ | _ | i
          · exact g0
          · exact g1
          · exact g2
          · omega)
        have HXY := Lib.hid (And.intro (And.intro m0 (And.intro m1 m2)) (And.intro y0 (And.intro y1 y2)))
        have HGW := HGF
        have HDX := Lib.hid hD
        have HTL := Lib.hid hTl
        clear hn hD hTl hT hsg hDt hlt hbq HN1
        go_wp2_with fail
        refine HQX.out.mono ?_
        rintro ev w8 ⟨rfl, hg8⟩
        have HG8 := Lib.hid (HGW.out.tr hg8)
        have Z0 := (Below.cell hg8 (p := ⟨w.heap.size, 0, none⟩) HLW.out.1).trans HXY.out.2.1
        have Z1 := (Below.cell hg8 (p := ⟨w.heap.size, 1, none⟩) HLW.out.1).trans HXY.out.2.2.1
        have Z2 := (Below.cell hg8 (p := ⟨w.heap.size, 2, none⟩) HLW.out.1).trans HXY.out.2.2.2
        have u0 := (Below.frozen hg8 (p := ⟨w.heap.size, 0, none⟩) HLW.out.1).trans (HFR.out 0 (by decide))
        have u1 := (Below.frozen hg8 (p := ⟨w.heap.size, 1, none⟩) HLW.out.1).trans (HFR.out 1 (by decide))
        have u2 := (Below.frozen hg8 (p := ⟨w.heap.size, 2, none⟩) HLW.out.1).trans (HFR.out 2 (by decide))
        have X0 := (Below.cell hg8 (p := ⟨w4.heap.size, 0, none⟩) HLW.out.2).trans HXY.out.1.1
        have X1 := (Below.cell hg8 (p := ⟨w4.heap.size, 1, none⟩) HLW.out.2).trans HXY.out.1.2.1
        have X2 := (Below.cell hg8 (p := ⟨w4.heap.size, 2, none⟩) HLW.out.2).trans HXY.out.1.2.2
        have Z0 : w8.cell? ⟨w.heap.size, 0, none⟩ = some (.bool false) := Z0
        have Z1 : w8.cell? ⟨w.heap.size, 1, none⟩ = some (.slice none 0 0) := Z1
        have Z2 : w8.cell? ⟨w.heap.size, 2, none⟩ = some (.slice none 0 0) := Z2
        clear hg8 m0 m1 m2 y0 y1 y2 g0 g1 g2 n2
        by_cases hTs : T = s
        · have HQ := Lib.hid (show QT s t2 u neg from HQD.out.2 (by rw [← HTL.out, hTs]))
          subst hTs
          have HE := Lib.hid (three_set w8 w.heap.size (.bool neg) (.slice va vl vc) (.slice r4a L6 r4c) _ _ _ Z0 Z1 Z2 (fun n h => by cases h) (fun n h => by cases h) (fun n h => by cases h))
          clear Z0 Z1 Z2
          go_wp2
          (try simp only [Exit.inBlock, Exit.then])
          refine bodyPost_ret (ret_getq _ _ _ _ HE.out.1 _ rfl rfl) rfl ?_
          exact ⟨⟨fun _ => ⟨_, _, _, _, _, _, _, rfl⟩, fun h => absurd HQ.out h⟩, HE.out.2.2 w HG8.out (Nat.le_refl _)⟩
        · have e1 := str_ne hTs
          have HQ := Lib.hid (show ¬ QT s t2 u neg from fun h => hTs (ba_ext (by rw [HTL.out]; exact HQD.out.1 h)))
          clear hTs
          have HE := Lib.hid (three_set w8 w.heap.size (.bool false) (.slice none 0 0) (.slice none 0 0) _ _ _ Z0 Z1 Z2 (fun n h => by cases h) (fun n h => by cases h) (fun n h => by cases h))
          clear Z0 Z1 Z2
          go_wp2
          (try simp only [Exit.inBlock, Exit.then])
          refine bodyPost_ret (ret_getq _ _ _ _ HE.out.1 _ rfl rfl) rfl ?_
          exact ⟨⟨fun h => absurd h HQ.out, fun _ => ⟨_, _, _, _, _, _, _, rfl⟩⟩, HE.out.2.2 w HG8.out (Nat.le_refl _)⟩
      · have hb7 : w4.heap[wz.heap.size]? = some (.cells #[.bool false, .slice none 0 0, .slice none 0 0] 29 (0, 0)) := hg4'.heap (heap_alloc_new wz _)
        have q0 := heap_cell hb7 0
        have q1 := heap_cell hb7 1
        have q2 := heap_cell hb7 2
        have p2 := heap_frz hb7 2
        have HW := Lib.hid (three_set w4 wz.heap.size (.bool neg) (.slice va vl vc) (.slice r4a (Dg.digs 1).length r4c) _ _ _ q0 q1 q2 (fun n h => by cases h) (fun n h => by cases h) (fun n h => by cases h))
        have HG5 := Lib.hid (HW.out.2.2 wz hg4 (Nat.le_refl _))
        have m0 := HW.out.1 0 _ rfl
        have m1 := HW.out.1 1 _ rfl
        have m2 := HW.out.1 2 _ rfl
        have HRA := Lib.hid (show RN _ _ _ from HW.out.2.1 _ _ (HV.out.gr (HGZ.out.tr hg4)))
        have HR1 := Lib.hid (show RN _ _ _ from HW.out.2.1 _ _ HR4.out)
        have n2 : ((((w4.setCell ⟨wz.heap.size, 0, none⟩ (.bool neg)).setCell ⟨wz.heap.size, 1, none⟩ (.slice va vl vc)).setCell ⟨wz.heap.size, 2, none⟩ (.slice r4a (Dg.digs 1).length r4c))).frozen? ⟨wz.heap.size, 2, none⟩ = false := by rw [World.frozen?_setCell, World.frozen?_setCell, World.frozen?_setCell]; exact p2
        have hlt : wz.heap.size < ((((w4.setCell ⟨wz.heap.size, 0, none⟩ (.bool neg)).setCell ⟨wz.heap.size, 1, none⟩ (.slice va vl vc)).setCell ⟨wz.heap.size, 2, none⟩ (.slice r4a (Dg.digs 1).length r4c))).heap.size := by rw [World.size_setCell, World.size_setCell, World.size_setCell]; exact heap_lt hb7
        have HLT : Hid (w.heap.size < wz.heap.size ∧ ¬ (w.heap.size = wz.heap.size)) := Lib.hid (by have a1 := HG2.out.size; have a2 := HGZ.out.size; have a3 := heap_lt HBK.out; omega)
        generalize (((w4.setCell ⟨wz.heap.size, 0, none⟩ (.bool neg)).setCell ⟨wz.heap.size, 1, none⟩ (.slice va vl vc)).setCell ⟨wz.heap.size, 2, none⟩ (.slice r4a (Dg.digs 1).length r4c)) = w5 at *
        clear q0 q1 q2 p2 hb7
        clear hgd hg4'
        have hbq := ((HG2.out.tr HGZ.out).tr HG5.out).heap HBK.out
        have y0 := heap_cell hbq 0
        have y1 := heap_cell hbq 1
        have y2 := heap_cell hbq 2
        have g0 := heap_frz hbq 0
        have g1 := heap_frz hbq 1
        have g2 := heap_frz hbq 2
        have hne : ¬ (w.heap.size = wz.heap.size) := HLT.out.2
        have hne2 : ¬ (wz.heap.size = w.heap.size) := fun e => HLT.out.2 e.symm
        have HGF := Lib.hid (HG0.out.tr ((HG2.out.tr HGZ.out).tr HG5.out))
        have hn := HN1.out.1
        have hD : dv u.data.toList ≠ 0 := by rw [HN1.out.2]; decide
        generalize (Dg.digs 1).length = L6 at *
        have hDt := dv_D28 t2 HI.out.1.2.2.2 (by have := HZ.out; omega)
        have HRA6 := HRA
        have HQD := Lib.hid (show QT s t2 u neg ↔ ratText (sgn neg (dv t2.data.toList / Nat.gcd (dv t2.data.toList) (dv u.data.toList))) (dv u.data.toList / Nat.gcd (dv t2.data.toList) (dv u.data.toList)) = s.data.toList from ⟨fun h => h.2.2.2, fun h => ⟨HI.out, hn, hD, h⟩⟩)
        have hsg : (neg && decide (0 < dv t2.data.toList / Nat.gcd (dv t2.data.toList) (dv u.data.toList))) = neg := by
          cases neg
          · rfl
          · have ha := HI.out.2 rfl
            rw [decide_eq_true (Nat.div_pos (Nat.gcd_le_left _ (by omega)) (Nat.gcd_pos_of_pos_right _ (by omega)))]; rfl
        rw [HN1.out.2] at HQD hsg
        generalize dv t2.data.toList = A at *
        obtain ⟨T, hT⟩ : ∃ T : ByteArray, T = ⟨(ratText (sgn neg (A / Nat.gcd A 1)) (1 / Nat.gcd A 1)).toArray⟩ := ⟨_, rfl⟩
        have hTl : T.data.toList = ratText (sgn neg (A / Nat.gcd A 1)) (1 / Nat.gcd A 1) := by rw [hT]
        have HQX := Lib.hid (rQText_calls neg (.slice va vl vc) (.slice r4a L6 r4c) A 1 w5 HRA.out HR1.out (by decide) 28 hDt (b_one (by decide)) (by decide) (by decide) T (by rw [hsg]; exact hT))
        have HLW : Hid (w.heap.size < w5.heap.size ∧ wz.heap.size < w5.heap.size) := Lib.hid ⟨by have a1 := HLT.out.1; omega, hlt⟩
        have HFR : Hid (∀ i, i < 3 → w5.frozen? ⟨w.heap.size, i, none⟩ = false) := Lib.hid (fun i hi => by
          rcases i with _ | _ | _ | i
          · exact g0
          · exact g1
          · exact g2
          · omega)
        have HXY := Lib.hid (And.intro (And.intro m0 (And.intro m1 m2)) (And.intro y0 (And.intro y1 y2)))
        have HGW := HGF
        have HDX := Lib.hid hD
        have HTL := Lib.hid hTl
        clear hn hD hTl hT hsg hDt hlt hbq HN1
        go_wp2_with fail
        refine HQX.out.mono ?_
        rintro ev w8 ⟨rfl, hg8⟩
        have HG8 := Lib.hid (HGW.out.tr hg8)
        have Z0 := (Below.cell hg8 (p := ⟨w.heap.size, 0, none⟩) HLW.out.1).trans HXY.out.2.1
        have Z1 := (Below.cell hg8 (p := ⟨w.heap.size, 1, none⟩) HLW.out.1).trans HXY.out.2.2.1
        have Z2 := (Below.cell hg8 (p := ⟨w.heap.size, 2, none⟩) HLW.out.1).trans HXY.out.2.2.2
        have u0 := (Below.frozen hg8 (p := ⟨w.heap.size, 0, none⟩) HLW.out.1).trans (HFR.out 0 (by decide))
        have u1 := (Below.frozen hg8 (p := ⟨w.heap.size, 1, none⟩) HLW.out.1).trans (HFR.out 1 (by decide))
        have u2 := (Below.frozen hg8 (p := ⟨w.heap.size, 2, none⟩) HLW.out.1).trans (HFR.out 2 (by decide))
        have X0 := (Below.cell hg8 (p := ⟨wz.heap.size, 0, none⟩) HLW.out.2).trans HXY.out.1.1
        have X1 := (Below.cell hg8 (p := ⟨wz.heap.size, 1, none⟩) HLW.out.2).trans HXY.out.1.2.1
        have X2 := (Below.cell hg8 (p := ⟨wz.heap.size, 2, none⟩) HLW.out.2).trans HXY.out.1.2.2
        have Z0 : w8.cell? ⟨w.heap.size, 0, none⟩ = some (.bool false) := Z0
        have Z1 : w8.cell? ⟨w.heap.size, 1, none⟩ = some (.slice none 0 0) := Z1
        have Z2 : w8.cell? ⟨w.heap.size, 2, none⟩ = some (.slice none 0 0) := Z2
        clear hg8 m0 m1 m2 y0 y1 y2 g0 g1 g2 n2
        by_cases hTs : T = s
        · have HQ := Lib.hid (show QT s t2 u neg from HQD.out.2 (by rw [← HTL.out, hTs]))
          subst hTs
          have HE := Lib.hid (three_set w8 w.heap.size (.bool neg) (.slice va vl vc) (.slice r4a L6 r4c) _ _ _ Z0 Z1 Z2 (fun n h => by cases h) (fun n h => by cases h) (fun n h => by cases h))
          clear Z0 Z1 Z2
          go_wp2
          (try simp only [Exit.inBlock, Exit.then])
          refine bodyPost_ret (ret_getq _ _ _ _ HE.out.1 _ rfl rfl) rfl ?_
          exact ⟨⟨fun _ => ⟨_, _, _, _, _, _, _, rfl⟩, fun h => absurd HQ.out h⟩, HE.out.2.2 w HG8.out (Nat.le_refl _)⟩
        · have e1 := str_ne hTs
          have HQ := Lib.hid (show ¬ QT s t2 u neg from fun h => hTs (ba_ext (by rw [HTL.out]; exact HQD.out.1 h)))
          clear hTs
          have HE := Lib.hid (three_set w8 w.heap.size (.bool false) (.slice none 0 0) (.slice none 0 0) _ _ _ Z0 Z1 Z2 (fun n h => by cases h) (fun n h => by cases h) (fun n h => by cases h))
          clear Z0 Z1 Z2
          go_wp2
          (try simp only [Exit.inBlock, Exit.then])
          refine bodyPost_ret (ret_getq _ _ _ _ HE.out.1 _ rfl rfl) rfl ?_
          exact ⟨⟨fun h => absurd h HQ.out, fun _ => ⟨_, _, _, _, _, _, _, rfl⟩⟩, HE.out.2.2 w HG8.out (Nat.le_refl _)⟩
set_option maxRecDepth 100000 in
set_option maxHeartbeats 8000000 in
theorem rgetQ_n0 (s t t2 u : ByteArray) (neg : Bool) (hs : s.size ≤ 240) (hp : Parts t t2 neg) (z1 : t.size ≤ s.size) (z2 : u.size ≤ s.size + 1) (I : Nat) (hI : I ≤ s.size) (hex : s.extract 0 I = t) (hno : ∀ j (hj : j < s.size), j < I → (s[j]'hj).toNat ≠ 47) (hje : I = s.size) (HN1 : Hid (NumT u ∧ dv u.data.toList = 1)) (hi : ¬ IntT t2 neg) (w : World) :
    Calls Tryz.prog 40 #[.string s] w fun e w' => ((QT s t2 u neg → ∃ b p1 l1 c1 p2 l2 c2, e = .returned (.tuple #[.agg #[.bool b, .slice p1 l1 c1, .slice p2 l2 c2], .bool true])) ∧ (¬ QT s t2 u neg → ∃ b p1 l1 c1 p2 l2 c2, e = .returned (.tuple #[.agg #[.bool b, .slice p1 l1 c1, .slice p2 l2 c2], .bool false]))) ∧ Gr w w' := by
  have z3 := size_parts hp
  have HGI := Lib.hid (fun w => rgetI_calls t t2 neg w (by omega) hp)
  have HGN := Lib.hid (fun w => rgetN_calls u w)
  have HNO := Lib.hid hno
  have HEX := Lib.hid hex
  have HZ := Lib.hid (And.intro hs (And.intro z1 (And.intro z2 z3)))
  have HI := Lib.hid hi
  clear hp z1 z2 z3 hno hex hi
  have hbk := heap_alloc_new w (.cells #[.bool false, .slice none 0 0, .slice none 0 0] 29)
  have HBK := Lib.hid hbk
  have HG0 : Hid (Gr w (w.alloc (.cells #[.bool false, .slice none 0 0, .slice none 0 0] 29))) := Lib.hid ((Gr.rf w).alloc (Nat.le_refl _) _)
  clear hbk
  go_enter Tryz.func40, Tryz.ntmps40
  go_wp2_with fail
  generalize w.alloc (.cells #[.bool false, .slice none 0 0, .slice none 0 0] 29) = w0 at *
  go_loopg [4] (I + 1) (fun g k wr => ∃ j : Nat, g = I + 1 - j ∧ j ≤ I ∧ k = .int .i64 (j : Int) ∧ w0 = wr)
  case atStart => exact ⟨0, rfl, Nat.zero_le _, rfl, rfl⟩
  case round =>
    obtain ⟨j, hg, hji, rfl, rfl⟩ := hrel
    have HGG := Lib.hid hg
    clear hg
    by_cases hlt : j < I
    · have hjs : j < s.size := by omega
      have b1 : decide ((j : Int) < (s.size : Int)) = true := decide_eq_true (by omega)
      have b1n : decide (j < s.size) = true := decide_eq_true hjs
      have hx := HNO.out j hjs hlt
      have b2 : (((s[j]'hjs).toNat : Int) == 47) = false := beq_eq_false_iff_ne.2 (by omega)
      have b2n : ((s[j]'hjs).toNat == 47) = false := beq_eq_false_iff_ne.2 hx
      clear hx
      go_wp2
      go_roundg (I + 1 - (j + 1))
      case measure => have := HGG.out; omega
      case rel => exact ⟨j + 1, rfl, by omega, by first | rfl | go_num, rfl⟩
    · have hjI : j = I := by omega
      subst hjI
      clear hlt hji
      have hex := HEX.out
      have hj0 : (j : Int) ≤ (s.size : Int) := by omega
      have HOU : Hid (∀ w', Calls Tryz.prog 27 #[.int .u64 1] w' fun e w2 => (∃ r, e = .returned r ∧ RN w2 r 1) ∧ Gr w' w2) := Lib.hid (fun w' => r_ofU 1 (by decide) w')
      have b1 : decide ((j : Int) < (s.size : Int)) = false := decide_eq_false (by omega)
      have b1n : decide (j < s.size) = false := decide_eq_false (by omega)
      clear hje
      go_wp2_with fail
      refine (HGI.out _).mono ?_
      rintro ev w2 ⟨⟨hr1, hr2⟩, hg2⟩
      have HG2 := Lib.hid hg2
      obtain rfl := hr2 HI.out
      clear hr1 hr2 hg2
      go_wp2_with fail
      have hbz := heap_alloc_new w2 (.cells #[.bool false, .slice none 0 0] 27)
      have hgz0 : Gr w2 (w2.alloc (.cells #[.bool false, .slice none 0 0] 27)) := (Gr.rf w2).alloc (Nat.le_refl _) _
      generalize w2.alloc (.cells #[.bool false, .slice none 0 0] 27) = wz at *
      have HGZ := Lib.hid hgz0
      have HTX : Hid (∀ w', Gr wz w' → (Gr wz w' ∧ w'.cell? ⟨w2.heap.size, 0, none⟩ = some (.bool false) ∧ w'.cell? ⟨w2.heap.size, 1, none⟩ = some (.slice none 0 0))) := Lib.hid (fun w' hg => ⟨hg, heap_cell (hg.heap hbz) 0, heap_cell (hg.heap hbz) 1⟩)
      have hgd : Gr wz wz.drew := Gr.drew (Gr.rf wz) 1
      clear hbz hgz0
      go_region_held3 (fun w' => Gr wz w' ∧ w'.cell? ⟨w2.heap.size, 0, none⟩ = some (.bool false) ∧ w'.cell? ⟨w2.heap.size, 1, none⟩ = some (.slice none 0 0))
        (first | exact HTX.out _ hgd | exact HTX.out _ hg4 | exact HTX.out _ (Gr.drew ((Gr.rf wz).alloc (Nat.le_refl _) _) 1) | exact HTX.out _ (Gr.tr hg4 ((Gr.rf _).alloc (Nat.le_refl _) _)) | exact HTX.out _ (Gr.setCell (Gr.setCell (Gr.setCell hg4 (Nat.le_refl _) _) (Nat.le_refl _) _) (Nat.le_refl _) _) | fail)
        (first | (go_at_call 27; go_split_ands; refine (HOU.out _).mono ?_; rintro ev w4 ⟨⟨r4, rfl, hr4⟩, hg4'⟩; have hg4 : Gr wz w4 := Gr.tr (by assumption) hg4'; have HR4 := Lib.hid hr4; (try (have hb7 := hg4'.heap (show (wz.alloc (.cells #[.bool false, .slice none 0 0, .slice none 0 0] 29)).drew.heap[wz.heap.size]? = _ from heap_alloc_new wz _); have q0 := heap_cell hb7 0; have q1 := heap_cell hb7 1; have q2 := heap_cell hb7 2; have p0 := heap_frz hb7 0; have p1 := heap_frz hb7 1; have p2 := heap_frz hb7 2)); obtain ⟨r4a, r4c, hr4e⟩ := rn_len hr4; subst hr4e; clear hr4))
      all_goals clear HTX HOU
      · have hb7 := heap_alloc_new w4 (.cells #[.bool false, .slice none 0 0, .slice r4a (Dg.digs 1).length r4c] 29)
        have hga : Gr w4 (w4.alloc (.cells #[.bool false, .slice none 0 0, .slice r4a (Dg.digs 1).length r4c] 29)) := (Gr.rf w4).alloc (Nat.le_refl _) _
        have HG5 := Lib.hid (hg4.tr hga)
        have m0 := heap_cell hb7 0
        have m1 := heap_cell hb7 1
        have m2 := heap_cell hb7 2
        have n2 := heap_frz hb7 2
        have hlt := heap_lt hb7
        have HLT : Hid (w.heap.size < w4.heap.size ∧ ¬ (w.heap.size = w4.heap.size)) := Lib.hid (by have a1 := HG2.out.size; have a2 := HGZ.out.size; have a3 := heap_lt HBK.out; have a4 := hg4.size; omega)
        generalize w4.alloc (.cells #[.bool false, .slice none 0 0, .slice r4a (Dg.digs 1).length r4c] 29) = w5 at *
        clear hb7 hga
        clear hgd hg4'
        have hbq := ((HG2.out.tr HGZ.out).tr HG5.out).heap HBK.out
        have y0 := heap_cell hbq 0
        have y1 := heap_cell hbq 1
        have y2 := heap_cell hbq 2
        have g0 := heap_frz hbq 0
        have g1 := heap_frz hbq 1
        have g2 := heap_frz hbq 2
        have HGF := Lib.hid (HG0.out.tr ((HG2.out.tr HGZ.out).tr HG5.out))
        have HE := Lib.hid (three_set w5 w.heap.size (.bool false) (.slice none 0 0) (.slice none 0 0) _ _ _ y0 y1 y2 (fun n h => by cases h) (fun n h => by cases h) (fun n h => by cases h))
        clear hbq m0 m1 m2 n2 hlt
        go_wp2
        (try simp only [Exit.inBlock, Exit.then])
        refine bodyPost_ret (ret_getq _ _ _ _ HE.out.1 _ rfl rfl) rfl ?_
        exact ⟨⟨fun h => absurd h.1 HI.out, fun _ => ⟨_, _, _, _, _, _, _, rfl⟩⟩, HE.out.2.2 w HGF.out (Nat.le_refl _)⟩
      · have hb7 : w4.heap[wz.heap.size]? = some (.cells #[.bool false, .slice none 0 0, .slice none 0 0] 29 (0, 0)) := hg4'.heap (heap_alloc_new wz _)
        have q0 := heap_cell hb7 0
        have q1 := heap_cell hb7 1
        have q2 := heap_cell hb7 2
        have p2 := heap_frz hb7 2
        have HW := Lib.hid (three_set w4 wz.heap.size (.bool false) (.slice none 0 0) (.slice r4a (Dg.digs 1).length r4c) _ _ _ q0 q1 q2 (fun n h => by cases h) (fun n h => by cases h) (fun n h => by cases h))
        have HG5 := Lib.hid (HW.out.2.2 wz hg4 (Nat.le_refl _))
        have m0 := HW.out.1 0 _ rfl
        have m1 := HW.out.1 1 _ rfl
        have m2 := HW.out.1 2 _ rfl
        have n2 : ((((w4.setCell ⟨wz.heap.size, 0, none⟩ (.bool false)).setCell ⟨wz.heap.size, 1, none⟩ (.slice none 0 0)).setCell ⟨wz.heap.size, 2, none⟩ (.slice r4a (Dg.digs 1).length r4c))).frozen? ⟨wz.heap.size, 2, none⟩ = false := by rw [World.frozen?_setCell, World.frozen?_setCell, World.frozen?_setCell]; exact p2
        have hlt : wz.heap.size < ((((w4.setCell ⟨wz.heap.size, 0, none⟩ (.bool false)).setCell ⟨wz.heap.size, 1, none⟩ (.slice none 0 0)).setCell ⟨wz.heap.size, 2, none⟩ (.slice r4a (Dg.digs 1).length r4c))).heap.size := by rw [World.size_setCell, World.size_setCell, World.size_setCell]; exact heap_lt hb7
        have HLT : Hid (w.heap.size < wz.heap.size ∧ ¬ (w.heap.size = wz.heap.size)) := Lib.hid (by have a1 := HG2.out.size; have a2 := HGZ.out.size; have a3 := heap_lt HBK.out; omega)
        generalize (((w4.setCell ⟨wz.heap.size, 0, none⟩ (.bool false)).setCell ⟨wz.heap.size, 1, none⟩ (.slice none 0 0)).setCell ⟨wz.heap.size, 2, none⟩ (.slice r4a (Dg.digs 1).length r4c)) = w5 at *
        clear q0 q1 q2 p2 hb7
        clear hgd hg4'
        have hbq := ((HG2.out.tr HGZ.out).tr HG5.out).heap HBK.out
        have y0 := heap_cell hbq 0
        have y1 := heap_cell hbq 1
        have y2 := heap_cell hbq 2
        have g0 := heap_frz hbq 0
        have g1 := heap_frz hbq 1
        have g2 := heap_frz hbq 2
        have HGF := Lib.hid (HG0.out.tr ((HG2.out.tr HGZ.out).tr HG5.out))
        have HE := Lib.hid (three_set w5 w.heap.size (.bool false) (.slice none 0 0) (.slice none 0 0) _ _ _ y0 y1 y2 (fun n h => by cases h) (fun n h => by cases h) (fun n h => by cases h))
        clear hbq m0 m1 m2 n2 hlt
        go_wp2
        (try simp only [Exit.inBlock, Exit.then])
        refine bodyPost_ret (ret_getq _ _ _ _ HE.out.1 _ rfl rfl) rfl ?_
        exact ⟨⟨fun h => absurd h.1 HI.out, fun _ => ⟨_, _, _, _, _, _, _, rfl⟩⟩, HE.out.2.2 w HGF.out (Nat.le_refl _)⟩
theorem one_T : NumT ⟨#[49]⟩ ∧ dv (⟨#[49]⟩ : ByteArray).data.toList = 1 := ⟨⟨by decide, by decide, .inl rfl, fun c hc => by
  have : c = 49 := by simpa using hc
  subst this; decide⟩, by decide⟩
/-- rentierref2.GetQ. -/
theorem rgetQ_calls (s t t2 u : ByteArray) (neg : Bool) (hs : s.size ≤ 240) (hc : CutQ s t u) (hp : Parts t t2 neg) (w : World) :
    Calls Tryz.prog 40 #[.string s] w fun e w' => ((QT s t2 u neg → ∃ b p1 l1 c1 p2 l2 c2, e = .returned (.tuple #[.agg #[.bool b, .slice p1 l1 c1, .slice p2 l2 c2], .bool true])) ∧ (¬ QT s t2 u neg → ∃ b p1 l1 c1 p2 l2 c2, e = .returned (.tuple #[.agg #[.bool b, .slice p1 l1 c1, .slice p2 l2 c2], .bool false]))) ∧ Gr w w' := by
  obtain ⟨z1, z2⟩ := cutQ_size hc
  obtain ⟨I, hI, hex, hno, hend⟩ := cutQ_at hc
  rcases hend with ⟨hjs, h47, hu⟩ | ⟨hje, _, hu⟩
  · by_cases hi : IntT t2 neg
    · exact rgetQ_s1 s t t2 u neg hs hp z1 z2 I hI hex hno hjs h47 hu hi w
    · exact rgetQ_s0 s t t2 u neg hs hp z1 z2 I hI hex hno hjs h47 hu hi w
  · have HN1 : Hid (NumT u ∧ dv u.data.toList = 1) := Lib.hid (by rw [hu]; exact one_T)
    by_cases hi : IntT t2 neg
    · exact rgetQ_n1 s t t2 u neg hs hp z1 z2 I hI hex hno hje HN1 hi w
    · exact rgetQ_n0 s t t2 u neg hs hp z1 z2 I hI hex hno hje HN1 hi w
end Go.Proofs.YtcjjgdoafkdeaaaGreatDoor
