/- Layer 2's reference: Mul by contract. -/
import Derived.Test.YtglbdafcfcmffaaGreatDoorSc
namespace Go.Proofs.YtglbdafcfcmffaaGreatDoor
open Go.RowKit Go.Extern.Stop Go.Stop Go.Extern Go.Sort
set_option linter.unusedVariables false
set_option linter.unusedSimpArgs false

theorem makeN (n : Nat) (h : n ≤ 2000000000) (w : World) : (Instr.makeSlice 48 (.int .i64 (n : Int)) (.int .i64 (n : Int))).run Tryz.prog w = .ok (.slice (some ⟨w.heap.size, 0, none⟩) n n) (w.alloc (.cells (madeCells #[.int .u64 0] n) 60)) :=
  run_make_row' 48 60 (.int .u64 0) 8 underN info45 rfl .i64 .i64 n (by omega) (by omega) w

set_option maxRecDepth 100000 in
set_option maxHeartbeats 8000000 in
/-- The reference's Mul. -/
theorem rmul_calls (x y : Value) (a b : Nat) (w : World) (hx : RN w x a) (hy : RN w y b) (k : Nat) (hka : a < Dg.D ^ k) (hkb : b < Dg.D ^ k) (hk : k ≤ 1000000) :
    Calls Tryz.prog 44 #[x, y] w fun e w' => (∃ r, e = .returned r ∧ RN w' r (a * b)) ∧ Gr w w' := by
  have hla := Dg.digs_len a k hka
  have hlb := Dg.digs_len b k hkb
  have HPL := Lib.hid (Dg.digs_limbs a)
  have HQL := Lib.hid (Dg.digs_limbs b)
  have hav := Dg.val_digs a
  have hbv := Dg.val_digs b
  unfold RN at hx hy
  generalize Dg.digs a = p at *
  generalize Dg.digs b = q at *
  subst hav
  subst hbv
  have HP := Lib.hid hx
  have HQ := Lib.hid hy
  obtain ⟨xa, xc, rfl⟩ := hx.slice
  obtain ⟨ya, yc, rfl⟩ := hy.slice
  clear hka hkb hx hy
  by_cases h0 : p.length = 0 ∨ q.length = 0
  · have hz : Dg.val p * Dg.val q = 0 := by
      rcases h0 with h | h
      · rw [List.eq_nil_of_length_eq_zero h]; exact Nat.zero_mul _
      · rw [List.eq_nil_of_length_eq_zero h]; exact Nat.mul_zero _
    rw [hz]
    have hnil : RN w (.slice none 0 0) 0 := digs_nil ⟨fun x hx => (by cases hx), .inl ⟨rfl, rfl⟩⟩
    have HNIL := Lib.hid hnil
    clear hz hnil
    rcases Nat.eq_zero_or_pos p.length with h1 | h1
    · have b1 : ((p.length : Int) == 0) = true := beq_iff_eq.2 (by omega)
      have b1n : (p.length == 0) = true := beq_iff_eq.2 h1
      clear h0
      go_enter Tryz.func44, Tryz.ntmps44
      go_wp2
      go_ret
      exact ⟨⟨_, rfl, HNIL.out⟩, Gr.rf w⟩
    · have b1 : ((p.length : Int) == 0) = false := beq_eq_false_iff_ne.2 (by omega)
      have b1n : (p.length == 0) = false := beq_eq_false_iff_ne.2 (by omega)
      have b2 : ((q.length : Int) == 0) = true := beq_iff_eq.2 (by omega)
      have b2n : (q.length == 0) = true := beq_iff_eq.2 (by omega)
      clear h0
      go_enter Tryz.func44, Tryz.ntmps44
      go_wp2
      go_ret
      exact ⟨⟨_, rfl, HNIL.out⟩, Gr.rf w⟩
  · have b1 : ((p.length : Int) == 0) = false := beq_eq_false_iff_ne.2 (by omega)
    have b1n : (p.length == 0) = false := beq_eq_false_iff_ne.2 (by omega)
    have b2 : ((q.length : Int) == 0) = false := beq_eq_false_iff_ne.2 (by omega)
    have b2n : (q.length == 0) = false := beq_eq_false_iff_ne.2 (by omega)
    have hmk := makeN (p.length + q.length) (by omega)
    have ec : ((p.length + q.length : Nat) : Int) = (p.length : Int) + (q.length : Int) := by omega
    rw [ec] at hmk
    have hn0 : 0 < p.length + q.length := by omega
    clear h0 ec
    go_enter Tryz.func44, Tryz.ntmps44
    go_wp2
    clear hmk
    go_loopg [6] p.length (fun g si wr => ∃ (i : Nat) (F : Nat → Nat), g = p.length - i ∧ i ≤ p.length ∧ si = .int .i64 (i : Int) ∧ Hid (OwnF wr w.heap.size (p.length + q.length) F) ∧ Hid (∀ j, F j < Dg.D) ∧ Hid (∀ j, i + q.length ≤ j → F j = 0) ∧
      Hid (rv Dg.D F (p.length + q.length) = Dg.val (p.take i) * Dg.val q) ∧ Hid (Gr w wr))
    case atStart => exact ⟨0, fun _ => 0, rfl, Nat.zero_le _, rfl, Lib.hid ((rowU_made w _).own hn0), Lib.hid (fun _ => Dg.D_pos), Lib.hid (fun _ _ => rfl), Lib.hid (by rw [rv_nil _ _ _ (fun _ _ => rfl)]; simp [Dg.val]), Lib.hid ((Gr.rf w).alloc (Nat.le_refl _) _)⟩
    case round =>
      obtain ⟨i, F, hg, hi, rfl, HO, HFD, HF0, HFV, HG⟩ := hrel
      have HGG := Lib.hid hg
      clear hg
      by_cases hlt : i < p.length
      · have b3 : decide ((i : Int) < (p.length : Int)) = true := decide_eq_true (by omega)
        have b3n : decide (i < p.length) = true := decide_eq_true hlt
        have hxD := Dg.getD_lt HPL.out i
        obtain ⟨g1, o1, c1, e1, _⟩ := HP.out.get HG.out i hlt
        cases e1
        have HPG := Lib.hid (fun w' hg => by have h := HP.out.get (w' := w') hg i hlt; obtain ⟨g, o, c, e, h2⟩ := h; cases e; exact h2)
        generalize hxx : p.getD i 0 = xx at *
        have HXX := Lib.hid hxx
        clear hxx
        go_wp2
        go_loopg [7, 8] (q.length + 2) (fun g2 sc sk wr2 => ∃ (kk cc : Nat) (F2 : Nat → Nat), g2 = q.length + 2 - kk ∧ kk ≤ q.length + 1 ∧ sc = .int .u64 (cc : Int) ∧ sk = .int .i64 (kk : Int) ∧ cc < Dg.D ∧ (kk ≤ q.length ∨ cc = 0) ∧ Hid (OwnF wr2 w.heap.size (p.length + q.length) F2) ∧ Hid (∀ j, F2 j < Dg.D) ∧ Hid (∀ j, i + q.length + 1 ≤ j → F2 j = 0) ∧ Hid (kk ≤ q.length → F2 (i + q.length) = 0) ∧
          Hid (rv Dg.D F2 (p.length + q.length) + Dg.D ^ (i + kk) * cc = rv Dg.D F (p.length + q.length) + Dg.D ^ i * (xx * Dg.val (q.take kk))) ∧ Hid (Gr w wr2))
        case atStart => exact ⟨0, 0, F, rfl, by omega, rfl, rfl, Dg.D_pos, .inl (Nat.zero_le _), HO, HFD, Lib.hid (fun j hj => HF0.out j (by omega)), Lib.hid (fun _ => HF0.out _ (Nat.le_refl _)), Lib.hid (by simp [Dg.val]), HG⟩
        case round =>
          obtain ⟨kk, cc, F2, hg2, hkk, rfl, rfl, hcD, hkc, HO2, HFD2, HFZ, HFK, HFV2, HG2⟩ := hrel
          have HGG2 := Lib.hid hg2
          clear hg2
          by_cases hend : q.length ≤ kk ∧ cc = 0
          · obtain ⟨he1, rfl⟩ := hend
            have b4 : decide ((kk : Int) < (q.length : Int)) = false := decide_eq_false (by omega)
            have b4n : decide (kk < q.length) = false := decide_eq_false (by omega)
            have HNX := Lib.hid (Dg.mul_outer F F2 (p.length + q.length) i p q HFV.out (by
              have h := HFV2.out
              rw [List.take_of_length_le he1, Nat.mul_zero, Nat.add_zero] at h
              rw [HXX.out]
              exact h))
            rw [show ((0 : Nat) : Int) = 0 from rfl]
            go_wp2
            go_roundg (p.length - (i + 1))
            case measure => have := HGG.out; omega
            case rel => exact ⟨i + 1, F2, rfl, by omega, by first | rfl | go_num, HO2, HFD2, Lib.hid (fun j hj => HFZ.out j (by omega)), HNX, HG2⟩
          · have hkq : kk ≤ q.length := by omega
            have hyD := Dg.getD_lt HQL.out kk
            have hy0 : ¬ kk < q.length → q.getD kk 0 = 0 := fun h => by rw [List.getD_eq_getElem?_getD, List.getElem?_eq_none (by omega)]; rfl
            have hcell := HO2.out.cell (i := i + kk) (by omega)
            have hfr := HO2.out.frozen (i + kk)
            have ht : ((i : Int) + (kk : Int)).toNat = i + kk := by omega
            have hfD := HFD2.out (i + kk)
            have hdg := Dg.mul_digit F F2 (p.length + q.length) i kk cc xx (F2 (i + kk) + cc + xx * q.getD kk 0) q (by omega) rfl HFV2.out
            obtain ⟨hb1, hb2⟩ := Dg.mul_bound (F2 (i + kk)) cc xx (q.getD kk 0) hfD hcD hxD hyD
            have hxq := HPG.out wr HG2.out
            have hz2 : kk = q.length → (F2 (i + kk) + cc + xx * q.getD kk 0) / Dg.D = 0 := fun h => by
              rw [hy0 (by omega), Nat.mul_zero, h, HFK.out (by omega), Nat.zero_add, Nat.add_zero]
              exact Nat.div_eq_of_lt hcD
            have HZ2 := Lib.hid hz2
            clear hz2
            generalize hff : F2 (i + kk) = f at *
            have hxx9 : xx < 1000000000 := hxD
            have hcc9 : cc < 1000000000 := hcD
            have hf9 : f < 1000000000 := hfD
            have hfc : IntKind.u64.wrap ((f : Int) + (cc : Int)) = ((f + cc : Nat) : Int) := by
              rw [← Int.natCast_add]; exact wrapN _ (by rw [B_eq]; omega)
            obtain ⟨t1, ht1⟩ : ∃ t1, f + cc = t1 := ⟨_, rfl⟩
            have ht1i : (f : Int) + (cc : Int) = (t1 : Int) := by omega
            have ht1w : IntKind.u64.wrap (t1 : Int) = (t1 : Int) := wrapN t1 (by rw [B_eq]; omega)
            by_cases hlq : kk < q.length
            · have b4 : decide ((kk : Int) < (q.length : Int)) = true := decide_eq_true (by omega)
              have b4n : decide (kk < q.length) = true := decide_eq_true hlq
              obtain ⟨g2, o2, c2, e2, hcq⟩ := HQ.out.get HG2.out kk hlq
              cases e2
              clear hy0
              generalize q.getD kk 0 = yy at *
              obtain ⟨pr, hpr⟩ : ∃ pr, xx * yy = pr := ⟨_, rfl⟩
              have hpri : (xx : Int) * (yy : Int) = (pr : Int) := by rw [← hpr, Int.natCast_mul]
              obtain ⟨s, hs⟩ : ∃ s, f + cc + xx * yy = s := ⟨_, rfl⟩
              rw [hs] at hdg hb1 hb2 HZ2
              have hsi : (t1 : Int) + (pr : Int) = (s : Int) := by omega
              have hprw : IntKind.u64.wrap (pr : Int) = (pr : Int) := wrapN pr (by omega)
              have hsw : IntKind.u64.wrap (s : Int) = (s : Int) := wrapN s hb1
              obtain ⟨d, hd⟩ : ∃ d, s % Dg.D = d := ⟨_, rfl⟩
              obtain ⟨z, hz⟩ : ∃ z, s / Dg.D = z := ⟨_, rfl⟩
              have hdD : d < Dg.D := by rw [← hd]; exact Nat.mod_lt _ Dg.D_pos
              have hdi : (s : Int) % 1000000000 = (d : Int) := by rw [← hd, Dg.D_eq]; omega
              have hzi : (s : Int) / 1000000000 = (z : Int) := by rw [← hz, Dg.D_eq]; omega
              rw [hd, hz] at hdg
              rw [hz] at hb2 HZ2
              have HDG := Lib.hid hdg
              have HDD := Lib.hid hdD
              have HZD := Lib.hid hb2
              have hzw : IntKind.u64.wrap (z : Int) = (z : Int) := wrapN z (Nat.lt_trans hb2 (by decide))
              clear hdg hdD hb2 hb1 hd hz hs hpr ht1 hfc hyD
              go_wp2_with fail
              go_quiet (fail)
              generalize hW1 : wr.drewN nq = W1
              have HW1 := Lib.hid hW1
              have hc1 : W1.cell? ⟨w.heap.size, i + kk, none⟩ = some (.int .u64 (f : Int)) := by rw [← hW1]; exact hcell
              have hf1 : W1.frozen? ⟨w.heap.size, i + kk, none⟩ = false := by rw [← hW1]; exact hfr
              clear hW1 hcell hfr hcq hxq
              go_wp2
              go_roundg (q.length + 2 - (kk + 1))
              case measure => have := HGG2.out; omega
              case rel => exact ⟨kk + 1, z, (fun j => if j = i + kk then d else F2 j), rfl, by omega, by first | rfl | (rw [hzw]) | (rw [hzi]), by first | rfl | go_num, HZD.out, .inl (by omega), Lib.hid (by rw [← HW1.out]; exact HO2.out.set (i + kk) d), Lib.hid (fun j => by dsimp only; split; exact HDD.out; exact HFD2.out j), Lib.hid (fun j hj => by dsimp only; rw [if_neg (by omega)]; exact HFZ.out j hj), Lib.hid (fun _ => by dsimp only; rw [if_neg (by omega)]; exact HFK.out (by omega)), HDG, Lib.hid (by rw [← HW1.out]; exact (Gr.drew HG2.out nq).setCell (a := ⟨w.heap.size, i + kk, none⟩) (Nat.le_refl _) _)⟩
            · have b4 : decide ((kk : Int) < (q.length : Int)) = false := decide_eq_false (by omega)
              have b4n : decide (kk < q.length) = false := decide_eq_false hlq
              have b5 : decide ((0 : Int) < (cc : Int)) = true := decide_eq_true (by omega)
              have b5n : decide (0 < cc) = true := decide_eq_true (by omega)
              have hy := hy0 hlq
              rw [hy] at hdg hb1 hb2 HZ2
              clear hy0
              rw [Nat.mul_zero, Nat.add_zero, ht1] at hdg hb1 hb2 HZ2
              have hkq2 : kk = q.length := by omega
              have HZ3 := Lib.hid (HZ2.out hkq2)
              obtain ⟨d, hd⟩ : ∃ d, t1 % Dg.D = d := ⟨_, rfl⟩
              obtain ⟨z, hz⟩ : ∃ z, t1 / Dg.D = z := ⟨_, rfl⟩
              have hdD : d < Dg.D := by rw [← hd]; exact Nat.mod_lt _ Dg.D_pos
              have hdi : (t1 : Int) % 1000000000 = (d : Int) := by rw [← hd, Dg.D_eq]; omega
              have hzi : (t1 : Int) / 1000000000 = (z : Int) := by rw [← hz, Dg.D_eq]; omega
              rw [hd, hz] at hdg
              rw [hz] at hb2 HZ3
              have HDG := Lib.hid hdg
              have HDD := Lib.hid hdD
              have HZD := Lib.hid hb2
              have hzw : IntKind.u64.wrap (z : Int) = (z : Int) := wrapN z (Nat.lt_trans hb2 (by decide))
              clear hdg hdD hb2 hb1 hd hz ht1 hfc hyD hy hkq2 HZ2
              go_wp2
              go_roundg (q.length + 2 - (kk + 1))
              case measure => have := HGG2.out; omega
              case rel => exact ⟨kk + 1, z, (fun j => if j = i + kk then d else F2 j), rfl, by omega, by first | rfl | (rw [hzw]) | (rw [hzi]), by first | rfl | go_num, HZD.out, .inr HZ3.out, Lib.hid (HO2.out.set (i + kk) d), Lib.hid (fun j => by dsimp only; split; exact HDD.out; exact HFD2.out j), Lib.hid (fun j hj => by dsimp only; rw [if_neg (by omega)]; exact HFZ.out j hj), Lib.hid (fun h => absurd h (by omega)), HDG, Lib.hid (HG2.out.setCell (a := ⟨w.heap.size, i + kk, none⟩) (Nat.le_refl _) _)⟩
      · have hie : i = p.length := by omega
        subst hie
        have b3 : decide ((p.length : Int) < (p.length : Int)) = false := decide_eq_false (by omega)
        have b3n : decide (p.length < p.length) = false := decide_eq_false (by omega)
        have hlim := HO.out.lim 0 (p.length + q.length) (p.length + q.length) (fun j _ => Nat.lt_trans (HFD.out _) (by decide)) (by omega) (Nat.le_refl _) (by omega)
        have hll : ((List.range (p.length + q.length)).map fun j => F (0 + j)).length = p.length + q.length := by simp
        have hdl : Dg.Limbs ((List.range (p.length + q.length)).map fun j => F (0 + j)) := fun x hx => by
          obtain ⟨j, _, rfl⟩ := List.mem_map.1 hx
          exact HFD.out _
        have hvl : Dg.val ((List.range (p.length + q.length)).map fun j => F (0 + j)) = Dg.val p * Dg.val q := by
          have h := HFV.out
          rw [List.take_of_length_le (Nat.le_refl _)] at h
          rw [← h, Dg.rv_val]
          exact rv_congr _ fun j _ => by rw [Nat.zero_add]
        have hT := rtrim_calls _ _ wr hlim hdl (by rw [hll]; omega)
        rw [hvl] at hT
        have HT := Lib.hid hT
        clear hlim hll hdl hvl hT
        go_wp2_with (go_at_call 124; (with_reducible refine HT.out.mono ?_); rintro ev w1 ⟨⟨r, rfl, hr⟩, rfl⟩; have HR := Lib.hid hr; clear hr)
        go_ret
        exact ⟨⟨_, rfl, HR.out⟩, HG.out⟩
end Go.Proofs.YtglbdafcfcmffaaGreatDoor
