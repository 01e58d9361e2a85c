/- Layer 2: the reference's Sub by contract. -/
import Derived.Test.YtglbdafcfcmffaaGreatDoorTg
import Derived.Test.YtglbdafcfcmffaaGreatDoorQe
import Derived.Laws.AppendOwnNone
import Derived.StillTailTactics
namespace Go.Proofs.YtglbdafcfcmffaaGreatDoor
open Go.RowKit Go.Extern.Stop Go.Stop Go.Extern Go.Sort
set_option linter.unusedVariables false
set_option linter.unusedSimpArgs false

theorem digs_nil {w : World} {v : Value} (h : Lim w v []) : RN w v 0 := by unfold RN; rw [Dg.digs_zero]; exact h

set_option maxRecDepth 100000 in
set_option maxHeartbeats 8000000 in
/-- The reference's Sub. -/
theorem rsub_calls (x y : Value) (a b : Nat) (w : World) (hx : RN w x a) (hy : RN w y b) (hle : b ≤ a) (k : Nat) (hka : a < Dg.D ^ k) (hk : k ≤ 1000000) :
    Calls Tryz.prog 45 #[x, y] w fun e w' => (∃ r, e = .returned r ∧ RN w' r (a - b)) ∧ Gr w w' := by
  obtain ⟨i0, hi, hz0, hz1, hz2⟩ := info_parts info45
  have hla := Dg.digs_len a k hka
  have hnb := Dg.digs_norm b
  have hPL := Dg.digs_limbs a
  have hQL := Dg.digs_limbs b
  have hav := Dg.val_digs a
  have hbv := Dg.val_digs b
  unfold RN at hx hy
  generalize Dg.digs a = p at *
  generalize Dg.digs b = q at *
  have hlq : q.length ≤ p.length := by
    rcases Nat.lt_or_ge p.length q.length with h | h
    · have := Dg.val_lt_of_length p q hPL hnb h; omega
    · exact h
  have HLE := Lib.hid hle
  have HAV := Lib.hid hav
  have HBV := Lib.hid hbv
  have HPL := Lib.hid hPL
  have HQL := Lib.hid hQL
  have HP := Lib.hid hx
  have HQ := Lib.hid hy
  obtain ⟨ya, yc, rfl⟩ := hy.slice
  have hxx : (x = .slice none 0 0 ∧ p = []) ∨ ∃ g o c, x = .slice (some ⟨g, o, none⟩) p.length c ∧ ∀ j u, (p.map U)[j]? = some u → w.cell? ((⟨g, o, none⟩ : Addr).add j) = some u := by
    rcases hx.2 with h | ⟨g, o, c, h1, _, _, _, h5⟩
    · exact .inl h
    · refine .inr ⟨g, o, c, h1, fun j u hj => ?_⟩
      have hl := (List.getElem?_eq_some_iff.1 hj).1
      have hl' : j < p.length := by simpa using hl
      rw [Go.WideShapes.add_plain, h5 j hl']
      rw [List.getElem?_map, List.getElem?_eq_getElem hl'] at hj
      exact hj
  have HH := Lib.hid hnb
  clear hx hy hav hbv hnb hPL hQL hle hka
  rcases hxx with ⟨rfl, hpn⟩ | ⟨gx, ox, cx, rfl, hcx⟩
  · subst hpn
    have hq0 : q.length = 0 := by simpa using hlq
    have ha0 : a - b = 0 := by rw [← HAV.out]; exact Nat.zero_sub _
    have HT := Lib.hid (rtrim_calls (.slice none 0 0) [] w ⟨fun x hx => (by cases hx), .inl ⟨rfl, rfl⟩⟩ (fun x hx => by cases hx) (by simp))
    rw [ha0]
    rw [hq0] at HQ
    rw [hq0]
    clear hlq hq0 ha0 hla
    go_enter Tryz.func45, Tryz.ntmps45
    go_wp2_with (at_builtin; refine wpList_append_own_none rfl _ _ 48 rfl w.heap.size 60 i0 1 underN hi _ 0 [] rfl (World.ownsRow_nil _ _ _ _) rfl ?_)
    go_loopg [6] 0 (fun g si wr => g = 0 ∧ si = .int .i64 0 ∧ w = wr)
    case atStart => exact ⟨rfl, rfl, rfl⟩
    case round =>
      obtain ⟨rfl, rfl, rfl⟩ := hrel
      go_wp2_with (go_at_call 124; (with_reducible refine HT.out.mono ?_); rintro ev w1 ⟨⟨r, rfl, hr⟩, rfl⟩; have HR := Lib.hid hr; clear hr)
      go_ret
      exact ⟨⟨_, rfl, HR.out⟩, Gr.rf w⟩
  · by_cases h0 : p.length = 0
    · have hpn : p = [] := List.eq_nil_of_length_eq_zero h0
      subst hpn
      have hq0 : q.length = 0 := by simpa using hlq
      have ha0 : a - b = 0 := by rw [← HAV.out]; exact Nat.zero_sub _
      rw [ha0]
      rw [hq0] at HQ
      rw [hq0]
      clear hlq hq0 ha0 hla h0
      go_enter Tryz.func45, Tryz.ntmps45
      go_wp2_with (at_builtin; refine wpList_append_own _ rfl _ _ 48 rfl w.heap.size 60 i0 (.int .u64 0) 1 8 underN hi hz0 hz1 hz2 rfl (by decide) (.slice none 0 0) 0 [] rfl (World.ownsRow_nil _ _ _ _) ⟨gx, ox, none⟩ 0 cx [] rfl rfl (fun j u h => by cases h) (fun u hu => by cases hu) (by decide) (by decide) (Nat.le_refl _) ?_; intro v' w2 hown hgrow hnl; have HNL := Lib.hid (hnl.2 ⟨rfl, rfl⟩); have HG := Lib.hid (show Gr w w2 from Below.grown (Gr.rf w) hgrow (Nat.le_refl _) (fun j hj => by cases hj)); clear hown hgrow hnl; obtain rfl := HNL.out)
      go_loopg [6] 0 (fun g si wr => g = 0 ∧ si = .int .i64 0 ∧ w2 = wr)
      case atStart => exact ⟨rfl, rfl, rfl⟩
      case round =>
        obtain ⟨rfl, rfl, rfl⟩ := hrel
        have HT := Lib.hid (rtrim_calls (.slice none 0 0) [] w2 ⟨fun x hx => (by cases hx), .inl ⟨rfl, rfl⟩⟩ (fun x hx => by cases hx) (by simp))
        go_wp2_with (go_at_call 124; (with_reducible refine HT.out.mono ?_); rintro ev w1 ⟨⟨r, rfl, hr⟩, rfl⟩; have HR := Lib.hid hr; clear hr)
        go_ret
        exact ⟨⟨_, rfl, HR.out⟩, HG.out⟩
    · have hp0 : 0 < p.length := by omega
      clear h0
      go_enter Tryz.func45, Tryz.ntmps45
      go_wp2_with (at_builtin; refine wpList_append_own _ rfl _ _ 48 rfl w.heap.size 60 i0 (.int .u64 0) 1 8 underN hi hz0 hz1 hz2 rfl (by decide) (.slice none 0 0) 0 [] rfl (World.ownsRow_nil _ _ _ _) ⟨gx, ox, none⟩ p.length cx (p.map U) rfl (by simp) hcx (fun u hu => by obtain ⟨z, _, rfl⟩ := List.mem_map.1 hu; rfl) (by simp only [maxLen]; omega) (by omega) (Nat.le_refl _) ?_; intro v' w2 hown hgrow _; have HG := Lib.hid (show Gr w w2 from Below.grown (Gr.rf w) hgrow (Nat.le_refl _) (fun j hj => by cases hj)); rw [Nat.zero_add, List.nil_append] at hown; obtain ⟨g, c, rfl, hwg, hc1, hc2, hO⟩ := ownF_of hown hp0; have HO := Lib.hid hO; clear hown hgrow hO)
      clear hcx
      go_loopg [6] q.length (fun k si wr => ∃ (i : Nat) (F : Nat → Nat), k = q.length - i ∧ i ≤ q.length ∧ si = .int .i64 (i : Int) ∧ Hid (OwnF wr g p.length F) ∧ Hid (∀ j, F j < Dg.D) ∧ Hid (rv Dg.D F p.length + Dg.val (q.take i) = a) ∧ Hid (Gr w wr))
      case atStart => exact ⟨0, (p.getD · 0), rfl, Nat.zero_le _, rfl, HO, Lib.hid (Dg.getD_lt HPL.out), Lib.hid (by rw [Dg.rv_list p _ (Nat.le_refl _), HAV.out]; simp [Dg.val]), HG⟩
      case round =>
        obtain ⟨i, F, hk, hi, rfl, HF, HFD, HFV, HGR⟩ := hrel
        have HK := Lib.hid hk
        clear hk
        by_cases hlt : i < q.length
        · have b1 : decide ((i : Int) < (q.length : Int)) = true := decide_eq_true (by omega)
          have b1n : decide (i < q.length) = true := decide_eq_true hlt
          obtain ⟨g2, o2, c2, e2, _⟩ := HQ.out.get HGR.out i hlt
          cases e2
          have HQG := Lib.hid (fun w' hg => by have h := HQ.out.get (w' := w') hg i hlt; obtain ⟨g, o, c, e, h2⟩ := h; cases e; exact h2)
          have hcq := HQG.out wr HGR.out
          have hcell := HF.out.cell (i := i) (by omega)
          have hfr := HF.out.frozen i
          have hxD := Dg.getD_lt HQL.out i
          have hfD := HFD.out i
          have hip : (i : Int) < (p.length : Int) := by omega
          have HNX := Lib.hid (fun G hG => Dg.sub_next F G p.length i a q HFV.out hG)
          have HRO := Lib.hid (fun G kk (h1 : kk ≤ p.length) h2 h3 => Dg.sub_room F G p.length i kk (q.getD i 0) a q h1 h2 h3 HFV.out rfl (by rw [HBV.out]; exact HLE.out))
          have hpl := Dg.sub_plain F p.length i (q.getD i 0) (by omega)
          have hfi := fun h => Dg.sub_first F p.length i (q.getD i 0) (by omega) h hxD
          generalize hqx : q.getD i 0 = x at *
          generalize hff : F i = f at *
          have HQX := Lib.hid hqx
          have HFF := Lib.hid hff
          have hx9 : x < 1000000000 := by rw [Dg.D_eq] at hxD; exact hxD
          have hf9 : f < 1000000000 := by rw [Dg.D_eq] at hfD; exact hfD
          clear hqx hff
          by_cases hxle : x ≤ f
          · have b2 : decide ((x : Int) ≤ (f : Int)) = true := decide_eq_true (by omega)
            have b2n : decide (x ≤ f) = true := decide_eq_true hxle
            have HPLN := Lib.hid (hpl hxle)
            obtain ⟨d, hd⟩ : ∃ d, f - x = d := ⟨_, rfl⟩
            have hd1 : (f : Int) - (x : Int) = (d : Int) := by omega
            have hdw : IntKind.u64.wrap (d : Int) = (d : Int) := wrapN d (by rw [B_eq]; omega)
            have hdD : d < Dg.D := by omega
            rw [hd] at HPLN
            have HDD := Lib.hid hdD
            clear hpl hfi hd hdD
            go_wp2_with fail
            go_quiet (fail)
            go_wp2_with fail
            generalize hW1 : wr.drewN nq = W1
            have HW1 := Lib.hid hW1
            have hcd : W1.drew.cell? ⟨g, i, none⟩ = some (.int .u64 (f : Int)) := by rw [← hW1]; exact hcell
            have hqd : W1.drew.cell? ⟨g2, o2 + i, none⟩ = some (.int .u64 (x : Int)) := by rw [← hW1]; exact hcq
            have hfd : W1.frozen? ⟨g, i, none⟩ = false := by rw [← hW1]; exact hfr
            have hc1 : W1.cell? ⟨g, i, none⟩ = some (.int .u64 (f : Int)) := by rw [← hW1]; exact hcell
            clear hW1 hcell hcq hfr
            refine wp_region_still_tail 10 (by kernel_rfl) (by kernel_rfl) ?_
            simp only [List.take_succ_cons, List.take_zero, List.drop_succ_cons, List.drop_zero]
            change wpStill _ _ W1.drew _ _ _
            generalize W1.drew = W2 at hcd hqd ⊢
            repeat still_step
            refine wpStill_nil ?_
            go_wp2
            go_roundg (q.length - (i + 1))
            case measure => have := HK.out; omega
            case rel => exact ⟨i + 1, (fun j => if j = i then d else F j), rfl, by omega, by first | rfl | go_num, Lib.hid (by rw [← HW1.out]; exact HF.out.set i d), Lib.hid (fun j => by dsimp only; split; exact HDD.out; exact HFD.out j), Lib.hid (HNX.out _ HPLN.out), Lib.hid (by rw [← HW1.out]; exact gr_drew1 ((Gr.drew HGR.out nq).setCell (a := ⟨g, i, none⟩) hwg _))⟩
          · have b2 : decide ((x : Int) ≤ (f : Int)) = false := decide_eq_false (by omega)
            have b2n : decide (x ≤ f) = false := decide_eq_false hxle
            have HFIR := Lib.hid (hfi (by omega))
            obtain ⟨z, hz⟩ : ∃ z, Dg.D - x = z := ⟨_, rfl⟩
            obtain ⟨d, hd⟩ : ∃ d, f + z = d := ⟨_, rfl⟩
            have hz9 : z = 1000000000 - x := by rw [← hz]; rfl
            have hz1 : (1000000000 : Int) - (x : Int) = (z : Int) := by omega
            have hzw : IntKind.u64.wrap (z : Int) = (z : Int) := wrapN z (by rw [B_eq]; omega)
            have hd1 : (f : Int) + (z : Int) = (d : Int) := by omega
            have hdw : IntKind.u64.wrap (d : Int) = (d : Int) := wrapN d (by rw [B_eq]; omega)
            have hdD : d < Dg.D := by rw [Dg.D_eq]; omega
            rw [hz, hd] at HFIR
            have HDD := Lib.hid hdD
            clear hpl hfi hz hd hdD hz9
            go_wp2_with fail
            go_quiet (fail)
            go_wp2_with fail
            generalize hW1 : wr.drewN nq = W1
            have HW1 := Lib.hid hW1
            have hcd : W1.drew.cell? ⟨g, i, none⟩ = some (.int .u64 (f : Int)) := by rw [← hW1]; exact hcell
            have hqd : W1.drew.cell? ⟨g2, o2 + i, none⟩ = some (.int .u64 (x : Int)) := by rw [← hW1]; exact hcq
            have hfd : W1.frozen? ⟨g, i, none⟩ = false := by rw [← hW1]; exact hfr
            have hc1 : W1.cell? ⟨g, i, none⟩ = some (.int .u64 (f : Int)) := by rw [← hW1]; exact hcell
            clear hW1 hcell hcq hfr
            refine wp_region_still_tail 11 (by kernel_rfl) (by kernel_rfl) ?_
            simp only [List.take_succ_cons, List.take_zero, List.drop_succ_cons, List.drop_zero]
            change wpStill _ _ W1.drew _ _ _
            generalize W1.drew = W2 at hcd hqd ⊢
            repeat still_step
            refine wpStill_nil ?_
            go_wp2
            go_loopg [7] (p.length - (i + 1)) (fun n sk wr2 => ∃ (kk : Nat) (G : Nat → Nat), n = p.length - kk ∧ sk = .int .i64 (kk : Int) ∧ kk ≤ p.length ∧ Hid (OwnF wr2 g p.length G) ∧ Hid (∀ j, G j < Dg.D) ∧ Hid (rv Dg.D G p.length + Dg.D ^ i * x = rv Dg.D F p.length + Dg.D ^ kk) ∧ Hid (Gr w wr2))
            case atStart => exact ⟨i + 1, (fun j => if j = i then d else F j), by omega, by first | rfl | go_num, by omega, Lib.hid (by rw [← HW1.out]; exact HF.out.set i d), Lib.hid (fun j => by dsimp only; split; exact HDD.out; exact HFD.out j), HFIR, Lib.hid (by rw [← HW1.out]; exact gr_drew1 ((Gr.drew HGR.out nq).setCell (a := ⟨g, i, none⟩) hwg _))⟩
            case round =>
              obtain ⟨kk, G, hkk, rfl, hkp, HG2, HGD, HGV, HGR2⟩ := hrel
              have HKK := Lib.hid hkk
              clear hkk
              have hkl := HRO.out G kk hkp HGD.out HGV.out
              have hck := HG2.out.cell (i := kk) hkl
              have hfk := HG2.out.frozen kk
              have hkl1 : (kk : Int) < (p.length : Int) := by omega
              have hgD := HGD.out kk
              have hon := Dg.sub_on F G p.length i kk x hkl
              have hof := Dg.sub_off F G p.length i kk x hkl
              generalize hgg : G kk = y at *
              by_cases hy0 : y = 0
              · have HON := Lib.hid (hon hy0 HGV.out)
                subst hy0
                rw [show ((0 : Nat) : Int) = 0 from rfl] at hck
                clear hon hof hgg
                go_wp2
                go_roundg (p.length - (kk + 1))
                case measure => have := HKK.out; omega
                case rel => exact ⟨kk + 1, (fun j => if j = kk then Dg.D - 1 else G j), by omega, by first | rfl | go_num, by omega, Lib.hid (HG2.out.set kk (Dg.D - 1)), Lib.hid (fun j => by dsimp only; split; decide; exact HGD.out j), HON, Lib.hid (HGR2.out.setCell (a := ⟨g, kk, none⟩) hwg _)⟩
              · have HOF := Lib.hid (hof hy0 HGV.out)
                have hb : ((y : Int) == 0) = false := beq_eq_false_iff_ne.2 (by omega)
                obtain ⟨e, he⟩ : ∃ e, y - 1 = e := ⟨_, rfl⟩
                have he1 : (y : Int) - 1 = (e : Int) := by omega
                have hew : IntKind.u64.wrap (e : Int) = (e : Int) := wrapN e (by rw [B_eq]; rw [Dg.D_eq] at hgD; omega)
                have heD : e < Dg.D := by omega
                rw [he] at HOF
                have HED := Lib.hid heD
                clear hon hof hgg he heD
                go_wp2
                go_roundg (q.length - (i + 1))
                case measure => have := HK.out; omega
                case rel => exact ⟨i + 1, (fun j => if j = kk then e else G j), by first | rfl | omega, by omega, by first | rfl | go_num, Lib.hid (HG2.out.set kk e), Lib.hid (fun j => by dsimp only; split; exact HED.out; exact HGD.out j), Lib.hid (HNX.out _ HOF.out), Lib.hid (HGR2.out.setCell (a := ⟨g, kk, none⟩) hwg _)⟩
        · have hie : i = q.length := by omega
          subst hie
          have b1 : decide ((q.length : Int) < (q.length : Int)) = false := decide_eq_false (by omega)
          have b1n : decide (q.length < q.length) = false := decide_eq_false (by omega)
          have hlim := HF.out.lim 0 p.length c (fun j _ => Nat.lt_trans (HFD.out _) (by decide)) (by omega) hc1 hc2
          have hll : ((List.range p.length).map fun j => F (0 + j)).length = p.length := by simp
          have hdl : Dg.Limbs ((List.range p.length).map fun j => F (0 + j)) := fun x hx => by
            obtain ⟨j, _, rfl⟩ := List.mem_map.1 hx
            exact HFD.out _
          have hvl : Dg.val ((List.range p.length).map fun j => F (0 + j)) = a - b := by
            have h := HFV.out
            rw [List.take_of_length_le (Nat.le_refl _), HBV.out] at h
            have h2 : Dg.val ((List.range p.length).map fun j => F (0 + j)) = rv Dg.D F p.length := by
              rw [Dg.rv_val]
              exact rv_congr _ fun j _ => by rw [Nat.zero_add]
            omega
          have hT := rtrim_calls _ _ wr hlim hdl (by rw [hll]; omega)
          rw [hvl] at hT
          have HT := Lib.hid hT
          clear hlim hll hdl hvl hT
          go_wp2_with (go_at_call 124; (with_reducible refine HT.out.mono ?_); rintro ev w1 ⟨⟨r, rfl, hr⟩, rfl⟩; have HR := Lib.hid hr; clear hr)
          go_ret
          exact ⟨⟨_, rfl, HR.out⟩, HGR.out⟩
end Go.Proofs.YtglbdafcfcmffaaGreatDoor
