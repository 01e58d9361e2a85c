/- Layer 2: (*Nat).Text by contract, the walk. -/
import Derived.Test.YtgejadnfeeoknaaGreatDoorNw
namespace Go.Proofs.YtgejadnfeeoknaaGreatDoor
open Go.RowKit Go.Extern.Stop Go.Stop Go.Extern Go.Sort
set_option linter.unusedVariables false
set_option linter.unusedSimpArgs false

theorem info9 : (Tryz.prog.info? 9).map (fun i => (i.zero, i.size, i.bytes)) = some (some (.string ⟨#[]⟩), 1, 16) := by kernel_rfl
theorem rep48 (c : Nat) : Lib.repeatL [48] c = List.replicate c 48 := by
  induction c with
  | zero => rfl
  | succ c ih => rw [Lib.repeatL, ih, List.replicate_succ]; rfl
theorem ba_list (l : List UInt8) : (⟨l.toArray⟩ : ByteArray).data.toList = l := rfl

theorem Lim.alloc_ {w : World} {v : Value} {l : List Nat} (h : Lim w v l) (o : Obj) : Lim (w.alloc o) v l := h.gr ((Gr.rf w).alloc (Nat.le_refl _) o)
theorem own_gr {w w' : World} {base : Nat} {e : TypeId} {s n : Nat} {v : Value} {xs : List Value} (h : w.ownsRow base e s v n xs) (hg : Gr w w') : w'.ownsRow base e s v n xs := by
  refine ⟨h.1, ?_⟩
  rcases h.2 with h1 | ⟨g, cap, cur, hv, hb, hh, hrest⟩
  · exact .inl h1
  · exact .inr ⟨g, cap, cur, hv, hb, (hg.block g (heap_lt hh)).trans hh, hrest⟩
/-- The two callees that make a part. -/
theorem fmt_ex (r : Nat) (hr : r < 1000000000000000000) : ∃ S : ByteArray, S.data.toList = Lib.decDigits r ∧ 1 ≤ S.size ∧ S.size ≤ 18 ∧
    ∀ w, PowTab w → Calls Tryz.prog 146 #[.int .u64 (r : Int), .int .i64 10] w fun e w' => e = .returned (.string S) ∧ Gr w w' := by
  have h1 := nd_le 18 r (by decide) hr
  have h2 := nd_pos r
  refine ⟨⟨(Lib.decDigits r).toArray⟩, rfl, ?_, ?_, fun w hT => formatUint_calls r (by omega) w hT⟩
  · simpa [ByteArray.size] using h2
  · simpa [ByteArray.size] using h1
theorem rep_ex (c : Nat) (hc : c ≤ 100000) : ∃ R : ByteArray, R.data.toList = List.replicate c 48 ∧ R.size = c ∧
    ∀ w, Calls Tryz.prog 83 #[.string ⟨#[48]⟩, .int .i64 (c : Int)] w fun e w' => e = .returned (.string R) ∧ Gr w w' := by
  refine ⟨⟨(Lib.repeatL [48] c).toArray⟩, by rw [ba_list, rep48], by simp [ByteArray.size, rep48], fun w => ?_⟩
  refine (Tryz.strings_Repeat ⟨#[48]⟩ c w (by omega) (by simp [ByteArray.size]; omega)).mono ?_
  rintro e w' ⟨rfl, hb⟩
  exact ⟨rfl, Gr.below hb⟩

set_option maxRecDepth 100000 in
set_option maxHeartbeats 8000000 in
/-- (*Nat).Text. -/
theorem text_nat (x : Value) (n : Nat) (w : World) (hx : NatAt w x n) (m : Nat) (hn : n < B ^ m) (hm0 : 1 ≤ m) (hm : m ≤ 1000) (hT : PowTab w) :
    Calls Tryz.prog 101 #[x] w fun e w' => e = .returned (.string ⟨(Lib.decDigits n).toArray⟩) ∧ Gr w w' := by
  obtain ⟨i0, hi, hz0, hz1, hz2⟩ := info_parts info9
  obtain ⟨sa, p0, sc, hl, hnm, hv, hcl⟩ := limbs_ex x n w hx
  have h1 := norm_length p0 hnm m (by rw [hv]; exact hn)
  have HCL := Lib.hid (clone_lim _ p0 w hl (by omega))
  have HL := Lib.hid hcl
  have HV := Lib.hid (And.intro hv hnm)
  have HTT := Lib.hid hT
  have hnd : (Lib.decDigits n).length ≤ 20 * m := nd_le (20 * m) n (by omega) (Nat.lt_of_lt_of_le hn (B_le_ten m))
  have HND := Lib.hid hnd
  have HN := Lib.hid hn
  clear hl hnm hv hcl hx hT hn hnd
  go_enter Tryz.func101, Tryz.ntmps101
  go_wp2_with (go_at_call 129; (with_reducible refine HL.out.mono ?_); rintro ev w1 ⟨rfl, rfl⟩)
  go_wp2_with (go_at_call 145; (with_reducible refine HCL.out.mono ?_); rintro ev w1 ⟨⟨a1, c1, rfl, hl1⟩, hg1⟩; have HL1 := Lib.hid hl1; clear hl1)
  go_loopg [3, 4] n (fun k pv lv wr => ∃ (p : List Nat) (a : Option Addr) (c : Nat) (strs : List ByteArray), k = val p ∧ lv = .slice a p.length c ∧ Lim wr (.slice a p.length c) p ∧ Norm p ∧ wr.ownsRow w.heap.size 9 1 pv strs.length (strs.map Value.string) ∧ TextInv n (val p) strs ∧ val p ≤ n ∧ p.length ≤ m ∧ Gr w wr)
  case atStart => exact ⟨p0, a1, c1, [], HV.out.1.symm, rfl, HL1.out, HV.out.2, World.ownsRow_nil _ _ _ _, by rw [HV.out.1]; exact textInv_start n, by rw [HV.out.1]; exact Nat.le_refl _, h1, hg1⟩
  case round =>
    obtain ⟨p, a, c, strs, hk, rfl, hlim, hnm, hown, hinv, hle, hpm, hgr⟩ := hrel
    have HK := Lib.hid hk
    have HLM := Lib.hid hlim
    have HNM := Lib.hid hnm
    have HI := Lib.hid hinv
    have HLE := Lib.hid hle
    clear hk hlim hnm hinv hle
    by_cases hpl : 0 < p.length
    · have hv0 : 0 < val p := Nat.pos_of_ne_zero fun e => by have := (norm_zero p HNM.out).1 e; subst this; exact absurd hpl (by simp)
      have hsl : strs.length ≤ 20 * m := by
        have i1 := HI.out.1
        have i2 := congrArg List.length (HI.out.2.1 hv0)
        rw [List.length_append] at i2
        have := HND.out
        omega
      have hn0 : 0 < n := by have := HLE.out; omega
      have HV0 := Lib.hid (And.intro hv0 hn0)
      have hs := short_calls a c p 1000000000000000000 wr HLM.out (by decide) (by decide) (by omega)
      rw [show ((1000000000000000000 : Nat) : Int) = 1000000000000000000 from rfl] at hs
      have hr18 := Nat.mod_lt (val p) (show 0 < 1000000000000000000 by decide)
      have hmore := textInv_more HI.out hn0
      have hlast := textInv_last HI.out hn0 hv0
      have hqle : val p / 1000000000000000000 < val p := Nat.div_lt_self hv0 (by decide)
      generalize val p % 1000000000000000000 = rm at hs hr18 hmore hlast
      generalize val p / 1000000000000000000 = qq at hs hmore hlast hqle
      obtain ⟨S, hS, hS1, hS2, hfu⟩ := fmt_ex rm hr18
      have HQL := Lib.hid hqle
      have HSH := Lib.hid hs
      have HMO := Lib.hid hmore
      have HLA := Lib.hid hlast
      have HFU := Lib.hid hfu
      have HSS := Lib.hid hS
      clear hv0 hn0 hs hr18 hmore hlast hfu hS hqle
      go_wp2_with (go_at_call 131; (with_reducible refine HSH.out.mono ?_); rintro ev w2 ⟨rfl, ⟨l', hl1, hl2, hl3⟩, hg2⟩)
      have HL1 := Lib.hid hl1
      have HL2 := Lib.hid hl2
      rw [← hl1] at hl3
      have hmd := made_ex _ _ l' w2 hl3 (by omega)
      rw [hl1, hl2] at hmd
      have HMD := Lib.hid hmd
      clear hl1 hl2 hl3 hmd
      go_wp2_with (go_at_call 128; (with_reducible refine HMD.out.mono ?_); rintro ev w3 ⟨⟨b3, l3, rfl, hc3, hl3, hn3, hv3, _⟩, hg3⟩; have HL3 := Lib.hid hl3; have HN3 := Lib.hid hn3; have HV3 := Lib.hid hv3; clear hl3 hn3 hv3)
      have hg23 := hgr.tr (hg2.tr hg3)
      have HF3 := Lib.hid (HFU.out w3 (HTT.out.gr hg23))
      have hl3m : l3.length ≤ m := norm_length l3 HN3.out m (by rw [HV3.out]; exact Nat.lt_of_lt_of_le (Nat.lt_of_lt_of_le HQL.out HLE.out) (Nat.le_of_lt HN.out))
      clear hc3
      by_cases hq : 0 < l3.length
      · have hqq : 0 < qq := by rw [← HV3.out]; exact Nat.pos_of_ne_zero fun e => by have := (norm_zero l3 HN3.out).1 e; subst this; exact absurd hq (by simp)
        obtain ⟨R, hR, hR1, hrep⟩ := rep_ex (18 - S.size) (by omega)
        have hcz : ((18 - S.size : Nat) : Int) = 18 - (S.size : Int) := by omega
        rw [hcz] at hrep
        have hpad : (R ++ S).data.toList = padN 18 rm := by
          have e1 : S.size = (Lib.decDigits rm).length := by rw [← HSS.out]; exact Array.length_toList.symm
          rw [ByteArray.data_append, Array.toList_append, hR, HSS.out, e1]; rfl
        have hsz : (R ++ S).size = 18 := by rw [ByteArray.size_append, hR1]; omega
        have HRE := Lib.hid hrep
        have HPD := Lib.hid hpad
        have HQQ := Lib.hid hqq
        clear hR hcz hrep hpad hqq
        go_wp2_with (go_at_call 146; (with_reducible refine HF3.out.mono ?_); rintro ev w4 ⟨rfl, hg4⟩)
        go_wp2_with (first
          | (go_at_call 83; (with_reducible refine (HRE.out _).mono ?_); rintro ev w5 ⟨rfl, hg5⟩; have hown5 := own_gr hown (hg2.tr (hg3.tr (hg4.tr hg5))))
          | (at_builtin; refine wpList_append_own _ rfl _ _ 170 rfl w.heap.size 9 i0 (.string ⟨#[]⟩) 1 16 Tryz.underlying170 hi hz0 hz1 hz2 rfl (by decide) _ _ _ rfl (hown5.alloc _) ⟨w5.heap.size, 0, none⟩ 1 1 [.string (R ++ S)] rfl rfl ?c1 ?c2 ?c3 ?c4 ?c5 ?_))
        case c1 => exact cell_one_new _ _ _
        case c2 => simp [Value.oneCell']
        case c3 => simp only [maxLen]; omega
        case c4 => omega
        case c5 => have := ((hg23.tr hg4).tr hg5).size; simp; omega
        intro v' w6 hown6 hgrow _
        have hg6 : Gr w w6 := (((hg23.tr hg4).tr hg5).alloc ((hg23.tr hg4).tr hg5).size _).grown hgrow (by have := ((hg23.tr hg4).tr hg5).size; simp; omega) (fun k hk => (hown.lt k hk).1)
        have hl6 := ((HL3.out.gr (hg4.tr hg5)).alloc_ (.cells #[.string (R ++ S)] 9)).grown hgrow (fun g o e => by injection e with e; injection e with e1; subst e1; intro h; have := (hown.lt _ h.symm).2; omega)
        go_wp2
        go_roundg qq
        case measure => have := HK.out; have := HQL.out; omega
        case rel => exact ⟨l3, _, _, strs ++ [R ++ S], HV3.out.symm, rfl, hl6, HN3.out, by simpa using hown6, by rw [HV3.out]; exact HMO.out (R ++ S) HQQ.out HPD.out, by rw [HV3.out]; exact Nat.le_trans (Nat.le_of_lt HQL.out) HLE.out, hl3m, hg6⟩
      · have hqq : qq = 0 := by
          have hnil : l3 = [] := List.eq_nil_of_length_eq_zero (by omega)
          rw [← HV3.out, hnil]; rfl
        have HQQ := Lib.hid hqq
        clear hqq
        go_wp2_with (first
          | (go_at_call 146; (with_reducible refine HF3.out.mono ?_); rintro ev w5 ⟨rfl, hg4⟩; have hown5 := own_gr hown (hg2.tr (hg3.tr hg4)))
          | (at_builtin; refine wpList_append_own _ rfl _ _ 170 rfl w.heap.size 9 i0 (.string ⟨#[]⟩) 1 16 Tryz.underlying170 hi hz0 hz1 hz2 rfl (by decide) _ _ _ rfl (hown5.alloc _) ⟨w5.heap.size, 0, none⟩ 1 1 [.string (S)] rfl rfl ?c1 ?c2 ?c3 ?c4 ?c5 ?_))
        case c1 => exact cell_one_new _ _ _
        case c2 => simp [Value.oneCell']
        case c3 => simp only [maxLen]; omega
        case c4 => omega
        case c5 => have := (hg23.tr hg4).size; simp; omega
        intro v' w6 hown6 hgrow _
        have hg6 : Gr w w6 := ((hg23.tr hg4).alloc (hg23.tr hg4).size _).grown hgrow (by have := (hg23.tr hg4).size; simp; omega) (fun k hk => (hown.lt k hk).1)
        have hl6 := ((HL3.out.gr hg4).alloc_ (.cells #[.string (S)] 9)).grown hgrow (fun g o e => by injection e with e; injection e with e1; subst e1; intro h; have := (hown.lt _ h.symm).2; omega)
        go_wp2
        go_roundg qq
        case measure => have := HK.out; have := HQL.out; omega
        case rel => exact ⟨l3, _, _, strs ++ [S], HV3.out.symm, rfl, hl6, HN3.out, by simpa using hown6, by rw [HV3.out]; exact HLA.out S HQQ.out HSS.out, by rw [HV3.out]; exact Nat.le_trans (Nat.le_of_lt HQL.out) HLE.out, hl3m, hg6⟩
    · have hp0 : p = [] := List.eq_nil_of_length_eq_zero (by omega)
      have hv0 : val p = 0 := by rw [hp0]; rfl
      have hinv := HI.out
      rw [hv0] at hinv
      by_cases hn0 : n = 0
      · have hs := hinv.2.2.2 hn0
        subst hs
        subst hn0
        clear hp0 hv0 hinv
        rcases hown.2 with ⟨rfl, _⟩ | ⟨g, cap, cur, rfl, _⟩
        all_goals
          clear hown
          go_wp2
          go_ret
          exact ⟨ret_str (by rw [Lib.decDigits_one (show 0 < 10 by decide)]; rfl), hgr⟩
      · obtain ⟨hs, hd⟩ := hinv.2.2.1 rfl (by omega)
        have hsl : strs.length ≤ 20 * m := by
          have i1 := hinv.1
          rw [← hd] at i1
          have := HND.out
          omega
        have hpos : 0 < strs.length := List.length_pos_iff.2 hs
        obtain ⟨g, cap, rfl, hg1, hg2, hcap, hmx, hlen, hcells, hfr⟩ := own_strs hown hpos
        have hb : ((strs.length : Int) == 0) = false := beq_eq_false_iff_ne.2 (by omega)
        have HR := Lib.hid (rev_calls g cap strs wr (by omega) hcells hfr)
        have HD := Lib.hid hd
        clear hp0 hv0 hinv hown hcells hfr hlen hs hd
        go_wp2_with (go_at_call 147; (with_reducible refine HR.out.mono ?_); rintro ev w2 ⟨rfl, hc2, hgw2⟩; have HC2 := Lib.hid hc2; clear hc2)
        have hgr2 := grown_gr hgr hgw2 hg1
        have hj := Tryz.strings_Join g 0 cap strs.reverse ⟨#[]⟩ w2 HC2.out (Nat.lt_of_lt_of_le hg2 hgw2.size) (by rw [List.length_reverse]; omega) (by rw [List.length_reverse]; exact hcap) (by
          rw [show (⟨#[]⟩ : ByteArray).data.toList = [] from rfl, join_flat]
          have h2 := HD.out
          unfold tailOf at h2
          rw [← h2]
          have := HND.out
          omega)
        rw [List.length_reverse, show (⟨#[]⟩ : ByteArray).data.toList = [] from rfl, join_flat] at hj
        have hj2 : (strs.reverse.map fun s => s.data.toList).flatten = Lib.decDigits n := HD.out.symm
        rw [hj2] at hj
        have HJ := Lib.hid hj
        clear hj hj2
        go_wp2_with (go_at_call 148; (with_reducible refine HJ.out.mono ?_); rintro ev w3 ⟨rfl, hb3⟩)
        go_ret
        exact ⟨rfl, hgr2.tr (Gr.below hb3)⟩
end Go.Proofs.YtgejadnfeeoknaaGreatDoor
