/- Layer 2: less, common, Gcd by contract, of numbers of any length. -/
import Derived.Test.YtglbdafcfcmffaaGreatDoorTf
import Derived.Test.YtglbdafcfcmffaaGreatDoorTd
import Derived.Test.YtglbdafcfcmffaaGreatDoorGi
namespace Go.Proofs.YtglbdafcfcmffaaGreatDoor
open Go.RowKit Go.Extern.Stop Go.Stop Go.Extern
set_option linter.unusedVariables false
set_option linter.unusedSimpArgs false

set_option maxRecDepth 100000 in
set_option maxHeartbeats 8000000 in
/-- nat.less. -/
theorem less_calls (g N h M : Nat) (u v : Value) (x y : Nat) (w : World) (hx : OwnN w g N u x) (hy : OwnN w h M v y) (hgh : h ≠ g) (hlt : y < x) :
    Calls Tryz.prog 189 #[u, v] w fun e w' => (∃ u', e = .returned u' ∧ OwnN w' g N u' (x - y)) ∧ w.grownBy w' (some g) := by
  obtain ⟨lq, hlq, hnq, hvq, hlq6⟩ := hy.lim
  obtain ⟨o, n, c, F, rfl, hF, hoN, hnc, hcc, hn6, hFB, hv⟩ := hx.cells
  obtain ⟨ya, yc, rfl⟩ := hlq.slice
  have hpl : ((List.range n).map fun j => F (o + j)).length = n := by simp
  have hpL : Limbs ((List.range n).map fun j => F (o + j)) := fun z hz => by
    obtain ⟨j, _, rfl⟩ := List.mem_map.1 hz
    exact hFB _
  have hpv : val ((List.range n).map fun j => F (o + j)) = x := by rw [rv_val]; exact hv
  have hpg : ∀ j, j < n → ((List.range n).map fun j => F (o + j)).getD j 0 = F (o + j) := fun j hj => row_getD (fun j => F (o + j)) n j hj
  generalize (List.range n).map (fun j => F (o + j)) = p at hpl hpL hpv hpg
  have hle : lq.length ≤ n := by rw [← hpl]; exact length_le_of_val p lq hpL hnq (by omega)
  have hsv := val_sub p lq hpL hlq.1 (by omega) (by omega)
  rw [hpl, hpv, hvq] at hsv
  have HSV := Lib.hid hsv
  have HPG := Lib.hid hpg
  have HFF := Lib.hid hF
  have HFB := Lib.hid hFB
  have HQ := Lib.hid hlq
  have HGH := Lib.hid hgh
  have hqg : ∀ w', w.grownBy w' (some g) → ∀ i, i < lq.length → ∃ g2 o2 c2, (Value.slice ya lq.length yc = .slice (some ⟨g2, o2, none⟩) lq.length c2) ∧ w'.cell? ⟨g2, o2 + i, none⟩ = some (.int .u64 ((lq.getD i 0 : Nat) : Int)) := fun w' hg i hi => by
    obtain ⟨o', n', c', F', e1, h2, _⟩ := hy
    obtain ⟨g2, o2, c2, e3, _, hc⟩ := lim_cells hlq (by omega)
    cases e3
    cases e1
    exact ⟨_, _, _, rfl, (hc.grown hg hgh).2 i hi⟩
  have HQG := Lib.hid hqg
  clear hx hy hlt hlq hnq hvq hlq6 hF hFB hv hpL hpv hpg hsv hgh hqg
  go_enter Tryz.func189, Tryz.ntmps189
  go_wp2
  go_loopg [5, 10] n (fun k sb si wr => ∃ (i : Nat) (F2 : Nat → Nat), k = n - i ∧ i ≤ n ∧ sb = .int .u64 ((subC (p.getD · 0) (lq.getD · 0) i : Nat) : Int) ∧ si = .int .i64 (i : Int) ∧ Hid (OwnF wr g N F2) ∧ Hid (∀ j, F2 j < B) ∧ Hid (∀ j, j < i → F2 (o + j) = subD (p.getD · 0) (lq.getD · 0) j) ∧ Hid (∀ j, i ≤ j → F2 (o + j) = F (o + j)) ∧ Hid (w.grownBy wr (some g)))
  case atStart => exact ⟨0, F, rfl, Nat.zero_le _, rfl, rfl, HFF, HFB, Lib.hid (fun j hj => absurd hj (by omega)), Lib.hid (fun _ _ => rfl), Lib.hid (grownBy_rf w g)⟩
  case round =>
    obtain ⟨i, F2, hk, hi, rfl, rfl, HO, HF2, HE1, HE2, HGW⟩ := hrel
    have HK := Lib.hid hk
    clear hk
    by_cases hlt : i < n
    · have b1 : decide (i < n) = true := decide_eq_true hlt
      have hcell := HO.out.cell (i := o + i) (by omega)
      have hfr := HO.out.frozen (o + i)
      rw [HE2.out i (Nat.le_refl _), ← HPG.out i hlt] at hcell
      have hsb := sub64_run (p.getD i 0) (lq.getD i 0) (subC (p.getD · 0) (lq.getD · 0) i) (subC_le _ _ i)
      have hsd : suLo (p.getD i 0) (lq.getD i 0) (subC (p.getD · 0) (lq.getD · 0) i) = subD (p.getD · 0) (lq.getD · 0) i := rfl
      have hsc : suHi (p.getD i 0) (lq.getD i 0) (subC (p.getD · 0) (lq.getD · 0) i) = subC (p.getD · 0) (lq.getD · 0) (i + 1) := rfl
      rw [hsd, hsc] at hsb
      have hsl : subD (p.getD · 0) (lq.getD · 0) i < B := suLo_lt _ _ _
      have hq0 : ¬ i < lq.length → lq.getD i 0 = 0 := fun h => by rw [List.getD_eq_getElem?_getD, List.getElem?_eq_none (by omega)]; rfl
      have hqc := HQG.out wr HGW.out i
      generalize hdd : subD (p.getD · 0) (lq.getD · 0) i = d at *
      generalize hc2 : subC (p.getD · 0) (lq.getD · 0) (i + 1) = c2 at *
      generalize subC (p.getD · 0) (lq.getD · 0) i = c1 at *
      generalize p.getD i 0 = xx at *
      have HDD := Lib.hid hdd
      have HC2 := Lib.hid hc2
      have HSL := Lib.hid hsl
      clear hdd hc2 hsl hsd hsc
      by_cases hlq2 : i < lq.length
      case' pos =>
        have b2 : decide (i < lq.length) = true := decide_eq_true hlq2
        obtain ⟨g2, o2, c3, e2, hcq⟩ := hqc hlq2
        cases e2
        clear hq0 hqc
        generalize lq.getD i 0 = yy at *
      case' neg =>
        have b2 : decide (i < lq.length) = false := decide_eq_false hlq2
        rw [hq0 hlq2, show ((0 : Nat) : Int) = 0 from rfl] at hsb
        clear hq0 hqc
      all_goals
        go_wp2
        go_roundg (n - (i + 1))
        case measure => have := HK.out; omega
        case rel => exact ⟨i + 1, (fun j => if j = o + i then d else F2 j), rfl, by omega, by rw [HC2.out], by first | rfl | go_num, Lib.hid (HO.out.set (o + i) d), Lib.hid (set_lt HF2.out HSL.out), Lib.hid (fun j hj => by
          by_cases e : j = i
          · subst e; dsimp only; rw [if_pos rfl]; exact HDD.out.symm
          · dsimp only; rw [if_neg (by omega)]; exact HE1.out j (by omega)), Lib.hid (fun j hj => by dsimp only; rw [if_neg (by omega)]; exact HE2.out j (by omega)), Lib.hid (grownBy_set HGW.out _ _)⟩
    · obtain rfl : i = n := by omega
      have b1 : decide (i < i) = false := decide_eq_false (by omega)
      have hmd := madeOwn_calls g o c i (fun j => F2 (o + j)) wr (HO.out.cells o i (by omega)) hn6 (by omega)
      have HMD := Lib.hid hmd
      have hval : rv B (fun j => F2 (o + j)) i = x - y := by
        rw [← HSV.out, rv_val]
        exact rv_congr B fun j hj => HE1.out j hj
      have HVL := Lib.hid hval
      clear hmd hval
      go_wp2_with fail
      (with_reducible refine HMD.out.mono ?_)
      rintro ev w2 ⟨rfl, m, hm1, hm2, hm3, rfl⟩
      have HM2 := Lib.hid hm2
      have HM3 := Lib.hid hm3
      clear hm2 hm3
      go_wp2
      go_ret
      exact ⟨⟨_, rfl, o, m, c, F2, rfl, HO.out.of_block (Below.heap_alloc wr _ g HO.out.lt), by omega, by omega, by omega, by omega, HF2.out, HM2.out, by rw [HM3.out]; exact HVL.out⟩, grownBy_alloc HGW.out _⟩

theorem two_parts (x : Nat) (h : x ≠ 0) : ∃ t p, x = 2 ^ t * p ∧ p % 2 = 1 := by
  induction x using Nat.strongRecOn with
  | _ x ih =>
    rcases Nat.mod_two_eq_zero_or_one x with h2 | h2
    · obtain ⟨t, p, e1, e2⟩ := ih (x / 2) (by omega) (by omega)
      refine ⟨t + 1, p, ?_, e2⟩
      rw [Nat.pow_succ, Nat.mul_comm (2 ^ t) 2, Nat.mul_assoc, ← e1]
      omega
    · exact ⟨0, x, by simp, h2⟩
theorem two_le (x t p k : Nat) (e : x = 2 ^ t * p) (hp : p % 2 = 1) (hx : x < B ^ k) : t ≤ 64 * k ∧ p ≤ x := by
  have h1 : 2 ^ t * 1 ≤ 2 ^ t * p := Nat.mul_le_mul_left _ (by omega)
  rw [B_pow64] at hx
  refine ⟨?_, by rw [e]; exact Nat.le_mul_of_pos_left _ (Nat.two_pow_pos t)⟩
  have h2 : 2 ^ t < 2 ^ (64 * k) := by omega
  exact Nat.le_of_lt ((Nat.pow_lt_pow_iff_right (by decide : 1 < 2)).1 h2)
set_option maxRecDepth 100000 in
/-- slices.Clone of a number's limbs. -/
theorem cloneN_calls (x : Value) (p : List Nat) (w : World) (hx : Lim w x p) (hn : Norm p) (hne : 0 < p.length) (hl : p.length ≤ 1000000) :
    Calls Tryz.prog 116 #[x] w fun e w' => (∃ g v, e = .returned v ∧ OwnN w' g p.length v (val p) ∧ w.heap.size ≤ g) ∧ Gr w w' := by
  obtain ⟨g, o, c, rfl, hc, hcells⟩ := lim_cells hx hne
  refine (clone_calls g o p.length c p w rfl hl hcells.2).mono ?_
  rintro e w' ⟨v, rfl, hw, hb⟩
  obtain ⟨g2, c2, rfl, hg2, hc2, hc3, hO⟩ := ownF_of hw hne
  refine ⟨⟨g2, _, rfl, ⟨0, p.length, c2, _, rfl, hO, by omega, hc2, hc3, hl, getD_lt hx.1, ?_, ?_⟩, hg2⟩, Gr.below hb⟩
  · refine .inr fun e => hn ?_
    rw [Nat.zero_add] at e
    rw [List.getLast?_eq_getElem?, List.getElem?_eq_getElem (by omega)]
    rw [List.getD_eq_getElem?_getD, List.getElem?_eq_getElem (by omega)] at e
    rw [← e]; rfl
  · rw [← rv_list p p.length (Nat.le_refl _)]
    exact rv_congr B fun j _ => by rw [Nat.zero_add]

set_option maxRecDepth 100000 in
set_option maxHeartbeats 8000000 in
/-- nat.common. -/
theorem common_calls (x y : Value) (l1 l2 : List Nat) (w : World) (hT : BitTab w) (hx : Lim w x l1) (hy : Lim w y l2) (hn1 : Norm l1) (hn2 : Norm l2) (h10 : val l1 ≠ 0) (h20 : val l2 ≠ 0) (k : Nat) (h1k : val l1 < B ^ k) (h2k : val l2 < B ^ k) (hk : k ≤ 100000) :
    Calls Tryz.prog 141 #[x, y] w fun e w' => (∃ r, e = .returned r ∧ NatAt w' r (Nat.gcd (val l1) (val l2))) ∧ Gr w w' := by
  obtain ⟨s, p', e1, e2⟩ := two_parts (val l1) h10
  obtain ⟨t, q', e3, e4⟩ := two_parts (val l2) h20
  obtain ⟨hs, hp⟩ := two_le _ s p' k e1 e2 h1k
  obtain ⟨ht, hq⟩ := two_le _ t q' k e3 e4 h2k
  have hl1 := norm_length l1 hn1 k h1k
  have hl2 := norm_length l2 hn2 k h2k
  have hg : Nat.gcd (val l1) (val l2) = Nat.gcd p' q' * 2 ^ min s t := by rw [e1, e3, gcd_twos s t p' q' e2 e4, Nat.mul_comm]
  rw [hg]
  have hmm : min (s : Int) (t : Int) = ((min s t : Nat) : Int) := by omega
  have hmb : 2 ^ min s t ≤ val l1 := by
    rw [e1]
    calc 2 ^ min s t ≤ 2 ^ s := Nat.pow_le_pow_right (by decide) (Nat.min_le_left _ _)
      _ ≤ 2 ^ s * p' := Nat.le_mul_of_pos_right _ (by omega)
  have hm63 : min s t ≤ 6400000 := by omega
  generalize min s t = m at hg hmm hm63 hmb ⊢
  have H1 := Lib.hid (twosL_calls x l1 w hT hx h10 (by omega) s p' e1 e2)
  have H2 := Lib.hid (fun w' (hg : Gr w w') => twosL_calls y l2 w' (hT.gr hg) (hy.gr hg) h20 (by omega) t q' e3 e4)
  have hne1 : 0 < l1.length := List.length_pos_iff.2 (by rintro rfl; exact h10 rfl)
  have hne2 : 0 < l2.length := List.length_pos_iff.2 (by rintro rfl; exact h20 rfl)
  have HC1 := Lib.hid (fun w' (hg : Gr w w') => cloneN_calls x l1 w' (hx.gr hg) hn1 hne1 (by omega))
  have HC2 := Lib.hid (fun w' (hg : Gr w w') => cloneN_calls y l2 w' (hy.gr hg) hn2 hne2 (by omega))
  have HTT := Lib.hid hT
  have HP := Lib.hid (And.intro e2 (Nat.lt_of_le_of_lt hp h1k))
  have HQ := Lib.hid (And.intro e4 (Nat.lt_of_le_of_lt hq h2k))
  have HE := Lib.hid (And.intro e1 e3)
  have H0 := Lib.hid (And.intro h10 h20)
  have HMB := Lib.hid (Nat.lt_of_le_of_lt hmb h1k)
  clear hT hx hy hn1 hn2 e1 e2 e3 e4 hs hp ht hq hg h10 h20 h1k h2k hmb hne1 hne2
  go_enter Tryz.func141, Tryz.ntmps141
  go_wp2_with fail
  refine H1.out.mono ?_
  rintro ev w1 ⟨rfl, hg1⟩
  go_wp2_with fail
  refine (H2.out _ hg1).mono ?_
  rintro ev w2 ⟨rfl, hg2⟩
  have HG2 := Lib.hid (hg1.tr hg2)
  clear hg1 hg2
  go_wp2_with fail
  refine (HC1.out _ HG2.out).mono ?_
  rintro ev w3 ⟨⟨g, v1, rfl, how1, hg1⟩, hgr3⟩
  have HG3 := Lib.hid (HG2.out.tr hgr3)
  have hwg : w.heap.size ≤ g := Nat.le_trans HG2.out.size hg1
  have HD1 := Lib.hid (odd_calls g l1.length v1 (val l1) w3 (HTT.out.gr HG3.out) how1 H0.out.1 s p' HE.out.1 HP.out.1)
  clear hgr3 how1 hg1
  go_wp2_with fail
  refine HD1.out.mono ?_
  rintro ev w4 ⟨⟨u1, rfl, how4⟩, hgw4⟩
  have HO4 := Lib.hid how4
  have HG4 := Lib.hid (gr_grown HG3.out hgw4 hwg)
  clear how4 hgw4
  go_wp2_with fail
  refine (HC2.out _ HG4.out).mono ?_
  rintro ev w5 ⟨⟨h, v2, rfl, how5, hh1⟩, hgr5⟩
  have HG5 := Lib.hid (HG4.out.tr hgr5)
  have hgh : g < h := Nat.lt_of_lt_of_le HO4.out.lt hh1
  have hwh : w.heap.size ≤ h := by omega
  have HO5 := Lib.hid (HO4.out.gr hgr5)
  have HD2 := Lib.hid (odd_calls h l2.length v2 (val l2) w5 (HTT.out.gr HG5.out) how5 H0.out.2 t q' HE.out.2 HQ.out.1)
  clear hgr5 how5 hh1
  go_wp2_with fail
  refine HD2.out.mono ?_
  rintro ev w6 ⟨⟨u2, rfl, how6⟩, hgw6⟩
  have HO6 := Lib.hid how6
  have HO6a := Lib.hid (HO5.out.grown hgw6 (by omega))
  have HG6 := Lib.hid (gr_grown HG5.out hgw6 hwh)
  clear how6 hgw6 hmm
  go_wp2_with fail
  go_loopg [0, 1] (p' + q') (fun n s0 s1 wr => ∃ (g h N M x y : Nat), n = x + y ∧ g ≠ h ∧ w.heap.size ≤ g ∧ w.heap.size ≤ h ∧ x % 2 = 1 ∧ y % 2 = 1 ∧ Hid (OwnN wr g N s0 x) ∧ Hid (OwnN wr h M s1 y) ∧ Hid (x < B ^ k ∧ y < B ^ k) ∧ Hid (Nat.gcd x y = Nat.gcd p' q') ∧ Hid (Gr w wr))
  case atStart => exact ⟨g, h, l1.length, l2.length, p', q', rfl, by omega, hwg, hwh, HP.out.1, HQ.out.1, HO6a, HO6, Lib.hid ⟨HP.out.2, HQ.out.2⟩, Lib.hid rfl, HG6⟩
  case round =>
    obtain ⟨g, h, N, M, x, y, hn, hgh, hwg, hwh, hx1, hy1, HX, HY, HB, HGC, HGR⟩ := hrel
    have HN := Lib.hid hn
    clear hn
    obtain ⟨la, hla, hna, hva, hla6⟩ := HX.out.lim
    obtain ⟨lb, hlb, hnb, hvb, hlb6⟩ := HY.out.lim
    have hcmp := compare_calls _ _ la lb wr hla hlb hna hnb (by omega) (by omega)
    rw [hva, hvb] at hcmp
    rcases Nat.lt_trichotomy x y with hlt | heq | hgt
    · rw [cmpN_lt hlt] at hcmp
      have HCM := Lib.hid hcmp
      obtain ⟨t2, p2, e1, e2⟩ := two_parts (y - x) (by omega)
      have hgl := gcd_less y x t2 p2 hx1 (by omega) e1
      have hpl : p2 ≤ y - x := by rw [e1]; exact Nat.le_mul_of_pos_left _ (Nat.two_pow_pos t2)
      have HE1 := Lib.hid e1
      have HGL := Lib.hid hgl
      clear hcmp hla hlb hna hnb hva hvb e1 hgl
      go_wp2_with fail
      refine HCM.out.mono ?_
      rintro ev w1 ⟨rfl, hg1⟩
      have HLS := Lib.hid (less_calls h M g N _ _ y x w1 (HY.out.gr hg1) (HX.out.gr hg1) hgh hlt)
      have HX1 := Lib.hid (HX.out.gr hg1)
      have HG1 := Lib.hid (HGR.out.tr hg1)
      clear hg1
      go_wp2_with fail
      refine HLS.out.mono ?_
      rintro ev w2 ⟨⟨u', rfl, ho2⟩, hgw2⟩
      have HX2 := Lib.hid (HX1.out.grown hgw2 hgh)
      have HG2' := Lib.hid (gr_grown HG1.out hgw2 hwh)
      have HDO := Lib.hid (odd_calls h M u' (y - x) w2 (HTT.out.gr HG2'.out) ho2 (by omega) t2 p2 HE1.out e2)
      clear ho2 hgw2
      go_wp2_with fail
      refine HDO.out.mono ?_
      rintro ev w3 ⟨⟨u3, rfl, ho3⟩, hgw3⟩
      have HX3 := Lib.hid (HX2.out.grown hgw3 hgh)
      have HG3' := Lib.hid (gr_grown HG2'.out hgw3 hwh)
      have HO3 := Lib.hid ho3
      clear ho3 hgw3
      go_wp2
      go_roundg (p2 + x)
      case measure => have := HN.out; omega
      case rel => exact ⟨h, g, M, N, p2, x, rfl, fun e => hgh e.symm, hwh, hwg, e2, hx1, HO3, HX3, Lib.hid ⟨Nat.lt_of_le_of_lt (by omega) HB.out.2, HB.out.1⟩, Lib.hid (by rw [HGL.out, Nat.gcd_comm]; exact HGC.out), HG3'⟩
    · subst heq
      rw [cmpN_eq] at hcmp
      have HCM := Lib.hid hcmp
      have hmd := fun w1 (hg : Gr wr w1) => made_calls _ la w1 (hla.gr hg) (by omega)
      rw [hva] at hmd
      have HMD := Lib.hid hmd
      clear hcmp hla hlb hna hnb hva hvb hmd
      go_wp2_with fail
      refine HCM.out.mono ?_
      rintro ev w1 ⟨rfl, hg1⟩
      go_wp2_with (go_at_call 112; (with_reducible refine (HMD.out _ hg1).mono ?_); rintro ev w2 ⟨⟨r2, rfl, hr2⟩, hg2⟩; have HR2 := Lib.hid hr2; clear hr2)
      go_wp2_with (go_at_call 143; (with_reducible refine (bit_calls m (by omega) _).mono ?_); rintro ev w3 ⟨⟨r3, rfl, hr3⟩, hg3⟩; have HR3 := Lib.hid hr3; clear hr3)
      have HMU := Lib.hid (mul_calls _ _ x (2 ^ m) w3 (HR2.out.gr hg3).at_ HR3.out.at_ k HB.out.1 HMB.out (by omega))
      go_wp2_with (go_at_call 43; (with_reducible refine HMU.out.mono ?_); rintro ev w4 ⟨⟨r4, rfl, hr4⟩, hg4⟩; have HR4 := Lib.hid hr4; clear hr4)
      go_ret
      refine ⟨⟨_, rfl, ?_⟩, (((HGR.out.tr hg1).tr hg2).tr hg3).tr hg4⟩
      have := HGC.out
      rw [Nat.gcd_self] at this
      rw [← this]
      exact HR4.out.at_
    · rw [cmpN_gt hgt] at hcmp
      have HCM := Lib.hid hcmp
      obtain ⟨t2, p2, e1, e2⟩ := two_parts (x - y) (by omega)
      have hgl := gcd_less x y t2 p2 hy1 (by omega) e1
      have hpl : p2 ≤ x - y := by rw [e1]; exact Nat.le_mul_of_pos_left _ (Nat.two_pow_pos t2)
      have HE1 := Lib.hid e1
      have HGL := Lib.hid hgl
      clear hcmp hla hlb hna hnb hva hvb e1 hgl
      go_wp2_with fail
      refine HCM.out.mono ?_
      rintro ev w1 ⟨rfl, hg1⟩
      have HLS := Lib.hid (less_calls g N h M _ _ x y w1 (HX.out.gr hg1) (HY.out.gr hg1) (fun e => hgh e.symm) hgt)
      have HY1 := Lib.hid (HY.out.gr hg1)
      have HG1 := Lib.hid (HGR.out.tr hg1)
      clear hg1
      go_wp2_with fail
      refine HLS.out.mono ?_
      rintro ev w2 ⟨⟨u', rfl, ho2⟩, hgw2⟩
      have HY2 := Lib.hid (HY1.out.grown hgw2 (fun e => hgh e.symm))
      have HG2' := Lib.hid (gr_grown HG1.out hgw2 hwg)
      have HDO := Lib.hid (odd_calls g N u' (x - y) w2 (HTT.out.gr HG2'.out) ho2 (by omega) t2 p2 HE1.out e2)
      clear ho2 hgw2
      go_wp2_with fail
      refine HDO.out.mono ?_
      rintro ev w3 ⟨⟨u3, rfl, ho3⟩, hgw3⟩
      have HY3 := Lib.hid (HY2.out.grown hgw3 (fun e => hgh e.symm))
      have HG3' := Lib.hid (gr_grown HG2'.out hgw3 hwg)
      have HO3 := Lib.hid ho3
      clear ho3 hgw3
      go_wp2
      go_roundg (p2 + y)
      case measure => have := HN.out; omega
      case rel => exact ⟨g, h, N, M, p2, y, rfl, hgh, hwg, hwh, e2, hy1, HO3, HY3, Lib.hid ⟨Nat.lt_of_le_of_lt (by omega) HB.out.1, HB.out.2⟩, Lib.hid (by rw [HGL.out]; exact HGC.out), HG3'⟩

set_option maxRecDepth 100000 in
set_option maxHeartbeats 4000000 in
/-- (*Nat).Gcd. -/
theorem gcd_calls (x y : Value) (a b : Nat) (w : World) (hT : BitTab w) (hx : NatAt w x a) (hy : NatAt w y b) (k0 : Nat) (ha : a < B ^ k0) (hb : b < B ^ k0) (hk0 : k0 ≤ 100000) :
    Calls Tryz.prog 69 #[x, y] w fun e w' => (∃ r, e = .returned r ∧ NatAt w' r (Nat.gcd a b)) ∧ Gr w w' := by
  have HC := Lib.hid (cmp_calls x y a b w hx hy k0 ha hb (by omega))
  have HTT := Lib.hid hT
  by_cases hlt : a < b
  case' pos =>
    have b1 : decide (cmpN a b < 0) = true := decide_eq_true (cmpN_neg.2 hlt)
    generalize cmpN a b = cc at b1 HC
    have HX := Lib.hid hy
    have HY := Lib.hid hx
    have hm : b < B ^ k0 := hb
    have hle : a ≤ b := by omega
    rw [Nat.gcd_comm]
    clear hx hy ha hb hlt hT
    obtain ⟨m, hm1⟩ : ∃ m, m = b := ⟨_, rfl⟩
    subst hm1
    obtain ⟨k, hk1⟩ : ∃ k, k = a := ⟨_, rfl⟩
    subst hk1
    obtain ⟨u, hu⟩ : ∃ u, u = y := ⟨_, rfl⟩
    subst hu
    obtain ⟨v, hv⟩ : ∃ v, v = x := ⟨_, rfl⟩
    subst hv
  case' neg =>
    have b1 : decide (cmpN a b < 0) = false := decide_eq_false (fun h => hlt (cmpN_neg.1 h))
    generalize cmpN a b = cc at b1 HC
    have HX := Lib.hid hx
    have HY := Lib.hid hy
    have hm : a < B ^ k0 := ha
    have hle : b ≤ a := by omega
    clear hx hy ha hb hlt hT
    obtain ⟨m, hm1⟩ : ∃ m, m = a := ⟨_, rfl⟩
    subst hm1
    obtain ⟨k, hk1⟩ : ∃ k, k = b := ⟨_, rfl⟩
    subst hk1
    obtain ⟨u, hu⟩ : ∃ u, u = x := ⟨_, rfl⟩
    subst hu
    obtain ⟨v, hv⟩ : ∃ v, v = y := ⟨_, rfl⟩
    subst hv
  all_goals
    have HB := Lib.hid (show m < B ^ k0 ∧ k < B ^ k0 from ⟨hm, by omega⟩)
    clear hm
    by_cases hk0 : k = 0
    · subst hk0
      go_enter Tryz.func69, Tryz.ntmps69
      go_wp2_with (go_at_call 47; (with_reducible refine HC.out.mono ?_); rintro ev w1 ⟨rfl, hg1⟩)
      have HZ := zero_calls v 0 w1 (HY.out.gr hg1)
      rw [show ((0 : Nat) == 0) = true from rfl] at HZ
      have HZ := Lib.hid HZ
      go_wp2_with (go_at_call 71; (with_reducible refine HZ.out.mono ?_); rintro ev w2 ⟨rfl, rfl⟩)
      obtain ⟨sa, p, sc, hl, hnm, hv, hcl⟩ := limbs_ex u m w1 (HX.out.gr hg1)
      have HMD := Lib.hid (made_calls _ p w1 hl (by have := norm_length p hnm k0 (by rw [hv]; exact HB.out.1); omega))
      rw [hv] at HMD
      have HL := Lib.hid hcl
      clear hl hnm hv hcl
      go_wp2_with (go_at_call 113; (with_reducible refine HL.out.mono ?_); rintro ev w2 ⟨rfl, rfl⟩)
      go_wp2_with (go_at_call 112; (with_reducible refine HMD.out.mono ?_); rintro ev w2 ⟨⟨r, rfl, hr⟩, hg2⟩; have HR := Lib.hid hr; clear hr)
      go_ret
      refine ⟨⟨_, rfl, ?_⟩, hg1.tr hg2⟩
      rw [Nat.gcd_zero_right]
      exact HR.out.at_
    · have hkb : (k == 0) = false := beq_eq_false_iff_ne.2 hk0
      have HK0 := Lib.hid hk0
      clear hk0
      go_enter Tryz.func69, Tryz.ntmps69
      go_wp2_with (go_at_call 47; (with_reducible refine HC.out.mono ?_); rintro ev w1 ⟨rfl, hg1⟩)
      have HZ := zero_calls v k w1 (HY.out.gr hg1)
      rw [hkb] at HZ
      have HZ := Lib.hid HZ
      go_wp2_with (go_at_call 71; (with_reducible refine HZ.out.mono ?_); rintro ev w2 ⟨rfl, rfl⟩)
      have HD := Lib.hid (div_calls u v m k w1 (HX.out.gr hg1) (HY.out.gr hg1) k0 HB.out.1 HB.out.2 (by omega))
      go_wp2_with (go_at_call 66; (with_reducible refine HD.out.mono ?_); rintro ev w2 ⟨⟨_, hdv⟩, hg2⟩; obtain ⟨qq, rr, rfl, hq1, hr1⟩ := hdv (Nat.pos_of_ne_zero HK0.out); have HQ1 := Lib.hid hq1; have HR1 := Lib.hid hr1; clear hq1 hr1 hdv)
      have hml := Nat.mod_lt m (Nat.pos_of_ne_zero HK0.out)
      have hgr : Nat.gcd m k = Nat.gcd k (m % k) := by rw [Nat.gcd_comm, Nat.gcd_rec, Nat.gcd_comm]
      generalize m % k = r at HR1 hml hgr
      have HML := Lib.hid hml
      have HGR := Lib.hid hgr
      clear hml hgr
      have HZ2 := zero_calls rr r w2 HR1.out
      by_cases hr0 : r = 0
      · rw [show (r == 0) = true from beq_iff_eq.2 hr0] at HZ2
        have HZ2 := Lib.hid HZ2
        have HR0 := Lib.hid hr0
        clear hr0
        go_wp2_with (go_at_call 71; (with_reducible refine HZ2.out.mono ?_); rintro ev w3 ⟨rfl, rfl⟩)
        obtain ⟨sa, p, sc, hl, hnm, hv, hcl⟩ := limbs_ex v k w2 ((HY.out.gr hg1).gr hg2)
        have HMD := Lib.hid (made_calls _ p w2 hl (by have := norm_length p hnm k0 (by rw [hv]; exact HB.out.2); omega))
        rw [hv] at HMD
        have HL := Lib.hid hcl
        clear hl hnm hv hcl
        go_wp2_with (go_at_call 113; (with_reducible refine HL.out.mono ?_); rintro ev w3 ⟨rfl, rfl⟩)
        go_wp2_with (go_at_call 112; (with_reducible refine HMD.out.mono ?_); rintro ev w3 ⟨⟨r3, rfl, hr3⟩, hg3⟩; have HR3 := Lib.hid hr3; clear hr3)
        go_ret
        refine ⟨⟨_, rfl, ?_⟩, (hg1.tr hg2).tr hg3⟩
        rw [HGR.out, HR0.out, Nat.gcd_zero_right]
        exact HR3.out.at_
      · rw [show (r == 0) = false from beq_eq_false_iff_ne.2 hr0] at HZ2
        have HZ2 := Lib.hid HZ2
        obtain ⟨sa1, pa, sc1, hla, hna, hva, hcl1⟩ := limbs_ex v k w2 ((HY.out.gr hg1).gr hg2)
        obtain ⟨sa2, pb, sc2, hlb, hnb, hvb, hcl2⟩ := limbs_ex rr r w2 HR1.out
        have HCO := common_calls _ _ pa pb w2 (HTT.out.gr (hg1.tr hg2)) hla hlb hna hnb (by rw [hva]; exact HK0.out) (by rw [hvb]; exact hr0) k0 (by rw [hva]; exact HB.out.2) (by rw [hvb]; exact Nat.lt_trans HML.out HB.out.2) hk0
        rw [hva, hvb] at HCO
        have HCO := Lib.hid HCO
        have HL1 := Lib.hid hcl1
        have HL2 := Lib.hid hcl2
        clear hla hlb hna hnb hva hvb hcl1 hcl2 hr0
        go_wp2_with (go_at_call 71; (with_reducible refine HZ2.out.mono ?_); rintro ev w3 ⟨rfl, rfl⟩)
        go_wp2_with (go_at_call 113; (with_reducible refine HL1.out.mono ?_); rintro ev w3 ⟨rfl, rfl⟩)
        go_wp2_with (go_at_call 113; (with_reducible refine HL2.out.mono ?_); rintro ev w3 ⟨rfl, rfl⟩)
        go_wp2_with (go_at_call 141; (with_reducible refine HCO.out.mono ?_); rintro ev w3 ⟨⟨r3, rfl, hr3⟩, hg3⟩; have HR3 := Lib.hid hr3; clear hr3)
        go_ret
        refine ⟨⟨_, rfl, ?_⟩, (hg1.tr hg2).tr hg3⟩
        rw [HGR.out]
        exact HR3.out
end Go.Proofs.YtglbdafcfcmffaaGreatDoor
