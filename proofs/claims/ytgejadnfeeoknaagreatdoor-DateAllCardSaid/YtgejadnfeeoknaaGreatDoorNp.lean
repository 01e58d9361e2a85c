/- Layer 2: short, Div by a number of one limb. -/
import Derived.Test.YtgejadnfeeoknaaGreatDoorNl
import Derived.Test.YtgejadnfeeoknaaGreatDoorNt
namespace Go.Proofs.YtgejadnfeeoknaaGreatDoor
open Go.RowKit Go.Extern.Stop Go.Stop Go.Extern
set_option linter.unusedVariables false
set_option linter.unusedSimpArgs false

set_option maxRecDepth 100000 in
set_option maxHeartbeats 4000000 in
/-- nat.short. -/
theorem short_calls (a : Option Addr) (c : Nat) (p : List Nat) (d : Nat) (w : World) (h : Lim w (.slice a p.length c) p) (hd0 : 0 < d) (hd : d < B) (hpk : p.length ≤ 1000000) :
    Calls Tryz.prog 131 #[.slice a p.length c, .int .u64 (d : Int)] w fun e w' =>
      e = .returned (.tuple #[.slice (some ⟨w.heap.size, 0, none⟩) p.length p.length, .int .u64 ((val p % d : Nat) : Int)]) ∧
      (∃ l', l'.length = p.length ∧ val l' = val p / d ∧ Lim w' (.slice (some ⟨w.heap.size, 0, none⟩) p.length p.length) l') ∧ Gr w w' := by
  have HP := Lib.hid h
  have hmk := make64 p.length (by omega)
  have HDB := Lib.hid hd
  have HD0 := Lib.hid hd0
  clear h hd hd0
  go_enter Tryz.func131, Tryz.ntmps131
  go_wp2
  clear hmk
  go_loopg [7, 8] p.length (fun n r i wr => ∃ (F : Nat → Nat) (rr : Nat), n ≤ p.length ∧ r = .int .u64 (rr : Int) ∧ i = .int .i64 ((n : Int) - 1) ∧ rr < d ∧ RowU wr w.heap.size p.length F ∧ (∀ j, F j < B) ∧ val (fromP F n p.length) * d + rr = val (p.drop n) ∧ Gr w wr)
  case atStart =>
    exact ⟨fun _ => 0, 0, Nat.le_refl _, rfl, rfl, HD0.out, rowU_made w _, fun _ => B_pos, by rw [fromP_end, List.drop_of_length_le (Nat.le_refl _)]; simp [val], (Gr.rf w).alloc (Nat.le_refl _) _⟩
  case round =>
    obtain ⟨F, rr, hk, rfl, rfl, hrd, hrow, hFb, hF, hgr⟩ := hrel
    have HW := Lib.hid hrow
    have HFB := Lib.hid hFb
    have HF := Lib.hid hF
    have HRD := Lib.hid hrd
    clear hrow hFb hF hrd
    by_cases h0 : 0 < gk
    · obtain ⟨j, rfl⟩ : ∃ j, gk = j + 1 := ⟨gk - 1, by omega⟩
      obtain ⟨g1, o1, c1, e1, hc1⟩ := HP.out.get hgr j (by omega)
      cases e1
      have hxB := getD_lt HP.out.1 j
      have hji : ((j + 1 : Nat) : Int) - 1 = (j : Int) := by omega
      have hjn : (j : Int).toNat = j := by omega
      rw [hji]
      have hjl : j < p.length := by omega
      have hst := short_round p F j d rr (by omega) HF.out
      have hlt := short_lt rr (p.getD j 0) d HRD.out hxB
      have hr2 := Nat.mod_lt (rr * B + p.getD j 0) HD0.out
      have HD := Lib.hid (div64_calls rr (p.getD j 0) d HDB.out hxB HRD.out)
      generalize p.getD j 0 = xx at hc1 hst hlt hr2 HD
      generalize (rr * B + xx) / d = qq at HD hst hlt
      generalize (rr * B + xx) % d = r2 at HD hst hr2
      have HST := Lib.hid hst
      have HLT := Lib.hid hlt
      have HR2 := Lib.hid hr2
      clear hji hxB hst hlt hr2
      go_wp2_with (go_at_call 171; (with_reducible refine (HD.out _).mono ?_); rintro ev w1 ⟨rfl, hg1⟩; have HW1 := Lib.hid (HW.out.gr hg1); have hcell := HW1.out.cell (i := j) hjl; have hfr := World.rowIs.frozen HW1.out j; generalize F j = old at hcell)
      go_roundg j
      case measure => omega
      case rel =>
        exact ⟨(fun i => if i = j then qq else F i), r2, by omega, rfl, by first | rfl | go_num, HR2.out, HW1.out.set j qq, fun i => by dsimp only; split; exact HLT.out; exact HFB.out i, HST.out, (hgr.tr hg1).setCell (Nat.le_refl _) _⟩
    · obtain rfl : gk = 0 := by omega
      obtain ⟨e1, e2⟩ := divmod_of (val p) _ d rr (by have := HF.out; rw [List.drop_zero] at this; exact this) HRD.out
      have hl := HW.out.lim (fun j _ => HFB.out j) (by omega)
      rw [fromP_all] at e1
      have HL := Lib.hid hl
      have HE := Lib.hid (And.intro e1 e2)
      clear hl e1 e2
      go_wp2
      go_ret2
      rw [HE.out.1, HE.out.2]
      exact ⟨rfl, ⟨_, by rw [List.length_map, List.length_range], rfl, HL.out⟩, hgr⟩

set_option maxRecDepth 100000 in
set_option maxHeartbeats 4000000 in
/-- (*Nat).Div by a number of one limb. -/
theorem div1_calls (x y : Value) (a b : Nat) (w : World) (hx : NatAt w x a) (hy : NatAt w y b) (k : Nat) (ha : a < B ^ k) (hb : b < B) (hk : k ≤ 1000000) :
    Calls Tryz.prog 93 #[x, y] w fun e w' =>
      ((b = 0 → e = .returned (.tuple #[.pointer none, .pointer none, .iface 89 (.int .i64 3)])) ∧ (0 < b → ∃ q r, e = .returned (.tuple #[q, r, .nilIface]) ∧ NatP w' q (a / b) ∧ NatP w' r (a % b))) ∧ Gr w w' := by
  obtain ⟨sa, p, sc, hl, hn, hv, hcl⟩ := limbs_ex x a w hx
  obtain ⟨ta, q, tc, hl2, hn2, hv2, hcl2⟩ := limbs_ex y b w hy
  have h1 := norm_length p hn k (by rw [hv]; exact ha)
  have h2 := norm_length q hn2 1 (by rw [hv2, Nat.pow_one]; exact hb)
  have HC := Lib.hid (compare_calls _ _ p q w hl hl2 hn hn2 (by omega) (by omega))
  have hz := norm_zero q hn2
  subst hv
  subst hv2
  have HL := Lib.hid hcl
  have HM := Lib.hid hcl2
  have HO := Lib.hid (of_calls 3 rfl)
  have HP := Lib.hid hl
  have HQ := Lib.hid hl2
  have HB := Lib.hid hb
  have hpk : p.length ≤ 1000000 := by omega
  have HZ := Lib.hid hz
  clear hx hy ha hb hn hn2 hcl hcl2 hl hl2 h1 hz
  by_cases h0 : q.length = 0
  · have hq : q = [] := List.eq_nil_of_length_eq_zero h0
    have b1 : ((q.length : Int) == 0) = true := beq_iff_eq.2 (by omega)
    have hv0 : val q = 0 := HZ.out.2 hq
    have HV := Lib.hid hv0
    clear hv0 h2 h0 hq
    go_enter Tryz.func93, Tryz.ntmps93
    go_wp2_with (go_at_call 129; (with_reducible refine HL.out.mono ?_); rintro ev w1 ⟨rfl, rfl⟩)
    go_wp2_with (go_at_call 129; (with_reducible refine HM.out.mono ?_); rintro ev w1 ⟨rfl, rfl⟩)
    go_wp2_with (go_at_call 54; (with_reducible refine (HO.out _).mono ?_); rintro ev w2 ⟨rfl, rfl⟩)
    go_ret3
    exact ⟨⟨fun _ => rfl, fun h => absurd h (by rw [HV.out]; omega)⟩, Gr.rf w⟩
  · have h1 : q.length = 1 := by omega
    have b1 : ((q.length : Int) == 0) = false := beq_eq_false_iff_ne.2 (by omega)
    have b2 : ((q.length : Int) == 1) = true := beq_iff_eq.2 (by omega)
    obtain ⟨d, rfl⟩ : ∃ d, q = [d] := by
      cases q with
      | nil => exact absurd rfl h0
      | cons d t =>
        have ht : t = [] := List.eq_nil_of_length_eq_zero (by simpa using h1)
        exact ⟨d, by rw [ht]⟩
    have hvd : val [d] = d := by simp [val]
    have hd0 : 0 < d := Nat.pos_of_ne_zero fun e => by have := HZ.out.1 (by rw [hvd, e]); cases this
    have hdB : d < B := by have := HB.out; rw [hvd] at this; exact this
    rw [hvd]
    rw [hvd] at HC
    rw [show [d].length = 1 from rfl] at HM HC
    clear h0 h1 h2 HZ b1 b2
    obtain ⟨g2, o2, c2, e2, hc2⟩ := HQ.out.get (Gr.rf w) 0 (by simp)
    cases e2
    have hc3 : w.cell? ⟨g2, o2, none⟩ = some (.int .u64 (d : Int)) := hc2
    have HC2 := Lib.hid hc3
    have HGQ : ∀ w1, Gr w w1 → w1.cell? ⟨g2, o2, none⟩ = some (.int .u64 (d : Int)) := fun w1 hg => (hg.cell (World.block_lt_of_cell? w _ hc3)).trans hc3
    have HG := Lib.hid HGQ
    clear hc2 hc3 HGQ
    by_cases hlt : val p < d
    · have bc : decide (cmpN (val p) d < 0) = true := decide_eq_true (cmpN_neg.2 hlt)
      have HT := Lib.hid hlt
      have HD0 := Lib.hid hd0
      clear hlt hd0 hdB hvd
      generalize hcc : cmpN (val p) d = cc at bc HC
      clear hcc
      go_enter Tryz.func93, Tryz.ntmps93
      go_wp2_with (go_at_call 129; (with_reducible refine HL.out.mono ?_); rintro ev w1 ⟨rfl, rfl⟩)
      go_wp2_with (go_at_call 129; (with_reducible refine HM.out.mono ?_); rintro ev w1 ⟨rfl, rfl⟩)
      go_wp2_with (go_at_call 130; (with_reducible refine HC.out.mono ?_); rintro ev w1 ⟨rfl, hg1⟩)
      go_wp2_with (go_at_call 92; (with_reducible refine (of0_calls _).mono ?_); rintro ev w2 ⟨⟨r1, rfl, hr1⟩, hg2⟩; have HR1 := Lib.hid hr1; clear hr1)
      have HMD := Lib.hid (made_calls _ p w2 (HP.out.gr (hg1.tr hg2)) (by omega))
      go_wp2_with (go_at_call 128; (with_reducible refine HMD.out.mono ?_); rintro ev w3 ⟨⟨r, rfl, hr⟩, hg3⟩; have HR := Lib.hid hr; clear hr)
      go_ret3
      exact ⟨⟨fun h => absurd h (by have := HD0.out; omega), fun _ => ⟨_, _, rfl, by rw [Nat.div_eq_of_lt HT.out]; exact HR1.out.gr hg3, by rw [Nat.mod_eq_of_lt HT.out]; exact HR.out⟩⟩, (hg1.tr hg2).tr hg3⟩
    · have bc : decide (cmpN (val p) d < 0) = false := decide_eq_false (fun h => hlt (cmpN_neg.1 h))
      have HD0 := Lib.hid hd0
      have HDB := Lib.hid hdB
      clear hlt hd0 hdB hvd
      generalize hcc : cmpN (val p) d = cc at bc HC
      clear hcc
      go_enter Tryz.func93, Tryz.ntmps93
      go_wp2_with (go_at_call 129; (with_reducible refine HL.out.mono ?_); rintro ev w1 ⟨rfl, rfl⟩)
      go_wp2_with (go_at_call 129; (with_reducible refine HM.out.mono ?_); rintro ev w1 ⟨rfl, rfl⟩)
      go_wp2_with (go_at_call 130; (with_reducible refine HC.out.mono ?_); rintro ev w1 ⟨rfl, hg1⟩; have hcd := HG.out _ hg1)
      clear hcd
      have hs := short_calls sa sc p d w1 (HP.out.gr hg1) HD0.out HDB.out hpk
      have hrl := Nat.mod_lt (val p) HD0.out
      generalize hrm : val p % d = rm at hs hrl
      have HRM := Lib.hid hrm
      have HRL := Lib.hid hrl
      have HS := Lib.hid hs
      clear hrm hrl hs
      go_wp2_with (go_at_call 131; (with_reducible refine HS.out.mono ?_); rintro ev w2 ⟨rfl, ⟨l', hl1, hl2, hl3⟩, hg2⟩)
      have HL1 := Lib.hid hl1
      have HL2 := Lib.hid hl2
      rw [← hl1] at hl3
      have HL3 := Lib.hid hl3
      have HMD := Lib.hid (made_calls _ l' w2 hl3 (by omega))
      rw [hl1, hl2] at HMD
      clear hl1 hl2 hl3
      go_wp2_with (go_at_call 128; (with_reducible refine HMD.out.mono ?_); rintro ev w3 ⟨⟨r, rfl, hr⟩, hg3⟩; have HR := Lib.hid hr; clear hr)
      have HO2 := Lib.hid (of_nat_calls rm (Nat.lt_trans HRL.out HDB.out) w3)
      go_wp2_with (go_at_call 92; (with_reducible refine HO2.out.mono ?_); rintro ev w4 ⟨⟨r1, rfl, hr1⟩, hg4⟩; have HR1 := Lib.hid hr1; clear hr1)
      go_ret3
      exact ⟨⟨fun h => absurd h (by have := HD0.out; omega), fun _ => ⟨_, _, rfl, HR.out.gr hg4, by rw [HRM.out]; exact HR1.out⟩⟩, ((hg1.tr hg2).tr hg3).tr hg4⟩
end Go.Proofs.YtgejadnfeeoknaaGreatDoor
