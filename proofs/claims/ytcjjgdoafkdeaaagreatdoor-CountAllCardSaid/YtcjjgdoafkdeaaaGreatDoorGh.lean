/- Layer 2: TrailingZeros64, Clone, and the greatest common divisor's helpers at numbers of one limb; Layer 2: short, Div by a number of one limb; Layer 2: Pow, width, bit by contract; Layer 2: width, bit by contract; Layer 2: Root by contract. -/
import Derived.Test.YtcjjgdoafkdeaaaGreatDoorGg
import Derived.Test.YtcjjgdoafkdeaaaGreatDoorGf
import Derived.Shelf.Spec.TrailingZeros
import Derived.Lib.SliceRun
import Derived.Lib.Walk
import Derived.Below
namespace Go.Proofs.YtcjjgdoafkdeaaaGreatDoor
section
open Go.RowKit Go.Extern.Stop Go.Stop Go.Extern
set_option linter.unusedVariables false
set_option linter.unusedSimpArgs false

theorem RowU.gr {w w' : World} {b n : Nat} {F : Nat → Nat} (h : RowU w b n F) (hg : Gr w w') : RowU w' b n F := World.rowIs.of_block h (hg.block b (World.rowIs.lt h))
theorem of0_calls (w : World) : Calls Tryz.prog 54 #[.int .u64 0] w fun e w' => (∃ r, e = .returned r ∧ NatP w' r 0) ∧ Gr w w' := of_nat_calls 0 B_pos w
theorem of1_calls (w : World) : Calls Tryz.prog 54 #[.int .u64 1] w fun e w' => (∃ r, e = .returned r ∧ NatP w' r 1) ∧ Gr w w' := of_nat_calls 1 (by decide) w
/-- The table of math/bits in its variable. -/
def BitTab (w : World) : Prop := TabAt 9 Lib.deBruijn64tab w
theorem BitTab.gr {w w' : World} (h : BitTab w) (hg : Gr w w') : BitTab w' := fun j hj => (hg.cell (World.block_lt_of_cell? w _ (h j hj))).trans (h j hj)

set_option maxRecDepth 100000 in
theorem tz64_walk (x k idx : Nat) (w : World) (hx0 : ((x : Int) == 0) = false)
    (key : IntKind.u64.wrap (bits BinOp.and IntKind.u64 (x : Int) (IntKind.u64.wrap (-(x : Int))) * 285870213051353865) / 288230376151711744 = (idx : Int))
    (hi : idx < 64) (hk : k < 64) (hcell : w.cell? ⟨9, idx, none⟩ = some (.int .u8 k)) :
    Calls Tryz.prog 241 #[.int .u64 x] w fun e w' => e = .returned (.int .i64 k) ∧ w = w' := by
  go_enter Tryz.func241, Tryz.ntmps241
  go_wp2_with (simp only [key])
  go_ret
  exact ⟨rfl, rfl⟩
theorem tz_ex (x : Nat) (h0 : x ≠ 0) (hx : x < B) : ∃ t o : Nat, x = 2 ^ t * o ∧ o % 2 = 1 ∧ t ≤ 63 ∧
    ∀ w, BitTab w → Calls Tryz.prog 241 #[.int .u64 (x : Int)] w fun e w' => e = .returned (.int .i64 (t : Int)) ∧ w = w' := by
  obtain ⟨m, hm, hlt⟩ := Lib.ctzFrom_spec 64 x (by omega) (by rw [B_eq] at hx; omega)
  refine ⟨Lib.ctz 64 x, 2 * m + 1, by unfold Lib.ctz; rw [if_neg h0]; exact hm, by omega, by unfold Lib.ctz; rw [if_neg h0]; omega, fun w hT => ?_⟩
  rw [B_eq] at hx
  obtain ⟨hlow, hk⟩ := Lib.lowest_bit 64 x h0 hx
  obtain ⟨hi, htab⟩ := Lib.deBruijn64_at _ hk
  have hcell := hT _ hi
  rw [htab] at hcell
  exact tz64_walk x _ _ w (by simp; omega) (tz64_key x _ hx h0 hlow) hi hk hcell

set_option maxRecDepth 100000 in
set_option maxHeartbeats 2000000 in
/-- slices.Clone of limbs. -/
theorem clone_calls (g o n c : Nat) (zs : List Nat) (w : World) (hz : zs.length = n) (hbig : n ≤ 1000000) (hc : ∀ j, j < zs.length → w.cell? ⟨g, o + j, none⟩ = some (.int .u64 ((zs.getD j 0 : Nat) : Int))) :
    Calls Tryz.prog 124 #[.slice (some ⟨g, o, none⟩) n c] w fun e w' => ∃ v', e = .returned v' ∧ w'.ownsRow w.heap.size 56 1 v' n (zs.map U) ∧ Below w.heap.size w w' := by
  obtain ⟨i0, hi, hz0, hz1, hz2⟩ := info_parts info45
  have t24 := under24
  have q22 : ∀ (w : World) (a : Option Addr) (n c n' c' : Nat), (binOp .eql 24 (.slice a n c) (.slice none n' c')).run Tryz.prog w = .ok (.bool a.isNone) w := fun w a n c n' c' => Lib.run_eql_slice_nil w _ _ a n c n' c' t24
  have A := Lib.hid hc
  have HZ := Lib.hid hz
  clear hc hz
  go_enter Tryz.func124, Tryz.ntmps124
  go_wp2_with (at_builtin; refine wpList_append_own _ rfl _ _ 24 rfl w.heap.size 56 i0 (.int .u64 0) 1 8 t24 hi hz0 hz1 hz2 rfl (by decide) _ _ _ rfl (World.ownsRow_made w #[] 0 (Nat.le_refl _) (Nat.zero_le _) rfl) ⟨g, o, none⟩ n c (zs.map U) rfl ?qc1 ?qc2 ?qc3 ?qc4 ?qc5 ?qc6 ?_)
  case qc1 => simp; exact HZ.out
  case qc2 =>
    intro j u hj
    have hjn : j < zs.length := by
      have := (List.getElem?_eq_some_iff.1 hj).1
      simpa using this
    rw [Addr.add_lit]
    refine Lib.cell?_alloc_some _ ?_
    rw [A.out j hjn]
    have e : (zs.map U)[j]? = some (.int .u64 ((zs.getD j 0 : Nat) : Int)) := by simp [List.getD, List.getElem?_eq_getElem hjn, U]
    rw [e] at hj
    exact hj
  case qc3 => intro u hu; obtain ⟨x, _, rfl⟩ := List.mem_map.1 hu; rfl
  case qc4 => unfold maxLen; omega
  case qc5 => omega
  case qc6 => simp
  intro v' w1 hown hgrow hnil
  go_wp2
  go_ret
  refine ⟨v', rfl, by simpa using hown, ?_⟩
  exact ((Below.refl _ w).alloc (Nat.le_refl _) _).grown hgrow (by simp) (by intro k hk; simp [Value.ownBlock] at hk; omega)
theorem Gr.below {w w' : World} (h : Below w.heap.size w w') : Gr w w' := ⟨h.os, h.tape, h.output, h.size, fun i hi => h.block i hi⟩

set_option maxRecDepth 100000 in
/-- nat.made of one limb that is not 0. -/
theorem made1_calls (g o c x : Nat) (w : World) (h0 : x ≠ 0) (hc : w.cell? ⟨g, o, none⟩ = some (.int .u64 (x : Int))) (h1 : 1 ≤ c) :
    Calls Tryz.prog 116 #[.slice (some ⟨g, o, none⟩) 1 c] w fun e w' => e = .returned (.pointer (some ⟨w.heap.size, 0, none⟩)) ∧ w' = w.alloc (.cells #[.slice (some ⟨g, o, none⟩) 1 c] 161) := by
  have hb : ((x : Int) == 0) = false := beq_eq_false_iff_ne.2 (by omega)
  have HC := Lib.hid hc
  clear h0 hc
  go_enter Tryz.func116, Tryz.ntmps116
  go_wp2
  go_loopg [0] 0 (fun k v wr => v = .slice (some ⟨g, o, none⟩) 1 c ∧ wr = w)
  case atStart => exact ⟨rfl, rfl⟩
  case round =>
    obtain ⟨rfl, rfl⟩ := hrel
    have hc := HC.out
    go_wp2
    go_ret
    exact ⟨rfl, rfl⟩

set_option maxRecDepth 100000 in
/-- nat.twos of one limb. -/
theorem twos1_ex (x : Nat) (h0 : x ≠ 0) (hx : x < B) : ∃ t p : Nat, x = 2 ^ t * p ∧ p % 2 = 1 ∧ t ≤ 63 ∧
    ∀ (g o c : Nat) (w : World), BitTab w → w.cell? ⟨g, o, none⟩ = some (.int .u64 (x : Int)) →
      Calls Tryz.prog 220 #[.slice (some ⟨g, o, none⟩) 1 c] w fun e w' => e = .returned (.int .i64 (t : Int)) ∧ w = w' := by
  obtain ⟨t, p, e1, e2, ht, hcl⟩ := tz_ex x h0 hx
  refine ⟨t, p, e1, e2, ht, fun g o c w hT hc => ?_⟩
  have HT := Lib.hid (hcl w hT)
  have hb : ((x : Int) == 0) = false := beq_eq_false_iff_ne.2 (by omega)
  have HC := Lib.hid hc
  clear hcl e1 e2 h0 hx hT hc
  go_enter Tryz.func220, Tryz.ntmps220
  go_wp2
  go_loopg [3] 0 (fun k i wr => i = .int .i64 0 ∧ wr = w)
  case atStart => exact ⟨rfl, rfl⟩
  case round =>
    obtain ⟨rfl, rfl⟩ := hrel
    have hc := HC.out
    go_wp2_with (go_at_call 241; (with_reducible refine HT.out.mono ?_); rintro ev w1 ⟨rfl, rfl⟩)
    go_ret
    exact ⟨rfl, rfl⟩
end
section
open Go.RowKit Go.Extern.Stop Go.Stop Go.Extern
set_option linter.unusedVariables false
set_option linter.unusedSimpArgs false

set_option maxRecDepth 100000 in
set_option maxHeartbeats 4000000 in
/-- nat.short. -/
theorem short_calls (a : Option Addr) (c : Nat) (p : List Nat) (d : Nat) (w : World) (h : Lim w (.slice a p.length c) p) (hd0 : 0 < d) (hd : d < B) (hpk : p.length ≤ 1000000) :
    Calls Tryz.prog 119 #[.slice a p.length c, .int .u64 (d : Int)] w fun e w' =>
      e = .returned (.tuple #[.slice (some ⟨w.heap.size, 0, none⟩) p.length p.length, .int .u64 ((val p % d : Nat) : Int)]) ∧
      (∃ l', l'.length = p.length ∧ val l' = val p / d ∧ Lim w' (.slice (some ⟨w.heap.size, 0, none⟩) p.length p.length) l') ∧ Gr w w' := by
  have HP := Lib.hid h
  have hmk := make64 p.length (by omega)
  have HDB := Lib.hid hd
  have HD0 := Lib.hid hd0
  clear h hd hd0
  go_enter Tryz.func119, Tryz.ntmps119
  go_wp2
  clear hmk
  go_loopg [7, 8] p.length (fun n r i wr => ∃ (F : Nat → Nat) (rr : Nat), n ≤ p.length ∧ r = .int .u64 (rr : Int) ∧ i = .int .i64 ((n : Int) - 1) ∧ rr < d ∧ RowU wr w.heap.size p.length F ∧ (∀ j, F j < B) ∧ val (fromP F n p.length) * d + rr = val (p.drop n) ∧ Gr w wr)
  case atStart =>
    exact ⟨fun _ => 0, 0, Nat.le_refl _, rfl, rfl, HD0.out, rowU_made w _, fun _ => B_pos, by rw [fromP_end, List.drop_of_length_le (Nat.le_refl _)]; simp [val], (Gr.rf w).alloc (Nat.le_refl _) _⟩
  case round =>
    obtain ⟨F, rr, hk, rfl, rfl, hrd, hrow, hFb, hF, hgr⟩ := hrel
    have HW := Lib.hid hrow
    have HFB := Lib.hid hFb
    have HF := Lib.hid hF
    have HRD := Lib.hid hrd
    clear hrow hFb hF hrd
    by_cases h0 : 0 < gk
    · obtain ⟨j, rfl⟩ : ∃ j, gk = j + 1 := ⟨gk - 1, by omega⟩
      obtain ⟨g1, o1, c1, e1, hc1⟩ := HP.out.get hgr j (by omega)
      cases e1
      have hxB := getD_lt HP.out.1 j
      have hji : ((j + 1 : Nat) : Int) - 1 = (j : Int) := by omega
      have hjn : (j : Int).toNat = j := by omega
      rw [hji]
      have hjl : j < p.length := by omega
      have hst := short_round p F j d rr (by omega) HF.out
      have hlt := short_lt rr (p.getD j 0) d HRD.out hxB
      have hr2 := Nat.mod_lt (rr * B + p.getD j 0) HD0.out
      have HD := Lib.hid (div64_calls rr (p.getD j 0) d HDB.out hxB HRD.out)
      generalize p.getD j 0 = xx at hc1 hst hlt hr2 HD
      generalize (rr * B + xx) / d = qq at HD hst hlt
      generalize (rr * B + xx) % d = r2 at HD hst hr2
      have HST := Lib.hid hst
      have HLT := Lib.hid hlt
      have HR2 := Lib.hid hr2
      clear hji hxB hst hlt hr2
      go_wp2_with (go_at_call 166; (with_reducible refine (HD.out _).mono ?_); rintro ev w1 ⟨rfl, hg1⟩; have HW1 := Lib.hid (HW.out.gr hg1); have hcell := HW1.out.cell (i := j) hjl; have hfr := World.rowIs.frozen HW1.out j; generalize F j = old at hcell)
      go_roundg j
      case measure => omega
      case rel =>
        exact ⟨(fun i => if i = j then qq else F i), r2, by omega, rfl, by first | rfl | go_num, HR2.out, HW1.out.set j qq, fun i => by dsimp only; split; exact HLT.out; exact HFB.out i, HST.out, (hgr.tr hg1).setCell (Nat.le_refl _) _⟩
    · obtain rfl : gk = 0 := by omega
      obtain ⟨e1, e2⟩ := divmod_of (val p) _ d rr (by have := HF.out; rw [List.drop_zero] at this; exact this) HRD.out
      have hl := HW.out.lim (fun j _ => HFB.out j) (by omega)
      rw [fromP_all] at e1
      have HL := Lib.hid hl
      have HE := Lib.hid (And.intro e1 e2)
      clear hl e1 e2
      go_wp2
      go_ret2
      rw [HE.out.1, HE.out.2]
      exact ⟨rfl, ⟨_, by rw [List.length_map, List.length_range], rfl, HL.out⟩, hgr⟩

set_option maxRecDepth 100000 in
set_option maxHeartbeats 4000000 in
/-- (*Nat).Div by a number of one limb. -/
theorem div1_calls (x y : Value) (a b : Nat) (w : World) (hx : NatAt w x a) (hy : NatAt w y b) (k : Nat) (ha : a < B ^ k) (hb : b < B) (hk : k ≤ 1000000) :
    Calls Tryz.prog 55 #[x, y] w fun e w' =>
      ((b = 0 → e = .returned (.tuple #[.pointer none, .pointer none, .iface 169 (.int .i64 3)])) ∧ (0 < b → ∃ q r, e = .returned (.tuple #[q, r, .nilIface]) ∧ NatP w' q (a / b) ∧ NatP w' r (a % b))) ∧ Gr w w' := by
  obtain ⟨sa, p, sc, hl, hn, hv, hcl⟩ := limbs_ex x a w hx
  obtain ⟨ta, q, tc, hl2, hn2, hv2, hcl2⟩ := limbs_ex y b w hy
  have h1 := norm_length p hn k (by rw [hv]; exact ha)
  have h2 := norm_length q hn2 1 (by rw [hv2, Nat.pow_one]; exact hb)
  have HC := Lib.hid (compare_calls _ _ p q w hl hl2 hn hn2 (by omega) (by omega))
  have hz := norm_zero q hn2
  subst hv
  subst hv2
  have HL := Lib.hid hcl
  have HM := Lib.hid hcl2
  have HO := Lib.hid (of_calls 3 rfl)
  have HP := Lib.hid hl
  have HQ := Lib.hid hl2
  have HB := Lib.hid hb
  have hpk : p.length ≤ 1000000 := by omega
  have HZ := Lib.hid hz
  clear hx hy ha hb hn hn2 hcl hcl2 hl hl2 h1 hz
  by_cases h0 : q.length = 0
  · have hq : q = [] := List.eq_nil_of_length_eq_zero h0
    have b1 : ((q.length : Int) == 0) = true := beq_iff_eq.2 (by omega)
    have hv0 : val q = 0 := HZ.out.2 hq
    have HV := Lib.hid hv0
    clear hv0 h2 h0 hq
    go_enter Tryz.func55, Tryz.ntmps55
    go_wp2_with (go_at_call 117; (with_reducible refine HL.out.mono ?_); rintro ev w1 ⟨rfl, rfl⟩)
    go_wp2_with (go_at_call 117; (with_reducible refine HM.out.mono ?_); rintro ev w1 ⟨rfl, rfl⟩)
    go_wp2_with (go_at_call 68; (with_reducible refine (HO.out _).mono ?_); rintro ev w2 ⟨rfl, rfl⟩)
    go_ret3
    exact ⟨⟨fun _ => rfl, fun h => absurd h (by rw [HV.out]; omega)⟩, Gr.rf w⟩
  · have h1 : q.length = 1 := by omega
    have b1 : ((q.length : Int) == 0) = false := beq_eq_false_iff_ne.2 (by omega)
    have b2 : ((q.length : Int) == 1) = true := beq_iff_eq.2 (by omega)
    obtain ⟨d, rfl⟩ : ∃ d, q = [d] := by
      cases q with
      | nil => exact absurd rfl h0
      | cons d t =>
        have ht : t = [] := List.eq_nil_of_length_eq_zero (by simpa using h1)
        exact ⟨d, by rw [ht]⟩
    have hvd : val [d] = d := by simp [val]
    have hd0 : 0 < d := Nat.pos_of_ne_zero fun e => by have := HZ.out.1 (by rw [hvd, e]); cases this
    have hdB : d < B := by have := HB.out; rw [hvd] at this; exact this
    rw [hvd]
    rw [hvd] at HC
    rw [show [d].length = 1 from rfl] at HM HC
    clear h0 h1 h2 HZ b1 b2
    obtain ⟨g2, o2, c2, e2, hc2⟩ := HQ.out.get (Gr.rf w) 0 (by simp)
    cases e2
    have hc3 : w.cell? ⟨g2, o2, none⟩ = some (.int .u64 (d : Int)) := hc2
    have HC2 := Lib.hid hc3
    have HGQ : ∀ w1, Gr w w1 → w1.cell? ⟨g2, o2, none⟩ = some (.int .u64 (d : Int)) := fun w1 hg => (hg.cell (World.block_lt_of_cell? w _ hc3)).trans hc3
    have HG := Lib.hid HGQ
    clear hc2 hc3 HGQ
    by_cases hlt : val p < d
    · have bc : decide (cmpN (val p) d < 0) = true := decide_eq_true (cmpN_neg.2 hlt)
      have HT := Lib.hid hlt
      have HD0 := Lib.hid hd0
      clear hlt hd0 hdB hvd
      generalize hcc : cmpN (val p) d = cc at bc HC
      clear hcc
      go_enter Tryz.func55, Tryz.ntmps55
      go_wp2_with (go_at_call 117; (with_reducible refine HL.out.mono ?_); rintro ev w1 ⟨rfl, rfl⟩)
      go_wp2_with (go_at_call 117; (with_reducible refine HM.out.mono ?_); rintro ev w1 ⟨rfl, rfl⟩)
      go_wp2_with (go_at_call 118; (with_reducible refine HC.out.mono ?_); rintro ev w1 ⟨rfl, hg1⟩)
      go_wp2_with (go_at_call 54; (with_reducible refine (of0_calls _).mono ?_); rintro ev w2 ⟨⟨r1, rfl, hr1⟩, hg2⟩; have HR1 := Lib.hid hr1; clear hr1)
      have HMD := Lib.hid (made_calls _ p w2 (HP.out.gr (hg1.tr hg2)) (by omega))
      go_wp2_with (go_at_call 116; (with_reducible refine HMD.out.mono ?_); rintro ev w3 ⟨⟨r, rfl, hr⟩, hg3⟩; have HR := Lib.hid hr; clear hr)
      go_ret3
      exact ⟨⟨fun h => absurd h (by have := HD0.out; omega), fun _ => ⟨_, _, rfl, by rw [Nat.div_eq_of_lt HT.out]; exact HR1.out.gr hg3, by rw [Nat.mod_eq_of_lt HT.out]; exact HR.out⟩⟩, (hg1.tr hg2).tr hg3⟩
    · have bc : decide (cmpN (val p) d < 0) = false := decide_eq_false (fun h => hlt (cmpN_neg.1 h))
      have HD0 := Lib.hid hd0
      have HDB := Lib.hid hdB
      clear hlt hd0 hdB hvd
      generalize hcc : cmpN (val p) d = cc at bc HC
      clear hcc
      go_enter Tryz.func55, Tryz.ntmps55
      go_wp2_with (go_at_call 117; (with_reducible refine HL.out.mono ?_); rintro ev w1 ⟨rfl, rfl⟩)
      go_wp2_with (go_at_call 117; (with_reducible refine HM.out.mono ?_); rintro ev w1 ⟨rfl, rfl⟩)
      go_wp2_with (go_at_call 118; (with_reducible refine HC.out.mono ?_); rintro ev w1 ⟨rfl, hg1⟩; have hcd := HG.out _ hg1)
      clear hcd
      have hs := short_calls sa sc p d w1 (HP.out.gr hg1) HD0.out HDB.out hpk
      have hrl := Nat.mod_lt (val p) HD0.out
      generalize hrm : val p % d = rm at hs hrl
      have HRM := Lib.hid hrm
      have HRL := Lib.hid hrl
      have HS := Lib.hid hs
      clear hrm hrl hs
      go_wp2_with (go_at_call 119; (with_reducible refine HS.out.mono ?_); rintro ev w2 ⟨rfl, ⟨l', hl1, hl2, hl3⟩, hg2⟩)
      have HL1 := Lib.hid hl1
      have HL2 := Lib.hid hl2
      rw [← hl1] at hl3
      have HL3 := Lib.hid hl3
      have HMD := Lib.hid (made_calls _ l' w2 hl3 (by omega))
      rw [hl1, hl2] at HMD
      clear hl1 hl2 hl3
      go_wp2_with (go_at_call 116; (with_reducible refine HMD.out.mono ?_); rintro ev w3 ⟨⟨r, rfl, hr⟩, hg3⟩; have HR := Lib.hid hr; clear hr)
      have HO2 := Lib.hid (of_nat_calls rm (Nat.lt_trans HRL.out HDB.out) w3)
      go_wp2_with (go_at_call 54; (with_reducible refine HO2.out.mono ?_); rintro ev w4 ⟨⟨r1, rfl, hr1⟩, hg4⟩; have HR1 := Lib.hid hr1; clear hr1)
      go_ret3
      exact ⟨⟨fun h => absurd h (by have := HD0.out; omega), fun _ => ⟨_, _, rfl, HR.out.gr hg4, by rw [HRM.out]; exact HR1.out⟩⟩, ((hg1.tr hg2).tr hg3).tr hg4⟩
end
section
open Go.RowKit Go.Extern.Stop Go.Stop Go.Extern
set_option linter.unusedVariables false
set_option linter.unusedSimpArgs false

/-- A power's loop. -/
def PowInv (a K m out base k : Nat) : Prop := out * base ^ k = a ^ K ∧ (1 ≤ a → 1 ≤ out ∧ 1 ≤ base) ∧ (a = 0 → base = 0 ∧ out ≤ 1) ∧ out < m ∧ base < m
theorem PowInv.bd {a K m out base k : Nat} (h : PowInv a K m out base k) (hp : a ^ K < m) (hm1 : 1 < m) (hk : 1 ≤ k) : out * base < m ∧ (2 ≤ k → base * base < m) :=
  pow_inv a K out base k h.1 h.2.1 m hp hm1 h.2.2.1 hk
theorem PowInv.one {a K m out base : Nat} (h : PowInv a K m out base 1) (hp : a ^ K < m) (hm1 : 1 < m) : PowInv a K m (out * base) base 0 :=
  ⟨by rw [Nat.pow_zero, Nat.mul_one]; have := h.1; rw [Nat.pow_one] at this; exact this, fun h1 => ⟨Nat.mul_pos (h.2.1 h1).1 (h.2.1 h1).2, (h.2.1 h1).2⟩,
    fun h0 => ⟨(h.2.2.1 h0).1, by rw [(h.2.2.1 h0).1, Nat.mul_zero]; omega⟩, (h.bd hp hm1 (Nat.le_refl _)).1, h.2.2.2.2⟩
theorem PowInv.odd {a K m out base k : Nat} (h : PowInv a K m out base k) (hp : a ^ K < m) (hm1 : 1 < m) (hk : 2 ≤ k) (ho : k % 2 = 1) : PowInv a K m (out * base) (base * base) (k / 2) :=
  ⟨pow_odd a K out base k h.1 ho, fun h1 => ⟨Nat.mul_pos (h.2.1 h1).1 (h.2.1 h1).2, Nat.mul_pos (h.2.1 h1).2 (h.2.1 h1).2⟩,
    fun h0 => ⟨by rw [(h.2.2.1 h0).1], by rw [(h.2.2.1 h0).1, Nat.mul_zero]; omega⟩, (h.bd hp hm1 (by omega)).1, (h.bd hp hm1 (by omega)).2 hk⟩
theorem PowInv.even {a K m out base k : Nat} (h : PowInv a K m out base k) (hp : a ^ K < m) (hm1 : 1 < m) (hk : 2 ≤ k) (ho : k % 2 = 0) : PowInv a K m out (base * base) (k / 2) :=
  ⟨pow_even a K out base k h.1 ho, fun h1 => ⟨(h.2.1 h1).1, Nat.mul_pos (h.2.1 h1).2 (h.2.1 h1).2⟩,
    fun h0 => ⟨by rw [(h.2.2.1 h0).1], (h.2.2.1 h0).2⟩, h.2.2.2.1, (h.bd hp hm1 (by omega)).2 hk⟩

theorem and1 (n : Nat) (h : n < 9223372036854775808) : bits .and .i64 (n : Int) 1 = ((n % 2 : Nat) : Int) := by
  have h1 : (BitVec.ofInt 64 (n : Int)).toNat = n := by
    rw [BitVec.ofInt_natCast, BitVec.toNat_ofNat]; exact Nat.mod_eq_of_lt (by omega)
  show IntKind.i64.wrap ((BitVec.ofInt 64 (n : Int) &&& BitVec.ofInt 64 1).toNat : Int) = _
  rw [BitVec.toNat_and, h1, show (BitVec.ofInt 64 1).toNat = 1 by decide, Nat.and_one_is_mod]
  rw [IntKind.wrap_i64]
  omega

set_option maxRecDepth 100000 in
set_option maxHeartbeats 4000000 in
/-- (*Nat).Pow. -/
theorem pow_calls (x : Value) (a K : Nat) (w : World) (hx : NatAt w x a) (m : Nat) (ha : a < B ^ m) (hp : a ^ K < B ^ m) (hm0 : 1 ≤ m) (hm : m ≤ 1000000) (hK : K ≤ 1000000) :
    Calls Tryz.prog 62 #[x, .int .i64 (K : Int)] w fun e w' => (∃ r, e = .returned r ∧ NatAt w' r (a ^ K)) ∧ Gr w w' := by
  have hm1 : 1 < B ^ m := Nat.one_lt_pow (by omega) (by decide)
  have HX := Lib.hid hx
  have HA := Lib.hid ha
  have HP := Lib.hid hp
  have HM1 := Lib.hid hm1
  clear hx ha hp hm1 hm0
  go_enter Tryz.func62, Tryz.ntmps62
  go_wp2_with (go_at_call 54; (with_reducible refine (of1_calls _).mono ?_); rintro ev w1 ⟨⟨r1, rfl, hr1⟩, hg1⟩; have HR1 := Lib.hid hr1; clear hr1)
  go_loopg [1, 5, 6] K (fun n kx o b wr => ∃ (out base : Nat), n ≤ K ∧ kx = .int .i64 (n : Int) ∧ NatAt wr o out ∧ NatAt wr b base ∧ PowInv a K (B ^ m) out base n ∧ Gr w wr)
  case atStart => exact ⟨1, a, Nat.le_refl _, rfl, HR1.out, HX.out.gr hg1, ⟨by rw [Nat.one_mul], fun h => ⟨Nat.le_refl _, h⟩, fun h => ⟨h, Nat.le_refl _⟩, HM1.out, HA.out⟩, hg1⟩
  case round =>
    obtain ⟨out, base, hnK, rfl, ho, hb, hinv, hgr⟩ := hrel
    have HO := Lib.hid ho
    have HB := Lib.hid hb
    have HI := Lib.hid hinv
    clear ho hb hinv
    by_cases h0 : 0 < gk
    · have hand := and1 gk (by omega)
      by_cases h1 : 1 < gk
      · have b1 : decide (1 < (gk : Int)) = true := decide_eq_true (by omega)
        rcases Nat.mod_two_eq_zero_or_one gk with hodd | hodd
        · rw [hodd, show ((0 : Nat) : Int) = 0 from rfl] at hand
          have HMU := fun w2 hg => mul_calls _ _ base base w2 (HB.out.gr (hg : Gr wr w2)) (HB.out.gr hg) m HI.out.2.2.2.2 HI.out.2.2.2.2 hm
          have HMU := Lib.hid (HMU wr (Gr.rf wr))
          have HOD := Lib.hid hodd
          clear hodd
          go_wp2_with (go_at_call 58; (with_reducible refine HMU.out.mono ?_); rintro ev w2 ⟨⟨r2, rfl, hr2⟩, hg2⟩; have HR2 := Lib.hid hr2; clear hr2)
          go_roundg (gk / 2)
          case measure => omega
          case rel => exact ⟨out, base * base, by omega, by first | rfl | (congr 1; omega), HO.out.gr hg2, HR2.out, HI.out.even HP.out HM1.out (by omega) HOD.out, hgr.tr hg2⟩
        · rw [hodd, show ((1 : Nat) : Int) = 1 from rfl] at hand
          have HMU := Lib.hid (mul_calls _ _ out base wr HO.out HB.out m HI.out.2.2.2.1 HI.out.2.2.2.2 hm)
          have HOD := Lib.hid hodd
          clear hodd
          go_wp2_with (go_at_call 58; (with_reducible refine HMU.out.mono ?_); rintro ev w2 ⟨⟨r2, rfl, hr2⟩, hg2⟩; have HR2 := Lib.hid hr2; clear hr2)
          have HMV := Lib.hid (mul_calls _ _ base base w2 (HB.out.gr hg2) (HB.out.gr hg2) m HI.out.2.2.2.2 HI.out.2.2.2.2 hm)
          go_wp2_with (go_at_call 58; (with_reducible refine HMV.out.mono ?_); rintro ev w3 ⟨⟨r3, rfl, hr3⟩, hg3⟩; have HR3 := Lib.hid hr3; clear hr3)
          go_roundg (gk / 2)
          case measure => omega
          case rel => exact ⟨out * base, base * base, by omega, by first | rfl | (congr 1; omega), HR2.out.gr hg3, HR3.out, HI.out.odd HP.out HM1.out (by omega) HOD.out, (hgr.tr hg2).tr hg3⟩
      · obtain rfl : gk = 1 := by omega
        have HMU := Lib.hid (mul_calls _ _ out base wr HO.out HB.out m HI.out.2.2.2.1 HI.out.2.2.2.2 hm)
        clear hand
        go_wp2_with (go_at_call 58; (with_reducible refine HMU.out.mono ?_); rintro ev w2 ⟨⟨r2, rfl, hr2⟩, hg2⟩; have HR2 := Lib.hid hr2; clear hr2)
        go_roundg 0
        case measure => omega
        case rel => exact ⟨out * base, base, by omega, rfl, HR2.out, HB.out.gr hg2, HI.out.one HP.out HM1.out, hgr.tr hg2⟩
    · obtain rfl : gk = 0 := by omega
      go_wp2
      go_ret
      refine ⟨⟨_, rfl, ?_⟩, hgr⟩
      have h := HI.out.1
      rw [Nat.pow_zero, Nat.mul_one] at h
      rw [← h]
      exact HO.out
end
section
open Go.RowKit Go.Extern.Stop Go.Stop Go.Extern
set_option linter.unusedVariables false
set_option linter.unusedSimpArgs false

/-- How many bits there are. -/
def wdN (n : Nat) : Nat := if n = 0 then 0 else Nat.log2 n + 1
theorem wdN_hi (n : Nat) : n < 2 ^ wdN n := by
  unfold wdN
  split
  · omega
  · exact Nat.lt_log2_self
theorem wdN_lo (n : Nat) (h : n ≠ 0) : 1 ≤ wdN n ∧ 2 ^ (wdN n - 1) ≤ n := by
  unfold wdN
  rw [if_neg h, Nat.add_sub_cancel]
  exact ⟨by omega, Nat.log2_self_le h⟩
theorem wdN_lo2 (n : Nat) (h : n ≠ 0) : 2 ^ (wdN n - 1) ≤ n := (wdN_lo n h).2
theorem wdN_of (n k : Nat) (h1 : 2 ^ (k - 1) ≤ n) (h2 : n < 2 ^ k) (hk : 1 ≤ k) : wdN n = k := by
  have h0 : n ≠ 0 := by have := Nat.two_pow_pos (k - 1); omega
  unfold wdN
  rw [if_neg h0, (Nat.log2_eq_iff h0).2 ⟨h1, by rw [show k - 1 + 1 = k by omega]; exact h2⟩]
  omega
theorem wdN_le (n k : Nat) (h : n < B ^ k) : wdN n ≤ 64 * k := by
  by_cases h0 : n = 0
  · subst h0; unfold wdN; simp
  · have h1 := wdN_lo2 n h0
    rw [B_pow64] at h
    have := (Nat.pow_lt_pow_iff_right (by decide : 1 < 2)).1 (Nat.lt_of_le_of_lt h1 h)
    omega

set_option maxRecDepth 100000 in
set_option maxHeartbeats 2000000 in
/-- (*Nat).width. -/
theorem width_calls (x : Value) (n : Nat) (w : World) (hx : NatAt w x n) (k : Nat) (hn : n < B ^ k) (hk : k ≤ 1000000) :
    Calls Tryz.prog 129 #[x] w fun e w' => e = .returned (.int .i64 (wdN n : Int)) ∧ w = w' := by
  obtain ⟨sa, p, sc, hl, hnm, hv, hcl⟩ := limbs_ex x n w hx
  have h1 := norm_length p hnm k (by rw [hv]; exact hn)
  have hz := norm_zero p hnm
  subst hv
  have HL := Lib.hid hcl
  have HP := Lib.hid hl
  clear hx hn hcl hl
  by_cases h0 : p.length = 0
  · have hp : p = [] := List.eq_nil_of_length_eq_zero h0
    subst hp
    rw [show wdN (val []) = 0 from rfl]
    rw [show ([] : List Nat).length = 0 from rfl] at HL
    clear h0 h1 hz hnm HP
    go_enter Tryz.func129, Tryz.ntmps129
    go_wp2_with (go_at_call 117; (with_reducible refine HL.out.mono ?_); rintro ev w1 ⟨rfl, rfl⟩)
    go_ret
    exact ⟨rfl, rfl⟩
  · have hlt : p.length - 1 < p.length := by omega
    obtain ⟨g, o, c, e1, hc⟩ := HP.out.get (Gr.rf w) (p.length - 1) hlt
    cases e1
    have hyB := getD_lt HP.out.1 (p.length - 1)
    have hy0 : p.getD (p.length - 1) 0 ≠ 0 := by
      intro h
      apply hnm
      rw [List.getLast?_eq_getElem?, List.getElem?_eq_getElem hlt]
      rw [List.getD_eq_getElem?_getD, List.getElem?_eq_getElem hlt] at h
      rw [← h]; rfl
    obtain ⟨s, hs, hs1, hs2, hlz⟩ := lz_calls _ (Nat.pos_of_ne_zero hy0) hyB
    obtain ⟨b1, b2⟩ := width_nums p _ s HP.out.1 (by omega) rfl hs hs1 hs2
    rw [wdN_of _ _ b1 b2 (by omega)]
    have HZ := Lib.hid hlz
    generalize p.getD (p.length - 1) 0 = y at hc HZ
    have t0 : ((p.length : Int) == 0) = false := beq_eq_false_iff_ne.2 (by omega)
    have t1 : ((p.length : Int) - 1).toNat = p.length - 1 := by omega
    have t2 : ((64 * p.length - s : Nat) : Int) = 64 * (p.length : Int) - (s : Int) := by omega
    rw [t2]
    clear hs1 hs2 hlz b1 b2 hyB hy0 hnm hz t2
    go_enter Tryz.func129, Tryz.ntmps129
    go_wp2_with (go_at_call 117; (with_reducible refine HL.out.mono ?_); rintro ev w1 ⟨rfl, rfl⟩)
    go_wp2_with (go_at_call 167; (with_reducible refine (HZ.out _).mono ?_); rintro ev w1 ⟨rfl, rfl⟩)
    go_ret
    exact ⟨rfl, rfl⟩

theorem val_bit (k : Nat) : val ((List.range (k / 64 + 1)).map fun j => if j = k / 64 then 2 ^ (k % 64) else 0) = 2 ^ k := by
  rw [val_map_succ, if_pos rfl, val_map_congr (G := fun _ => 0) (fun j hj => if_neg (by omega)), List.map_const', val_replicate, Nat.zero_add, B_pow64, ← Nat.pow_add]
  congr 1; omega

theorem shl_one (r : Nat) (hr : r ≤ 63) : IntKind.u64.wrap (2 ^ r) = ((2 ^ r : Nat) : Int) := by
  have := wrapN (2 ^ r) (by rw [B_pow]; exact Nat.pow_lt_pow_right (by decide) (by omega))
  rw [Int.natCast_pow] at this ⊢
  exact this
set_option maxRecDepth 100000 in
set_option maxHeartbeats 2000000 in
/-- nat.bit. -/
theorem bit_calls (k : Nat) (hk : k ≤ 60000000) (w : World) :
    Calls Tryz.prog 130 #[.int .i64 (k : Int)] w fun e w' => (∃ r, e = .returned r ∧ NatP w' r (2 ^ k)) ∧ Gr w w' := by
  have hv := val_bit k
  have e1 : (k : Int) / 64 = ((k / 64 : Nat) : Int) := by omega
  have e2 : (k : Int) % 64 = ((k % 64 : Nat) : Int) := by omega
  have hr : k % 64 ≤ 63 := by omega
  have hq : k / 64 ≤ 1000000 := by omega
  have hsh := shl_one (k % 64) hr
  have hlt : 2 ^ (k % 64) < B := by rw [B_pow]; exact Nat.pow_lt_pow_right (by decide) (by omega)
  generalize 2 ^ (k % 64) = P at hv hsh hlt
  generalize k % 64 = r at e2 hr hsh
  generalize k / 64 = q at hv e1 hq
  have hmk := make64 (q + 1) (by omega)
  have ec : ((q + 1 : Nat) : Int) = (q : Int) + 1 := by omega
  rw [ec] at hmk
  have hrow := rowU_made w (q + 1)
  have hcell := hrow.cell (i := q) (by omega)
  rw [show ((0 : Nat) : Int) = 0 from rfl] at hcell
  have hfr := World.rowIs.frozen hrow q
  have hset := hrow.set q P
  have hlim := hset.lim (fun j _ => by split; exact hlt; exact B_pos) (by omega)
  have hg : Gr w (w.alloc (.cells (madeCells #[.int .u64 0] (q + 1)) 56)) := (Gr.rf w).alloc (Nat.le_refl _) _
  have hg2 := hg.setCell (a := ⟨w.heap.size, q, none⟩) (Nat.le_refl _) (.int .u64 (P : Int))
  have hmd := made_calls _ _ _ hlim (by rw [List.length_map, List.length_range]; omega)
  rw [hv] at hmd
  rw [World.setCell_alloc_at _ _ _ _ _ rfl] at hmd hg2
  have HM := Lib.hid hmd
  have HG := Lib.hid hg2
  clear hmd hlim hset hrow hg hg2 hlt ec hv
  go_enter Tryz.func130, Tryz.ntmps130
  go_wp2_with (go_at_call 116; (with_reducible refine HM.out.mono ?_); rintro ev w1 ⟨⟨r1, rfl, hr1⟩, hg1⟩; have HR := Lib.hid hr1; clear hr1)
  go_ret
  exact ⟨⟨_, rfl, HR.out⟩, HG.out.tr hg1⟩
end
section
open Go.RowKit Go.Extern.Stop Go.Stop Go.Extern
set_option linter.unusedVariables false
set_option linter.unusedSimpArgs false

theorem cmpN_le {a b : Nat} : (cmpN a b ≤ 0) ↔ a ≤ b := by
  unfold cmpN
  split
  · exact iff_of_true (by omega) (by omega)
  · split
    · exact iff_of_false (by omega) (by omega)
    · exact iff_of_true (by omega) (by omega)
theorem root_bd (m n out j wn k : Nat) (hn : n < B ^ m) (ho : out ^ k ≤ n) (hk : k ≠ 0) (hw : wn ≤ 64 * m) (hj : j < wn) : out + 2 ^ j < B ^ (m + 1) ∧ out < B ^ (m + 1) ∧ 2 ^ j < B ^ (m + 1) := by
  have h1 := root_le out n k ho hk
  have h2 : 2 ^ j < B ^ m := by rw [B_pow64]; exact Nat.pow_lt_pow_right (by decide) (by omega)
  have h3 : B ^ (m + 1) = B ^ m * B := Nat.pow_succ _ _
  have h4 : B ^ m * 2 ≤ B ^ m * B := Nat.mul_le_mul_left _ (by decide)
  omega

set_option maxRecDepth 100000 in
set_option maxHeartbeats 4000000 in
/-- (*Nat).Root. -/
theorem root_calls (x : Value) (n k : Nat) (w : World) (hx : NatAt w x n) (m : Nat) (hn : n < B ^ m) (hm1 : 1 ≤ m) (hm : m ≤ 10000) (hk2 : 2 ≤ k) (hk3 : k ≤ 1000) :
    Calls Tryz.prog 63 #[x, .int .i64 (k : Int)] w fun e w' => (∃ v r, e = .returned v ∧ NatAt w' v r ∧ r ^ k ≤ n ∧ n < (r + 1) ^ k) ∧ Gr w w' := by
  have HX := Lib.hid hx
  have HZ := Lib.hid (zero_calls x n w hx)
  have HWn : ∀ w', Gr w w' → Calls Tryz.prog 129 #[x] w' fun e w2 => e = .returned (.int .i64 (wdN n : Int)) ∧ w' = w2 := fun w' hg => width_calls x n w' (hx.gr hg) m hn (by omega)
  have bk : decide ((k : Int) ≤ 1) = false := decide_eq_false (by omega)
  by_cases h0 : n = 0
  · have b0 : (n == 0) = true := beq_iff_eq.2 h0
    rw [b0] at HZ
    obtain ⟨sa, p, sc, hl, hnm, hv, hcl⟩ := limbs_ex x n w hx
    have HMD := Lib.hid (made_calls _ p w hl (by have := norm_length p hnm m (by rw [hv]; exact hn); omega))
    rw [hv] at HMD
    have HL := Lib.hid hcl
    have H0 := Lib.hid h0
    clear hl hnm hv hcl hx HX HWn h0 b0 hn
    go_enter Tryz.func63, Tryz.ntmps63
    go_wp2_with (go_at_call 78; (with_reducible refine HZ.out.mono ?_); rintro ev w1 ⟨rfl, rfl⟩)
    go_wp2_with (go_at_call 117; (with_reducible refine HL.out.mono ?_); rintro ev w1 ⟨rfl, rfl⟩)
    go_wp2_with (go_at_call 116; (with_reducible refine HMD.out.mono ?_); rintro ev w2 ⟨⟨r, rfl, hr⟩, hg⟩; have HR := Lib.hid hr; clear hr)
    go_ret
    refine ⟨⟨_, n, rfl, HR.out.at_, ?_, ?_⟩, hg⟩
    · rw [H0.out, Nat.zero_pow (by omega)]; exact Nat.le_refl _
    · rw [H0.out]; exact Nat.pow_pos (by decide)
  · have b0 : (n == 0) = false := beq_eq_false_iff_ne.2 h0
    rw [b0] at HZ
    obtain ⟨l1, l2⟩ := wdN_lo n h0
    have l3 := wdN_hi n
    have l4 := wdN_le n m hn
    generalize wdN n = wn at HWn l1 l2 l3 l4
    have HW := Lib.hid HWn
    have HN := Lib.hid hn
    have HL2 := Lib.hid l2
    have HL3 := Lib.hid l3
    have H0 := Lib.hid h0
    clear HWn hn hx l2 l3 b0 h0
    by_cases hkw : wn ≤ k
    · have b1 : decide (wn ≤ k) = true := decide_eq_true hkw
      go_enter Tryz.func63, Tryz.ntmps63
      go_wp2_with (go_at_call 78; (with_reducible refine HZ.out.mono ?_); rintro ev w1 ⟨rfl, rfl⟩)
      go_wp2_with (go_at_call 129; (with_reducible refine (HW.out _ (Gr.rf _)).mono ?_); rintro ev w1 ⟨rfl, rfl⟩)
      go_wp2_with (go_at_call 54; (with_reducible refine (of1_calls _).mono ?_); rintro ev w1 ⟨⟨r1, rfl, hr1⟩, hg1⟩; have HR1 := Lib.hid hr1; clear hr1)
      go_ret
      refine ⟨⟨_, 1, rfl, HR1.out.at_, by rw [Nat.one_pow]; have := H0.out; omega, Nat.lt_of_lt_of_le HL3.out (Nat.pow_le_pow_right (by decide) hkw)⟩, hg1⟩
    · have b1 : decide (wn ≤ k) = false := decide_eq_false hkw
      obtain ⟨j0, hj0⟩ : ∃ j0 : Nat, j0 = (wn + k - 1) / k := ⟨_, rfl⟩
      have ej : ((wn : Int) + (k : Int) - 1) / (k : Int) = (j0 : Int) := by
        rw [hj0, Int.natCast_ediv]; congr 1; omega
      have hj1 : wn ≤ j0 * k := by
        have h1 := Nat.div_add_mod (wn + k - 1) k
        have h2 := Nat.mod_lt (wn + k - 1) (show 0 < k by omega)
        rw [← hj0] at h1
        rw [Nat.mul_comm]; omega
      have hj2 : j0 ≤ wn := by
        rw [hj0]
        have : (wn + k - 1) / k < wn + 1 := by
          rw [Nat.div_lt_iff_lt_mul (by omega)]
          have : wn * 1 ≤ wn * k := Nat.mul_le_mul_left _ (by omega)
          rw [Nat.add_mul]; omega
        omega
      have hkz : ¬ (k : Int) = 0 := by omega
      have hkz2 : ¬ k = 0 := by omega
      have HJ := Lib.hid hj1
      clear hj0 hj1
      go_enter Tryz.func63, Tryz.ntmps63
      go_wp2_with (go_at_call 78; (with_reducible refine HZ.out.mono ?_); rintro ev w1 ⟨rfl, rfl⟩)
      go_wp2_with (go_at_call 129; (with_reducible refine (HW.out _ (Gr.rf _)).mono ?_); rintro ev w1 ⟨rfl, rfl⟩)
      go_wp2_with (go_at_call 54; (with_reducible refine (of0_calls _).mono ?_); rintro ev w1 ⟨⟨r1, rfl, hr1⟩, hg1⟩; have HR1 := Lib.hid hr1; clear hr1)
      go_wp2_with (go_at_call 129; (with_reducible refine (HW.out _ hg1).mono ?_); rintro ev w2 ⟨rfl, rfl⟩)
      go_loopg [5, 6] j0 (fun j o i wr => ∃ out : Nat, j ≤ j0 ∧ NatAt wr o out ∧ i = .int .i64 ((j : Int) - 1) ∧ out ^ k ≤ n ∧ n < (out + 2 ^ j) ^ k ∧ Gr w wr)
      case atStart => exact ⟨0, Nat.le_refl _, HR1.out, rfl, by rw [Nat.zero_pow (by omega)]; exact Nat.zero_le _, root_first n wn k j0 HL3.out HJ.out, hg1⟩
      case round =>
        obtain ⟨out, hjj, ho, rfl, hlo, hhi, hgr⟩ := hrel
        clear ej
        have HO := Lib.hid ho
        have HLO := Lib.hid hlo
        have HHI := Lib.hid hhi
        clear ho hlo hhi
        by_cases hj : 0 < gk
        · obtain ⟨j, rfl⟩ : ∃ j, gk = j + 1 := ⟨gk - 1, by omega⟩
          have hji : ((j + 1 : Nat) : Int) - 1 = (j : Int) := by omega
          rw [hji]
          obtain ⟨d1, d2, d3⟩ := root_bd m n out j wn k HN.out HLO.out (by omega) l4 (by omega)
          have D1 := Lib.hid d1
          have D2 := Lib.hid d2
          have D3 := Lib.hid d3
          clear d1 d2 d3 hji
          go_wp2_with (go_at_call 130; (with_reducible refine (bit_calls j (by omega) _).mono ?_); rintro ev w2 ⟨⟨r2, rfl, hr2⟩, hg2⟩; have HR2 := Lib.hid hr2; clear hr2)
          have HA := Lib.hid (add_calls _ _ out (2 ^ j) w2 (HO.out.gr hg2) HR2.out.at_ (m + 1) D2.out D3.out (by omega))
          have hne : out + 2 ^ j ≠ 0 := by have := Nat.two_pow_pos j; omega
          have hst : ∀ q, n < (out + 2 ^ (j + 1)) ^ k → out + 2 ^ j = q → n < (q + 2 ^ j) ^ k := by rintro q h rfl; rw [Nat.add_assoc, ← Nat.two_mul, ← Nat.pow_succ']; exact h
          have hst := hst _ HHI.out rfl
          generalize hnx : out + 2 ^ j = nx at HA D1 hne hst
          have HNX := Lib.hid hnx
          have HST := Lib.hid hst
          have HNE := Lib.hid hne
          clear hnx hst hne
          go_wp2_with (go_at_call 59; (with_reducible refine HA.out.mono ?_); rintro ev w3 ⟨⟨r3, rfl, hr3⟩, hg3⟩; have HR3 := Lib.hid hr3; clear hr3)
          have HW3 := Lib.hid (width_calls _ nx w3 HR3.out.at_ (m + 1) D1.out (by omega))
          obtain ⟨x1, x2⟩ := wdN_lo nx HNE.out
          have x3 := wdN_hi nx
          have x4 := wdN_le nx (m + 1) D1.out
          generalize wdN nx = wx at HW3 x1 x2 x3 x4
          obtain ⟨z, hz⟩ : ∃ z : Nat, (wx - 1) * k = z := ⟨_, rfl⟩
          have hz1 : ((wx : Int) - 1) * (k : Int) = (z : Int) := by
            rw [← hz, Int.natCast_mul]; congr 1; omega
          have hz2 : z ≤ 1000000000 := by
            rw [← hz]
            have : (wx - 1) * k ≤ 1000000 * 1000 := Nat.mul_le_mul (by omega) hk3
            omega
          have HX2 := Lib.hid x2
          have HX3 := Lib.hid x3
          have HZE := Lib.hid hz
          clear x2 x3 hz
          by_cases hzw : z < wn
          · have b2 : decide (z < wn) = true := decide_eq_true hzw
            have hpb : nx ^ k < B ^ (2 * m + 1) := by
              have h1 := root_fits nx wn wx k HX3.out (by rw [HZE.out]; exact hzw) (by omega)
              rw [B_pow64]
              exact Nat.lt_of_lt_of_le h1 (Nat.pow_le_pow_right (by decide) (by omega))
            have hnb : nx < B ^ (2 * m + 1) := Nat.lt_of_lt_of_le D1.out (Nat.pow_le_pow_right B_pos (by omega))
            have hnn : n < B ^ (2 * m + 1) := Nat.lt_of_lt_of_le HN.out (Nat.pow_le_pow_right B_pos (by omega))
            have HPW := Lib.hid (pow_calls _ nx k w3 HR3.out.at_ (2 * m + 1) hnb hpb (by omega) (by omega) (by omega))
            have HPB := Lib.hid hpb
            have HNN := Lib.hid hnn
            clear hpb hnb hnn
            go_wp2_with (go_at_call 129; (with_reducible refine HW3.out.mono ?_); rintro ev w4 ⟨rfl, rfl⟩)
            go_wp2_with (go_at_call 129; (with_reducible refine (HW.out _ ((hgr.tr hg2).tr hg3)).mono ?_); rintro ev w4 ⟨rfl, rfl⟩)
            go_wp2_with (go_at_call 62; (with_reducible refine HPW.out.mono ?_); rintro ev w4 ⟨⟨r4, rfl, hr4⟩, hg4⟩; have HR4 := Lib.hid hr4; clear hr4)
            have HC := Lib.hid (cmp_calls _ _ (nx ^ k) n w4 HR4.out (HX.out.gr (((hgr.tr hg2).tr hg3).tr hg4)) (2 * m + 1) HPB.out HNN.out (by omega))
            by_cases hle : nx ^ k ≤ n
            · have b3 : decide (cmpN (nx ^ k) n ≤ 0) = true := decide_eq_true (cmpN_le.2 hle)
              have HLE := Lib.hid hle
              generalize cmpN (nx ^ k) n = cc at HC b3
              clear hle
              go_wp2_with (go_at_call 60; (with_reducible refine HC.out.mono ?_); rintro ev w5 ⟨rfl, hg5⟩)
              go_roundg j
              case measure => omega
              case rel => exact ⟨nx, by omega, (HR3.out.gr hg4).gr hg5, by first | rfl | go_num, HLE.out, HST.out, (((hgr.tr hg2).tr hg3).tr hg4).tr hg5⟩
            · have b3 : decide (cmpN (nx ^ k) n ≤ 0) = false := decide_eq_false (fun h => hle (cmpN_le.1 h))
              have HLE := Lib.hid hle
              generalize cmpN (nx ^ k) n = cc at HC b3
              clear hle
              go_wp2_with (go_at_call 60; (with_reducible refine HC.out.mono ?_); rintro ev w5 ⟨rfl, hg5⟩)
              go_roundg j
              case measure => omega
              case rel => exact ⟨out, by omega, HO.out.gr ((((Gr.rf _).tr hg2).tr hg3).tr (hg4.tr hg5)), by first | rfl | go_num, HLO.out, by rw [HNX.out]; have := HLE.out; omega, (((hgr.tr hg2).tr hg3).tr hg4).tr hg5⟩
          · have b2 : decide (z < wn) = false := decide_eq_false hzw
            have HSK := Lib.hid (root_skip nx n wn wx k HX2.out HL3.out (by rw [HZE.out]; omega))
            go_wp2_with (go_at_call 129; (with_reducible refine HW3.out.mono ?_); rintro ev w4 ⟨rfl, rfl⟩)
            go_wp2_with (go_at_call 129; (with_reducible refine (HW.out _ ((hgr.tr hg2).tr hg3)).mono ?_); rintro ev w4 ⟨rfl, rfl⟩)
            go_roundg j
            case measure => omega
            case rel => exact ⟨out, by omega, HO.out.gr (hg2.tr hg3), by first | rfl | go_num, HLO.out, by rw [HNX.out]; exact HSK.out, (hgr.tr hg2).tr hg3⟩
        · obtain rfl : gk = 0 := by omega
          go_wp2
          go_ret
          exact ⟨⟨_, out, rfl, HO.out, HLO.out, by have := HHI.out; rw [Nat.pow_zero] at this; exact this⟩, hgr⟩
end
end Go.Proofs.YtcjjgdoafkdeaaaGreatDoor
