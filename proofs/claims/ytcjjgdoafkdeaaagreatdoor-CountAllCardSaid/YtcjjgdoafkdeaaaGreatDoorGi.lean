/- Layer 2: the greatest common divisor's helpers at limbs of their own, one limb each; Layer 2: strconv.FormatUint by contract; Layer 2: (*Nat).Text by contract. -/
import Derived.Test.YtcjjgdoafkdeaaaGreatDoorGh
import Derived.Test.YtcjjgdoafkdeaaaGreatDoorShelf
import Derived.Lib.AppendIntMem
import Derived.Lib.ItoaWalk
import Derived.Lib.ItoaMem
import Derived.Maps.AppendAt
import Derived.Deep.Upon
namespace Go.Proofs.YtcjjgdoafkdeaaaGreatDoor
section
open Go.RowKit Go.Extern.Stop Go.Stop Go.Extern
set_option linter.unusedVariables false
set_option linter.unusedSimpArgs false

/-- A block whose first limb is x. -/
def Own1 (w : World) (g x : Nat) : Prop := ∃ cur, w.heap[g]? = some (.cells cur 56 (0, 0)) ∧ cur[0]? = some (U x)
theorem Own1.lt {w : World} {g x : Nat} (h : Own1 w g x) : g < w.heap.size := by
  obtain ⟨cur, h1, h2⟩ := h
  rcases Nat.lt_or_ge g w.heap.size with hlt | hge
  · exact hlt
  · rw [Array.getElem?_eq_none hge] at h1; cases h1
theorem Own1.cell {w : World} {g x : Nat} (h : Own1 w g x) : w.cell? ⟨g, 0, none⟩ = some (.int .u64 (x : Int)) := by
  obtain ⟨cur, h1, h2⟩ := h
  rw [cell_of_row w g 0 cur 56 (0, 0) h1]
  exact h2
theorem Own1.frozen {w : World} {g x : Nat} (h : Own1 w g x) : w.frozen? ⟨g, 0, none⟩ = false := by
  obtain ⟨cur, h1, h2⟩ := h
  simp [World.frozen?, h1]
theorem Own1.set {w : World} {g x : Nat} (h : Own1 w g x) (y : Nat) : Own1 (w.setCell ⟨g, 0, none⟩ (.int .u64 (y : Int))) g y := by
  obtain ⟨cur, h1, h2⟩ := h
  refine ⟨cur.setIfInBounds 0 (.int .u64 (y : Int)), by simp [World.setCell, Array.getElem?_modify, h1], ?_⟩
  have : 0 < cur.size := by
    rcases Nat.eq_zero_or_pos cur.size with h0 | h0
    · rw [Array.getElem?_eq_none (by omega)] at h2; cases h2
    · exact h0
  simp [this, U]
theorem Own1.of_block {w w' : World} {g x : Nat} (h : Own1 w g x) (e : w'.heap[g]? = w.heap[g]?) : Own1 w' g x := by
  obtain ⟨cur, h1, h2⟩ := h
  exact ⟨cur, e.trans h1, h2⟩
theorem Own1.gr {w w' : World} {g x : Nat} (h : Own1 w g x) (hg : Gr w w') : Own1 w' g x := h.of_block (hg.block g h.lt)
theorem Own1.grown {w w' : World} {g k x : Nat} (h : Own1 w g x) (hg : w.grownBy w' (some k)) (hne : g ≠ k) : Own1 w' g x := h.of_block (hg.block g h.lt (fun e => hne (by injection e)))
theorem Own1.alloc {w : World} {g x : Nat} (h : Own1 w g x) (o : Obj) : Own1 (w.alloc o) g x := h.gr ((Gr.rf w).alloc (Nat.le_refl _) o)
theorem Own1.lim {w : World} {g x : Nat} (h : Own1 w g x) (hx : x < B) (c : Nat) (h1 : 1 ≤ c) (h2 : c ≤ 9223372036854775807) : Lim w (.slice (some ⟨g, 0, none⟩) 1 c) [x] := by
  refine ⟨by simpa [Limbs] using hx, .inr ⟨g, 0, c, rfl, h1, h2, h.lt, fun i hi => ?_⟩⟩
  simp at hi
  subst hi
  exact h.cell
theorem own1_of {w : World} {base x : Nat} {v : Value} (h : w.ownsRow base 56 1 v 1 ([x].map U)) : ∃ g c, v = .slice (some ⟨g, 0, none⟩) 1 c ∧ base ≤ g ∧ 1 ≤ c ∧ c ≤ 9223372036854775807 ∧ Own1 w g x := by
  rcases h.2 with ⟨_, h0⟩ | ⟨g, cap, cur, hv, hb, hh, hc, hm, hs, ht⟩
  · cases h0
  · refine ⟨g, cap, hv, hb, hc, by unfold maxLen at hm; omega, cur, hh, ?_⟩
    have := congrArg (fun l => l[0]?) ht
    simpa using this
theorem grown_gr {b w w' : World} {g : Nat} (h : Gr b w) (hg : w.grownBy w' (some g)) (hb : b.heap.size ≤ g) : Gr b w' :=
  ⟨hg.os.trans h.os, hg.tape.trans h.tape, hg.output.trans h.output, Nat.le_trans h.size hg.size, fun i hi => (hg.block i (Nat.lt_of_lt_of_le hi h.size) (fun e => by injection e; omega)).trans (h.block i hi)⟩
theorem grown_set (w : World) (g : Nat) (v : Value) (o : Obj) : w.grownBy ((w.setCell ⟨g, 0, none⟩ v).alloc o) (some g) := by
  have h1 : w.grownBy (w.setCell ⟨g, 0, none⟩ v) (some g) := ⟨rfl, rfl, rfl, by simp [World.setCell], fun i hi hne => Below.heap_setCell w _ v i (by rintro rfl; exact hne rfl)⟩
  exact ⟨h1.os, h1.tape, h1.output, Nat.le_trans h1.size (by simp), fun i hi hne => (Below.heap_alloc _ o i (Nat.lt_of_lt_of_le hi h1.size)).trans (h1.block i hi hne)⟩

set_option maxRecDepth 100000 in
set_option maxHeartbeats 2000000 in
/-- nat.odd of one limb of its own. -/
theorem odd1_ex (x : Nat) (h0 : x ≠ 0) (hx : x < B) : ∃ t p : Nat, x = 2 ^ t * p ∧ p % 2 = 1 ∧
    ∀ (g c : Nat) (w : World), BitTab w → Own1 w g x → 1 ≤ c → c ≤ 9223372036854775807 →
      Calls Tryz.prog 221 #[.slice (some ⟨g, 0, none⟩) 1 c] w fun e w' => e = .returned (.slice (some ⟨g, 0, none⟩) 1 c) ∧ Own1 w' g p ∧ w.grownBy w' (some g) := by
  obtain ⟨t, p, e1, e2, ht, hcl⟩ := twos1_ex x h0 hx
  refine ⟨t, p, e1, e2, fun g c w hT ho hc1 hc2 => ?_⟩
  have HT := Lib.hid (hcl g 0 c w hT ho.cell)
  have hq : (x : Int) / 2 ^ t = (p : Int) := by
    have : x / 2 ^ t = p := by rw [e1, Nat.mul_div_cancel_left _ (Nat.two_pow_pos t)]
    rw [← this, Int.natCast_ediv, Int.natCast_pow]; rfl
  have hq2 : (x : Int) / 2 ^ (t % 64) = (p : Int) := by rw [Nat.mod_eq_of_lt (by omega)]; exact hq
  have t1 : (t : Int) / 64 = 0 := by omega
  have t2 : (t : Int) % 64 = (t : Int) := by omega
  have hp0 : p ≠ 0 := by omega
  have HO := Lib.hid ho
  have HS := Lib.hid (ho.set p)
  have HMD := Lib.hid (made1_calls g 0 c p (w.setCell ⟨g, 0, none⟩ (.int .u64 (p : Int))) hp0 (ho.set p).cell hc1)
  have hc0 : ¬ c = 0 := by omega
  clear hcl e1 e2 h0 hx hT ho hp0
  go_enter Tryz.func221, Tryz.ntmps221
  go_wp2_with (go_at_call 220; (with_reducible refine HT.out.mono ?_); rintro ev w1 ⟨rfl, rfl⟩)
  clear t1 t2
  go_loopg [15] 1 (fun n i wr => ∃ ii : Nat, n = 1 - ii ∧ ii ≤ 1 ∧ i = .int .i64 (ii : Int) ∧ (ii = 0 → wr = w) ∧ (ii = 1 → wr = w.setCell ⟨g, 0, none⟩ (.int .u64 (p : Int))))
  case atStart => exact ⟨0, rfl, by omega, rfl, fun _ => rfl, fun h => by cases h⟩
  case round =>
    obtain ⟨ii, hn, hle, rfl, hw0, hw1⟩ := hrel
    by_cases hii : ii = 0
    · obtain rfl := hw0 hii
      subst hii
      have hc := HO.out.cell
      have hf := HO.out.frozen
      clear hw0 hw1
      rw [show ((0 : Nat) : Int) = 0 from rfl]
      go_wp2
      go_roundg 0
      case measure => omega
      case rel => exact ⟨1, rfl, by omega, by first | rfl | go_num, (fun h => by cases h), fun _ => rfl⟩
    · have h1 : ii = 1 := by omega
      obtain rfl := hw1 h1
      subst h1
      clear hw0 hw1 hq hq2 hii
      rw [show ((1 : Nat) : Int) = 1 from rfl]
      go_wp2_with (go_at_call 116; (with_reducible refine HMD.out.mono ?_); rintro ev w1 ⟨rfl, rfl⟩)
      go_ret
      exact ⟨rfl, HS.out.alloc _, grown_set w g _ _⟩

set_option maxRecDepth 100000 in
set_option maxHeartbeats 2000000 in
/-- nat.less of one limb of its own and another. -/
theorem less1_calls (g c h d x y : Nat) (w : World) (hx : Own1 w g x) (hy : Own1 w h y) (hlt : y < x) (hxB : x < B) (hc1 : 1 ≤ c) (hd1 : 1 ≤ d) :
    Calls Tryz.prog 222 #[.slice (some ⟨g, 0, none⟩) 1 c, .slice (some ⟨h, 0, none⟩) 1 d] w fun e w' => e = .returned (.slice (some ⟨g, 0, none⟩) 1 c) ∧ Own1 w' g (x - y) ∧ w.grownBy w' (some g) := by
  have hsb : ∀ w, (callFunc 194 #[.int .u64 (x : Int), .int .u64 (y : Int), .int .u64 0]).run Tryz.prog w = .ok (.value (.tuple #[.int .u64 ((x - y : Nat) : Int), .int .u64 0])) w := fun w => by
    have e := sub64_run x y 0 (by omega) w
    have e1 : suLo x y 0 = x - y := by unfold suLo; rw [B_eq] at *; omega
    have e2 : suHi x y 0 = 0 := by unfold suHi; rw [if_neg (by omega)]
    rw [e1, e2] at e
    exact e
  have hp0 : x - y ≠ 0 := by omega
  have HX := Lib.hid hx
  have HY := Lib.hid hy
  generalize x - y = p at hsb hp0 ⊢
  have HS := Lib.hid (hx.set p)
  have HMD := Lib.hid (made1_calls g 0 c p (w.setCell ⟨g, 0, none⟩ (.int .u64 (p : Int))) hp0 (hx.set p).cell hc1)
  clear hx hy hlt hxB hp0
  go_enter Tryz.func222, Tryz.ntmps222
  go_wp2
  go_loopg [5, 10] 1 (fun n b i wr => ∃ ii : Nat, n = 1 - ii ∧ ii ≤ 1 ∧ b = .int .u64 0 ∧ i = .int .i64 (ii : Int) ∧ (ii = 0 → wr = w) ∧ (ii = 1 → wr = w.setCell ⟨g, 0, none⟩ (.int .u64 (p : Int))))
  case atStart => exact ⟨0, rfl, by omega, rfl, rfl, fun _ => rfl, fun h => by cases h⟩
  case round =>
    obtain ⟨ii, hn, hle, rfl, rfl, hw0, hw1⟩ := hrel
    by_cases hii : ii = 0
    · obtain rfl := hw0 hii
      subst hii
      have hc := HX.out.cell
      have hf := HX.out.frozen
      have hc2 := HY.out.cell
      clear hw0 hw1
      rw [show ((0 : Nat) : Int) = 0 from rfl]
      go_wp2
      go_roundg 0
      case measure => omega
      case rel => exact ⟨1, rfl, by omega, rfl, by first | rfl | go_num, (fun h => by cases h), fun _ => rfl⟩
    · have h1 : ii = 1 := by omega
      obtain rfl := hw1 h1
      subst h1
      clear hw0 hw1 hii hsb
      rw [show ((1 : Nat) : Int) = 1 from rfl]
      go_wp2_with (go_at_call 116; (with_reducible refine HMD.out.mono ?_); rintro ev w1 ⟨rfl, rfl⟩)
      go_ret
      exact ⟨rfl, HS.out.alloc _, grown_set w g _ _⟩

theorem two_unique_aux (t d p p' : Nat) (h : 2 ^ t * p = 2 ^ (t + d) * p') (hp : p % 2 = 1) : p' = p := by
  rw [Nat.pow_add, Nat.mul_assoc] at h
  have h1 := Nat.eq_of_mul_eq_mul_left (Nat.two_pow_pos t) h
  cases d with
  | zero => rw [Nat.pow_zero, Nat.one_mul] at h1; exact h1.symm
  | succ e => rw [Nat.pow_succ, Nat.mul_comm (2 ^ e) 2, Nat.mul_assoc] at h1; omega
theorem two_unique (t p t' p' : Nat) (h : 2 ^ t * p = 2 ^ t' * p') (hp : p % 2 = 1) (hp' : p' % 2 = 1) : p' = p := by
  rcases Nat.le_total t t' with hle | hle
  · exact two_unique_aux t (t' - t) p p' (by rw [show t + (t' - t) = t' by omega]; exact h) hp
  · exact (two_unique_aux t' (t - t') p' p (by rw [show t' + (t - t') = t by omega]; exact h.symm) hp').symm
theorem cmpN_eq (x : Nat) : cmpN x x = 0 := by unfold cmpN; rw [if_neg (by omega), if_neg (by omega)]
theorem cmpN_lt {x y : Nat} (h : x < y) : cmpN x y = -1 := by unfold cmpN; rw [if_pos h]
theorem cmpN_gt {x y : Nat} (h : y < x) : cmpN x y = 1 := by unfold cmpN; rw [if_neg (by omega), if_pos h]
theorem norm1 {x : Nat} (h : x ≠ 0) : Norm [x] := by unfold Norm; intro e; injection e with e; exact h e
theorem val1 (x : Nat) : val [x] = x := by simp [val]

set_option maxRecDepth 100000 in
set_option maxHeartbeats 4000000 in
/-- nat.common of one limb each. -/
theorem common1_calls (g1 o1 c1 g2 o2 c2 a b : Nat) (w : World) (hT : BitTab w) (ha0 : a ≠ 0) (hb0 : b ≠ 0) (haB : a < B) (hbB : b < B)
    (hca : w.cell? ⟨g1, o1, none⟩ = some (.int .u64 (a : Int))) (hcb : w.cell? ⟨g2, o2, none⟩ = some (.int .u64 (b : Int))) :
    Calls Tryz.prog 183 #[.slice (some ⟨g1, o1, none⟩) 1 c1, .slice (some ⟨g2, o2, none⟩) 1 c2] w fun e w' => (∃ r, e = .returned r ∧ NatAt w' r (Nat.gcd a b)) ∧ Gr w w' := by
  obtain ⟨s, p, e1, e2, hs, htw1⟩ := twos1_ex a ha0 haB
  obtain ⟨t, q, e3, e4, ht, htw2⟩ := twos1_ex b hb0 hbB
  obtain ⟨s', p', e1', e2', hodd1⟩ := odd1_ex a ha0 haB
  obtain ⟨t', q', e3', e4', hodd2⟩ := odd1_ex b hb0 hbB
  have hpp : p' % 2 = 1 ∧ p' < B ∧ p' = p :=
    ⟨e2', Nat.lt_of_le_of_lt (by rw [e1']; exact Nat.le_mul_of_pos_left _ (Nat.two_pow_pos _)) haB, (two_unique _ _ _ _ (e1.symm.trans e1') e2 e2')⟩
  have hqq : q' % 2 = 1 ∧ q' < B ∧ q' = q :=
    ⟨e4', Nat.lt_of_le_of_lt (by rw [e3']; exact Nat.le_mul_of_pos_left _ (Nat.two_pow_pos _)) hbB, (two_unique _ _ _ _ (e3.symm.trans e3') e4 e4')⟩
  obtain ⟨p1, p2, rfl⟩ := hpp
  obtain ⟨q1, q2, rfl⟩ := hqq
  have hg : Nat.gcd a b = Nat.gcd p' q' * 2 ^ min s t := by rw [e1, e3, gcd_twos s t p' q' p1 q1, Nat.mul_comm]
  rw [hg]
  have hmm : min (s : Int) (t : Int) = ((min s t : Nat) : Int) := by omega
  have hm63 : min s t ≤ 63 := by omega
  generalize min s t = m at hg hmm hm63 ⊢
  have H1 := Lib.hid (htw1 g1 o1 c1 w hT hca)
  have H2 := Lib.hid (htw2 g2 o2 c2 w hT hcb)
  have HC1 := Lib.hid (clone_calls g1 o1 1 c1 [a] w rfl (by omega) (fun j hj => by simp at hj; subst hj; exact hca))
  have HCB := Lib.hid hcb
  have HTT := Lib.hid hT
  have HO1 := Lib.hid hodd1
  have HO2 := Lib.hid hodd2
  have HP := Lib.hid (And.intro p1 p2)
  have HQ := Lib.hid (And.intro q1 q2)
  clear htw1 htw2 hodd1 hodd2 hca hcb hT e1 e3 e1' e2' e3' e4' p1 p2 q1 q2 ha0 hb0 haB hbB hg e2 e4
  go_enter Tryz.func183, Tryz.ntmps183
  go_wp2_with (go_at_call 220; (with_reducible refine H1.out.mono ?_); rintro ev w1 ⟨rfl, rfl⟩)
  go_wp2_with (go_at_call 220; (with_reducible refine H2.out.mono ?_); rintro ev w1 ⟨rfl, rfl⟩)
  go_wp2_with (go_at_call 124; (with_reducible refine HC1.out.mono ?_); rintro ev w1 ⟨v1, rfl, hw1, hb1⟩; obtain ⟨g, c, rfl, hg1, hc1, hc2, how1⟩ := own1_of hw1; have HOW1 := Lib.hid how1; have hgr1 := Gr.below hb1; clear hw1 hb1 how1)
  have HD1 := Lib.hid (HO1.out g c w1 (HTT.out.gr hgr1) HOW1.out hc1 hc2)
  go_wp2_with (go_at_call 221; (with_reducible refine HD1.out.mono ?_); rintro ev w2 ⟨rfl, how2, hgw2⟩; have HOW2 := Lib.hid how2; have hgr2 := grown_gr hgr1 hgw2 hg1; clear how2)
  have HC2 := Lib.hid (clone_calls g2 o2 1 c2 [b] w2 rfl (by omega) (fun j hj => by simp at hj; subst hj; exact (hgr2.cell (World.block_lt_of_cell? w _ HCB.out)).trans HCB.out))
  have hgs : g < w2.heap.size := HOW2.out.lt
  go_wp2_with (go_at_call 124; (with_reducible refine HC2.out.mono ?_); rintro ev w3 ⟨v3, rfl, hw3, hb3⟩; obtain ⟨h, d, rfl, hh1, hd1, hd2, how3⟩ := own1_of hw3; have HOW3 := Lib.hid how3; have hgr3 := Gr.below hb3; clear hw3 hb3 how3)
  have HD2 := Lib.hid (HO2.out h d w3 (HTT.out.gr (hgr2.tr hgr3)) HOW3.out hd1 hd2)
  go_wp2_with (go_at_call 221; (with_reducible refine HD2.out.mono ?_); rintro ev w4 ⟨rfl, how4, hgw4⟩; have HOW4 := Lib.hid how4; have hgr4 := grown_gr (hgr2.tr hgr3) hgw4 (Nat.le_trans hgr2.size hh1); clear how4)
  have HG4 := Lib.hid ((HOW2.out.gr hgr3).grown hgw4 (by omega))
  clear hmm
  go_loopg [0, 1] (p' + q') (fun n s0 s1 wr => ∃ (g h c d x y : Nat), n = x + y ∧ s0 = .slice (some ⟨g, 0, none⟩) 1 c ∧ s1 = .slice (some ⟨h, 0, none⟩) 1 d ∧ g ≠ h ∧ w.heap.size ≤ g ∧ w.heap.size ≤ h ∧ 1 ≤ c ∧ c ≤ 9223372036854775807 ∧ 1 ≤ d ∧ d ≤ 9223372036854775807 ∧
    Own1 wr g x ∧ Own1 wr h y ∧ x % 2 = 1 ∧ y % 2 = 1 ∧ x < B ∧ y < B ∧ Nat.gcd x y = Nat.gcd p' q' ∧ Gr w wr)
  case atStart => exact ⟨g, h, c, d, p', q', rfl, rfl, rfl, by omega, hg1, Nat.le_trans hgr2.size hh1, hc1, hc2, hd1, hd2, HG4.out, HOW4.out, HP.out.1, HQ.out.1, HP.out.2, HQ.out.2, rfl, hgr4⟩
  case round =>
    obtain ⟨g, h, c, d, x, y, hn, rfl, rfl, hgh, hwg, hwh, hc1, hc2, hd1, hd2, hox, hoy, hx1, hy1, hxB, hyB, hgcd, hgr⟩ := hrel
    have HX := Lib.hid hox
    have HY := Lib.hid hoy
    have HN := Lib.hid hn
    have HGC := Lib.hid hgcd
    have hcmp := compare_calls _ _ [x] [y] wr (hox.lim hxB c hc1 hc2) (hoy.lim hyB d hd1 hd2) (norm1 (by omega)) (norm1 (by omega)) (by simp) (by simp)
    rw [val1, val1] at hcmp
    have HB := Lib.hid (And.intro hxB hyB)
    have HX1 := Lib.hid (And.intro hx1 hy1)
    clear hox hoy hn hgcd hxB hyB
    rcases Nat.lt_trichotomy x y with hlt | heq | hgt
    · rw [cmpN_lt hlt] at hcmp
      have HCM := Lib.hid hcmp
      obtain ⟨t, p, e1, e2, hodd⟩ := odd1_ex (y - x) (by omega) (by have := HB.out; omega)
      have hgl := gcd_less y x t p hx1 (by omega) e1
      have hpl : p ≤ y - x := by rw [e1]; exact Nat.le_mul_of_pos_left _ (Nat.two_pow_pos t)
      have HE2 := Lib.hid (And.intro e2 hgl)
      have HOD := Lib.hid hodd
      clear hcmp hx1 hy1 e1 e2 hodd hgl
      go_wp2_with (go_at_call 118; (with_reducible refine HCM.out.mono ?_); rintro ev w1 ⟨rfl, hg1⟩)
      have HLS := Lib.hid (less1_calls h d g c y x w1 (HY.out.gr hg1) (HX.out.gr hg1) hlt HB.out.2 hd1 hc1)
      go_wp2_with (go_at_call 222; (with_reducible refine HLS.out.mono ?_); rintro ev w2 ⟨rfl, ho2, hg2⟩; have HW2 := Lib.hid ho2; clear ho2)
      have HGR2 := Lib.hid (grown_gr (hgr.tr hg1) hg2 hwh)
      have HX2 := Lib.hid ((HX.out.gr hg1).grown hg2 hgh)
      have HDO := Lib.hid (HOD.out h d w2 (HTT.out.gr HGR2.out) HW2.out hd1 hd2)
      go_wp2_with (go_at_call 221; (with_reducible refine HDO.out.mono ?_); rintro ev w3 ⟨rfl, ho3, hg3⟩; have HW3 := Lib.hid ho3; clear ho3)
      have HGR3 := Lib.hid (grown_gr HGR2.out hg3 hwh)
      have HX3 := Lib.hid (HX2.out.grown hg3 hgh)
      go_roundg (p + x)
      case measure => have := HN.out; have := HX1.out; omega
      case rel => exact ⟨h, g, d, c, p, x, rfl, rfl, rfl, fun e => hgh e.symm, hwh, hwg, hd1, hd2, hc1, hc2, HW3.out, HX3.out, HE2.out.1, HX1.out.1, by have := HB.out; omega, HB.out.1, by rw [HE2.out.2, Nat.gcd_comm]; exact HGC.out, HGR3.out⟩
    · subst heq
      rw [cmpN_eq] at hcmp
      have HCM := Lib.hid hcmp
      clear hcmp
      go_wp2_with (go_at_call 118; (with_reducible refine HCM.out.mono ?_); rintro ev w1 ⟨rfl, hg1⟩)
      have hmd := made_calls _ [x] w1 ((HX.out.gr hg1).lim HB.out.1 c hc1 hc2) (by simp)
      rw [val1] at hmd
      have HMD := Lib.hid hmd
      clear hmd
      go_wp2_with (go_at_call 116; (with_reducible refine HMD.out.mono ?_); rintro ev w2 ⟨⟨r2, rfl, hr2⟩, hg2⟩; have HR2 := Lib.hid hr2; clear hr2)
      go_wp2_with (go_at_call 130; (with_reducible refine (bit_calls m (by omega) _).mono ?_); rintro ev w3 ⟨⟨r3, rfl, hr3⟩, hg3⟩; have HR3 := Lib.hid hr3; clear hr3)
      have HMU := Lib.hid (mul_calls _ _ x (2 ^ m) w3 (HR2.out.gr hg3).at_ HR3.out.at_ 1 (by rw [Nat.pow_one]; exact HB.out.1) (by rw [Nat.pow_one, B_pow]; exact Nat.pow_lt_pow_right (by decide) (by omega)) (by omega))
      go_wp2_with (go_at_call 58; (with_reducible refine HMU.out.mono ?_); rintro ev w4 ⟨⟨r4, rfl, hr4⟩, hg4⟩; have HR4 := Lib.hid hr4; clear hr4)
      go_ret
      refine ⟨⟨_, rfl, ?_⟩, (((hgr.tr hg1).tr hg2).tr hg3).tr hg4⟩
      have := HGC.out
      rw [Nat.gcd_self] at this
      rw [← this]
      exact HR4.out.at_
    · rw [cmpN_gt hgt] at hcmp
      have HCM := Lib.hid hcmp
      obtain ⟨t, p, e1, e2, hodd⟩ := odd1_ex (x - y) (by omega) (by have := HB.out; omega)
      have hgl := gcd_less x y t p hy1 (by omega) e1
      have hpl : p ≤ x - y := by rw [e1]; exact Nat.le_mul_of_pos_left _ (Nat.two_pow_pos t)
      have HE2 := Lib.hid (And.intro e2 hgl)
      have HOD := Lib.hid hodd
      clear hcmp hx1 hy1 e1 e2 hodd hgl
      go_wp2_with (go_at_call 118; (with_reducible refine HCM.out.mono ?_); rintro ev w1 ⟨rfl, hg1⟩)
      have HLS := Lib.hid (less1_calls g c h d x y w1 (HX.out.gr hg1) (HY.out.gr hg1) hgt HB.out.1 hc1 hd1)
      go_wp2_with (go_at_call 222; (with_reducible refine HLS.out.mono ?_); rintro ev w2 ⟨rfl, ho2, hg2⟩; have HW2 := Lib.hid ho2; clear ho2)
      have HGR2 := Lib.hid (grown_gr (hgr.tr hg1) hg2 hwg)
      have HX2 := Lib.hid ((HY.out.gr hg1).grown hg2 (fun e => hgh e.symm))
      have HDO := Lib.hid (HOD.out g c w2 (HTT.out.gr HGR2.out) HW2.out hc1 hc2)
      go_wp2_with (go_at_call 221; (with_reducible refine HDO.out.mono ?_); rintro ev w3 ⟨rfl, ho3, hg3⟩; have HW3 := Lib.hid ho3; clear ho3)
      have HGR3 := Lib.hid (grown_gr HGR2.out hg3 hwg)
      have HX3 := Lib.hid (HX2.out.grown hg3 (fun e => hgh e.symm))
      go_roundg (p + y)
      case measure => have := HN.out; have := HX1.out; omega
      case rel => exact ⟨g, h, c, d, p, y, rfl, rfl, rfl, hgh, hwg, hwh, hc1, hc2, hd1, hd2, HW3.out, HX3.out, HE2.out.1, HX1.out.2, by have := HB.out; omega, HB.out.2, by rw [HE2.out.2]; exact HGC.out, HGR3.out⟩

set_option maxRecDepth 100000 in
/-- The limb, ahead of the walk. -/
theorem limb1_ex (v : Value) (n : Nat) (w : World) (h : NatAt w v n) (h0 : n ≠ 0) (hB : n < B) : ∃ g o c, w.cell? ⟨g, o, none⟩ = some (.int .u64 (n : Int)) ∧
    Calls Tryz.prog 117 #[v] w fun e w' => e = .returned (.slice (some ⟨g, o, none⟩) 1 c) ∧ w = w' := by
  obtain ⟨sa, p, sc, hl, hn, hv, hcl⟩ := limbs_ex v n w h
  have h1 := norm_length p hn 1 (by rw [hv, Nat.pow_one]; exact hB)
  have hz := norm_zero p hn
  obtain ⟨d, rfl⟩ : ∃ d, p = [d] := by
    cases p with
    | nil => exact absurd (hv.symm.trans rfl) h0
    | cons d t =>
      have ht : t = [] := List.eq_nil_of_length_eq_zero (by simpa using h1)
      exact ⟨d, by rw [ht]⟩
  rw [val1] at hv
  subst hv
  obtain ⟨g, o, c, e, hc⟩ := hl.get (Gr.rf w) 0 (by simp)
  cases e
  exact ⟨g, o, sc, hc, hcl⟩

set_option maxRecDepth 100000 in
set_option maxHeartbeats 4000000 in
/-- (*Nat).Gcd of numbers of one limb each. -/
theorem gcd1_calls (x y : Value) (a b : Nat) (w : World) (hT : BitTab w) (hx : NatAt w x a) (hy : NatAt w y b) (ha : a < B) (hb : b < B) :
    Calls Tryz.prog 132 #[x, y] w fun e w' => (∃ r, e = .returned r ∧ NatAt w' r (Nat.gcd a b)) ∧ Gr w w' := by
  have HC := Lib.hid (cmp_calls x y a b w hx hy 1 (by rw [Nat.pow_one]; exact ha) (by rw [Nat.pow_one]; exact hb) (by omega))
  have HTT := Lib.hid hT
  by_cases hlt : a < b
  case' pos =>
    have b1 : decide (cmpN a b < 0) = true := decide_eq_true (cmpN_neg.2 hlt)
    generalize cmpN a b = cc at b1 HC
    have HX := Lib.hid hy
    have HY := Lib.hid hx
    have hm : b < B := hb
    have hle : a ≤ b := by omega
    rw [Nat.gcd_comm]
    clear hx hy ha hb hlt hT
    obtain ⟨m, hm1⟩ : ∃ m, m = b := ⟨_, rfl⟩
    subst hm1
    obtain ⟨k, hk1⟩ : ∃ k, k = a := ⟨_, rfl⟩
    subst hk1
    obtain ⟨u, hu⟩ : ∃ u, u = y := ⟨_, rfl⟩
    subst hu
    obtain ⟨v, hv⟩ : ∃ v, v = x := ⟨_, rfl⟩
    subst hv
  case' neg =>
    have b1 : decide (cmpN a b < 0) = false := decide_eq_false (fun h => hlt (cmpN_neg.1 h))
    generalize cmpN a b = cc at b1 HC
    have HX := Lib.hid hx
    have HY := Lib.hid hy
    have hm : a < B := ha
    have hle : b ≤ a := by omega
    clear hx hy ha hb hlt hT
    obtain ⟨m, hm1⟩ : ∃ m, m = a := ⟨_, rfl⟩
    subst hm1
    obtain ⟨k, hk1⟩ : ∃ k, k = b := ⟨_, rfl⟩
    subst hk1
    obtain ⟨u, hu⟩ : ∃ u, u = x := ⟨_, rfl⟩
    subst hu
    obtain ⟨v, hv⟩ : ∃ v, v = y := ⟨_, rfl⟩
    subst hv
  all_goals
    have HB := Lib.hid (show m < B ∧ k < B from ⟨hm, by omega⟩)
    clear hm
    by_cases hk0 : k = 0
    · subst hk0
      go_enter Tryz.func132, Tryz.ntmps132
      go_wp2_with (go_at_call 60; (with_reducible refine HC.out.mono ?_); rintro ev w1 ⟨rfl, hg1⟩)
      have HZ := zero_calls v 0 w1 (HY.out.gr hg1)
      rw [show ((0 : Nat) == 0) = true from rfl] at HZ
      have HZ := Lib.hid HZ
      go_wp2_with (go_at_call 78; (with_reducible refine HZ.out.mono ?_); rintro ev w2 ⟨rfl, rfl⟩)
      obtain ⟨sa, p, sc, hl, hnm, hv, hcl⟩ := limbs_ex u m w1 (HX.out.gr hg1)
      have HMD := Lib.hid (made_calls _ p w1 hl (by have := norm_length p hnm 1 (by rw [hv, Nat.pow_one]; exact HB.out.1); omega))
      rw [hv] at HMD
      have HL := Lib.hid hcl
      clear hl hnm hv hcl
      go_wp2_with (go_at_call 117; (with_reducible refine HL.out.mono ?_); rintro ev w2 ⟨rfl, rfl⟩)
      go_wp2_with (go_at_call 116; (with_reducible refine HMD.out.mono ?_); rintro ev w2 ⟨⟨r, rfl, hr⟩, hg2⟩; have HR := Lib.hid hr; clear hr)
      go_ret
      refine ⟨⟨_, rfl, ?_⟩, hg1.tr hg2⟩
      rw [Nat.gcd_zero_right]
      exact HR.out.at_
    · have hkb : (k == 0) = false := beq_eq_false_iff_ne.2 hk0
      have HK0 := Lib.hid hk0
      clear hk0
      go_enter Tryz.func132, Tryz.ntmps132
      go_wp2_with (go_at_call 60; (with_reducible refine HC.out.mono ?_); rintro ev w1 ⟨rfl, hg1⟩)
      have HZ := zero_calls v k w1 (HY.out.gr hg1)
      rw [hkb] at HZ
      have HZ := Lib.hid HZ
      go_wp2_with (go_at_call 78; (with_reducible refine HZ.out.mono ?_); rintro ev w2 ⟨rfl, rfl⟩)
      have HD := Lib.hid (div1_calls u v m k w1 (HX.out.gr hg1) (HY.out.gr hg1) 1 (by rw [Nat.pow_one]; exact HB.out.1) HB.out.2 (by omega))
      go_wp2_with (go_at_call 55; (with_reducible refine HD.out.mono ?_); rintro ev w2 ⟨⟨_, hdv⟩, hg2⟩; obtain ⟨qq, rr, rfl, hq1, hr1⟩ := hdv (Nat.pos_of_ne_zero HK0.out); have HQ1 := Lib.hid hq1; have HR1 := Lib.hid hr1; clear hq1 hr1 hdv)
      have hml := Nat.mod_lt m (Nat.pos_of_ne_zero HK0.out)
      have hgr : Nat.gcd m k = Nat.gcd k (m % k) := by rw [Nat.gcd_comm, Nat.gcd_rec, Nat.gcd_comm]
      generalize m % k = r at HR1 hml hgr
      have HML := Lib.hid hml
      have HGR := Lib.hid hgr
      clear hml hgr
      have HZ2 := zero_calls rr r w2 HR1.out
      by_cases hr0 : r = 0
      · rw [show (r == 0) = true from beq_iff_eq.2 hr0] at HZ2
        have HZ2 := Lib.hid HZ2
        have HR0 := Lib.hid hr0
        clear hr0
        go_wp2_with (go_at_call 78; (with_reducible refine HZ2.out.mono ?_); rintro ev w3 ⟨rfl, rfl⟩)
        obtain ⟨sa, p, sc, hl, hnm, hv, hcl⟩ := limbs_ex v k w2 ((HY.out.gr hg1).gr hg2)
        have HMD := Lib.hid (made_calls _ p w2 hl (by have := norm_length p hnm 1 (by rw [hv, Nat.pow_one]; exact HB.out.2); omega))
        rw [hv] at HMD
        have HL := Lib.hid hcl
        clear hl hnm hv hcl
        go_wp2_with (go_at_call 117; (with_reducible refine HL.out.mono ?_); rintro ev w3 ⟨rfl, rfl⟩)
        go_wp2_with (go_at_call 116; (with_reducible refine HMD.out.mono ?_); rintro ev w3 ⟨⟨r3, rfl, hr3⟩, hg3⟩; have HR3 := Lib.hid hr3; clear hr3)
        go_ret
        refine ⟨⟨_, rfl, ?_⟩, (hg1.tr hg2).tr hg3⟩
        rw [HGR.out, HR0.out, Nat.gcd_zero_right]
        exact HR3.out.at_
      · rw [show (r == 0) = false from beq_eq_false_iff_ne.2 hr0] at HZ2
        have HZ2 := Lib.hid HZ2
        obtain ⟨ga, oa, ca, hca, hcl1⟩ := limb1_ex v k w2 ((HY.out.gr hg1).gr hg2) HK0.out HB.out.2
        obtain ⟨gb, ob, cb, hcb, hcl2⟩ := limb1_ex rr r w2 HR1.out hr0 (Nat.lt_trans HML.out HB.out.2)
        have HCO := Lib.hid (common1_calls ga oa ca gb ob cb k r w2 (HTT.out.gr (hg1.tr hg2)) HK0.out hr0 HB.out.2 (Nat.lt_trans HML.out HB.out.2) hca hcb)
        have HL1 := Lib.hid hcl1
        have HL2 := Lib.hid hcl2
        clear hca hcb hcl1 hcl2 hr0
        go_wp2_with (go_at_call 78; (with_reducible refine HZ2.out.mono ?_); rintro ev w3 ⟨rfl, rfl⟩)
        go_wp2_with (go_at_call 117; (with_reducible refine HL1.out.mono ?_); rintro ev w3 ⟨rfl, rfl⟩)
        go_wp2_with (go_at_call 117; (with_reducible refine HL2.out.mono ?_); rintro ev w3 ⟨rfl, rfl⟩)
        go_wp2_with (go_at_call 183; (with_reducible refine HCO.out.mono ?_); rintro ev w3 ⟨⟨r3, rfl, hr3⟩, hg3⟩; have HR3 := Lib.hid hr3; clear hr3)
        go_ret
        refine ⟨⟨_, rfl, ?_⟩, (hg1.tr hg2).tr hg3⟩
        rw [HGR.out]
        exact HR3.out
end
section
open Go.RowKit Go.Extern.Stop Go.Stop Go.Extern Go.Sort
set_option linter.unusedVariables false
set_option linter.unusedSimpArgs false

theorem Tryz.gPow : Tryz.prog.globalNamed "internal/strconv.uint64pow10" = some 6 := by kernel_rfl
/-- The table of strconv in its variable. -/
def PowTab (w : World) : Prop := Lib.TabIs Tryz.prog w "internal/strconv.uint64pow10" .u64 Lib.pow10Tab
theorem PowTab.gr {w w' : World} (h : PowTab w) (hg : Gr w w') : PowTab w' := by
  unfold PowTab Lib.TabIs World.var? at h ⊢
  rw [Tryz.gPow] at h ⊢
  simp only [Option.bind_some] at h ⊢
  have hlt : 6 < w.heap.size := by
    rcases Nat.lt_or_ge 6 w.heap.size with hlt | hge
    · exact hlt
    · rw [Array.getElem?_eq_none hge] at h; cases h
  rw [hg.block _ hlt]
  exact h
theorem grow_gr (w : World) (k : Nat) (os : Array Obj) : Gr w (grow (w.drewN k) os) :=
  ⟨rfl, rfl, rfl, by show w.heap.size ≤ (w.heap ++ os).size; rw [Array.size_append]; omega, fun i hi => Array.getElem?_append_left hi⟩

theorem fmt_conv (w : World) (u k v' : Nat) (dk : Array UInt8) (hH0 : Holds (fun (b : UInt8) => Value.int .u8 (b.toNat : Int)) (w.alloc (.cells Lib.zeros24 248)) w.heap.size 0 (Array.replicate (Lib.nDigits u) (0 : UInt8))) (hF : Lib.FmtInv (Lib.nDigits u) u 0 v' dk) :
    (convert 177 9 (.slice (some ⟨w.heap.size, 0, none⟩) (Lib.nDigits u) 24)).run Tryz.prog ((putRow (fun (b : UInt8) => Value.int .u8 (b.toNat : Int)) (w.alloc (.cells Lib.zeros24 248)) w.heap.size 0 dk).drewN k) = .ok (.string ⟨(Lib.decDigits u).toArray⟩) ((putRow (fun (b : UInt8) => Value.int .u8 (b.toNat : Int)) (w.alloc (.cells Lib.zeros24 248)) w.heap.size 0 dk).drewN k) := by
  have h := run_convert_bytes_back (P := Tryz.prog) ((putRow (fun (b : UInt8) => Value.int .u8 (b.toNat : Int)) (w.alloc (.cells Lib.zeros24 248)) w.heap.size 0 dk).drewN k) 177 9 5 ⟨w.heap.size, 0, none⟩ 24 (Lib.decDigits u) (by kernel_rfl) (by kernel_rfl) (by kernel_rfl) (fun j hj => by
    rw [Lib.row_is_numeral hF j hj, Lib.add_plain, World.cell?_drewN]
    exact cell?_putRow (fun (b : UInt8) => Value.int .u8 (b.toNat : Int)) _ w.heap.size 0 _ dk hH0 (by rw [hF.size, Array.size_replicate]) j (by rw [hF.size]; rw [Lib.decDigits_length] at hj; exact hj))
  rw [Lib.decDigits_length] at h
  exact h

set_option maxRecDepth 100000 in
set_option maxHeartbeats 4000000 in
theorem formatUintIn_calls (u : Nat) (hu64 : u < 18446744073709551616) (w : World) (htab : PowTab w) :
    Calls Tryz.prog 176 #[.int .u64 (u : Int), .int .i64 10] w fun e w' => e = .returned (.string ⟨(Lib.decDigits u).toArray⟩) ∧ Gr w w' := by
  by_cases hu : u < 100
  · have HS := Lib.hid (fun W => Tryz.internal_strconv_small u hu W)
    clear htab hu64
    go_enter Tryz.func176, Tryz.ntmps176
    go_wp2_with (go_at_call 213; (with_reducible refine (HS.out _).mono ?_); rintro e w' ⟨rfl, rfl⟩)
    go_ret
    exact ⟨rfl, Gr.rf _⟩
  · have hu1 : 1 ≤ u := by omega
    have hnd20 : Lib.nDigits u ≤ 20 := by have := Lib.numDigits_eq u hu1 hu64; split at this <;> omega
    have hal : Tryz.prog.arrayLen 248 = 24 := by kernel_rfl
    have hsl : ∀ W, (Instr.sliceAt 248 (.pointer (some ⟨w.heap.size, 0, none⟩)) none (some (.int .i64 (Lib.nDigits u : Int))) none).run Tryz.prog W = .ok (.slice (some ⟨w.heap.size, 0, none⟩) (Lib.nDigits u) 24) W := fun W => by
      rw [run_sliceAt_array_h W 248 ⟨w.heap.size, 0, none⟩ (by kernel_rfl) .i64 (Lib.nDigits u : Int) (by omega) (by rw [hal]; omega)]
      go_simp
    have hH0 := Lib.holds_zero0 w 248 (Lib.nDigits u) (by omega)
    have hfmt := Tryz.internal_strconv_formatBase10 w.heap.size 0 24 u (Array.replicate (Lib.nDigits u) 0) (w.alloc (.cells Lib.zeros24 248)) hH0 (by rw [Array.size_replicate]; exact Lib.lt_pow_nDigits u) hu64 (by rw [Array.size_replicate]; omega)
    rw [Array.size_replicate] at hfmt
    have HH0 := Lib.hid hH0
    have hnum := Tryz.internal_strconv_numDigits u hu1 hu64 _ (Lib.tabIs_alloc htab (.cells Lib.zeros24 248))
    have HN := Lib.hid hnum
    have HF := Lib.hid hfmt
    clear hH0 hal htab hnum hfmt
    go_enter Tryz.func176, Tryz.ntmps176
    go_wp2_with (go_at_call 214; refine HN.out.mono ?_; rintro e w' ⟨rfl, rfl⟩)
    go_wp2_with (go_at_call 215; refine HF.out.mono ?_; rintro e w' ⟨rfl, k, v', dk, rfl, hF⟩; have hcv := fmt_conv w u k v' dk HH0.out hF; obtain ⟨os, eo⟩ := Lib.fin_at w (.cells Lib.zeros24 248) dk k 0; have HE := Lib.hid eo; clear eo hF)
    go_wp2
    go_ret
    refine ⟨rfl, ?_⟩
    rw [HE.out]
    exact grow_gr w k os

set_option maxRecDepth 100000 in
theorem formatUint_calls (u : Nat) (hu64 : u < 18446744073709551616) (w : World) (htab : PowTab w) :
    Calls Tryz.prog 125 #[.int .u64 (u : Int), .int .i64 10] w fun e w' => e = .returned (.string ⟨(Lib.decDigits u).toArray⟩) ∧ Gr w w' := by
  have HF := Lib.hid (formatUintIn_calls u hu64 w htab)
  clear hu64 htab
  go_enter Tryz.func125, Tryz.ntmps125
  go_wp2_with (go_at_call 176; (with_reducible refine HF.out.mono ?_); rintro e w' ⟨rfl, hg⟩)
  go_ret
  exact ⟨rfl, hg⟩
end
section
open Go.RowKit Go.Extern.Stop Go.Stop Go.Extern Go.Sort
set_option linter.unusedVariables false
set_option linter.unusedSimpArgs false

set_option maxRecDepth 100000 in
set_option maxHeartbeats 1000000 in
/-- nat.made, its memory told. -/
theorem made_ex (a : Option Addr) (c : Nat) (l : List Nat) (w : World) (h : Lim w (.slice a l.length c) l) (hsz : l.length ≤ 1000000000) :
    Calls Tryz.prog 116 #[.slice a l.length c] w fun e w' => (∃ b l', e = .returned (.pointer (some ⟨b, 0, none⟩)) ∧ w'.cell? ⟨b, 0, none⟩ = some (.slice a l'.length c) ∧ Lim w' (.slice a l'.length c) l' ∧ Norm l' ∧ val l' = val l ∧ w.heap.size ≤ b) ∧ Gr w w' := by
  have H := Lib.hid h
  clear h
  go_enter Tryz.func116, Tryz.ntmps116
  go_wp2
  go_loopg [0] l.length (fun k v wr => ∃ l', v = .slice a l'.length c ∧ k = l'.length ∧ l'.length ≤ l.length ∧ Lim w (.slice a l'.length c) l' ∧ val l' = val l ∧ Gr w wr)
  case atStart => exact ⟨l, rfl, rfl, Nat.le_refl _, H.out, rfl, Gr.rf w⟩
  case round =>
    obtain ⟨l', rfl, hk, hle, hl, hv, hgr⟩ := hrel
    have HV := Lib.hid hv
    have HK := Lib.hid hk
    have HL := Lib.hid hl
    clear hv hk
    by_cases hne : 0 < l'.length
    · rcases hl.2 with ⟨h1, h2⟩ | ⟨g, o, c'', h1, h2, h3, h4, h5⟩
      · subst h2; simp at hne
      cases h1
      have hx : l'.getLast? = some (l'[l'.length - 1]'(by omega)) := by rw [List.getLast?_eq_getElem?, List.getElem?_eq_getElem (by omega)]
      have hc : wr.cell? ⟨g, o + (l'.length - 1), none⟩ = some (.int .u64 ((l'[l'.length - 1]'(by omega) : Nat) : Int)) := (hgr.cell h4).trans (h5 _ (by omega))
      generalize l'[l'.length - 1]'(by omega) = x at hx hc
      have HX := Lib.hid hx
      clear hx
      have hsub : ((l'.length : Int) - 1).toNat = l'.length - 1 := by omega
      have h5' := Lib.hid h5
      clear h5
      have hlt : (l'.take (l'.length - 1)).length = l'.length - 1 := by rw [List.length_take]; omega
      have HLT := Lib.hid hlt
      clear hlt
      by_cases hx0 : x = 0
      · have hb : ((x : Int) == 0) = true := beq_iff_eq.2 (by omega)
        go_wp2
        go_roundg (l'.length - 1)
        case measure => have := HK.out; omega
        case rel => exact ⟨l'.take (l'.length - 1), by rw [HLT.out], HLT.out.symm, by rw [HLT.out]; omega, by have := HL.out.take (l'.length - 1) (by omega); rw [HLT.out]; exact this, by rw [← HV.out, ← List.dropLast_eq_take, val_drop_last _ (by rw [HX.out, hx0])], hgr⟩
      · have hb : ((x : Int) == 0) = false := beq_eq_false_iff_ne.2 (by omega)
        have HX0 := Lib.hid hx0
        clear hx0
        go_wp2
        go_ret
        exact ⟨⟨_, l', rfl, (World.cell?_alloc_at _ _ _ _ rfl).trans rfl, (HL.out.gr hgr).gr ((Gr.rf wr).alloc (Nat.le_refl _) _), (by unfold Norm; rw [HX.out]; intro h; injection h with h; exact HX0.out h), HV.out, hgr.size⟩, hgr.alloc hgr.size _⟩
    · have hnil : l' = [] := List.eq_nil_of_length_eq_zero (by omega)
      have HNL := Lib.hid hnil
      clear hnil
      go_wp2
      go_ret
      exact ⟨⟨_, l', rfl, (World.cell?_alloc_at _ _ _ _ rfl).trans rfl, (HL.out.gr hgr).gr ((Gr.rf wr).alloc (Nat.le_refl _) _), (by rw [HNL.out]; simp [Norm]), HV.out, hgr.size⟩, hgr.alloc hgr.size _⟩

theorem Lim.grown {w w' : World} {a : Option Addr} {c : Nat} {l : List Nat} {row : Option Nat} (h : Lim w (.slice a l.length c) l) (hg : w.grownBy w' row) (hne : ∀ g o, a = some ⟨g, o, none⟩ → some g ≠ row) : Lim w' (.slice a l.length c) l := by
  refine ⟨h.1, ?_⟩
  rcases h.2 with h1 | ⟨g, o, c', hv, hc, hm, hlt, hcell⟩
  · exact .inl h1
  · cases hv
    exact .inr ⟨g, o, c, rfl, hc, hm, Nat.lt_of_lt_of_le hlt hg.size, fun i hi => (World.cell?_of_block (hg.block g hlt (hne g o rfl))).trans (hcell i hi)⟩
theorem heap_lt {w : World} {g : Nat} {o : Obj} (h : w.heap[g]? = some o) : g < w.heap.size := by
  rcases Nat.lt_or_ge g w.heap.size with hlt | hge
  · exact hlt
  · rw [Array.getElem?_eq_none hge] at h; cases h
theorem lim_own {w : World} {base : Nat} {v : Value} {l : List Nat} (h : w.ownsRow base 56 1 v l.length (l.map U)) (hl : Limbs l) : Lim w v l := by
  refine ⟨hl, ?_⟩
  rcases h.2 with ⟨hv, h0⟩ | ⟨g, cap, cur, hv, hb, hh, hc, hm, hs, ht⟩
  · exact .inl ⟨hv, List.eq_nil_of_length_eq_zero h0⟩
  · refine .inr ⟨g, 0, cap, hv, hc, by unfold maxLen at hm; omega, heap_lt hh, fun i hi => ?_⟩
    rw [cell_of_row w g (0 + i) cur _ (0, 0) hh, Nat.zero_add]
    have h1 := congrArg (fun x => x[i]?) ht
    simp only [Nat.mul_one] at h1
    rw [List.getElem?_take_of_lt hi, List.getElem?_map, List.getElem?_eq_getElem hi] at h1
    simpa using h1

set_option maxRecDepth 100000 in
/-- slices.Clone of limbs, nil among them. -/
theorem clone_lim (v : Value) (l : List Nat) (w : World) (h : Lim w v l) (hsz : l.length ≤ 1000000) :
    Calls Tryz.prog 124 #[v] w fun e w' => (∃ a c, e = .returned (.slice a l.length c) ∧ Lim w' (.slice a l.length c) l) ∧ Gr w w' := by
  rcases h.2 with ⟨rfl, rfl⟩ | ⟨g, o, c, rfl, h2, h3, h4, h5⟩
  · have q22 : ∀ (w : World) (a : Option Addr) (n c n' c' : Nat), (binOp .eql 24 (.slice a n c) (.slice none n' c')).run Tryz.prog w = .ok (.bool a.isNone) w := fun w a n c n' c' => Lib.run_eql_slice_nil w _ _ a n c n' c' under24
    clear h
    go_enter Tryz.func124, Tryz.ntmps124
    go_wp2
    go_ret
    exact ⟨⟨none, 0, rfl, by simp [Limbs], .inl ⟨rfl, rfl⟩⟩, Gr.rf w⟩
  · refine (clone_calls g o l.length c l w rfl hsz (fun j hj => by rw [h5 j hj, List.getD_eq_getElem?_getD, List.getElem?_eq_getElem hj]; rfl)).mono ?_
    rintro e w' ⟨v', rfl, hown, hb⟩
    have hl := lim_own hown h.1
    obtain ⟨a, c', rfl⟩ := hl.slice
    exact ⟨⟨a, c', rfl, hl⟩, Gr.below hb⟩

/-- Strings in a row of the call's own. -/
theorem own_strs {w : World} {base n : Nat} {v : Value} {strs : List ByteArray} (h : w.ownsRow base 9 1 v n (strs.map Value.string)) (hn : 0 < n) : ∃ g cap, v = .slice (some ⟨g, 0, none⟩) n cap ∧ base ≤ g ∧ g < w.heap.size ∧ n ≤ cap ∧ cap ≤ maxLen ∧ strs.length = n ∧
    (∀ i, i < n → w.cell? ⟨g, 0 + i, none⟩ = some (.string (strs.getD i ⟨#[]⟩))) ∧ ∀ i, i < n → w.frozen? ⟨g, 0 + i, none⟩ = false := by
  have hlen : strs.length = n := by simpa using h.1
  rcases h.2 with ⟨hv, h0⟩ | ⟨g, cap, cur, hv, hb, hh, hc, hm, hs, ht⟩
  · omega
  · refine ⟨g, cap, hv, hb, heap_lt hh, hc, hm, hlen, fun i hi => ?_, fun i hi => by simp [World.frozen?, hh]⟩
    rw [cell_of_row w g (0 + i) cur _ (0, 0) hh, Nat.zero_add]
    have h1 := congrArg (fun x => x[i]?) ht
    simp only [Nat.mul_one] at h1
    have hi' : i < strs.length := by omega
    rw [List.getElem?_take_of_lt hi, List.getElem?_map, List.getElem?_eq_getElem hi'] at h1
    rw [List.getD_eq_getElem?_getD, List.getElem?_eq_getElem hi']
    simpa using h1
theorem strsOf_eq (strs : List ByteArray) : Lib.strsOf (fun i => strs.getD i ⟨#[]⟩) strs.length = strs.map fun s => s.data.toList := by
  unfold Lib.strsOf
  apply List.ext_getElem
  · simp
  · intro i h1 h2
    simp at h1
    simp [List.getD_eq_getElem?_getD, List.getElem?_eq_getElem h1]
theorem cells_rest (g : Nat) : ∀ (vs : List Value) (o : Nat) (w : World), (w.setCells g o vs).tape = w.tape ∧ (w.setCells g o vs).heap.size = w.heap.size
  | [], _, _ => ⟨rfl, rfl⟩
  | v :: r, o, w => by
    obtain ⟨h1, h2⟩ := cells_rest g r (o + 1) (w.setCell ⟨g, o, none⟩ v)
    exact ⟨h1.trans rfl, h2.trans (by simp [World.setCell])⟩
theorem grown_cells (w : World) (q g o : Nat) (vs : List Value) : w.grownBy ((w.drewN q).setCells g o vs) (some g) := by
  obtain ⟨h1, h2⟩ := cells_rest g vs o (w.drewN q)
  exact ⟨(World.os_setCells _ _ _ _).trans rfl, h1.trans rfl, (World.output_setCells _ _ _ _).trans rfl, by rw [h2]; exact Nat.le_refl _, fun i hi hne => (World.heap_setCells_other (w.drewN q) g o vs hi (fun e => hne (by rw [e]))).trans rfl⟩
/-- The parts, turned. -/
theorem rev_calls (g cap : Nat) (strs : List ByteArray) (w : World) (hbig : strs.length ≤ 1000000) (hc : ∀ i, i < strs.length → w.cell? ⟨g, 0 + i, none⟩ = some (.string (strs.getD i ⟨#[]⟩))) (hf : ∀ i, i < strs.length → w.frozen? ⟨g, 0 + i, none⟩ = false) :
    Calls Tryz.prog 127 #[.slice (some ⟨g, 0, none⟩) strs.length cap] w fun e w' => e = .returned (.tuple #[]) ∧ (∀ (j : Nat) x, strs.reverse[j]? = some x → w'.cell? ⟨g, 0 + j, none⟩ = some (.string x)) ∧ w.grownBy w' (some g) := by
  refine (Tryz.slices_Reverse_string_cells g 0 strs.length cap (fun i => strs.getD i ⟨#[]⟩) w (by omega) hc hf).mono ?_
  rintro e w' ⟨rfl, q, rfl⟩
  rw [strsOf_eq]
  refine ⟨rfl, fun j x hj => ?_, grown_cells _ _ _ _ _⟩
  have hjl : j < strs.length := by have := (List.getElem?_eq_some_iff.1 hj).1; simpa using this
  have hin := World.cell?_setCells_in g ((strs.map fun s => s.data.toList).reverse.map encStr) 0 (w.drewN q) (fun i hi => by
    have hi' : i < strs.length := by simpa using hi
    rw [World.cell?_drewN, hc i hi']; rfl) j (by simpa using hjl)
  rw [hin]
  congr 1
  have hx : x = strs.reverse[j]'(by simpa using hjl) := by
    rw [List.getElem?_eq_getElem (by simpa using hjl)] at hj
    exact (Option.some.inj hj).symm
  subst hx
  simp [encStr]
theorem join_flat (xs : List (List UInt8)) : Lib.join xs [] = xs.flatten := by
  cases xs with
  | nil => rfl
  | cons x r => rw [Lib.join_cons]; simp [Lib.joinTail]
/-- The text's tail that the parts are. -/
def tailOf (strs : List ByteArray) : List UInt8 := (strs.reverse.map fun s => s.data.toList).flatten
theorem tailOf_snoc (strs : List ByteArray) (s : ByteArray) : tailOf (strs ++ [s]) = s.data.toList ++ tailOf strs := by
  unfold tailOf; simp
def TextInv (n q : Nat) (strs : List ByteArray) : Prop :=
  strs.length ≤ (tailOf strs).length ∧ (0 < q → Lib.decDigits n = Lib.decDigits q ++ tailOf strs) ∧ (q = 0 → 0 < n → strs ≠ [] ∧ Lib.decDigits n = tailOf strs) ∧ (n = 0 → strs = [])
theorem textInv_start (n : Nat) : TextInv n n [] := ⟨Nat.le_refl _, fun _ => by simp [tailOf], fun h1 h2 => by omega, fun _ => rfl⟩
theorem nd_pos (r : Nat) : 1 ≤ (Lib.decDigits r).length := by rw [Lib.decDigits_length]; exact Lib.nDigits_pos r
theorem textInv_more {n q : Nat} {strs : List ByteArray} (h : TextInv n q strs) (hn : 0 < n) (s : ByteArray) (hq : 0 < q / 1000000000000000000) (hs : s.data.toList = padN 18 (q % 1000000000000000000)) : TextInv n (q / 1000000000000000000) (strs ++ [s]) := by
  have hr : q % 1000000000000000000 < 10 ^ 18 := Nat.mod_lt _ (by decide)
  refine ⟨?_, fun _ => ?_, fun h0 => by omega, fun h0 => by omega⟩
  · rw [tailOf_snoc, List.length_append, List.length_append, hs, padN_length 18 _ (nd_le 18 _ (by decide) hr), List.length_singleton]; have := h.1; omega
  · rw [tailOf_snoc, hs, ← List.append_assoc, ← decDigits_parts 18 _ _ (by decide) hr hq, show q / 1000000000000000000 * 10 ^ 18 + q % 1000000000000000000 = q by omega]
    exact h.2.1 (by omega)
theorem textInv_last {n q : Nat} {strs : List ByteArray} (h : TextInv n q strs) (hn : 0 < n) (h0 : 0 < q) (s : ByteArray) (hq : q / 1000000000000000000 = 0) (hs : s.data.toList = Lib.decDigits (q % 1000000000000000000)) : TextInv n (q / 1000000000000000000) (strs ++ [s]) := by
  have hr : q % 1000000000000000000 = q := by omega
  rw [hr] at hs
  refine ⟨?_, fun h1 => by omega, fun _ _ => ⟨by simp, ?_⟩, fun h0 => by omega⟩
  · rw [tailOf_snoc, List.length_append, List.length_append, hs, List.length_singleton]; have := h.1; have := nd_pos q; omega
  · rw [tailOf_snoc, hs]; exact h.2.1 h0
theorem B_le_ten (m : Nat) : B ^ m ≤ 10 ^ (20 * m) := by rw [Nat.pow_mul]; exact Nat.pow_le_pow_left (by decide) m
end
end Go.Proofs.YtcjjgdoafkdeaaaGreatDoor
