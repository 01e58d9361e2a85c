/- Layer 2: (*Nat).Text by contract, the walk; Layer 2, plain: texts of digits; Layer 2: nat.Get by contract. -/
import Derived.Test.YtcjjgdoafkdeaaaGreatDoorGi
import Derived.Lib.SlTrimSet
import Derived.Lib.ParseIntB
import Derived.Laws.Strings
import Derived.Shelf.Strings.SlTrimAscii
namespace Go.Proofs.YtcjjgdoafkdeaaaGreatDoor
section
open Go.RowKit Go.Extern.Stop Go.Stop Go.Extern Go.Sort
set_option linter.unusedVariables false
set_option linter.unusedSimpArgs false

theorem info9 : (Tryz.prog.info? 9).map (fun i => (i.zero, i.size, i.bytes)) = some (some (.string ⟨#[]⟩), 1, 16) := by kernel_rfl
theorem rep48 (c : Nat) : Lib.repeatL [48] c = List.replicate c 48 := by
  induction c with
  | zero => rfl
  | succ c ih => rw [Lib.repeatL, ih, List.replicate_succ]; rfl
theorem ba_list (l : List UInt8) : (⟨l.toArray⟩ : ByteArray).data.toList = l := rfl

theorem Lim.alloc_ {w : World} {v : Value} {l : List Nat} (h : Lim w v l) (o : Obj) : Lim (w.alloc o) v l := h.gr ((Gr.rf w).alloc (Nat.le_refl _) o)
theorem own_gr {w w' : World} {base : Nat} {e : TypeId} {s n : Nat} {v : Value} {xs : List Value} (h : w.ownsRow base e s v n xs) (hg : Gr w w') : w'.ownsRow base e s v n xs := by
  refine ⟨h.1, ?_⟩
  rcases h.2 with h1 | ⟨g, cap, cur, hv, hb, hh, hrest⟩
  · exact .inl h1
  · exact .inr ⟨g, cap, cur, hv, hb, (hg.block g (heap_lt hh)).trans hh, hrest⟩
/-- The two callees that make a part. -/
theorem fmt_ex (r : Nat) (hr : r < 1000000000000000000) : ∃ S : ByteArray, S.data.toList = Lib.decDigits r ∧ 1 ≤ S.size ∧ S.size ≤ 18 ∧
    ∀ w, PowTab w → Calls Tryz.prog 125 #[.int .u64 (r : Int), .int .i64 10] w fun e w' => e = .returned (.string S) ∧ Gr w w' := by
  have h1 := nd_le 18 r (by decide) hr
  have h2 := nd_pos r
  refine ⟨⟨(Lib.decDigits r).toArray⟩, rfl, ?_, ?_, fun w hT => formatUint_calls r (by omega) w hT⟩
  · simpa [ByteArray.size] using h2
  · simpa [ByteArray.size] using h1
theorem rep_ex (c : Nat) (hc : c ≤ 100000) : ∃ R : ByteArray, R.data.toList = List.replicate c 48 ∧ R.size = c ∧
    ∀ w, Calls Tryz.prog 126 #[.string ⟨#[48]⟩, .int .i64 (c : Int)] w fun e w' => e = .returned (.string R) ∧ Gr w w' := by
  refine ⟨⟨(Lib.repeatL [48] c).toArray⟩, by rw [ba_list, rep48], by simp [ByteArray.size, rep48], fun w => ?_⟩
  refine (Tryz.strings_Repeat ⟨#[48]⟩ c w (by omega) (by simp [ByteArray.size]; omega)).mono ?_
  rintro e w' ⟨rfl, hb⟩
  exact ⟨rfl, Gr.below hb⟩

set_option maxRecDepth 100000 in
set_option maxHeartbeats 8000000 in
/-- (*Nat).Text. -/
theorem text_nat (x : Value) (n : Nat) (w : World) (hx : NatAt w x n) (m : Nat) (hn : n < B ^ m) (hm0 : 1 ≤ m) (hm : m ≤ 1000) (hT : PowTab w) :
    Calls Tryz.prog 61 #[x] w fun e w' => e = .returned (.string ⟨(Lib.decDigits n).toArray⟩) ∧ Gr w w' := by
  obtain ⟨i0, hi, hz0, hz1, hz2⟩ := info_parts info9
  obtain ⟨sa, p0, sc, hl, hnm, hv, hcl⟩ := limbs_ex x n w hx
  have h1 := norm_length p0 hnm m (by rw [hv]; exact hn)
  have HCL := Lib.hid (clone_lim _ p0 w hl (by omega))
  have HL := Lib.hid hcl
  have HV := Lib.hid (And.intro hv hnm)
  have HTT := Lib.hid hT
  have hnd : (Lib.decDigits n).length ≤ 20 * m := nd_le (20 * m) n (by omega) (Nat.lt_of_lt_of_le hn (B_le_ten m))
  have HND := Lib.hid hnd
  have HN := Lib.hid hn
  clear hl hnm hv hcl hx hT hn hnd
  go_enter Tryz.func61, Tryz.ntmps61
  go_wp2_with (go_at_call 117; (with_reducible refine HL.out.mono ?_); rintro ev w1 ⟨rfl, rfl⟩)
  go_wp2_with (go_at_call 124; (with_reducible refine HCL.out.mono ?_); rintro ev w1 ⟨⟨a1, c1, rfl, hl1⟩, hg1⟩; have HL1 := Lib.hid hl1; clear hl1)
  go_loopg [3, 4] n (fun k pv lv wr => ∃ (p : List Nat) (a : Option Addr) (c : Nat) (strs : List ByteArray), k = val p ∧ lv = .slice a p.length c ∧ Lim wr (.slice a p.length c) p ∧ Norm p ∧ wr.ownsRow w.heap.size 9 1 pv strs.length (strs.map Value.string) ∧ TextInv n (val p) strs ∧ val p ≤ n ∧ p.length ≤ m ∧ Gr w wr)
  case atStart => exact ⟨p0, a1, c1, [], HV.out.1.symm, rfl, HL1.out, HV.out.2, World.ownsRow_nil _ _ _ _, by rw [HV.out.1]; exact textInv_start n, by rw [HV.out.1]; exact Nat.le_refl _, h1, hg1⟩
  case round =>
    obtain ⟨p, a, c, strs, hk, rfl, hlim, hnm, hown, hinv, hle, hpm, hgr⟩ := hrel
    have HK := Lib.hid hk
    have HLM := Lib.hid hlim
    have HNM := Lib.hid hnm
    have HI := Lib.hid hinv
    have HLE := Lib.hid hle
    clear hk hlim hnm hinv hle
    by_cases hpl : 0 < p.length
    · have hv0 : 0 < val p := Nat.pos_of_ne_zero fun e => by have := (norm_zero p HNM.out).1 e; subst this; exact absurd hpl (by simp)
      have hsl : strs.length ≤ 20 * m := by
        have i1 := HI.out.1
        have i2 := congrArg List.length (HI.out.2.1 hv0)
        rw [List.length_append] at i2
        have := HND.out
        omega
      have hn0 : 0 < n := by have := HLE.out; omega
      have HV0 := Lib.hid (And.intro hv0 hn0)
      have hs := short_calls a c p 1000000000000000000 wr HLM.out (by decide) (by decide) (by omega)
      rw [show ((1000000000000000000 : Nat) : Int) = 1000000000000000000 from rfl] at hs
      have hr18 := Nat.mod_lt (val p) (show 0 < 1000000000000000000 by decide)
      have hmore := textInv_more HI.out hn0
      have hlast := textInv_last HI.out hn0 hv0
      have hqle : val p / 1000000000000000000 < val p := Nat.div_lt_self hv0 (by decide)
      generalize val p % 1000000000000000000 = rm at hs hr18 hmore hlast
      generalize val p / 1000000000000000000 = qq at hs hmore hlast hqle
      obtain ⟨S, hS, hS1, hS2, hfu⟩ := fmt_ex rm hr18
      have HQL := Lib.hid hqle
      have HSH := Lib.hid hs
      have HMO := Lib.hid hmore
      have HLA := Lib.hid hlast
      have HFU := Lib.hid hfu
      have HSS := Lib.hid hS
      clear hv0 hn0 hs hr18 hmore hlast hfu hS hqle
      go_wp2_with (go_at_call 119; (with_reducible refine HSH.out.mono ?_); rintro ev w2 ⟨rfl, ⟨l', hl1, hl2, hl3⟩, hg2⟩)
      have HL1 := Lib.hid hl1
      have HL2 := Lib.hid hl2
      rw [← hl1] at hl3
      have hmd := made_ex _ _ l' w2 hl3 (by omega)
      rw [hl1, hl2] at hmd
      have HMD := Lib.hid hmd
      clear hl1 hl2 hl3 hmd
      go_wp2_with (go_at_call 116; (with_reducible refine HMD.out.mono ?_); rintro ev w3 ⟨⟨b3, l3, rfl, hc3, hl3, hn3, hv3, _⟩, hg3⟩; have HL3 := Lib.hid hl3; have HN3 := Lib.hid hn3; have HV3 := Lib.hid hv3; clear hl3 hn3 hv3)
      have hg23 := hgr.tr (hg2.tr hg3)
      have HF3 := Lib.hid (HFU.out w3 (HTT.out.gr hg23))
      have hl3m : l3.length ≤ m := norm_length l3 HN3.out m (by rw [HV3.out]; exact Nat.lt_of_lt_of_le (Nat.lt_of_lt_of_le HQL.out HLE.out) (Nat.le_of_lt HN.out))
      clear hc3
      by_cases hq : 0 < l3.length
      · have hqq : 0 < qq := by rw [← HV3.out]; exact Nat.pos_of_ne_zero fun e => by have := (norm_zero l3 HN3.out).1 e; subst this; exact absurd hq (by simp)
        obtain ⟨R, hR, hR1, hrep⟩ := rep_ex (18 - S.size) (by omega)
        have hcz : ((18 - S.size : Nat) : Int) = 18 - (S.size : Int) := by omega
        rw [hcz] at hrep
        have hpad : (R ++ S).data.toList = padN 18 rm := by
          have e1 : S.size = (Lib.decDigits rm).length := by rw [← HSS.out]; exact Array.length_toList.symm
          rw [ByteArray.data_append, Array.toList_append, hR, HSS.out, e1]; rfl
        have hsz : (R ++ S).size = 18 := by rw [ByteArray.size_append, hR1]; omega
        have HRE := Lib.hid hrep
        have HPD := Lib.hid hpad
        have HQQ := Lib.hid hqq
        clear hR hcz hrep hpad hqq
        go_wp2_with (go_at_call 125; (with_reducible refine HF3.out.mono ?_); rintro ev w4 ⟨rfl, hg4⟩)
        go_wp2_with (first
          | (go_at_call 126; (with_reducible refine (HRE.out _).mono ?_); rintro ev w5 ⟨rfl, hg5⟩; have hown5 := own_gr hown (hg2.tr (hg3.tr (hg4.tr hg5))))
          | (at_builtin; refine wpList_append_own _ rfl _ _ 40 rfl w.heap.size 9 i0 (.string ⟨#[]⟩) 1 16 Tryz.underlying40 hi hz0 hz1 hz2 rfl (by decide) _ _ _ rfl (hown5.alloc _) ⟨w5.heap.size, 0, none⟩ 1 1 [.string (R ++ S)] rfl rfl ?c1 ?c2 ?c3 ?c4 ?c5 ?_))
        case c1 => exact cell_one_new _ _ _
        case c2 => simp [Value.oneCell']
        case c3 => simp only [maxLen]; omega
        case c4 => omega
        case c5 => have := ((hg23.tr hg4).tr hg5).size; simp; omega
        intro v' w6 hown6 hgrow _
        have hg6 : Gr w w6 := (((hg23.tr hg4).tr hg5).alloc ((hg23.tr hg4).tr hg5).size _).grown hgrow (by have := ((hg23.tr hg4).tr hg5).size; simp; omega) (fun k hk => (hown.lt k hk).1)
        have hl6 := ((HL3.out.gr (hg4.tr hg5)).alloc_ (.cells #[.string (R ++ S)] 9)).grown hgrow (fun g o e => by injection e with e; injection e with e1; subst e1; intro h; have := (hown.lt _ h.symm).2; omega)
        go_wp2
        go_roundg qq
        case measure => have := HK.out; have := HQL.out; omega
        case rel => exact ⟨l3, _, _, strs ++ [R ++ S], HV3.out.symm, rfl, hl6, HN3.out, by simpa using hown6, by rw [HV3.out]; exact HMO.out (R ++ S) HQQ.out HPD.out, by rw [HV3.out]; exact Nat.le_trans (Nat.le_of_lt HQL.out) HLE.out, hl3m, hg6⟩
      · have hqq : qq = 0 := by
          have hnil : l3 = [] := List.eq_nil_of_length_eq_zero (by omega)
          rw [← HV3.out, hnil]; rfl
        have HQQ := Lib.hid hqq
        clear hqq
        go_wp2_with (first
          | (go_at_call 125; (with_reducible refine HF3.out.mono ?_); rintro ev w5 ⟨rfl, hg4⟩; have hown5 := own_gr hown (hg2.tr (hg3.tr hg4)))
          | (at_builtin; refine wpList_append_own _ rfl _ _ 40 rfl w.heap.size 9 i0 (.string ⟨#[]⟩) 1 16 Tryz.underlying40 hi hz0 hz1 hz2 rfl (by decide) _ _ _ rfl (hown5.alloc _) ⟨w5.heap.size, 0, none⟩ 1 1 [.string (S)] rfl rfl ?c1 ?c2 ?c3 ?c4 ?c5 ?_))
        case c1 => exact cell_one_new _ _ _
        case c2 => simp [Value.oneCell']
        case c3 => simp only [maxLen]; omega
        case c4 => omega
        case c5 => have := (hg23.tr hg4).size; simp; omega
        intro v' w6 hown6 hgrow _
        have hg6 : Gr w w6 := ((hg23.tr hg4).alloc (hg23.tr hg4).size _).grown hgrow (by have := (hg23.tr hg4).size; simp; omega) (fun k hk => (hown.lt k hk).1)
        have hl6 := ((HL3.out.gr hg4).alloc_ (.cells #[.string (S)] 9)).grown hgrow (fun g o e => by injection e with e; injection e with e1; subst e1; intro h; have := (hown.lt _ h.symm).2; omega)
        go_wp2
        go_roundg qq
        case measure => have := HK.out; have := HQL.out; omega
        case rel => exact ⟨l3, _, _, strs ++ [S], HV3.out.symm, rfl, hl6, HN3.out, by simpa using hown6, by rw [HV3.out]; exact HLA.out S HQQ.out HSS.out, by rw [HV3.out]; exact Nat.le_trans (Nat.le_of_lt HQL.out) HLE.out, hl3m, hg6⟩
    · have hp0 : p = [] := List.eq_nil_of_length_eq_zero (by omega)
      have hv0 : val p = 0 := by rw [hp0]; rfl
      have hinv := HI.out
      rw [hv0] at hinv
      by_cases hn0 : n = 0
      · have hs := hinv.2.2.2 hn0
        subst hs
        subst hn0
        clear hp0 hv0 hinv
        rcases hown.2 with ⟨rfl, _⟩ | ⟨g, cap, cur, rfl, _⟩
        all_goals
          clear hown
          go_wp2
          go_ret
          exact ⟨ret_str (by rw [Lib.decDigits_one (show 0 < 10 by decide)]; rfl), hgr⟩
      · obtain ⟨hs, hd⟩ := hinv.2.2.1 rfl (by omega)
        have hsl : strs.length ≤ 20 * m := by
          have i1 := hinv.1
          rw [← hd] at i1
          have := HND.out
          omega
        have hpos : 0 < strs.length := List.length_pos_iff.2 hs
        obtain ⟨g, cap, rfl, hg1, hg2, hcap, hmx, hlen, hcells, hfr⟩ := own_strs hown hpos
        have hb : ((strs.length : Int) == 0) = false := beq_eq_false_iff_ne.2 (by omega)
        have HR := Lib.hid (rev_calls g cap strs wr (by omega) hcells hfr)
        have HD := Lib.hid hd
        clear hp0 hv0 hinv hown hcells hfr hlen hs hd
        go_wp2_with (go_at_call 127; (with_reducible refine HR.out.mono ?_); rintro ev w2 ⟨rfl, hc2, hgw2⟩; have HC2 := Lib.hid hc2; clear hc2)
        have hgr2 := grown_gr hgr hgw2 hg1
        have hj := Tryz.strings_Join g 0 cap strs.reverse ⟨#[]⟩ w2 HC2.out (Nat.lt_of_lt_of_le hg2 hgw2.size) (by rw [List.length_reverse]; omega) (by rw [List.length_reverse]; exact hcap) (by
          rw [show (⟨#[]⟩ : ByteArray).data.toList = [] from rfl, join_flat]
          have h2 := HD.out
          unfold tailOf at h2
          rw [← h2]
          have := HND.out
          omega)
        rw [List.length_reverse, show (⟨#[]⟩ : ByteArray).data.toList = [] from rfl, join_flat] at hj
        have hj2 : (strs.reverse.map fun s => s.data.toList).flatten = Lib.decDigits n := HD.out.symm
        rw [hj2] at hj
        have HJ := Lib.hid hj
        clear hj hj2
        go_wp2_with (go_at_call 128; (with_reducible refine HJ.out.mono ?_); rintro ev w3 ⟨rfl, hb3⟩)
        go_ret
        exact ⟨rfl, hgr2.tr (Gr.below hb3)⟩
end
section
open Go.RowKit

def Dig (l : List UInt8) : Prop := ∀ c ∈ l, 48 ≤ c.toNat ∧ c.toNat ≤ 57
/-- The number that digits are. -/
def dv : List UInt8 → Nat := List.foldl (fun a c => a * 10 + (c.toNat - 48)) 0
theorem dv_foldl (l : List UInt8) (a : Nat) : l.foldl (fun a c => a * 10 + (c.toNat - 48)) a = a * 10 ^ l.length + dv l := by
  induction l generalizing a with
  | nil => simp [dv]
  | cons c l ih =>
    unfold dv
    rw [List.foldl_cons, ih, List.foldl_cons, ih (0 * 10 + (c.toNat - 48)), List.length_cons, Nat.pow_succ, Nat.add_mul, Nat.zero_mul, Nat.zero_add, Nat.mul_assoc, Nat.mul_comm 10, Nat.add_assoc]
theorem dv_append (a b : List UInt8) : dv (a ++ b) = dv a * 10 ^ b.length + dv b := by
  rw [show dv (a ++ b) = b.foldl (fun a c => a * 10 + (c.toNat - 48)) (dv a) from List.foldl_append, dv_foldl]
theorem dv_lt (l : List UInt8) (h : Dig l) : dv l < 10 ^ l.length := by
  induction l with
  | nil => simp [dv]
  | cons c l ih =>
    have h1 := ih (fun x hx => h x (List.mem_cons_of_mem _ hx))
    have h2 := h c List.mem_cons_self
    rw [show c :: l = [c] ++ l from rfl, dv_append, List.length_append, List.length_singleton, Nat.add_comm 1, Nat.pow_succ]
    have h3 : dv [c] = c.toNat - 48 := by simp [dv]
    rw [h3]
    have : (c.toNat - 48) * 10 ^ l.length ≤ 9 * 10 ^ l.length := Nat.mul_le_mul_right _ (by omega)
    omega
theorem dv_digit (l : List UInt8) (h : Dig l) (a : Nat) (hn : a * 10 ^ l.length + dv l < 10 ^ 18) : Lib.parseUintM 18446744073709551615 a l = .ok (a * 10 ^ l.length + dv l) := by
  induction l generalizing a with
  | nil => simp [Lib.parseUintM, dv]
  | cons c l ih =>
    have h2 := h c List.mem_cons_self
    have h3 : dv [c] = c.toNat - 48 := by simp [dv]
    have e : a * 10 ^ (c :: l).length + dv (c :: l) = (a * 10 + (c.toNat - 48)) * 10 ^ l.length + dv l := by
      rw [show c :: l = [c] ++ l from rfl, dv_append, h3, List.length_append, List.length_singleton, Nat.add_comm 1, Nat.pow_succ, Nat.add_mul, Nat.mul_comm (10 ^ l.length), Nat.mul_assoc]; omega
    rw [e] at hn ⊢
    have h4 : a * 10 + (c.toNat - 48) ≤ (a * 10 + (c.toNat - 48)) * 10 ^ l.length := Nat.le_mul_of_pos_right _ (Nat.pow_pos (by decide))
    rw [Lib.parseUintM, if_pos h2, if_neg (by omega), if_neg (by omega)]
    exact ih (fun x hx => h x (List.mem_cons_of_mem _ hx)) _ hn
theorem parse_digits (l : List UInt8) (h : Dig l) (hne : l ≠ []) (hl : l.length ≤ 18) : Lib.parseUintB 64 l = .ok (dv l) ∧ dv l < 10 ^ 18 := by
  have h1 := dv_lt l h
  have h2 : dv l < 10 ^ 18 := Nat.lt_of_lt_of_le h1 (Nat.pow_le_pow_right (by decide) hl)
  refine ⟨?_, h2⟩
  unfold Lib.parseUintB
  rw [if_neg hne]
  have := dv_digit l h 0 (by rw [Nat.zero_mul, Nat.zero_add]; exact h2)
  rw [Nat.zero_mul, Nat.zero_add] at this
  exact this
/-- Trimmed by the ten digits nothing is left, just where all are digits. -/
def tens : List UInt8 := [48, 49, 50, 51, 52, 53, 54, 55, 56, 57]
theorem tens_iff (c : UInt8) : tens.contains c = true ↔ 48 ≤ c.toNat ∧ c.toNat ≤ 57 := by
  constructor
  · intro h
    have : c ∈ tens := by simpa using h
    simp [tens] at this
    rcases this with rfl | rfl | rfl | rfl | rfl | rfl | rfl | rfl | rfl | rfl <;> decide
  · rintro ⟨h1, h2⟩
    have : c.toNat = 48 ∨ c.toNat = 49 ∨ c.toNat = 50 ∨ c.toNat = 51 ∨ c.toNat = 52 ∨ c.toNat = 53 ∨ c.toNat = 54 ∨ c.toNat = 55 ∨ c.toNat = 56 ∨ c.toNat = 57 := by omega
    have e : ∀ k : UInt8, c.toNat = k.toNat → c = k := fun k h => UInt8.toNat_inj.1 h
    rcases this with h | h | h | h | h | h | h | h | h | h
    · rw [e 48 h]; decide
    · rw [e 49 h]; decide
    · rw [e 50 h]; decide
    · rw [e 51 h]; decide
    · rw [e 52 h]; decide
    · rw [e 53 h]; decide
    · rw [e 54 h]; decide
    · rw [e 55 h]; decide
    · rw [e 56 h]; decide
    · rw [e 57 h]; decide
theorem dropWhile_nil {α : Type} (p : α → Bool) (l : List α) : l.dropWhile p = [] ↔ ∀ x ∈ l, p x = true := by
  induction l with
  | nil => simp
  | cons a l ih =>
    rw [List.dropWhile_cons]
    by_cases h : p a = true
    · rw [if_pos h, ih]; simp [h]
    · rw [if_neg h]
      constructor
      · intro h1; cases h1
      · intro h1; exact absurd (h1 a List.mem_cons_self) h
theorem mem_takeWhile {α : Type} {p : α → Bool} {l : List α} {x : α} (h : x ∈ l.takeWhile p) : p x = true := by
  induction l with
  | nil => simp at h
  | cons a l ih =>
    rw [List.takeWhile_cons] at h
    by_cases ha : p a = true
    · rw [if_pos ha] at h
      rcases List.mem_cons.1 h with rfl | h
      · exact ha
      · exact ih h
    · rw [if_neg ha] at h; simp at h
theorem trim_digits (l : List UInt8) : Lib.trimS l tens = [] ↔ Dig l := by
  unfold Lib.trimS Lib.trimLeftS Lib.trimRightS
  rw [dropWhile_nil]
  constructor
  · intro h c hc
    by_cases hd : c ∈ l.reverse.dropWhile (tens.contains ·)
    · exact (tens_iff c).1 (h c (List.mem_reverse.2 hd))
    · have h2 := List.takeWhile_append_dropWhile (p := fun x => tens.contains x) (l := l.reverse)
      have h3 : c ∈ l.reverse := List.mem_reverse.2 hc
      rw [← h2] at h3
      rcases List.mem_append.1 h3 with h4 | h4
      · have := mem_takeWhile h4
        exact (tens_iff c).1 this
      · exact absurd h4 hd
  · intro h c hc
    have h1 := List.mem_reverse.1 hc
    have h2 : c ∈ l.reverse := (List.dropWhile_sublist _).subset h1
    exact (tens_iff c).2 (h c (List.mem_reverse.1 h2))
/-- Which texts are numbers. -/
def NatTextB (l : List UInt8) : Bool := (!l.isEmpty && decide (l.length ≤ 4000) && !(decide (1 < l.length) && (l.head? == some 48)) && l.all (tens.contains ·))
end
section
open Go.RowKit Go.Extern.Stop Go.Stop Go.Extern Go.Sort
set_option linter.unusedVariables false
set_option linter.unusedSimpArgs false

theorem trim_calls (s : ByteArray) (hs : s.size ≤ 9223372036854775807) (w : World) :
    Calls Tryz.prog 76 #[.string s, .string ⟨#[48, 49, 50, 51, 52, 53, 54, 55, 56, 57]⟩] w fun e w' => e = .returned (.string ⟨(Lib.trimS s.data.toList tens).toArray⟩) ∧ Gr w w' := by
  refine (Any.strings_Trim_laid Tryz.lays160 (by kernel_rfl) s ⟨#[48, 49, 50, 51, 52, 53, 54, 55, 56, 57]⟩ w hs (by decide) (ascii_of_all (by decide))).mono ?_
  rintro e w' ⟨rfl, hb⟩
  exact ⟨rfl, Gr.below hb⟩

theorem bytes_gr (w : World) (e : TypeId) (s : ByteArray) : Gr w (Lib.bytesWorld w e s) :=
  ⟨by simp [Lib.bytesWorld, World.freeze]; rfl, by simp [Lib.bytesWorld, World.freeze], by simp [Lib.bytesWorld, World.freeze]; rfl, by rw [Lib.bytesWorld_size]; omega, fun i hi => Lib.bytesWorld_at_old w e s i hi⟩
theorem parse_calls (P : ByteArray) (hd : Dig P.data.toList) (hne : P.data.toList ≠ []) (hl : P.data.toList.length ≤ 18) (w : World) :
    Calls Tryz.prog 115 #[.string P, .int .i64 10, .int .i64 64] w fun e w' => e = .returned (.tuple #[.int .u64 ((dv P.data.toList : Nat) : Int), .nilIface]) ∧ Gr w w' := by
  refine (Tryz.strconv_ParseUint_10_at64_ok P (by rw [Lib.size_eq]; omega) _ (parse_digits _ hd hne hl).1 w).mono ?_
  rintro e w' ⟨rfl, hw⟩
  refine ⟨rfl, ?_⟩
  rcases hw with rfl | rfl
  · exact Gr.rf _
  · exact bytes_gr _ _ _
theorem ofUnit_calls (w : World) : Calls Tryz.prog 54 #[.int .u64 1000000000000000000] w fun e w' => (∃ r, e = .returned r ∧ NatAt w' r 1000000000000000000) ∧ Gr w w' := by
  refine (of_nat_calls 1000000000000000000 (by decide) w).mono ?_
  rintro e w' ⟨⟨r, rfl, h⟩, hg⟩
  exact ⟨⟨r, rfl, h.at_⟩, hg⟩
theorem ten_pow_le (l k : Nat) (h : l ≤ 18 * k) : 10 ^ l ≤ B ^ k :=
  Nat.le_trans (Nat.pow_le_pow_right (by decide) h) (by rw [Nat.pow_mul]; exact Nat.pow_le_pow_left (by decide) _)
theorem piece (t : ByteArray) (f : Nat) (hf : f ≤ t.size) : (t.extract 0 f).data.toList = t.data.toList.take f ∧ (t.extract f t.size).data.toList = t.data.toList.drop f ∧ (t.extract f t.size).size = t.size - f := by
  have h1 : (t.extract 0 f).data.toList = t.data.toList.take f := by rw [← ByteArray.toList_eq, Lib.extract_toList]; simp
  have h2 : (t.extract f t.size).data.toList = t.data.toList.drop f := by
    rw [← ByteArray.toList_eq, Lib.extract_toList]
    exact List.take_of_length_le (by rw [List.length_drop, Lib.size_eq]; exact Nat.le_refl _)
  refine ⟨h1, h2, ?_⟩
  rw [Lib.size_eq, h2, List.length_drop, Lib.size_eq]

set_option maxRecDepth 100000 in
set_option maxHeartbeats 8000000 in
/-- nat.Get of digits. -/
theorem get_nat_ok (s : ByteArray) (w : World) (hne : 0 < s.size) (hlen : s.size ≤ 4000) (hd : Dig s.data.toList) (h0 : s.size = 1 ∨ ∀ h : 0 < s.size, (s[0]'h).toNat ≠ 48) :
    Calls Tryz.prog 53 #[.string s] w fun e w' => (∃ r, e = .returned (.tuple #[r, .nilIface]) ∧ NatP w' r (dv s.data.toList)) ∧ Gr w w' := by
  have hT := trim_calls s (by omega) w
  rw [(trim_digits _).2 hd] at hT
  have HT := Lib.hid hT
  have e1 : s.toList.isEmpty = false := by
    rw [ByteArray.toList_eq]
    cases h : s.data.toList with
    | nil => rw [Lib.size_eq, h] at hne; simp at hne
    | cons a l => rfl
  have e2 : decide ((4000 : Int) < (s.size : Int)) = false := decide_eq_false (by omega)
  have HD := Lib.hid hd
  clear hT hd
  have e3 : (s.size = 1 ∧ decide ((1 : Int) < (s.size : Int)) = false) ∨ (decide ((1 : Int) < (s.size : Int)) = true ∧ ∀ h : 0 < s.size, (((s[0]'h).toNat : Int) == 48) = false) := by
    by_cases h1 : s.size = 1
    · exact .inl ⟨h1, decide_eq_false (by omega)⟩
    · refine .inr ⟨decide_eq_true (by omega), fun h => beq_eq_false_iff_ne.2 ?_⟩
      have := h0.resolve_left h1 h
      omega
  have hdl : dv s.data.toList < B ^ 250 := by
    have h1 := dv_lt _ HD.out
    exact Nat.lt_of_lt_of_le h1 (ten_pow_le _ 250 (by rw [← Lib.size_eq]; omega))
  have HDL := Lib.hid hdl
  clear h0 hdl
  rcases e3 with ⟨hs1, b3⟩ | ⟨b3, b4⟩
  case' inl => have HS1 := Lib.hid hs1; clear hs1
  case' inr => have b5 := b4 hne; clear b4
  all_goals
    go_enter Tryz.func53, Tryz.ntmps53
    go_wp2_with (go_at_call 76; (with_reducible refine HT.out.mono ?_); rintro ev w1 ⟨rfl, hg1⟩)
    go_wp2_with (go_at_call 54; (with_reducible refine (of0_calls _).mono ?_); rintro ev w2 ⟨⟨r2, rfl, hr2⟩, hg2⟩; have HR2 := Lib.hid hr2; clear hr2)
    go_wp2_with (go_at_call 54; (with_reducible refine (ofUnit_calls _).mono ?_); rintro ev w3 ⟨⟨r3, rfl, hr3⟩, hg3⟩; have HR3 := Lib.hid hr3; clear hr3)
    go_loopg [0, 5, 7] s.size (fun k sv ov fv wr => ∃ (t : ByteArray) (pre : List UInt8) (f : Nat), sv = .string t ∧ fv = .int .i64 (f : Int) ∧ k = t.size ∧ NatP wr ov (dv pre) ∧ pre ++ t.data.toList = s.data.toList ∧ (0 < t.size → 1 ≤ f ∧ f ≤ 18 ∧ f ≤ t.size ∧ (t.size - f) % 18 = 0) ∧ t.size ≤ s.size ∧ dv pre * 10 ^ f = dv pre * 1000000000000000000 ∧ Gr w3 wr)
    case atStart => exact ⟨s, [], (s.size - 1) % 18 + 1, rfl, by congr 1; omega, rfl, HR2.out.gr hg3, rfl, fun _ => by omega, Nat.le_refl _, by simp [dv], Gr.rf _⟩
    case round =>
      obtain ⟨t, pre, f, rfl, rfl, hk, ho, hpre, hf, hts, hpf, hgr⟩ := hrel
      have HK := Lib.hid hk
      have HO := Lib.hid ho
      have HP := Lib.hid hpre
      have HPF := Lib.hid hpf
      have HFF := Lib.hid hf
      clear hk ho hpre hpf hf
      by_cases ht : 0 < t.size
      · obtain ⟨f1, f2, f3, f4⟩ := HFF.out ht
        have F4 := Lib.hid f4
        obtain ⟨p1, p2, p3⟩ := piece t f f3
        have q1 : t.toList.isEmpty = false := by
          rw [ByteArray.toList_eq]
          cases h : t.data.toList with
          | nil => rw [Lib.size_eq, h] at ht; simp at ht
          | cons a l => rfl
        have q2 : (!t.toList.isEmpty) = true := by rw [q1]; rfl
        have hsplit : t.data.toList = t.data.toList.take f ++ t.data.toList.drop f := (List.take_append_drop _ _).symm
        have hdig : Dig (t.data.toList.take f) := fun c hc => HD.out c (by rw [← HP.out]; exact List.mem_append_right _ (List.mem_of_mem_take hc))
        have hlen : (t.data.toList.take f).length = f := by rw [List.length_take, ← Lib.size_eq]; omega
        have hpu := parse_calls (t.extract 0 f) (by rw [p1]; exact hdig) (by rw [p1]; intro h; rw [h] at hlen; simp at hlen; omega) (by rw [p1, hlen]; exact f2)
        rw [p1] at hpu
        have hdvB := (parse_digits _ hdig (by intro h; rw [h] at hlen; simp at hlen; omega) (by rw [hlen]; exact f2)).2
        have hnew : (pre ++ t.data.toList.take f) ++ t.data.toList.drop f = s.data.toList := by rw [List.append_assoc, List.take_append_drop]; exact HP.out
        have hdvp : dv (pre ++ t.data.toList.take f) = dv pre * 10 ^ f + dv (t.data.toList.take f) := by rw [dv_append, hlen]
        rw [HPF.out] at hdvp
        have hnle : dv (pre ++ t.data.toList.take f) ≤ dv s.data.toList := by
          rw [← hnew, dv_append (pre ++ _)]
          exact Nat.le_trans (Nat.le_mul_of_pos_right _ (Nat.pow_pos (by decide))) (Nat.le_add_right _ _)
        have hb2 : dv (pre ++ t.data.toList.take f) < B ^ 250 := Nat.lt_of_le_of_lt hnle HDL.out
        have HNEW := Lib.hid (And.intro p2 (And.intro p3 hnew))
        generalize dv (t.data.toList.take f) = u at hpu hdvB hdvp
        have hb1 : dv pre * 1000000000000000000 < B ^ 250 := by omega
        have hb0 : dv pre < B ^ 250 := Nat.lt_of_le_of_lt (Nat.le_mul_of_pos_right _ (by decide)) hb1
        have hbu : u < B ^ 250 := by omega
        have HPU := Lib.hid hpu
        have HDV := Lib.hid hdvp
        have HB := Lib.hid (And.intro hb0 (And.intro hb1 (And.intro hbu hb2)))
        have HUB := Lib.hid (show u < B by have := B_eq; omega)
        have hfs : f ≤ t.size := f3
        clear hpu hdvp hb0 hb1 hbu hb2 hnle hnew hdvB hdig hlen hsplit p1 p2 f4
        go_wp2_with (go_at_call 115; (with_reducible refine (HPU.out _).mono ?_); rintro ev w4 ⟨rfl, hg4⟩)
        have HMU := Lib.hid (mul_calls _ _ (dv pre) 1000000000000000000 w4 (HO.out.gr hg4).at_ (HR3.out.gr (hgr.tr hg4)) 250 HB.out.1 (Nat.lt_of_lt_of_le (show 1000000000000000000 < B ^ 1 by decide) (Nat.pow_le_pow_right B_pos (by decide))) (by omega))
        go_wp2_with (go_at_call 58; (with_reducible refine HMU.out.mono ?_); rintro ev w5 ⟨⟨r5, rfl, hr5⟩, hg5⟩; have HR5 := Lib.hid hr5; clear hr5)
        have HOF := Lib.hid (of_nat_calls u HUB.out w5)
        go_wp2_with (go_at_call 54; (with_reducible refine HOF.out.mono ?_); rintro ev w6 ⟨⟨r6, rfl, hr6⟩, hg6⟩; have HR6 := Lib.hid hr6; clear hr6)
        have HAD := Lib.hid (add_calls _ _ (dv pre * 1000000000000000000) u w6 (HR5.out.gr hg6).at_ HR6.out.at_ 250 HB.out.2.1 HB.out.2.2.1 (by omega))
        go_wp2_with (go_at_call 59; (with_reducible refine HAD.out.mono ?_); rintro ev w7 ⟨⟨r7, rfl, hr7⟩, hg7⟩; have HR7 := Lib.hid hr7; clear hr7)
        go_roundg (t.extract f t.size).size
        case measure => have := HK.out; have := HNEW.out.2.1; omega
        case rel => exact ⟨t.extract f t.size, pre ++ t.data.toList.take f, 18, rfl, rfl, rfl, by rw [HDV.out]; exact HR7.out, by rw [HNEW.out.1]; exact HNEW.out.2.2, fun _ => by have := HNEW.out.2.1; have := F4.out; omega, by have := HNEW.out.2.1; omega, rfl, (((hgr.tr hg4).tr hg5).tr hg6).tr hg7⟩
      · have hnil : t.data.toList = [] := by
          have h1 : t.size = 0 := by omega
          rw [Lib.size_eq] at h1
          exact List.eq_nil_of_length_eq_zero h1
        have hpe : pre = s.data.toList := by have := HP.out; rw [hnil, List.append_nil] at this; exact this
        have q1 : t.toList.isEmpty = true := by rw [ByteArray.toList_eq, hnil]; rfl
        have q2 : (!t.toList.isEmpty) = false := by rw [q1]; rfl
        have HPE := Lib.hid hpe
        clear hnil hpe
        go_wp2
        go_ret2
        exact ⟨⟨_, rfl, by rw [← HPE.out]; exact HO.out⟩, ((hg1.tr hg2).tr hg3).tr hgr⟩

set_option maxRecDepth 100000 in
set_option maxHeartbeats 4000000 in
/-- nat.Get of what is no number. -/
theorem get_nat_bad (s : ByteArray) (w : World) (hs : s.size ≤ 9223372036854775807) (h : s.size = 0 ∨ 4000 < s.size ∨ (1 < s.size ∧ ∀ h : 0 < s.size, (s[0]'h).toNat = 48) ∨ ¬ Dig s.data.toList) :
    Calls Tryz.prog 53 #[.string s] w fun e w' => e = .returned (.tuple #[.pointer none, .iface 169 (.int .i64 1)]) ∧ Gr w w' := by
  have HO := Lib.hid (of_calls 1 rfl)
  by_cases c1 : s.size = 0
  · have e1 : s.toList.isEmpty = true := by
      rw [ByteArray.toList_eq]
      rw [Lib.size_eq] at c1
      rw [List.eq_nil_of_length_eq_zero c1]; rfl
    clear h
    go_enter Tryz.func53, Tryz.ntmps53
    go_wp2_with (go_at_call 68; (with_reducible refine (HO.out _).mono ?_); rintro ev w1 ⟨rfl, rfl⟩)
    go_ret2
    exact ⟨rfl, Gr.rf _⟩
  · have e1 : s.toList.isEmpty = false := by
      rw [ByteArray.toList_eq]
      cases h : s.data.toList with
      | nil => rw [Lib.size_eq, h] at c1; simp at c1
      | cons a l => rfl
    have hpos : 0 < s.size := by omega
    by_cases c2 : 4000 < s.size
    · have e2 : decide ((4000 : Int) < (s.size : Int)) = true := decide_eq_true (by omega)
      clear h
      go_enter Tryz.func53, Tryz.ntmps53
      go_wp2_with (go_at_call 68; (with_reducible refine (HO.out _).mono ?_); rintro ev w1 ⟨rfl, rfl⟩)
      go_ret2
      exact ⟨rfl, Gr.rf _⟩
    · have e2 : decide ((4000 : Int) < (s.size : Int)) = false := decide_eq_false (by omega)
      by_cases c3 : 1 < s.size ∧ (s[0]'hpos).toNat = 48
      · have e3 : decide ((1 : Int) < (s.size : Int)) = true := decide_eq_true (by omega)
        have e4 : (((s[0]'hpos).toNat : Int) == 48) = true := beq_iff_eq.2 (by omega)
        clear h
        go_enter Tryz.func53, Tryz.ntmps53
        go_wp2_with (go_at_call 68; (with_reducible refine (HO.out _).mono ?_); rintro ev w1 ⟨rfl, rfl⟩)
        go_ret2
        exact ⟨rfl, Gr.rf _⟩
      · have hnd : ¬ Dig s.data.toList := by
          rcases h with h | h | h | h
          · exact absurd h c1
          · exact absurd h c2
          · exact absurd ⟨h.1, h.2 hpos⟩ c3
          · exact h
        have hT := trim_calls s hs w
        have hne : Lib.trimS s.data.toList tens ≠ [] := fun e => hnd ((trim_digits _).1 e)
        obtain ⟨X, hX⟩ : ∃ X : ByteArray, X = ⟨(Lib.trimS s.data.toList tens).toArray⟩ := ⟨_, rfl⟩
        rw [← hX] at hT
        have x1 : X.toList.isEmpty = false := by
          rw [ByteArray.toList_eq, hX]
          cases h : Lib.trimS s.data.toList tens with
          | nil => exact absurd h hne
          | cons a l => rfl
        have x2 : (!X.toList.isEmpty) = true := by rw [x1]; rfl
        have HT := Lib.hid hT
        have e3 : decide ((1 : Int) < (s.size : Int)) = false ∨ decide ((1 : Int) < (s.size : Int)) = true ∧ (((s[0]'hpos).toNat : Int) == 48) = false := by
          by_cases h1 : 1 < s.size
          · exact .inr ⟨decide_eq_true (by omega), beq_eq_false_iff_ne.2 (fun e => c3 ⟨h1, by omega⟩)⟩
          · exact .inl (decide_eq_false (by omega))
        clear hT hX hne hnd h c1 c3
        rcases e3 with e3 | ⟨e3, e4⟩
        all_goals
          go_enter Tryz.func53, Tryz.ntmps53
          go_wp2_with (go_at_call 76; (with_reducible refine HT.out.mono ?_); rintro ev w1 ⟨rfl, hg1⟩)
          go_wp2_with (go_at_call 68; (with_reducible refine (HO.out _).mono ?_); rintro ev w2 ⟨rfl, rfl⟩)
          go_ret2
          exact ⟨rfl, hg1⟩
end
end Go.Proofs.YtcjjgdoafkdeaaaGreatDoor
