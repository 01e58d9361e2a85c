/- Layer 5: dec.Get of a text. -/
import Derived.Test.YtcjjgdoafkdeaaaGreatDoorWj
namespace Go.Proofs.YtcjjgdoafkdeaaaGreatDoor
open Go.RowKit Go.Extern.Stop Go.Stop Go.Extern Go.Sort
set_option linter.unusedVariables false
set_option linter.unusedSimpArgs false

/-- A text parted at its first point. -/
def CutP (t a r : ByteArray) (pt : Bool) : Prop := (pt = true ∧ ∃ i : Nat, Lib.indexByte t.data.toList 46 = (i : Int) ∧ i < t.size ∧ a = t.extract 0 i ∧ r = t.extract (i + 1) t.size) ∨ (pt = false ∧ Lib.indexByte t.data.toList 46 = -1 ∧ a = t ∧ r = ⟨#[]⟩)
theorem cutP_ex (t : ByteArray) : ∃ a r pt, CutP t a r pt := by
  have hge := Lib.indexByte_ge t.data.toList 46
  rcases Int.lt_or_le (Lib.indexByte t.data.toList 46) 0 with h | h
  · exact ⟨_, _, _, .inr ⟨rfl, by omega, rfl, rfl⟩⟩
  · obtain ⟨i, hi⟩ : ∃ i : Nat, Lib.indexByte t.data.toList 46 = (i : Int) := ⟨(Lib.indexByte t.data.toList 46).toNat, by omega⟩
    have h2 := (Lib.indexByte_some hi).1
    have h3 := (List.getElem?_eq_some_iff.1 h2).1
    exact ⟨_, _, _, .inl ⟨rfl, i, hi, by rw [Lib.size_eq]; exact h3, rfl, rfl⟩⟩
theorem cutP_size {t a r : ByteArray} {pt : Bool} (h : CutP t a r pt) : a.size ≤ t.size ∧ r.size ≤ t.size ∧ (pt = false → r.size = 0 ∧ a = t) := by
  rcases h with ⟨rfl, i, _, hi, rfl, rfl⟩ | ⟨rfl, _, rfl, rfl⟩
  · rw [ByteArray.size_extract, ByteArray.size_extract]
    exact ⟨by omega, by omega, fun h => by cases h⟩
  · exact ⟨Nat.le_refl _, Nat.zero_le _, fun _ => ⟨rfl, rfl⟩⟩
theorem cutP_calls (t a r : ByteArray) (pt : Bool) (hc : CutP t a r pt) (hs : t.size ≤ 1000000) (w : World) :
    Calls Tryz.prog 75 #[.string t, .string ⟨#[46]⟩] w fun e w' => e = .returned (.tuple #[.string a, .string r, .bool pt]) ∧ Gr w w' := by
  rcases hc with ⟨rfl, i, hi, hlt, rfl, rfl⟩ | ⟨rfl, hi, rfl, rfl⟩
  · exact cut_has t 46 i hi hlt (by omega) w
  · exact cut_none a 46 hi w
/-- What stands behind the point may be. -/
def FracT (r : ByteArray) : Prop := 1 ≤ r.size ∧ r.size ≤ 20 ∧ Dig r.data.toList
/-- Which texts are decimals. -/
def DecT (s a r : ByteArray) (neg pt : Bool) : Prop := s.size ≤ 60 ∧ (pt = true → FracT r) ∧ NumT a ∧ (neg = true → dv (a.data.toList ++ r.data.toList) ≠ 0)
theorem lead_dig : ∀ l : List UInt8, Dig l → Dig (Lib.trimLeftB l 48) ∧ dv (Lib.trimLeftB l 48) = dv l ∧ (Lib.trimLeftB l 48).length ≤ l.length ∧ ((Lib.trimLeftB l 48).head? ≠ some 48) ∧ (Lib.trimLeftB l 48 = [] ↔ dv l = 0)
  | [], h => ⟨h, rfl, Nat.le_refl _, (by intro e; cases e), ⟨fun _ => rfl, fun _ => rfl⟩⟩
  | c :: l, h => by
    have hl : Dig l := fun x hx => h x (List.mem_cons_of_mem _ hx)
    obtain ⟨h1, h2, h3, h4, h5⟩ := lead_dig l hl
    have ha := dv_append [c] l
    by_cases hc : c = 48
    · subst hc
      have e : Lib.trimLeftB (48 :: l) 48 = Lib.trimLeftB l 48 := by unfold Lib.trimLeftB; rw [List.dropWhile_cons_of_pos (by simp)]
      have hv : dv (48 :: l) = dv l := by
        rw [show ([48] : List UInt8) ++ l = 48 :: l from rfl, show dv [48] = 0 from rfl] at ha
        omega
      rw [e, hv]
      exact ⟨h1, h2, by rw [List.length_cons]; omega, h4, h5⟩
    · have e : Lib.trimLeftB (c :: l) 48 = c :: l := by unfold Lib.trimLeftB; rw [List.dropWhile_cons_of_neg (by simpa using hc)]
      rw [e]
      refine ⟨h, rfl, Nat.le_refl _, by rw [List.head?_cons]; intro hh; injection hh with hh; exact hc hh, ⟨fun hh => (by cases hh), fun hh => ?_⟩⟩
      have hcd := h c (List.mem_cons_self ..)
      have hc2 : c.toNat ≠ 48 := fun e2 => hc (UInt8.toNat_inj.1 e2)
      have hv : dv [c] = c.toNat - 48 := by show 0 * 10 + (c.toNat - 48) = _; omega
      rw [show ([c] : List UInt8) ++ l = c :: l from rfl, hv, hh] at ha
      have hp : 0 < 10 ^ l.length := Nat.pow_pos (by decide)
      have hm : 1 * 10 ^ l.length ≤ (c.toNat - 48) * 10 ^ l.length := Nat.mul_le_mul_right _ (by omega)
      omega
theorem empty_iff (X : ByteArray) : X.toList.isEmpty = decide (X.data.toList = []) := by
  rw [ByteArray.toList_eq]
  cases X.data.toList <;> rfl
/-- Digits without the noughts ahead. -/
theorem leadL_calls (a r : ByteArray) (ha : Dig a.data.toList) (hr : Dig r.data.toList) (hs : a.size + r.size ≤ 4000) (w : World) :
    Calls Tryz.prog 77 #[.string (a ++ r), .string ⟨#[48]⟩] w fun e w' => (∃ X : ByteArray, e = .returned (.string X) ∧ ((X.toList.isEmpty = true ∧ dv (a.data.toList ++ r.data.toList) = 0) ∨ (X.toList.isEmpty = false ∧ NumT X ∧ dv X.data.toList = dv (a.data.toList ++ r.data.toList) ∧ 0 < dv (a.data.toList ++ r.data.toList)))) ∧ w = w' := by
  refine (Tryz.strings_TrimLeft_one (a ++ r) 48 (by decide) w).mono ?_
  rw [cat_list]
  rintro e w' ⟨rfl, rfl⟩
  have hd : Dig (a.data.toList ++ r.data.toList) := fun c hc => (List.mem_append.1 hc).elim (ha c) (hr c)
  obtain ⟨h1, h2, h3, h4, h5⟩ := lead_dig _ hd
  have hlen : (a.data.toList ++ r.data.toList).length ≤ 4000 := by rw [List.length_append, ← Lib.size_eq, ← Lib.size_eq]; exact hs
  refine ⟨⟨_, rfl, ?_⟩, rfl⟩
  rw [empty_iff]
  by_cases hz : dv (a.data.toList ++ r.data.toList) = 0
  · exact .inl ⟨decide_eq_true (h5.2 hz), hz⟩
  · have hne : Lib.trimLeftB (a.data.toList ++ r.data.toList) 48 ≠ [] := fun e => hz (h5.1 e)
    generalize Lib.trimLeftB (a.data.toList ++ r.data.toList) 48 = L at *
    have hsz : (⟨L.toArray⟩ : ByteArray).size = L.length := by rw [Lib.size_eq]
    have hp : 0 < L.length := List.length_pos_iff.2 hne
    refine .inr ⟨decide_eq_false hne, ⟨by omega, by omega, .inr fun h e => h4 ?_, h1⟩, h2, by omega⟩
    rw [← at_list _ 0 h (by show 0 < L.length; exact hp)] at e
    rw [List.head?_eq_getElem?, List.getElem?_eq_getElem hp]
    congr 1
    exact UInt8.toNat_inj.1 e
theorem trimT_calls (r : ByteArray) (hs : r.size ≤ 1000000) (b : Bool) (hb : b = true ↔ Dig r.data.toList) (w : World) :
    Calls Tryz.prog 76 #[.string r, .string ⟨#[48, 49, 50, 51, 52, 53, 54, 55, 56, 57]⟩] w fun e w' => (∃ X : ByteArray, e = .returned (.string X) ∧ X.toList.isEmpty = b) ∧ Gr w w' := by
  refine (trim_calls r (by omega) w).mono ?_
  rintro e w' ⟨rfl, hg⟩
  refine ⟨⟨_, rfl, ?_⟩, hg⟩
  rw [empty_iff]
  have h := trim_digits r.data.toList
  cases b
  · exact decide_eq_false fun e => absurd (hb.2 (h.1 e)) (by decide)
  · exact decide_eq_true (h.2 (hb.1 rfl))
theorem ten_B2 (p : Nat) (hp : p ≤ 20) : (10 : Nat) ^ p < B ^ 2 := Nat.lt_of_le_of_lt (Nat.pow_le_pow_right (by decide) hp) (by decide)
theorem natAnyGet (a : ByteArray) (w : World) (hs : a.size ≤ 1000000) : Calls Tryz.prog 53 #[.string a] w fun e w2 => (∃ r v, e = .returned (.tuple #[r, v])) ∧ Gr w w2 := (natGet_calls a w (by omega)).mono (by
  rintro e w2 ⟨⟨h1, h2⟩, hg⟩
  refine ⟨?_, hg⟩
  by_cases hn : NumT a
  · obtain ⟨r, h, _⟩ := h1 hn
    exact ⟨_, _, h⟩
  · exact ⟨_, _, h2 hn⟩)
theorem cutPre_calls (s t : ByteArray) (neg : Bool) (h : Parts s t neg) (w : World) : Calls Tryz.prog 74 #[.string s, .string ⟨#[45]⟩] w fun e w' => e = .returned (.tuple #[.string t, .bool neg]) ∧ w' = w := by
  have hcp := Tryz.strings_CutPrefix s ⟨#[45]⟩ w
  rw [show (⟨#[45]⟩ : ByteArray).data.toList = [45] from rfl, (cut_pre s t neg h).1, (cut_pre s t neg h).2] at hcp
  exact hcp
set_option maxRecDepth 100000 in
set_option maxHeartbeats 8000000 in
theorem dget_long (s t a r : ByteArray) (hs : s.size ≤ 240) (hz : t.size ≤ s.size ∧ a.size ≤ t.size ∧ r.size ≤ t.size) (neg pt : Bool) (hp : Parts s t neg) (hc : CutP t a r pt) (hl : 60 < s.size) (w : World) :
    Calls Tryz.prog 14 #[.string s] w fun e w' => e = .returned (.tuple #[.pointer none, .int .i64 0, .iface 169 (.int .i64 1)]) ∧ Gr w w' := by
  have HCP : Hid (∀ w, Calls Tryz.prog 74 #[.string s, .string ⟨#[45]⟩] w fun e w' => e = .returned (.tuple #[.string t, .bool neg]) ∧ w' = w) := Lib.hid (fun w => cutPre_calls s t neg hp w)
  have HCU : Hid (∀ w, Calls Tryz.prog 75 #[.string t, .string ⟨#[46]⟩] w fun e w' => e = .returned (.tuple #[.string a, .string r, .bool pt]) ∧ Gr w w') := Lib.hid (fun w => cutP_calls t a r pt hc (by omega) w)
  have HGA := Lib.hid (fun w => natGet_calls a w (by omega))
  have HGX := Lib.hid (fun w => natAnyGet a w (by omega))
  have HO := Lib.hid (of_calls 1 rfl)
  have HZ := Lib.hid (And.intro hs hz)
  have b1 : decide (60 < (s.size : Int)) = true := decide_eq_true (by omega)
  have b1n : decide (60 < s.size) = true := decide_eq_true hl
  clear hl
  clear hp hc hs hz
  go_enter Tryz.func14, Tryz.ntmps14
  go_wp2_with (go_at_call 74; (with_reducible refine (HCP.out _).mono ?_); rintro ev w1 ⟨rfl, rfl⟩)
  go_wp2_with (go_at_call 75; (with_reducible refine (HCU.out _).mono ?_); rintro ev w2 ⟨rfl, hg2⟩; have HG2 := Lib.hid hg2; clear hg2)
  go_wp2_with (first | (go_at_call 53; (with_reducible refine (HGX.out _).mono ?_); rintro ev w4 ⟨⟨r4, v4, rfl⟩, hg4⟩; have HG4 := Lib.hid hg4; clear hg4) | (go_at_call 68; (with_reducible refine (HO.out _).mono ?_); rintro ev w5 ⟨rfl, rfl⟩))
  go_ret3
  exact ⟨rfl, HG2.out.tr HG4.out⟩
set_option maxRecDepth 100000 in
set_option maxHeartbeats 8000000 in
theorem dget_empty (s t a r : ByteArray) (hs : s.size ≤ 240) (hz : t.size ≤ s.size ∧ a.size ≤ t.size ∧ r.size ≤ t.size) (neg : Bool) (hp : Parts s t neg) (hc : CutP t a r true) (hl : s.size ≤ 60) (hr0 : r.size = 0) (w : World) :
    Calls Tryz.prog 14 #[.string s] w fun e w' => e = .returned (.tuple #[.pointer none, .int .i64 0, .iface 169 (.int .i64 1)]) ∧ Gr w w' := by
  have HCP : Hid (∀ w, Calls Tryz.prog 74 #[.string s, .string ⟨#[45]⟩] w fun e w' => e = .returned (.tuple #[.string t, .bool neg]) ∧ w' = w) := Lib.hid (fun w => cutPre_calls s t neg hp w)
  have HCU : Hid (∀ w, Calls Tryz.prog 75 #[.string t, .string ⟨#[46]⟩] w fun e w' => e = .returned (.tuple #[.string a, .string r, .bool true]) ∧ Gr w w') := Lib.hid (fun w => cutP_calls t a r true hc (by omega) w)
  have HGA := Lib.hid (fun w => natGet_calls a w (by omega))
  have HGX := Lib.hid (fun w => natAnyGet a w (by omega))
  have HO := Lib.hid (of_calls 1 rfl)
  have HZ := Lib.hid (And.intro hs hz)
  have b1 : decide (60 < (s.size : Int)) = false := decide_eq_false (by omega)
  have b1n : decide (60 < s.size) = false := decide_eq_false (by omega)
  have HSH := Lib.hid hl
  clear hl
  have b2 : r.toList.isEmpty = true := by rw [empty_iff]; exact decide_eq_true (List.eq_nil_of_length_eq_zero (by rw [← Lib.size_eq]; exact hr0))
  clear hr0
  clear hp hc hs hz
  go_enter Tryz.func14, Tryz.ntmps14
  go_wp2_with (go_at_call 74; (with_reducible refine (HCP.out _).mono ?_); rintro ev w1 ⟨rfl, rfl⟩)
  go_wp2_with (go_at_call 75; (with_reducible refine (HCU.out _).mono ?_); rintro ev w2 ⟨rfl, hg2⟩; have HG2 := Lib.hid hg2; clear hg2)
  go_wp2_with (first | (go_at_call 53; (with_reducible refine (HGX.out _).mono ?_); rintro ev w4 ⟨⟨r4, v4, rfl⟩, hg4⟩; have HG4 := Lib.hid hg4; clear hg4) | (go_at_call 68; (with_reducible refine (HO.out _).mono ?_); rintro ev w5 ⟨rfl, rfl⟩))
  go_ret3
  exact ⟨rfl, HG2.out.tr HG4.out⟩
set_option maxRecDepth 100000 in
set_option maxHeartbeats 8000000 in
theorem dget_far (s t a r : ByteArray) (hs : s.size ≤ 240) (hz : t.size ≤ s.size ∧ a.size ≤ t.size ∧ r.size ≤ t.size) (neg : Bool) (hp : Parts s t neg) (hc : CutP t a r true) (hl : s.size ≤ 60) (hr0 : 1 ≤ r.size) (hr20 : 20 < r.size) (w : World) :
    Calls Tryz.prog 14 #[.string s] w fun e w' => e = .returned (.tuple #[.pointer none, .int .i64 0, .iface 169 (.int .i64 1)]) ∧ Gr w w' := by
  have HCP : Hid (∀ w, Calls Tryz.prog 74 #[.string s, .string ⟨#[45]⟩] w fun e w' => e = .returned (.tuple #[.string t, .bool neg]) ∧ w' = w) := Lib.hid (fun w => cutPre_calls s t neg hp w)
  have HCU : Hid (∀ w, Calls Tryz.prog 75 #[.string t, .string ⟨#[46]⟩] w fun e w' => e = .returned (.tuple #[.string a, .string r, .bool true]) ∧ Gr w w') := Lib.hid (fun w => cutP_calls t a r true hc (by omega) w)
  have HGA := Lib.hid (fun w => natGet_calls a w (by omega))
  have HGX := Lib.hid (fun w => natAnyGet a w (by omega))
  have HO := Lib.hid (of_calls 1 rfl)
  have HZ := Lib.hid (And.intro hs hz)
  have b1 : decide (60 < (s.size : Int)) = false := decide_eq_false (by omega)
  have b1n : decide (60 < s.size) = false := decide_eq_false (by omega)
  have HSH := Lib.hid hl
  clear hl
  have b2 : r.toList.isEmpty = false := by rw [empty_iff]; exact decide_eq_false (fun e => by have := Lib.size_eq r; rw [e] at this; simp only [List.length_nil] at this; omega)
  have b3 : decide (20 < (r.size : Int)) = true := decide_eq_true (by omega)
  have b3n : decide (20 < r.size) = true := decide_eq_true (by omega)
  clear hr0 hr20
  clear hp hc hs hz
  go_enter Tryz.func14, Tryz.ntmps14
  go_wp2_with (go_at_call 74; (with_reducible refine (HCP.out _).mono ?_); rintro ev w1 ⟨rfl, rfl⟩)
  go_wp2_with (go_at_call 75; (with_reducible refine (HCU.out _).mono ?_); rintro ev w2 ⟨rfl, hg2⟩; have HG2 := Lib.hid hg2; clear hg2)
  go_wp2_with (first | (go_at_call 53; (with_reducible refine (HGX.out _).mono ?_); rintro ev w4 ⟨⟨r4, v4, rfl⟩, hg4⟩; have HG4 := Lib.hid hg4; clear hg4) | (go_at_call 68; (with_reducible refine (HO.out _).mono ?_); rintro ev w5 ⟨rfl, rfl⟩))
  go_ret3
  exact ⟨rfl, HG2.out.tr HG4.out⟩
set_option maxRecDepth 100000 in
set_option maxHeartbeats 8000000 in
theorem dget_sign (s t a r : ByteArray) (hs : s.size ≤ 240) (hz : t.size ≤ s.size ∧ a.size ≤ t.size ∧ r.size ≤ t.size) (neg : Bool) (hp : Parts s t neg) (hc : CutP t a r true) (hl : s.size ≤ 60) (hr0 : 1 ≤ r.size) (hr20 : r.size ≤ 20) (hd : ¬ Dig r.data.toList) (w : World) :
    Calls Tryz.prog 14 #[.string s] w fun e w' => e = .returned (.tuple #[.pointer none, .int .i64 0, .iface 169 (.int .i64 1)]) ∧ Gr w w' := by
  have HCP : Hid (∀ w, Calls Tryz.prog 74 #[.string s, .string ⟨#[45]⟩] w fun e w' => e = .returned (.tuple #[.string t, .bool neg]) ∧ w' = w) := Lib.hid (fun w => cutPre_calls s t neg hp w)
  have HCU : Hid (∀ w, Calls Tryz.prog 75 #[.string t, .string ⟨#[46]⟩] w fun e w' => e = .returned (.tuple #[.string a, .string r, .bool true]) ∧ Gr w w') := Lib.hid (fun w => cutP_calls t a r true hc (by omega) w)
  have HGA := Lib.hid (fun w => natGet_calls a w (by omega))
  have HGX := Lib.hid (fun w => natAnyGet a w (by omega))
  have HO := Lib.hid (of_calls 1 rfl)
  have HZ := Lib.hid (And.intro hs hz)
  have b1 : decide (60 < (s.size : Int)) = false := decide_eq_false (by omega)
  have b1n : decide (60 < s.size) = false := decide_eq_false (by omega)
  have HSH := Lib.hid hl
  clear hl
  have b2 : r.toList.isEmpty = false := by rw [empty_iff]; exact decide_eq_false (fun e => by have := Lib.size_eq r; rw [e] at this; simp only [List.length_nil] at this; omega)
  have b3 : decide (20 < (r.size : Int)) = false := decide_eq_false (by omega)
  have b3n : decide (20 < r.size) = false := decide_eq_false (by omega)
  have HTR := Lib.hid (fun w => trimT_calls r (by omega) false ⟨(fun h => by cases h), fun h => absurd h hd⟩ w)
  clear hr0 hr20 hd
  clear hp hc hs hz
  go_enter Tryz.func14, Tryz.ntmps14
  go_wp2_with (go_at_call 74; (with_reducible refine (HCP.out _).mono ?_); rintro ev w1 ⟨rfl, rfl⟩)
  go_wp2_with (go_at_call 75; (with_reducible refine (HCU.out _).mono ?_); rintro ev w2 ⟨rfl, hg2⟩; have HG2 := Lib.hid hg2; clear hg2)
  go_wp2_with (go_at_call 76; (with_reducible refine (HTR.out _).mono ?_); rintro ev w3 ⟨⟨X3, rfl, hx3⟩, hg3⟩; have HG3 := Lib.hid hg3; clear hg3)
  go_wp2_with (first | (go_at_call 53; (with_reducible refine (HGX.out _).mono ?_); rintro ev w4 ⟨⟨r4, v4, rfl⟩, hg4⟩; have HG4 := Lib.hid hg4; clear hg4) | (go_at_call 68; (with_reducible refine (HO.out _).mono ?_); rintro ev w5 ⟨rfl, rfl⟩))
  go_ret3
  exact ⟨rfl, HG2.out.tr (HG3.out.tr HG4.out)⟩
set_option maxRecDepth 100000 in
set_option maxHeartbeats 8000000 in
theorem dget_nonum_true (s t a r : ByteArray) (hs : s.size ≤ 240) (hz : t.size ≤ s.size ∧ a.size ≤ t.size ∧ r.size ≤ t.size) (neg : Bool) (hp : Parts s t neg) (hc : CutP t a r true) (hl : s.size ≤ 60) (hf : FracT r) (hn : ¬ NumT a) (w : World) :
    Calls Tryz.prog 14 #[.string s] w fun e w' => e = .returned (.tuple #[.pointer none, .int .i64 0, .iface 169 (.int .i64 1)]) ∧ Gr w w' := by
  have HCP : Hid (∀ w, Calls Tryz.prog 74 #[.string s, .string ⟨#[45]⟩] w fun e w' => e = .returned (.tuple #[.string t, .bool neg]) ∧ w' = w) := Lib.hid (fun w => cutPre_calls s t neg hp w)
  have HCU : Hid (∀ w, Calls Tryz.prog 75 #[.string t, .string ⟨#[46]⟩] w fun e w' => e = .returned (.tuple #[.string a, .string r, .bool true]) ∧ Gr w w') := Lib.hid (fun w => cutP_calls t a r true hc (by omega) w)
  have HGA := Lib.hid (fun w => natGet_calls a w (by omega))
  have HGX := Lib.hid (fun w => natAnyGet a w (by omega))
  have HO := Lib.hid (of_calls 1 rfl)
  have HZ := Lib.hid (And.intro hs hz)
  have b1 : decide (60 < (s.size : Int)) = false := decide_eq_false (by omega)
  have b1n : decide (60 < s.size) = false := decide_eq_false (by omega)
  have HSH := Lib.hid hl
  clear hl
  have HN := Lib.hid hn
  clear hn
  obtain ⟨hr0, hr20, hd⟩ := hf
  have b2 : r.toList.isEmpty = false := by rw [empty_iff]; exact decide_eq_false (fun e => by have := Lib.size_eq r; rw [e] at this; simp only [List.length_nil] at this; omega)
  have b3 : decide (20 < (r.size : Int)) = false := decide_eq_false (by omega)
  have b3n : decide (20 < r.size) = false := decide_eq_false (by omega)
  have HTR := Lib.hid (fun w => trimT_calls r (by omega) true ⟨fun _ => hd, fun _ => rfl⟩ w)
  clear hr0 hr20 hd
  clear hp hc hs hz
  go_enter Tryz.func14, Tryz.ntmps14
  go_wp2_with (go_at_call 74; (with_reducible refine (HCP.out _).mono ?_); rintro ev w1 ⟨rfl, rfl⟩)
  go_wp2_with (go_at_call 75; (with_reducible refine (HCU.out _).mono ?_); rintro ev w2 ⟨rfl, hg2⟩; have HG2 := Lib.hid hg2; clear hg2)
  go_wp2_with (go_at_call 76; (with_reducible refine (HTR.out _).mono ?_); rintro ev w3 ⟨⟨X3, rfl, hx3⟩, hg3⟩; have HG3 := Lib.hid hg3; clear hg3)
  go_wp2_with (first | (go_at_call 53; (with_reducible refine (HGA.out _).mono ?_); rintro ev w4 ⟨⟨_, hr4⟩, hg4⟩; obtain rfl := hr4 HN.out; have HG4 := Lib.hid hg4; clear hr4 hg4) | (go_at_call 68; (with_reducible refine (HO.out _).mono ?_); rintro ev w5 ⟨rfl, rfl⟩))
  go_ret3
  exact ⟨rfl, HG2.out.tr (HG3.out.tr HG4.out)⟩
set_option maxRecDepth 100000 in
set_option maxHeartbeats 8000000 in
theorem dget_nonum_false (s t a r : ByteArray) (hs : s.size ≤ 240) (hz : t.size ≤ s.size ∧ a.size ≤ t.size ∧ r.size ≤ t.size) (neg : Bool) (hp : Parts s t neg) (hc : CutP t a r false) (hl : s.size ≤ 60) (hn : ¬ NumT a) (w : World) :
    Calls Tryz.prog 14 #[.string s] w fun e w' => e = .returned (.tuple #[.pointer none, .int .i64 0, .iface 169 (.int .i64 1)]) ∧ Gr w w' := by
  have HCP : Hid (∀ w, Calls Tryz.prog 74 #[.string s, .string ⟨#[45]⟩] w fun e w' => e = .returned (.tuple #[.string t, .bool neg]) ∧ w' = w) := Lib.hid (fun w => cutPre_calls s t neg hp w)
  have HCU : Hid (∀ w, Calls Tryz.prog 75 #[.string t, .string ⟨#[46]⟩] w fun e w' => e = .returned (.tuple #[.string a, .string r, .bool false]) ∧ Gr w w') := Lib.hid (fun w => cutP_calls t a r false hc (by omega) w)
  have HGA := Lib.hid (fun w => natGet_calls a w (by omega))
  have HGX := Lib.hid (fun w => natAnyGet a w (by omega))
  have HO := Lib.hid (of_calls 1 rfl)
  have HZ := Lib.hid (And.intro hs hz)
  have b1 : decide (60 < (s.size : Int)) = false := decide_eq_false (by omega)
  have b1n : decide (60 < s.size) = false := decide_eq_false (by omega)
  have HSH := Lib.hid hl
  clear hl
  have HN := Lib.hid hn
  clear hn
  clear hp hc hs hz
  go_enter Tryz.func14, Tryz.ntmps14
  go_wp2_with (go_at_call 74; (with_reducible refine (HCP.out _).mono ?_); rintro ev w1 ⟨rfl, rfl⟩)
  go_wp2_with (go_at_call 75; (with_reducible refine (HCU.out _).mono ?_); rintro ev w2 ⟨rfl, hg2⟩; have HG2 := Lib.hid hg2; clear hg2)
  go_wp2_with (first | (go_at_call 53; (with_reducible refine (HGA.out _).mono ?_); rintro ev w4 ⟨⟨_, hr4⟩, hg4⟩; obtain rfl := hr4 HN.out; have HG4 := Lib.hid hg4; clear hr4 hg4) | (go_at_call 68; (with_reducible refine (HO.out _).mono ?_); rintro ev w5 ⟨rfl, rfl⟩))
  go_ret3
  exact ⟨rfl, HG2.out.tr HG4.out⟩
set_option maxRecDepth 100000 in
set_option maxHeartbeats 8000000 in
theorem dget_tzt (s t a r : ByteArray) (hs : s.size ≤ 240) (hz : t.size ≤ s.size ∧ a.size ≤ t.size ∧ r.size ≤ t.size) (hp : Parts s t true) (hc : CutP t a r true) (hl : s.size ≤ 60) (hf : FracT r) (hn : NumT a) (hv : dv (a.data.toList ++ r.data.toList) = 0) (w : World) (hB : BitTab w) :
    Calls Tryz.prog 14 #[.string s] w fun e w' => e = .returned (.tuple #[.pointer none, .int .i64 0, .iface 169 (.int .i64 1)]) ∧ Gr w w' := by
  have HCP : Hid (∀ w, Calls Tryz.prog 74 #[.string s, .string ⟨#[45]⟩] w fun e w' => e = .returned (.tuple #[.string t, .bool true]) ∧ w' = w) := Lib.hid (fun w => cutPre_calls s t true hp w)
  have HCU : Hid (∀ w, Calls Tryz.prog 75 #[.string t, .string ⟨#[46]⟩] w fun e w' => e = .returned (.tuple #[.string a, .string r, .bool true]) ∧ Gr w w') := Lib.hid (fun w => cutP_calls t a r true hc (by omega) w)
  have HGA := Lib.hid (fun w => natGet_calls a w (by omega))
  have HGX := Lib.hid (fun w => natAnyGet a w (by omega))
  have HO := Lib.hid (of_calls 1 rfl)
  have HZ := Lib.hid (And.intro hs hz)
  have b1 : decide (60 < (s.size : Int)) = false := decide_eq_false (by omega)
  have b1n : decide (60 < s.size) = false := decide_eq_false (by omega)
  have HSH := Lib.hid hl
  clear hl
  have HN := Lib.hid hn
  obtain ⟨hr0, hr20, hd⟩ := hf
  have b2 : r.toList.isEmpty = false := by rw [empty_iff]; exact decide_eq_false (fun e => by have := Lib.size_eq r; rw [e] at this; simp only [List.length_nil] at this; omega)
  have b3 : decide (20 < (r.size : Int)) = false := decide_eq_false (by omega)
  have b3n : decide (20 < r.size) = false := decide_eq_false (by omega)
  have HTR := Lib.hid (fun w => trimT_calls r (by omega) true ⟨fun _ => hd, fun _ => rfl⟩ w)
  have HLE := Lib.hid (fun w => leadL_calls a r hn.2.2.2 hd (by omega) w)
  have HG0 := Lib.hid (fun w => get_0 w)
  have hcat : ¬ (9223372036854775807 < a.size + r.size) := by omega
  have H20 := Lib.hid hr20
  generalize hM : dv (a.data.toList ++ r.data.toList) = M at *
  have HV := Lib.hid hv
  clear hM hp hc hs hz hn hv hr0 hr20 hd
  go_enter Tryz.func14, Tryz.ntmps14
  go_wp2_with (go_at_call 74; (with_reducible refine (HCP.out _).mono ?_); rintro ev w1 ⟨rfl, rfl⟩)
  go_wp2_with (go_at_call 75; (with_reducible refine (HCU.out _).mono ?_); rintro ev w2 ⟨rfl, hg2⟩; have HG2 := Lib.hid hg2; clear hg2)
  go_wp2_with (go_at_call 76; (with_reducible refine (HTR.out _).mono ?_); rintro ev w3 ⟨⟨X3, rfl, hx3⟩, hg3⟩; have HG3 := Lib.hid hg3; clear hg3)
  go_wp2_with fail
  refine (HGA.out _).mono ?_
  rintro ev w4 ⟨⟨hs4, _⟩, hg4⟩
  obtain ⟨r4, rfl, hs4x⟩ := hs4 HN.out
  have HG4 := Lib.hid hg4
  clear hs4 hs4x hg4
  go_wp2_with fail
  refine (HG0.out _).mono ?_
  rintro ev w5 ⟨⟨r5, rfl, hr5⟩, hg5⟩
  have HR5 := Lib.hid hr5
  have HG5 := Lib.hid hg5
  clear hr5 hg5
  go_wp2_with fail
  refine (HLE.out _).mono ?_
  rintro ev w6 ⟨⟨X6, rfl, hx6⟩, rfl⟩
  rcases hx6 with ⟨hx6, _⟩ | ⟨_, _, _, hx6⟩
  rotate_left
  · have := HV.out; omega
  have HZR := Lib.hid (show Calls Tryz.prog 78 #[r5] w5 fun e w' => e = .returned (.bool true) ∧ w5 = w' from zero_calls r5 0 w5 HR5.out.at_)
  go_wp2_with (first | (go_at_call 78; (with_reducible refine HZR.out.mono ?_); rintro ev w7 ⟨rfl, rfl⟩) | (go_at_call 68; (with_reducible refine (HO.out _).mono ?_); rintro ev w8 ⟨rfl, rfl⟩))
  go_ret3
  exact ⟨rfl, HG2.out.tr (HG3.out.tr (HG4.out.tr HG5.out))⟩
set_option maxRecDepth 100000 in
set_option maxHeartbeats 8000000 in
theorem dget_tzf (s t a r : ByteArray) (hs : s.size ≤ 240) (hz : t.size ≤ s.size ∧ a.size ≤ t.size ∧ r.size ≤ t.size) (hp : Parts s t false) (hc : CutP t a r true) (hl : s.size ≤ 60) (hf : FracT r) (hn : NumT a) (hv : dv (a.data.toList ++ r.data.toList) = 0) (w : World) (hB : BitTab w) :
    Calls Tryz.prog 14 #[.string s] w fun e w' => (∃ b, e = .returned (.tuple #[.pointer (some ⟨b, 0, none⟩), .int .i64 (r.size : Int), .nilIface]) ∧ RatAt w' (.pointer (some ⟨b, 0, none⟩)) (sgn false (dv (a.data.toList ++ r.data.toList) / Nat.gcd (dv (a.data.toList ++ r.data.toList)) (10 ^ r.size))) (10 ^ r.size / Nat.gcd (dv (a.data.toList ++ r.data.toList)) (10 ^ r.size))) ∧ Gr w w' := by
  have HCP : Hid (∀ w, Calls Tryz.prog 74 #[.string s, .string ⟨#[45]⟩] w fun e w' => e = .returned (.tuple #[.string t, .bool false]) ∧ w' = w) := Lib.hid (fun w => cutPre_calls s t false hp w)
  have HCU : Hid (∀ w, Calls Tryz.prog 75 #[.string t, .string ⟨#[46]⟩] w fun e w' => e = .returned (.tuple #[.string a, .string r, .bool true]) ∧ Gr w w') := Lib.hid (fun w => cutP_calls t a r true hc (by omega) w)
  have HGA := Lib.hid (fun w => natGet_calls a w (by omega))
  have HGX := Lib.hid (fun w => natAnyGet a w (by omega))
  have HO := Lib.hid (of_calls 1 rfl)
  have HZ := Lib.hid (And.intro hs hz)
  have b1 : decide (60 < (s.size : Int)) = false := decide_eq_false (by omega)
  have b1n : decide (60 < s.size) = false := decide_eq_false (by omega)
  have HSH := Lib.hid hl
  clear hl
  have HN := Lib.hid hn
  obtain ⟨hr0, hr20, hd⟩ := hf
  have b2 : r.toList.isEmpty = false := by rw [empty_iff]; exact decide_eq_false (fun e => by have := Lib.size_eq r; rw [e] at this; simp only [List.length_nil] at this; omega)
  have b3 : decide (20 < (r.size : Int)) = false := decide_eq_false (by omega)
  have b3n : decide (20 < r.size) = false := decide_eq_false (by omega)
  have HTR := Lib.hid (fun w => trimT_calls r (by omega) true ⟨fun _ => hd, fun _ => rfl⟩ w)
  have HLE := Lib.hid (fun w => leadL_calls a r hn.2.2.2 hd (by omega) w)
  have HG0 := Lib.hid (fun w => get_0 w)
  have hcat : ¬ (9223372036854775807 < a.size + r.size) := by omega
  have H20 := Lib.hid hr20
  have hND : dv (a.data.toList ++ r.data.toList) < B ^ 20 := by
    refine Nat.lt_of_lt_of_le (dv_lt _ (fun c hc => (List.mem_append.1 hc).elim (hn.2.2.2 c) (hd c))) ?_
    rw [List.length_append, ← Lib.size_eq, ← Lib.size_eq]
    exact Nat.le_trans (Nat.pow_le_pow_right (by decide) (show a.size + r.size ≤ 250 by have := HSH.out; omega)) (by decide)
  have HND := Lib.hid hND
  have HBT := Lib.hid hB
  clear hND hB
  have HTE := Lib.hid (fun w => ten_calls r.size hr20 w)
  generalize hM : dv (a.data.toList ++ r.data.toList) = M at *
  have HV := Lib.hid hv
  clear hM hp hc hs hz hn hv hr0 hr20 hd
  go_enter Tryz.func14, Tryz.ntmps14
  go_wp2_with (go_at_call 74; (with_reducible refine (HCP.out _).mono ?_); rintro ev w1 ⟨rfl, rfl⟩)
  go_wp2_with (go_at_call 75; (with_reducible refine (HCU.out _).mono ?_); rintro ev w2 ⟨rfl, hg2⟩; have HG2 := Lib.hid hg2; clear hg2)
  go_wp2_with (go_at_call 76; (with_reducible refine (HTR.out _).mono ?_); rintro ev w3 ⟨⟨X3, rfl, hx3⟩, hg3⟩; have HG3 := Lib.hid hg3; clear hg3)
  go_wp2_with fail
  refine (HGA.out _).mono ?_
  rintro ev w4 ⟨⟨hs4, _⟩, hg4⟩
  obtain ⟨r4, rfl, hs4x⟩ := hs4 HN.out
  have HG4 := Lib.hid hg4
  clear hs4 hs4x hg4
  go_wp2_with fail
  refine (HG0.out _).mono ?_
  rintro ev w5 ⟨⟨r5, rfl, hr5⟩, hg5⟩
  have HR5 := Lib.hid hr5
  have HG5 := Lib.hid hg5
  clear hr5 hg5
  go_wp2_with fail
  refine (HLE.out _).mono ?_
  rintro ev w6 ⟨⟨X6, rfl, hx6⟩, rfl⟩
  rcases hx6 with ⟨hx6, _⟩ | ⟨_, _, _, hx6⟩
  rotate_left
  · have := HV.out; omega
  have HRN : Hid (NatP w5 r5 M) := Lib.hid (by rw [HV.out]; exact HR5.out)
  have HNW := Lib.hid (newP_calls false r5 M w5 HRN.out.at_)
  go_wp2_with (go_at_call 66; (with_reducible refine HNW.out.mono ?_); rintro ev w9 ⟨⟨r9, rfl, hr9⟩, hg9⟩; have HR9 := Lib.hid hr9; have HG9 := Lib.hid hg9; clear hr9 hg9)
  go_wp2_with (go_at_call 73; (with_reducible refine (HTE.out _).mono ?_); rintro ev wa ⟨⟨ra, rfl, hra⟩, hga⟩; have HRA := Lib.hid hra; have HGA2 := Lib.hid hga; clear hra hga)
  have HGT := Lib.hid ((HG2.out.tr (HG3.out.tr (HG4.out.tr HG5.out))).tr (HG9.out.tr HGA2.out))
  have HNR := Lib.hid (newG_calls r9 ra (sgn false M) ((10 ^ r.size : Nat) : Int) wa (HBT.out.gr HGT.out) (HR9.out.gr HGA2.out).at_ HRA.out.at_ 20 (by rw [sgn_abs]; exact HND.out) (by rw [Int.natAbs_natCast]; exact b_upB (ten_B2 _ H20.out) (by decide)) (by decide))
  go_wp2_with (go_at_call 65; (with_reducible refine HNR.out.mono ?_); rintro ev wb ⟨⟨_, hnew⟩, hgb⟩; obtain ⟨b, n, d, rfl, hr, hnd, _⟩ := hnew (by have : 0 < 10 ^ r.size := Nat.pow_pos (by decide); omega); have HR := Lib.hid (And.intro hr hnd); have HGB := Lib.hid hgb; clear hnew hr hnd hgb)
  go_ret3
  obtain ⟨hr, hnd⟩ := HR.out
  obtain ⟨e1, e2⟩ := low_is false M (10 ^ r.size) (Nat.pos_iff_ne_zero.1 (Nat.pow_pos (by decide))) n d hnd hr.pos hr.cop
  subst e1 e2
  exact ⟨⟨b, rfl, hr⟩, HGT.out.tr HGB.out⟩
set_option maxRecDepth 100000 in
set_option maxHeartbeats 8000000 in
theorem dget_tpt (s t a r : ByteArray) (hs : s.size ≤ 240) (hz : t.size ≤ s.size ∧ a.size ≤ t.size ∧ r.size ≤ t.size) (hp : Parts s t true) (hc : CutP t a r true) (hl : s.size ≤ 60) (hf : FracT r) (hn : NumT a) (hv : 0 < dv (a.data.toList ++ r.data.toList)) (w : World) (hB : BitTab w) :
    Calls Tryz.prog 14 #[.string s] w fun e w' => (∃ b, e = .returned (.tuple #[.pointer (some ⟨b, 0, none⟩), .int .i64 (r.size : Int), .nilIface]) ∧ RatAt w' (.pointer (some ⟨b, 0, none⟩)) (sgn true (dv (a.data.toList ++ r.data.toList) / Nat.gcd (dv (a.data.toList ++ r.data.toList)) (10 ^ r.size))) (10 ^ r.size / Nat.gcd (dv (a.data.toList ++ r.data.toList)) (10 ^ r.size))) ∧ Gr w w' := by
  have HCP : Hid (∀ w, Calls Tryz.prog 74 #[.string s, .string ⟨#[45]⟩] w fun e w' => e = .returned (.tuple #[.string t, .bool true]) ∧ w' = w) := Lib.hid (fun w => cutPre_calls s t true hp w)
  have HCU : Hid (∀ w, Calls Tryz.prog 75 #[.string t, .string ⟨#[46]⟩] w fun e w' => e = .returned (.tuple #[.string a, .string r, .bool true]) ∧ Gr w w') := Lib.hid (fun w => cutP_calls t a r true hc (by omega) w)
  have HGA := Lib.hid (fun w => natGet_calls a w (by omega))
  have HGX := Lib.hid (fun w => natAnyGet a w (by omega))
  have HO := Lib.hid (of_calls 1 rfl)
  have HZ := Lib.hid (And.intro hs hz)
  have b1 : decide (60 < (s.size : Int)) = false := decide_eq_false (by omega)
  have b1n : decide (60 < s.size) = false := decide_eq_false (by omega)
  have HSH := Lib.hid hl
  clear hl
  have HN := Lib.hid hn
  obtain ⟨hr0, hr20, hd⟩ := hf
  have b2 : r.toList.isEmpty = false := by rw [empty_iff]; exact decide_eq_false (fun e => by have := Lib.size_eq r; rw [e] at this; simp only [List.length_nil] at this; omega)
  have b3 : decide (20 < (r.size : Int)) = false := decide_eq_false (by omega)
  have b3n : decide (20 < r.size) = false := decide_eq_false (by omega)
  have HTR := Lib.hid (fun w => trimT_calls r (by omega) true ⟨fun _ => hd, fun _ => rfl⟩ w)
  have HLE := Lib.hid (fun w => leadL_calls a r hn.2.2.2 hd (by omega) w)
  have HG0 := Lib.hid (fun w => get_0 w)
  have hcat : ¬ (9223372036854775807 < a.size + r.size) := by omega
  have H20 := Lib.hid hr20
  have hND : dv (a.data.toList ++ r.data.toList) < B ^ 20 := by
    refine Nat.lt_of_lt_of_le (dv_lt _ (fun c hc => (List.mem_append.1 hc).elim (hn.2.2.2 c) (hd c))) ?_
    rw [List.length_append, ← Lib.size_eq, ← Lib.size_eq]
    exact Nat.le_trans (Nat.pow_le_pow_right (by decide) (show a.size + r.size ≤ 250 by have := HSH.out; omega)) (by decide)
  have HND := Lib.hid hND
  have HBT := Lib.hid hB
  clear hND hB
  have HTE := Lib.hid (fun w => ten_calls r.size hr20 w)
  generalize hM : dv (a.data.toList ++ r.data.toList) = M at *
  have HV := Lib.hid hv
  clear hM hp hc hs hz hn hv hr0 hr20 hd
  go_enter Tryz.func14, Tryz.ntmps14
  go_wp2_with (go_at_call 74; (with_reducible refine (HCP.out _).mono ?_); rintro ev w1 ⟨rfl, rfl⟩)
  go_wp2_with (go_at_call 75; (with_reducible refine (HCU.out _).mono ?_); rintro ev w2 ⟨rfl, hg2⟩; have HG2 := Lib.hid hg2; clear hg2)
  go_wp2_with (go_at_call 76; (with_reducible refine (HTR.out _).mono ?_); rintro ev w3 ⟨⟨X3, rfl, hx3⟩, hg3⟩; have HG3 := Lib.hid hg3; clear hg3)
  go_wp2_with fail
  refine (HGA.out _).mono ?_
  rintro ev w4 ⟨⟨hs4, _⟩, hg4⟩
  obtain ⟨r4, rfl, hs4x⟩ := hs4 HN.out
  have HG4 := Lib.hid hg4
  clear hs4 hs4x hg4
  go_wp2_with fail
  refine (HG0.out _).mono ?_
  rintro ev w5 ⟨⟨r5, rfl, hr5⟩, hg5⟩
  have HR5 := Lib.hid hr5
  have HG5 := Lib.hid hg5
  clear hr5 hg5
  go_wp2_with fail
  refine (HLE.out _).mono ?_
  rintro ev w6 ⟨⟨X6, rfl, hx6⟩, rfl⟩
  rcases hx6 with ⟨_, hx6⟩ | ⟨hx6, hnx, hvx, _⟩
  · have := HV.out; omega
  have hgx := natGet_calls X6 w5 (by have := hnx.2.1; omega)
  rw [hvx] at hgx
  have HGY := Lib.hid hgx
  have HNX := Lib.hid hnx
  clear hgx hnx hvx
  go_wp2_with fail
  refine HGY.out.mono ?_
  rintro ev w7 ⟨⟨hs7, _⟩, hg7⟩
  obtain ⟨r7, rfl, hr7⟩ := hs7 HNX.out
  have HRN := Lib.hid hr7
  have HG7 := Lib.hid hg7
  clear hs7 hr7 hg7
  have hzz := zero_calls r7 M w7 HRN.out.at_
  rw [show (M == 0) = false from beq_eq_false_iff_ne.2 (by have := HV.out; omega)] at hzz
  have HZR := Lib.hid hzz
  clear hzz
  go_wp2_with (go_at_call 78; (with_reducible refine HZR.out.mono ?_); rintro ev w8 ⟨rfl, rfl⟩)
  have HNW := Lib.hid (newP_calls true r7 M w7 HRN.out.at_)
  go_wp2_with (go_at_call 66; (with_reducible refine HNW.out.mono ?_); rintro ev w9 ⟨⟨r9, rfl, hr9⟩, hg9⟩; have HR9 := Lib.hid hr9; have HG9 := Lib.hid hg9; clear hr9 hg9)
  go_wp2_with (go_at_call 73; (with_reducible refine (HTE.out _).mono ?_); rintro ev wa ⟨⟨ra, rfl, hra⟩, hga⟩; have HRA := Lib.hid hra; have HGA2 := Lib.hid hga; clear hra hga)
  have HGT := Lib.hid ((HG2.out.tr (HG3.out.tr (HG4.out.tr (HG5.out.tr HG7.out)))).tr (HG9.out.tr HGA2.out))
  have HNR := Lib.hid (newG_calls r9 ra (sgn true M) ((10 ^ r.size : Nat) : Int) wa (HBT.out.gr HGT.out) (HR9.out.gr HGA2.out).at_ HRA.out.at_ 20 (by rw [sgn_abs]; exact HND.out) (by rw [Int.natAbs_natCast]; exact b_upB (ten_B2 _ H20.out) (by decide)) (by decide))
  go_wp2_with (go_at_call 65; (with_reducible refine HNR.out.mono ?_); rintro ev wb ⟨⟨_, hnew⟩, hgb⟩; obtain ⟨b, n, d, rfl, hr, hnd, _⟩ := hnew (by have : 0 < 10 ^ r.size := Nat.pow_pos (by decide); omega); have HR := Lib.hid (And.intro hr hnd); have HGB := Lib.hid hgb; clear hnew hr hnd hgb)
  go_ret3
  obtain ⟨hr, hnd⟩ := HR.out
  obtain ⟨e1, e2⟩ := low_is true M (10 ^ r.size) (Nat.pos_iff_ne_zero.1 (Nat.pow_pos (by decide))) n d hnd hr.pos hr.cop
  subst e1 e2
  exact ⟨⟨b, rfl, hr⟩, HGT.out.tr HGB.out⟩
set_option maxRecDepth 100000 in
set_option maxHeartbeats 8000000 in
theorem dget_tpf (s t a r : ByteArray) (hs : s.size ≤ 240) (hz : t.size ≤ s.size ∧ a.size ≤ t.size ∧ r.size ≤ t.size) (hp : Parts s t false) (hc : CutP t a r true) (hl : s.size ≤ 60) (hf : FracT r) (hn : NumT a) (hv : 0 < dv (a.data.toList ++ r.data.toList)) (w : World) (hB : BitTab w) :
    Calls Tryz.prog 14 #[.string s] w fun e w' => (∃ b, e = .returned (.tuple #[.pointer (some ⟨b, 0, none⟩), .int .i64 (r.size : Int), .nilIface]) ∧ RatAt w' (.pointer (some ⟨b, 0, none⟩)) (sgn false (dv (a.data.toList ++ r.data.toList) / Nat.gcd (dv (a.data.toList ++ r.data.toList)) (10 ^ r.size))) (10 ^ r.size / Nat.gcd (dv (a.data.toList ++ r.data.toList)) (10 ^ r.size))) ∧ Gr w w' := by
  have HCP : Hid (∀ w, Calls Tryz.prog 74 #[.string s, .string ⟨#[45]⟩] w fun e w' => e = .returned (.tuple #[.string t, .bool false]) ∧ w' = w) := Lib.hid (fun w => cutPre_calls s t false hp w)
  have HCU : Hid (∀ w, Calls Tryz.prog 75 #[.string t, .string ⟨#[46]⟩] w fun e w' => e = .returned (.tuple #[.string a, .string r, .bool true]) ∧ Gr w w') := Lib.hid (fun w => cutP_calls t a r true hc (by omega) w)
  have HGA := Lib.hid (fun w => natGet_calls a w (by omega))
  have HGX := Lib.hid (fun w => natAnyGet a w (by omega))
  have HO := Lib.hid (of_calls 1 rfl)
  have HZ := Lib.hid (And.intro hs hz)
  have b1 : decide (60 < (s.size : Int)) = false := decide_eq_false (by omega)
  have b1n : decide (60 < s.size) = false := decide_eq_false (by omega)
  have HSH := Lib.hid hl
  clear hl
  have HN := Lib.hid hn
  obtain ⟨hr0, hr20, hd⟩ := hf
  have b2 : r.toList.isEmpty = false := by rw [empty_iff]; exact decide_eq_false (fun e => by have := Lib.size_eq r; rw [e] at this; simp only [List.length_nil] at this; omega)
  have b3 : decide (20 < (r.size : Int)) = false := decide_eq_false (by omega)
  have b3n : decide (20 < r.size) = false := decide_eq_false (by omega)
  have HTR := Lib.hid (fun w => trimT_calls r (by omega) true ⟨fun _ => hd, fun _ => rfl⟩ w)
  have HLE := Lib.hid (fun w => leadL_calls a r hn.2.2.2 hd (by omega) w)
  have HG0 := Lib.hid (fun w => get_0 w)
  have hcat : ¬ (9223372036854775807 < a.size + r.size) := by omega
  have H20 := Lib.hid hr20
  have hND : dv (a.data.toList ++ r.data.toList) < B ^ 20 := by
    refine Nat.lt_of_lt_of_le (dv_lt _ (fun c hc => (List.mem_append.1 hc).elim (hn.2.2.2 c) (hd c))) ?_
    rw [List.length_append, ← Lib.size_eq, ← Lib.size_eq]
    exact Nat.le_trans (Nat.pow_le_pow_right (by decide) (show a.size + r.size ≤ 250 by have := HSH.out; omega)) (by decide)
  have HND := Lib.hid hND
  have HBT := Lib.hid hB
  clear hND hB
  have HTE := Lib.hid (fun w => ten_calls r.size hr20 w)
  generalize hM : dv (a.data.toList ++ r.data.toList) = M at *
  have HV := Lib.hid hv
  clear hM hp hc hs hz hn hv hr0 hr20 hd
  go_enter Tryz.func14, Tryz.ntmps14
  go_wp2_with (go_at_call 74; (with_reducible refine (HCP.out _).mono ?_); rintro ev w1 ⟨rfl, rfl⟩)
  go_wp2_with (go_at_call 75; (with_reducible refine (HCU.out _).mono ?_); rintro ev w2 ⟨rfl, hg2⟩; have HG2 := Lib.hid hg2; clear hg2)
  go_wp2_with (go_at_call 76; (with_reducible refine (HTR.out _).mono ?_); rintro ev w3 ⟨⟨X3, rfl, hx3⟩, hg3⟩; have HG3 := Lib.hid hg3; clear hg3)
  go_wp2_with fail
  refine (HGA.out _).mono ?_
  rintro ev w4 ⟨⟨hs4, _⟩, hg4⟩
  obtain ⟨r4, rfl, hs4x⟩ := hs4 HN.out
  have HG4 := Lib.hid hg4
  clear hs4 hs4x hg4
  go_wp2_with fail
  refine (HG0.out _).mono ?_
  rintro ev w5 ⟨⟨r5, rfl, hr5⟩, hg5⟩
  have HR5 := Lib.hid hr5
  have HG5 := Lib.hid hg5
  clear hr5 hg5
  go_wp2_with fail
  refine (HLE.out _).mono ?_
  rintro ev w6 ⟨⟨X6, rfl, hx6⟩, rfl⟩
  rcases hx6 with ⟨_, hx6⟩ | ⟨hx6, hnx, hvx, _⟩
  · have := HV.out; omega
  have hgx := natGet_calls X6 w5 (by have := hnx.2.1; omega)
  rw [hvx] at hgx
  have HGY := Lib.hid hgx
  have HNX := Lib.hid hnx
  clear hgx hnx hvx
  go_wp2_with fail
  refine HGY.out.mono ?_
  rintro ev w7 ⟨⟨hs7, _⟩, hg7⟩
  obtain ⟨r7, rfl, hr7⟩ := hs7 HNX.out
  have HRN := Lib.hid hr7
  have HG7 := Lib.hid hg7
  clear hs7 hr7 hg7
  have HNW := Lib.hid (newP_calls false r7 M w7 HRN.out.at_)
  go_wp2_with (go_at_call 66; (with_reducible refine HNW.out.mono ?_); rintro ev w9 ⟨⟨r9, rfl, hr9⟩, hg9⟩; have HR9 := Lib.hid hr9; have HG9 := Lib.hid hg9; clear hr9 hg9)
  go_wp2_with (go_at_call 73; (with_reducible refine (HTE.out _).mono ?_); rintro ev wa ⟨⟨ra, rfl, hra⟩, hga⟩; have HRA := Lib.hid hra; have HGA2 := Lib.hid hga; clear hra hga)
  have HGT := Lib.hid ((HG2.out.tr (HG3.out.tr (HG4.out.tr (HG5.out.tr HG7.out)))).tr (HG9.out.tr HGA2.out))
  have HNR := Lib.hid (newG_calls r9 ra (sgn false M) ((10 ^ r.size : Nat) : Int) wa (HBT.out.gr HGT.out) (HR9.out.gr HGA2.out).at_ HRA.out.at_ 20 (by rw [sgn_abs]; exact HND.out) (by rw [Int.natAbs_natCast]; exact b_upB (ten_B2 _ H20.out) (by decide)) (by decide))
  go_wp2_with (go_at_call 65; (with_reducible refine HNR.out.mono ?_); rintro ev wb ⟨⟨_, hnew⟩, hgb⟩; obtain ⟨b, n, d, rfl, hr, hnd, _⟩ := hnew (by have : 0 < 10 ^ r.size := Nat.pow_pos (by decide); omega); have HR := Lib.hid (And.intro hr hnd); have HGB := Lib.hid hgb; clear hnew hr hnd hgb)
  go_ret3
  obtain ⟨hr, hnd⟩ := HR.out
  obtain ⟨e1, e2⟩ := low_is false M (10 ^ r.size) (Nat.pos_iff_ne_zero.1 (Nat.pow_pos (by decide))) n d hnd hr.pos hr.cop
  subst e1 e2
  exact ⟨⟨b, rfl, hr⟩, HGT.out.tr HGB.out⟩
set_option maxRecDepth 100000 in
set_option maxHeartbeats 8000000 in
theorem dget_fzt (s t a r : ByteArray) (hs : s.size ≤ 240) (hz : t.size ≤ s.size ∧ a.size ≤ t.size ∧ r.size ≤ t.size) (hp : Parts s t true) (hc : CutP t a r false) (hl : s.size ≤ 60) (hf : r.size = 0) (hn : NumT a) (hv : dv (a.data.toList ++ r.data.toList) = 0) (w : World) (hB : BitTab w) :
    Calls Tryz.prog 14 #[.string s] w fun e w' => e = .returned (.tuple #[.pointer none, .int .i64 0, .iface 169 (.int .i64 1)]) ∧ Gr w w' := by
  have HCP : Hid (∀ w, Calls Tryz.prog 74 #[.string s, .string ⟨#[45]⟩] w fun e w' => e = .returned (.tuple #[.string t, .bool true]) ∧ w' = w) := Lib.hid (fun w => cutPre_calls s t true hp w)
  have HCU : Hid (∀ w, Calls Tryz.prog 75 #[.string t, .string ⟨#[46]⟩] w fun e w' => e = .returned (.tuple #[.string a, .string r, .bool false]) ∧ Gr w w') := Lib.hid (fun w => cutP_calls t a r false hc (by omega) w)
  have HGA := Lib.hid (fun w => natGet_calls a w (by omega))
  have HGX := Lib.hid (fun w => natAnyGet a w (by omega))
  have HO := Lib.hid (of_calls 1 rfl)
  have HZ := Lib.hid (And.intro hs hz)
  have b1 : decide (60 < (s.size : Int)) = false := decide_eq_false (by omega)
  have b1n : decide (60 < s.size) = false := decide_eq_false (by omega)
  have HSH := Lib.hid hl
  clear hl
  have HN := Lib.hid hn
  have hr20 : r.size ≤ 20 := by omega
  have hd : Dig r.data.toList := by rw [List.eq_nil_of_length_eq_zero (show r.data.toList.length = 0 by rw [← Lib.size_eq]; exact hf)]; exact fun c hc => (by cases hc)
  have HLE := Lib.hid (fun w => leadL_calls a r hn.2.2.2 hd (by omega) w)
  have HG0 := Lib.hid (fun w => get_0 w)
  have hcat : ¬ (9223372036854775807 < a.size + r.size) := by omega
  have H20 := Lib.hid hr20
  generalize hM : dv (a.data.toList ++ r.data.toList) = M at *
  have HV := Lib.hid hv
  clear hM hp hc hs hz hn hv hr20 hd hf
  go_enter Tryz.func14, Tryz.ntmps14
  go_wp2_with (go_at_call 74; (with_reducible refine (HCP.out _).mono ?_); rintro ev w1 ⟨rfl, rfl⟩)
  go_wp2_with (go_at_call 75; (with_reducible refine (HCU.out _).mono ?_); rintro ev w2 ⟨rfl, hg2⟩; have HG2 := Lib.hid hg2; clear hg2)
  go_wp2_with fail
  refine (HGA.out _).mono ?_
  rintro ev w4 ⟨⟨hs4, _⟩, hg4⟩
  obtain ⟨r4, rfl, hs4x⟩ := hs4 HN.out
  have HG4 := Lib.hid hg4
  clear hs4 hs4x hg4
  go_wp2_with fail
  refine (HG0.out _).mono ?_
  rintro ev w5 ⟨⟨r5, rfl, hr5⟩, hg5⟩
  have HR5 := Lib.hid hr5
  have HG5 := Lib.hid hg5
  clear hr5 hg5
  go_wp2_with fail
  refine (HLE.out _).mono ?_
  rintro ev w6 ⟨⟨X6, rfl, hx6⟩, rfl⟩
  rcases hx6 with ⟨hx6, _⟩ | ⟨_, _, _, hx6⟩
  rotate_left
  · have := HV.out; omega
  have HZR := Lib.hid (show Calls Tryz.prog 78 #[r5] w5 fun e w' => e = .returned (.bool true) ∧ w5 = w' from zero_calls r5 0 w5 HR5.out.at_)
  go_wp2_with (first | (go_at_call 78; (with_reducible refine HZR.out.mono ?_); rintro ev w7 ⟨rfl, rfl⟩) | (go_at_call 68; (with_reducible refine (HO.out _).mono ?_); rintro ev w8 ⟨rfl, rfl⟩))
  go_ret3
  exact ⟨rfl, HG2.out.tr ((HG4.out.tr HG5.out))⟩
set_option maxRecDepth 100000 in
set_option maxHeartbeats 8000000 in
theorem dget_fzf (s t a r : ByteArray) (hs : s.size ≤ 240) (hz : t.size ≤ s.size ∧ a.size ≤ t.size ∧ r.size ≤ t.size) (hp : Parts s t false) (hc : CutP t a r false) (hl : s.size ≤ 60) (hf : r.size = 0) (hn : NumT a) (hv : dv (a.data.toList ++ r.data.toList) = 0) (w : World) (hB : BitTab w) :
    Calls Tryz.prog 14 #[.string s] w fun e w' => (∃ b, e = .returned (.tuple #[.pointer (some ⟨b, 0, none⟩), .int .i64 (r.size : Int), .nilIface]) ∧ RatAt w' (.pointer (some ⟨b, 0, none⟩)) (sgn false (dv (a.data.toList ++ r.data.toList) / Nat.gcd (dv (a.data.toList ++ r.data.toList)) (10 ^ r.size))) (10 ^ r.size / Nat.gcd (dv (a.data.toList ++ r.data.toList)) (10 ^ r.size))) ∧ Gr w w' := by
  have HCP : Hid (∀ w, Calls Tryz.prog 74 #[.string s, .string ⟨#[45]⟩] w fun e w' => e = .returned (.tuple #[.string t, .bool false]) ∧ w' = w) := Lib.hid (fun w => cutPre_calls s t false hp w)
  have HCU : Hid (∀ w, Calls Tryz.prog 75 #[.string t, .string ⟨#[46]⟩] w fun e w' => e = .returned (.tuple #[.string a, .string r, .bool false]) ∧ Gr w w') := Lib.hid (fun w => cutP_calls t a r false hc (by omega) w)
  have HGA := Lib.hid (fun w => natGet_calls a w (by omega))
  have HGX := Lib.hid (fun w => natAnyGet a w (by omega))
  have HO := Lib.hid (of_calls 1 rfl)
  have HZ := Lib.hid (And.intro hs hz)
  have b1 : decide (60 < (s.size : Int)) = false := decide_eq_false (by omega)
  have b1n : decide (60 < s.size) = false := decide_eq_false (by omega)
  have HSH := Lib.hid hl
  clear hl
  have HN := Lib.hid hn
  have hr20 : r.size ≤ 20 := by omega
  have hd : Dig r.data.toList := by rw [List.eq_nil_of_length_eq_zero (show r.data.toList.length = 0 by rw [← Lib.size_eq]; exact hf)]; exact fun c hc => (by cases hc)
  have HLE := Lib.hid (fun w => leadL_calls a r hn.2.2.2 hd (by omega) w)
  have HG0 := Lib.hid (fun w => get_0 w)
  have hcat : ¬ (9223372036854775807 < a.size + r.size) := by omega
  have H20 := Lib.hid hr20
  have hND : dv (a.data.toList ++ r.data.toList) < B ^ 20 := by
    refine Nat.lt_of_lt_of_le (dv_lt _ (fun c hc => (List.mem_append.1 hc).elim (hn.2.2.2 c) (hd c))) ?_
    rw [List.length_append, ← Lib.size_eq, ← Lib.size_eq]
    exact Nat.le_trans (Nat.pow_le_pow_right (by decide) (show a.size + r.size ≤ 250 by have := HSH.out; omega)) (by decide)
  have HND := Lib.hid hND
  have HBT := Lib.hid hB
  clear hND hB
  have HTE := Lib.hid (fun w => ten_calls r.size hr20 w)
  generalize hM : dv (a.data.toList ++ r.data.toList) = M at *
  have HV := Lib.hid hv
  clear hM hp hc hs hz hn hv hr20 hd hf
  go_enter Tryz.func14, Tryz.ntmps14
  go_wp2_with (go_at_call 74; (with_reducible refine (HCP.out _).mono ?_); rintro ev w1 ⟨rfl, rfl⟩)
  go_wp2_with (go_at_call 75; (with_reducible refine (HCU.out _).mono ?_); rintro ev w2 ⟨rfl, hg2⟩; have HG2 := Lib.hid hg2; clear hg2)
  go_wp2_with fail
  refine (HGA.out _).mono ?_
  rintro ev w4 ⟨⟨hs4, _⟩, hg4⟩
  obtain ⟨r4, rfl, hs4x⟩ := hs4 HN.out
  have HG4 := Lib.hid hg4
  clear hs4 hs4x hg4
  go_wp2_with fail
  refine (HG0.out _).mono ?_
  rintro ev w5 ⟨⟨r5, rfl, hr5⟩, hg5⟩
  have HR5 := Lib.hid hr5
  have HG5 := Lib.hid hg5
  clear hr5 hg5
  go_wp2_with fail
  refine (HLE.out _).mono ?_
  rintro ev w6 ⟨⟨X6, rfl, hx6⟩, rfl⟩
  rcases hx6 with ⟨hx6, _⟩ | ⟨_, _, _, hx6⟩
  rotate_left
  · have := HV.out; omega
  have HRN : Hid (NatP w5 r5 M) := Lib.hid (by rw [HV.out]; exact HR5.out)
  have HNW := Lib.hid (newP_calls false r5 M w5 HRN.out.at_)
  go_wp2_with (go_at_call 66; (with_reducible refine HNW.out.mono ?_); rintro ev w9 ⟨⟨r9, rfl, hr9⟩, hg9⟩; have HR9 := Lib.hid hr9; have HG9 := Lib.hid hg9; clear hr9 hg9)
  go_wp2_with (go_at_call 73; (with_reducible refine (HTE.out _).mono ?_); rintro ev wa ⟨⟨ra, rfl, hra⟩, hga⟩; have HRA := Lib.hid hra; have HGA2 := Lib.hid hga; clear hra hga)
  have HGT := Lib.hid ((HG2.out.tr ((HG4.out.tr HG5.out))).tr (HG9.out.tr HGA2.out))
  have HNR := Lib.hid (newG_calls r9 ra (sgn false M) ((10 ^ r.size : Nat) : Int) wa (HBT.out.gr HGT.out) (HR9.out.gr HGA2.out).at_ HRA.out.at_ 20 (by rw [sgn_abs]; exact HND.out) (by rw [Int.natAbs_natCast]; exact b_upB (ten_B2 _ H20.out) (by decide)) (by decide))
  go_wp2_with (go_at_call 65; (with_reducible refine HNR.out.mono ?_); rintro ev wb ⟨⟨_, hnew⟩, hgb⟩; obtain ⟨b, n, d, rfl, hr, hnd, _⟩ := hnew (by have : 0 < 10 ^ r.size := Nat.pow_pos (by decide); omega); have HR := Lib.hid (And.intro hr hnd); have HGB := Lib.hid hgb; clear hnew hr hnd hgb)
  go_ret3
  obtain ⟨hr, hnd⟩ := HR.out
  obtain ⟨e1, e2⟩ := low_is false M (10 ^ r.size) (Nat.pos_iff_ne_zero.1 (Nat.pow_pos (by decide))) n d hnd hr.pos hr.cop
  subst e1 e2
  exact ⟨⟨b, rfl, hr⟩, HGT.out.tr HGB.out⟩
set_option maxRecDepth 100000 in
set_option maxHeartbeats 8000000 in
theorem dget_fpt (s t a r : ByteArray) (hs : s.size ≤ 240) (hz : t.size ≤ s.size ∧ a.size ≤ t.size ∧ r.size ≤ t.size) (hp : Parts s t true) (hc : CutP t a r false) (hl : s.size ≤ 60) (hf : r.size = 0) (hn : NumT a) (hv : 0 < dv (a.data.toList ++ r.data.toList)) (w : World) (hB : BitTab w) :
    Calls Tryz.prog 14 #[.string s] w fun e w' => (∃ b, e = .returned (.tuple #[.pointer (some ⟨b, 0, none⟩), .int .i64 (r.size : Int), .nilIface]) ∧ RatAt w' (.pointer (some ⟨b, 0, none⟩)) (sgn true (dv (a.data.toList ++ r.data.toList) / Nat.gcd (dv (a.data.toList ++ r.data.toList)) (10 ^ r.size))) (10 ^ r.size / Nat.gcd (dv (a.data.toList ++ r.data.toList)) (10 ^ r.size))) ∧ Gr w w' := by
  have HCP : Hid (∀ w, Calls Tryz.prog 74 #[.string s, .string ⟨#[45]⟩] w fun e w' => e = .returned (.tuple #[.string t, .bool true]) ∧ w' = w) := Lib.hid (fun w => cutPre_calls s t true hp w)
  have HCU : Hid (∀ w, Calls Tryz.prog 75 #[.string t, .string ⟨#[46]⟩] w fun e w' => e = .returned (.tuple #[.string a, .string r, .bool false]) ∧ Gr w w') := Lib.hid (fun w => cutP_calls t a r false hc (by omega) w)
  have HGA := Lib.hid (fun w => natGet_calls a w (by omega))
  have HGX := Lib.hid (fun w => natAnyGet a w (by omega))
  have HO := Lib.hid (of_calls 1 rfl)
  have HZ := Lib.hid (And.intro hs hz)
  have b1 : decide (60 < (s.size : Int)) = false := decide_eq_false (by omega)
  have b1n : decide (60 < s.size) = false := decide_eq_false (by omega)
  have HSH := Lib.hid hl
  clear hl
  have HN := Lib.hid hn
  have hr20 : r.size ≤ 20 := by omega
  have hd : Dig r.data.toList := by rw [List.eq_nil_of_length_eq_zero (show r.data.toList.length = 0 by rw [← Lib.size_eq]; exact hf)]; exact fun c hc => (by cases hc)
  have HLE := Lib.hid (fun w => leadL_calls a r hn.2.2.2 hd (by omega) w)
  have HG0 := Lib.hid (fun w => get_0 w)
  have hcat : ¬ (9223372036854775807 < a.size + r.size) := by omega
  have H20 := Lib.hid hr20
  have hND : dv (a.data.toList ++ r.data.toList) < B ^ 20 := by
    refine Nat.lt_of_lt_of_le (dv_lt _ (fun c hc => (List.mem_append.1 hc).elim (hn.2.2.2 c) (hd c))) ?_
    rw [List.length_append, ← Lib.size_eq, ← Lib.size_eq]
    exact Nat.le_trans (Nat.pow_le_pow_right (by decide) (show a.size + r.size ≤ 250 by have := HSH.out; omega)) (by decide)
  have HND := Lib.hid hND
  have HBT := Lib.hid hB
  clear hND hB
  have HTE := Lib.hid (fun w => ten_calls r.size hr20 w)
  generalize hM : dv (a.data.toList ++ r.data.toList) = M at *
  have HV := Lib.hid hv
  clear hM hp hc hs hz hn hv hr20 hd hf
  go_enter Tryz.func14, Tryz.ntmps14
  go_wp2_with (go_at_call 74; (with_reducible refine (HCP.out _).mono ?_); rintro ev w1 ⟨rfl, rfl⟩)
  go_wp2_with (go_at_call 75; (with_reducible refine (HCU.out _).mono ?_); rintro ev w2 ⟨rfl, hg2⟩; have HG2 := Lib.hid hg2; clear hg2)
  go_wp2_with fail
  refine (HGA.out _).mono ?_
  rintro ev w4 ⟨⟨hs4, _⟩, hg4⟩
  obtain ⟨r4, rfl, hs4x⟩ := hs4 HN.out
  have HG4 := Lib.hid hg4
  clear hs4 hs4x hg4
  go_wp2_with fail
  refine (HG0.out _).mono ?_
  rintro ev w5 ⟨⟨r5, rfl, hr5⟩, hg5⟩
  have HR5 := Lib.hid hr5
  have HG5 := Lib.hid hg5
  clear hr5 hg5
  go_wp2_with fail
  refine (HLE.out _).mono ?_
  rintro ev w6 ⟨⟨X6, rfl, hx6⟩, rfl⟩
  rcases hx6 with ⟨_, hx6⟩ | ⟨hx6, hnx, hvx, _⟩
  · have := HV.out; omega
  have hgx := natGet_calls X6 w5 (by have := hnx.2.1; omega)
  rw [hvx] at hgx
  have HGY := Lib.hid hgx
  have HNX := Lib.hid hnx
  clear hgx hnx hvx
  go_wp2_with fail
  refine HGY.out.mono ?_
  rintro ev w7 ⟨⟨hs7, _⟩, hg7⟩
  obtain ⟨r7, rfl, hr7⟩ := hs7 HNX.out
  have HRN := Lib.hid hr7
  have HG7 := Lib.hid hg7
  clear hs7 hr7 hg7
  have hzz := zero_calls r7 M w7 HRN.out.at_
  rw [show (M == 0) = false from beq_eq_false_iff_ne.2 (by have := HV.out; omega)] at hzz
  have HZR := Lib.hid hzz
  clear hzz
  go_wp2_with (go_at_call 78; (with_reducible refine HZR.out.mono ?_); rintro ev w8 ⟨rfl, rfl⟩)
  have HNW := Lib.hid (newP_calls true r7 M w7 HRN.out.at_)
  go_wp2_with (go_at_call 66; (with_reducible refine HNW.out.mono ?_); rintro ev w9 ⟨⟨r9, rfl, hr9⟩, hg9⟩; have HR9 := Lib.hid hr9; have HG9 := Lib.hid hg9; clear hr9 hg9)
  go_wp2_with (go_at_call 73; (with_reducible refine (HTE.out _).mono ?_); rintro ev wa ⟨⟨ra, rfl, hra⟩, hga⟩; have HRA := Lib.hid hra; have HGA2 := Lib.hid hga; clear hra hga)
  have HGT := Lib.hid ((HG2.out.tr ((HG4.out.tr (HG5.out.tr HG7.out)))).tr (HG9.out.tr HGA2.out))
  have HNR := Lib.hid (newG_calls r9 ra (sgn true M) ((10 ^ r.size : Nat) : Int) wa (HBT.out.gr HGT.out) (HR9.out.gr HGA2.out).at_ HRA.out.at_ 20 (by rw [sgn_abs]; exact HND.out) (by rw [Int.natAbs_natCast]; exact b_upB (ten_B2 _ H20.out) (by decide)) (by decide))
  go_wp2_with (go_at_call 65; (with_reducible refine HNR.out.mono ?_); rintro ev wb ⟨⟨_, hnew⟩, hgb⟩; obtain ⟨b, n, d, rfl, hr, hnd, _⟩ := hnew (by have : 0 < 10 ^ r.size := Nat.pow_pos (by decide); omega); have HR := Lib.hid (And.intro hr hnd); have HGB := Lib.hid hgb; clear hnew hr hnd hgb)
  go_ret3
  obtain ⟨hr, hnd⟩ := HR.out
  obtain ⟨e1, e2⟩ := low_is true M (10 ^ r.size) (Nat.pos_iff_ne_zero.1 (Nat.pow_pos (by decide))) n d hnd hr.pos hr.cop
  subst e1 e2
  exact ⟨⟨b, rfl, hr⟩, HGT.out.tr HGB.out⟩
set_option maxRecDepth 100000 in
set_option maxHeartbeats 8000000 in
theorem dget_fpf (s t a r : ByteArray) (hs : s.size ≤ 240) (hz : t.size ≤ s.size ∧ a.size ≤ t.size ∧ r.size ≤ t.size) (hp : Parts s t false) (hc : CutP t a r false) (hl : s.size ≤ 60) (hf : r.size = 0) (hn : NumT a) (hv : 0 < dv (a.data.toList ++ r.data.toList)) (w : World) (hB : BitTab w) :
    Calls Tryz.prog 14 #[.string s] w fun e w' => (∃ b, e = .returned (.tuple #[.pointer (some ⟨b, 0, none⟩), .int .i64 (r.size : Int), .nilIface]) ∧ RatAt w' (.pointer (some ⟨b, 0, none⟩)) (sgn false (dv (a.data.toList ++ r.data.toList) / Nat.gcd (dv (a.data.toList ++ r.data.toList)) (10 ^ r.size))) (10 ^ r.size / Nat.gcd (dv (a.data.toList ++ r.data.toList)) (10 ^ r.size))) ∧ Gr w w' := by
  have HCP : Hid (∀ w, Calls Tryz.prog 74 #[.string s, .string ⟨#[45]⟩] w fun e w' => e = .returned (.tuple #[.string t, .bool false]) ∧ w' = w) := Lib.hid (fun w => cutPre_calls s t false hp w)
  have HCU : Hid (∀ w, Calls Tryz.prog 75 #[.string t, .string ⟨#[46]⟩] w fun e w' => e = .returned (.tuple #[.string a, .string r, .bool false]) ∧ Gr w w') := Lib.hid (fun w => cutP_calls t a r false hc (by omega) w)
  have HGA := Lib.hid (fun w => natGet_calls a w (by omega))
  have HGX := Lib.hid (fun w => natAnyGet a w (by omega))
  have HO := Lib.hid (of_calls 1 rfl)
  have HZ := Lib.hid (And.intro hs hz)
  have b1 : decide (60 < (s.size : Int)) = false := decide_eq_false (by omega)
  have b1n : decide (60 < s.size) = false := decide_eq_false (by omega)
  have HSH := Lib.hid hl
  clear hl
  have HN := Lib.hid hn
  have hr20 : r.size ≤ 20 := by omega
  have hd : Dig r.data.toList := by rw [List.eq_nil_of_length_eq_zero (show r.data.toList.length = 0 by rw [← Lib.size_eq]; exact hf)]; exact fun c hc => (by cases hc)
  have HLE := Lib.hid (fun w => leadL_calls a r hn.2.2.2 hd (by omega) w)
  have HG0 := Lib.hid (fun w => get_0 w)
  have hcat : ¬ (9223372036854775807 < a.size + r.size) := by omega
  have H20 := Lib.hid hr20
  have hND : dv (a.data.toList ++ r.data.toList) < B ^ 20 := by
    refine Nat.lt_of_lt_of_le (dv_lt _ (fun c hc => (List.mem_append.1 hc).elim (hn.2.2.2 c) (hd c))) ?_
    rw [List.length_append, ← Lib.size_eq, ← Lib.size_eq]
    exact Nat.le_trans (Nat.pow_le_pow_right (by decide) (show a.size + r.size ≤ 250 by have := HSH.out; omega)) (by decide)
  have HND := Lib.hid hND
  have HBT := Lib.hid hB
  clear hND hB
  have HTE := Lib.hid (fun w => ten_calls r.size hr20 w)
  generalize hM : dv (a.data.toList ++ r.data.toList) = M at *
  have HV := Lib.hid hv
  clear hM hp hc hs hz hn hv hr20 hd hf
  go_enter Tryz.func14, Tryz.ntmps14
  go_wp2_with (go_at_call 74; (with_reducible refine (HCP.out _).mono ?_); rintro ev w1 ⟨rfl, rfl⟩)
  go_wp2_with (go_at_call 75; (with_reducible refine (HCU.out _).mono ?_); rintro ev w2 ⟨rfl, hg2⟩; have HG2 := Lib.hid hg2; clear hg2)
  go_wp2_with fail
  refine (HGA.out _).mono ?_
  rintro ev w4 ⟨⟨hs4, _⟩, hg4⟩
  obtain ⟨r4, rfl, hs4x⟩ := hs4 HN.out
  have HG4 := Lib.hid hg4
  clear hs4 hs4x hg4
  go_wp2_with fail
  refine (HG0.out _).mono ?_
  rintro ev w5 ⟨⟨r5, rfl, hr5⟩, hg5⟩
  have HR5 := Lib.hid hr5
  have HG5 := Lib.hid hg5
  clear hr5 hg5
  go_wp2_with fail
  refine (HLE.out _).mono ?_
  rintro ev w6 ⟨⟨X6, rfl, hx6⟩, rfl⟩
  rcases hx6 with ⟨_, hx6⟩ | ⟨hx6, hnx, hvx, _⟩
  · have := HV.out; omega
  have hgx := natGet_calls X6 w5 (by have := hnx.2.1; omega)
  rw [hvx] at hgx
  have HGY := Lib.hid hgx
  have HNX := Lib.hid hnx
  clear hgx hnx hvx
  go_wp2_with fail
  refine HGY.out.mono ?_
  rintro ev w7 ⟨⟨hs7, _⟩, hg7⟩
  obtain ⟨r7, rfl, hr7⟩ := hs7 HNX.out
  have HRN := Lib.hid hr7
  have HG7 := Lib.hid hg7
  clear hs7 hr7 hg7
  have HNW := Lib.hid (newP_calls false r7 M w7 HRN.out.at_)
  go_wp2_with (go_at_call 66; (with_reducible refine HNW.out.mono ?_); rintro ev w9 ⟨⟨r9, rfl, hr9⟩, hg9⟩; have HR9 := Lib.hid hr9; have HG9 := Lib.hid hg9; clear hr9 hg9)
  go_wp2_with (go_at_call 73; (with_reducible refine (HTE.out _).mono ?_); rintro ev wa ⟨⟨ra, rfl, hra⟩, hga⟩; have HRA := Lib.hid hra; have HGA2 := Lib.hid hga; clear hra hga)
  have HGT := Lib.hid ((HG2.out.tr ((HG4.out.tr (HG5.out.tr HG7.out)))).tr (HG9.out.tr HGA2.out))
  have HNR := Lib.hid (newG_calls r9 ra (sgn false M) ((10 ^ r.size : Nat) : Int) wa (HBT.out.gr HGT.out) (HR9.out.gr HGA2.out).at_ HRA.out.at_ 20 (by rw [sgn_abs]; exact HND.out) (by rw [Int.natAbs_natCast]; exact b_upB (ten_B2 _ H20.out) (by decide)) (by decide))
  go_wp2_with (go_at_call 65; (with_reducible refine HNR.out.mono ?_); rintro ev wb ⟨⟨_, hnew⟩, hgb⟩; obtain ⟨b, n, d, rfl, hr, hnd, _⟩ := hnew (by have : 0 < 10 ^ r.size := Nat.pow_pos (by decide); omega); have HR := Lib.hid (And.intro hr hnd); have HGB := Lib.hid hgb; clear hnew hr hnd hgb)
  go_ret3
  obtain ⟨hr, hnd⟩ := HR.out
  obtain ⟨e1, e2⟩ := low_is false M (10 ^ r.size) (Nat.pos_iff_ne_zero.1 (Nat.pow_pos (by decide))) n d hnd hr.pos hr.cop
  subst e1 e2
  exact ⟨⟨b, rfl, hr⟩, HGT.out.tr HGB.out⟩
/-- dec.Get. -/
theorem decGet_calls (s t a r : ByteArray) (neg pt : Bool) (hs : s.size ≤ 240) (hp : Parts s t neg) (hc : CutP t a r pt) (w : World) (hB : BitTab w) :
    Calls Tryz.prog 14 #[.string s] w fun e w' => ((DecT s a r neg pt → ∃ b, e = .returned (.tuple #[.pointer (some ⟨b, 0, none⟩), .int .i64 (r.size : Int), .nilIface]) ∧ RatAt w' (.pointer (some ⟨b, 0, none⟩)) (sgn neg (dv (a.data.toList ++ r.data.toList) / Nat.gcd (dv (a.data.toList ++ r.data.toList)) (10 ^ r.size))) (10 ^ r.size / Nat.gcd (dv (a.data.toList ++ r.data.toList)) (10 ^ r.size))) ∧ (¬ DecT s a r neg pt → e = .returned (.tuple #[.pointer none, .int .i64 0, .iface 169 (.int .i64 1)]))) ∧ Gr w w' := by
  have z1 := size_parts hp
  obtain ⟨z2, z3, z4⟩ := cutP_size hc
  have hz : t.size ≤ s.size ∧ a.size ≤ t.size ∧ r.size ≤ t.size := ⟨z1, z2, z3⟩
  have hno : ¬ DecT s a r neg pt → Calls Tryz.prog 14 #[.string s] w (fun e w' => e = .returned (.tuple #[.pointer none, .int .i64 0, .iface 169 (.int .i64 1)]) ∧ Gr w w') → Calls Tryz.prog 14 #[.string s] w fun e w' => ((DecT s a r neg pt → ∃ b, e = .returned (.tuple #[.pointer (some ⟨b, 0, none⟩), .int .i64 (r.size : Int), .nilIface]) ∧ RatAt w' (.pointer (some ⟨b, 0, none⟩)) (sgn neg (dv (a.data.toList ++ r.data.toList) / Nat.gcd (dv (a.data.toList ++ r.data.toList)) (10 ^ r.size))) (10 ^ r.size / Nat.gcd (dv (a.data.toList ++ r.data.toList)) (10 ^ r.size))) ∧ (¬ DecT s a r neg pt → e = .returned (.tuple #[.pointer none, .int .i64 0, .iface 169 (.int .i64 1)]))) ∧ Gr w w' := fun hn hc => hc.mono fun e w' h => ⟨⟨fun hd => absurd hd hn, fun _ => h.1⟩, h.2⟩
  have hyes : DecT s a r neg pt → Calls Tryz.prog 14 #[.string s] w (fun e w' => (∃ b, e = .returned (.tuple #[.pointer (some ⟨b, 0, none⟩), .int .i64 (r.size : Int), .nilIface]) ∧ RatAt w' (.pointer (some ⟨b, 0, none⟩)) (sgn neg (dv (a.data.toList ++ r.data.toList) / Nat.gcd (dv (a.data.toList ++ r.data.toList)) (10 ^ r.size))) (10 ^ r.size / Nat.gcd (dv (a.data.toList ++ r.data.toList)) (10 ^ r.size))) ∧ Gr w w') → Calls Tryz.prog 14 #[.string s] w fun e w' => ((DecT s a r neg pt → ∃ b, e = .returned (.tuple #[.pointer (some ⟨b, 0, none⟩), .int .i64 (r.size : Int), .nilIface]) ∧ RatAt w' (.pointer (some ⟨b, 0, none⟩)) (sgn neg (dv (a.data.toList ++ r.data.toList) / Nat.gcd (dv (a.data.toList ++ r.data.toList)) (10 ^ r.size))) (10 ^ r.size / Nat.gcd (dv (a.data.toList ++ r.data.toList)) (10 ^ r.size))) ∧ (¬ DecT s a r neg pt → e = .returned (.tuple #[.pointer none, .int .i64 0, .iface 169 (.int .i64 1)]))) ∧ Gr w w' := fun hy hc => hc.mono fun e w' h => ⟨⟨fun _ => h.1, fun hn => absurd hy hn⟩, h.2⟩
  by_cases hl : s.size ≤ 60
  case neg => exact hno (fun h => hl h.1) (dget_long s t a r hs hz neg pt hp hc (by omega) w)
  case pos =>
    cases pt
    · by_cases hn : NumT a
      case neg => exact hno (fun h => hn h.2.2.1) (dget_nonum_false s t a r hs hz neg hp hc hl hn w)
      case pos =>
        have hf := (z4 rfl).1
        rcases Nat.eq_zero_or_pos (dv (a.data.toList ++ r.data.toList)) with hv | hv <;> cases neg
        · exact hyes ⟨hl, (fun h => by cases h), hn, (fun h => by cases h)⟩ (dget_fzf s t a r hs hz hp hc hl hf hn hv w hB)
        · exact hno (fun h => h.2.2.2 rfl hv) (dget_fzt s t a r hs hz hp hc hl hf hn hv w hB)
        · exact hyes ⟨hl, (fun h => by cases h), hn, (fun h => by cases h)⟩ (dget_fpf s t a r hs hz hp hc hl hf hn hv w hB)
        · exact hyes ⟨hl, (fun h => by cases h), hn, fun _ => by omega⟩ (dget_fpt s t a r hs hz hp hc hl hf hn hv w hB)
    · rcases Nat.eq_zero_or_pos r.size with hr0 | hr0
      · exact hno (fun h => by have := (h.2.1 rfl).1; omega) (dget_empty s t a r hs hz neg hp hc hl hr0 w)
      · by_cases hr20 : r.size ≤ 20
        case neg => exact hno (fun h => hr20 (h.2.1 rfl).2.1) (dget_far s t a r hs hz neg hp hc hl hr0 (by omega) w)
        case pos =>
          by_cases hd : Dig r.data.toList
          case neg => exact hno (fun h => hd (h.2.1 rfl).2.2) (dget_sign s t a r hs hz neg hp hc hl hr0 hr20 hd w)
          case pos =>
            have hf : FracT r := ⟨hr0, hr20, hd⟩
            by_cases hn : NumT a
            case neg => exact hno (fun h => hn h.2.2.1) (dget_nonum_true s t a r hs hz neg hp hc hl hf hn w)
            case pos =>
              rcases Nat.eq_zero_or_pos (dv (a.data.toList ++ r.data.toList)) with hv | hv <;> cases neg
              · exact hyes ⟨hl, fun _ => hf, hn, (fun h => by cases h)⟩ (dget_tzf s t a r hs hz hp hc hl hf hn hv w hB)
              · exact hno (fun h => h.2.2.2 rfl hv) (dget_tzt s t a r hs hz hp hc hl hf hn hv w hB)
              · exact hyes ⟨hl, fun _ => hf, hn, (fun h => by cases h)⟩ (dget_tpf s t a r hs hz hp hc hl hf hn hv w hB)
              · exact hyes ⟨hl, fun _ => hf, hn, fun _ => by omega⟩ (dget_tpt s t a r hs hz hp hc hl hf hn hv w hB)
end Go.Proofs.YtcjjgdoafkdeaaaGreatDoor
