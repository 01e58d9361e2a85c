/- Layer 3: integers in memory; New, Of, Abs, Sign, Text, Neg by contract; Layer 3: integers: Text, Neg, Add, Sub, Mul, Cmp, Small by contract; Layer 3: integers: Add, Sub, Cmp, Small by contract. -/
import Derived.Test.YtcjjgdoafkdeaaaGreatDoorGj
namespace Go.Proofs.YtcjjgdoafkdeaaaGreatDoor
section
open Go.RowKit Go.Extern.Stop Go.Stop Go.Extern Go.Sort
set_option linter.unusedVariables false
set_option linter.unusedSimpArgs false

def sgn (neg : Bool) (m : Nat) : Int := if neg then -(m : Int) else (m : Int)
/-- An integer behind a pointer. -/
def IntAt (w : World) (v : Value) (z : Int) : Prop :=
  (v = .pointer none ∧ z = 0) ∨ ∃ b neg p m, v = .pointer (some ⟨b, 0, none⟩) ∧ w.cell? ⟨b, 0, none⟩ = some (.bool neg) ∧ w.cell? ⟨b, 1, none⟩ = some (.pointer p) ∧ NatAt w (.pointer p) m ∧ z = sgn neg m ∧ (neg = true → m ≠ 0)
theorem IntAt.gr {w w' : World} (hg : Gr w w') {v : Value} {z : Int} (h : IntAt w v z) : IntAt w' v z := by
  rcases h with h | ⟨b, neg, p, m, hv, h0, h1, hn, hz, hm⟩
  · exact .inl h
  · exact .inr ⟨b, neg, p, m, hv, (hg.cell (World.block_lt_of_cell? w _ h0)).trans h0, (hg.cell (World.block_lt_of_cell? w _ h1)).trans h1, hn.gr hg, hz, hm⟩
theorem NatAt.ptr {w : World} {v : Value} {n : Nat} (h : NatAt w v n) : ∃ p, v = .pointer p := by
  rcases h with ⟨rfl, _⟩ | ⟨b, s, l, rfl, _⟩ <;> exact ⟨_, rfl⟩
theorem sgn_sign (neg : Bool) (m : Nat) (h : neg = true → m ≠ 0) : (sgn neg m).sign = if m = 0 then 0 else if neg then -1 else 1 := by
  cases neg
  · by_cases h0 : m = 0
    · subst h0; rfl
    · simp only [sgn, if_neg h0]; exact Int.sign_eq_one_of_pos (by simp; omega)
  · have h0 := h rfl
    simp only [sgn, if_neg h0]; exact Int.sign_eq_neg_one_of_neg (by simp; omega)
theorem sgn_abs (neg : Bool) (m : Nat) : (sgn neg m).natAbs = m := by cases neg <;> simp [sgn]

set_option maxRecDepth 100000 in
set_option maxHeartbeats 1000000 in
/-- num.New. -/
theorem newInt_calls (neg : Bool) (v : Value) (m : Nat) (w : World) (h : NatAt w v m) :
    Calls Tryz.prog 66 #[.bool neg, v] w fun e w' => (∃ b, e = .returned (.pointer (some ⟨b, 0, none⟩)) ∧ IntAt w' (.pointer (some ⟨b, 0, none⟩)) (sgn neg m)) ∧ Gr w w' := by
  obtain ⟨p, rfl⟩ := h.ptr
  have HZ := Lib.hid (zero_calls _ m w h)
  have HN := Lib.hid h
  clear h
  have hfin : ∀ (neg' : Bool), sgn neg m = sgn neg' m → (neg' = true → m ≠ 0) → (∃ b, Ending.returned (Value.pointer (some ⟨w.heap.size, 0, none⟩)) = .returned (.pointer (some ⟨b, 0, none⟩)) ∧ IntAt (w.alloc (.cells #[.bool neg', .pointer p] 168)) (.pointer (some ⟨b, 0, none⟩)) (sgn neg m)) ∧ Gr w (w.alloc (.cells #[.bool neg', .pointer p] 168)) := fun neg' e hm => by
    have hg : Gr w (w.alloc (.cells #[.bool neg', .pointer p] 168)) := (Gr.rf w).alloc (Nat.le_refl _) _
    refine ⟨⟨_, rfl, .inr ⟨_, neg', p, m, rfl, ?_, ?_, HN.out.gr hg, e, hm⟩⟩, hg⟩
    · rw [World.cell?_alloc_at _ _ _ _ rfl]; rfl
    · rw [World.cell?_alloc_at _ _ _ _ rfl]; rfl
  have HF := Lib.hid hfin
  clear hfin
  cases neg with
  | false =>
    go_enter Tryz.func66, Tryz.ntmps66
    go_wp2
    go_ret
    exact HF.out false rfl (by simp)
  | true =>
    by_cases h0 : m = 0
    · rw [show (m == 0) = true from beq_iff_eq.2 h0] at HZ
      have H0 := Lib.hid h0
      clear h0
      go_enter Tryz.func66, Tryz.ntmps66
      go_wp2_with (go_at_call 78; (with_reducible refine HZ.out.mono ?_); rintro ev w1 ⟨rfl, rfl⟩)
      go_ret
      exact HF.out false (by rw [H0.out]; rfl) (by simp)
    · rw [show (m == 0) = false from beq_eq_false_iff_ne.2 h0] at HZ
      have H0 := Lib.hid h0
      clear h0
      go_enter Tryz.func66, Tryz.ntmps66
      go_wp2_with (go_at_call 78; (with_reducible refine HZ.out.mono ?_); rintro ev w1 ⟨rfl, rfl⟩)
      go_ret
      exact HF.out true rfl (fun _ => H0.out)

set_option maxRecDepth 100000 in
/-- num.Of. -/
theorem of_int_calls (z : Int) (h0 : -9223372036854775808 ≤ z) (h1 : z ≤ 9223372036854775807) (w : World) :
    Calls Tryz.prog 56 #[.int .i64 z] w fun e w' => (∃ b, e = .returned (.pointer (some ⟨b, 0, none⟩)) ∧ IntAt w' (.pointer (some ⟨b, 0, none⟩)) z) ∧ Gr w w' := by
  by_cases hz : z < 0
  · have b1 : decide (z < 0) = true := decide_eq_true hz
    have hw : IntKind.u64.wrap (-IntKind.u64.wrap z) = ((z.natAbs : Nat) : Int) := by rw [IntKind.wrap_u64, IntKind.wrap_u64]; omega
    have hs : sgn true z.natAbs = z := by unfold sgn; simp; omega
    have hB : z.natAbs < B := by rw [B_eq]; omega
    generalize z.natAbs = m at hw hs hB
    have HS := Lib.hid hs
    have HO := Lib.hid (of_nat_calls m hB w)
    clear hs hB
    go_enter Tryz.func56, Tryz.ntmps56
    go_wp2_with (go_at_call 54; (with_reducible refine HO.out.mono ?_); rintro ev w1 ⟨⟨r1, rfl, hr1⟩, hg1⟩; have HR1 := Lib.hid hr1; clear hr1)
    have HN := Lib.hid (newInt_calls true r1 m w1 HR1.out)
    go_wp2_with (go_at_call 66; (with_reducible refine HN.out.mono ?_); rintro ev w2 ⟨⟨b2, rfl, hb2⟩, hg2⟩; have HB2 := Lib.hid hb2; clear hb2)
    go_ret
    exact ⟨⟨_, rfl, by rw [← HS.out]; exact HB2.out⟩, hg1.tr hg2⟩
  · have b1 : decide (z < 0) = false := decide_eq_false hz
    obtain ⟨m, rfl⟩ : ∃ m : Nat, z = m := ⟨z.toNat, by omega⟩
    have hB : m < B := by rw [B_eq]; omega
    have hw := wrapN m hB
    have HO := Lib.hid (of_nat_calls m hB w)
    clear hB
    go_enter Tryz.func56, Tryz.ntmps56
    go_wp2_with (go_at_call 54; (with_reducible refine HO.out.mono ?_); rintro ev w1 ⟨⟨r1, rfl, hr1⟩, hg1⟩; have HR1 := Lib.hid hr1; clear hr1)
    have HN := Lib.hid (newInt_calls false r1 m w1 HR1.out)
    go_wp2_with (go_at_call 66; (with_reducible refine HN.out.mono ?_); rintro ev w2 ⟨⟨b2, rfl, hb2⟩, hg2⟩; have HB2 := Lib.hid hb2; clear hb2)
    go_ret
    exact ⟨⟨_, rfl, HB2.out⟩, hg1.tr hg2⟩

set_option maxRecDepth 100000 in
/-- (*Int).Abs. -/
theorem abs_calls (v : Value) (z : Int) (w : World) (h : IntAt w v z) :
    Calls Tryz.prog 97 #[v] w fun e w' => (∃ r, e = .returned r ∧ NatAt w' r z.natAbs) ∧ Gr w w' := by
  rcases h with ⟨rfl, rfl⟩ | ⟨b, neg, p, m, rfl, h0, h1, hn, rfl, hm⟩
  · go_enter Tryz.func97, Tryz.ntmps97
    go_wp2_with (go_at_call 54; (with_reducible refine (of0_calls _).mono ?_); rintro ev w1 ⟨⟨r1, rfl, hr1⟩, hg1⟩; have HR1 := Lib.hid hr1; clear hr1)
    go_ret
    exact ⟨⟨_, rfl, HR1.out.at_⟩, hg1⟩
  · rw [sgn_abs]
    have HN := Lib.hid hn
    clear h0 hm
    cases p with
    | none =>
      have hm0 : m = 0 := by
        rcases hn with ⟨_, h⟩ | ⟨_, _, _, h, _⟩
        · exact h
        · cases h
      have H0 := Lib.hid hm0
      clear hn hm0
      go_enter Tryz.func97, Tryz.ntmps97
      go_wp2_with (go_at_call 54; (with_reducible refine (of0_calls _).mono ?_); rintro ev w1 ⟨⟨r1, rfl, hr1⟩, hg1⟩; have HR1 := Lib.hid hr1; clear hr1)
      go_ret
      exact ⟨⟨_, rfl, by rw [H0.out]; exact HR1.out.at_⟩, hg1⟩
    | some a =>
      clear hn
      go_enter Tryz.func97, Tryz.ntmps97
      go_wp2
      go_ret
      exact ⟨⟨_, rfl, HN.out⟩, Gr.rf _⟩

set_option maxRecDepth 100000 in
/-- (*Int).Sign. -/
theorem sign_calls (v : Value) (z : Int) (w : World) (h : IntAt w v z) :
    Calls Tryz.prog 89 #[v] w fun e w' => e = .returned (.int .i64 z.sign) ∧ Gr w w' := by
  have HA := Lib.hid (abs_calls v z w h)
  rcases h with ⟨rfl, rfl⟩ | ⟨b, neg, p, m, rfl, h0, h1, hn, rfl, hm⟩
  · rw [show (0 : Int).sign = 0 from rfl]
    rw [show (0 : Int).natAbs = 0 from rfl] at HA
    go_enter Tryz.func89, Tryz.ntmps89
    go_wp2_with (go_at_call 97; (with_reducible refine HA.out.mono ?_); rintro ev w1 ⟨⟨r1, rfl, hr1⟩, hg1⟩; have HR1 := Lib.hid hr1; clear hr1)
    have HZ := zero_calls r1 0 w1 HR1.out
    rw [show ((0 : Nat) == 0) = true from rfl] at HZ
    have HZ := Lib.hid HZ
    go_wp2_with (go_at_call 78; (with_reducible refine HZ.out.mono ?_); rintro ev w2 ⟨rfl, rfl⟩)
    go_ret
    exact ⟨rfl, hg1⟩
  · rw [sgn_sign neg m hm]
    rw [sgn_abs] at HA
    have HM := Lib.hid hm
    have H0 := Lib.hid h0
    clear hm hn h1 h0
    by_cases hm0 : m = 0
    · rw [if_pos hm0]
      have E0 := Lib.hid hm0
      clear hm0
      go_enter Tryz.func89, Tryz.ntmps89
      go_wp2_with (go_at_call 97; (with_reducible refine HA.out.mono ?_); rintro ev w1 ⟨⟨r1, rfl, hr1⟩, hg1⟩; have HR1 := Lib.hid hr1; clear hr1)
      have HZ := zero_calls r1 m w1 HR1.out
      rw [show (m == 0) = true from beq_iff_eq.2 E0.out] at HZ
      have HZ := Lib.hid HZ
      go_wp2_with (go_at_call 78; (with_reducible refine HZ.out.mono ?_); rintro ev w2 ⟨rfl, rfl⟩)
      go_ret
      exact ⟨rfl, hg1⟩
    · rw [if_neg hm0]
      have E0 := Lib.hid hm0
      clear hm0
      cases neg
      all_goals
        go_enter Tryz.func89, Tryz.ntmps89
        go_wp2_with (go_at_call 97; (with_reducible refine HA.out.mono ?_); rintro ev w1 ⟨⟨r1, rfl, hr1⟩, hg1⟩; have HR1 := Lib.hid hr1; clear hr1)
        have HZ := zero_calls r1 m w1 HR1.out
        rw [show (m == 0) = false from beq_eq_false_iff_ne.2 E0.out] at HZ
        have HZ := Lib.hid HZ
        have hc := (hg1.cell (World.block_lt_of_cell? w _ H0.out)).trans H0.out
        go_wp2_with (go_at_call 78; (with_reducible refine HZ.out.mono ?_); rintro ev w2 ⟨rfl, rfl⟩)
        go_ret
        exact ⟨rfl, hg1⟩
end
section
open Go.RowKit Go.Extern.Stop Go.Stop Go.Extern Go.Sort
set_option linter.unusedVariables false
set_option linter.unusedSimpArgs false

theorem ba_ext {a b : ByteArray} (h : a.data.toList = b.data.toList) : a = b := by
  cases a; cases b; congr; exact Array.toList_inj.1 h
theorem sign_neg_iff (z : Int) : z.sign < 0 ↔ z < 0 := by
  rcases Int.lt_trichotomy z 0 with h | h | h
  · rw [Int.sign_eq_neg_one_of_neg h]; omega
  · subst h; simp
  · rw [Int.sign_eq_one_of_pos h]; omega
theorem sign_bd (z : Int) : -1 ≤ z.sign ∧ z.sign ≤ 1 := by
  rcases Int.lt_trichotomy z 0 with h | h | h
  · rw [Int.sign_eq_neg_one_of_neg h]; omega
  · subst h; simp
  · rw [Int.sign_eq_one_of_pos h]; omega
/-- A pointer to an integer that is there. -/
def IntP (w : World) (v : Value) (z : Int) : Prop := ∃ b, v = .pointer (some ⟨b, 0, none⟩) ∧ IntAt w v z
theorem IntP.gr {w w' : World} (hg : Gr w w') {v : Value} {z : Int} (h : IntP w v z) : IntP w' v z := by
  obtain ⟨b, e, hi⟩ := h
  exact ⟨b, e, hi.gr hg⟩
theorem newP_calls (neg : Bool) (v : Value) (m : Nat) (w : World) (h : NatAt w v m) :
    Calls Tryz.prog 66 #[.bool neg, v] w fun e w' => (∃ r, e = .returned r ∧ IntP w' r (sgn neg m)) ∧ Gr w w' := by
  refine (newInt_calls neg v m w h).mono ?_
  rintro e w' ⟨⟨b, rfl, hi⟩, hg⟩
  exact ⟨⟨_, rfl, b, rfl, hi⟩, hg⟩
theorem ofP_calls (z : Int) (h0 : -9223372036854775808 ≤ z) (h1 : z ≤ 9223372036854775807) (w : World) :
    Calls Tryz.prog 56 #[.int .i64 z] w fun e w' => (∃ r, e = .returned r ∧ IntP w' r z) ∧ Gr w w' := by
  refine (of_int_calls z h0 h1 w).mono ?_
  rintro e w' ⟨⟨b, rfl, hi⟩, hg⟩
  exact ⟨⟨_, rfl, b, rfl, hi⟩, hg⟩

set_option maxRecDepth 100000 in
set_option maxHeartbeats 1000000 in
/-- (*Int).Text. -/
theorem text_int (v : Value) (z : Int) (w : World) (h : IntAt w v z) (m : Nat) (hb : z.natAbs < B ^ m) (hm0 : 1 ≤ m) (hm : m ≤ 1000) (hT : PowTab w) :
    Calls Tryz.prog 43 #[v] w fun e w' => e = .returned (.string ⟨(Lib.itoa z).toArray⟩) ∧ Gr w w' := by
  have HS := Lib.hid (sign_calls v z w h)
  have HI := Lib.hid h
  have HB := Lib.hid hb
  have HTT := Lib.hid hT
  have HZ := Lib.hid (sign_neg_iff z)
  by_cases hz : z < 0
  · have b1 : decide (z.sign < 0) = true := decide_eq_true (HZ.out.2 hz)
    have hit : Lib.itoa z = 45 :: Lib.decDigits z.natAbs := by unfold Lib.itoa; rw [if_pos hz]
    rw [hit]
    generalize z.sign = s at HS b1 HZ
    clear h hb hT hit HZ hz
    go_enter Tryz.func43, Tryz.ntmps43
    go_wp2_with (go_at_call 89; (with_reducible refine HS.out.mono ?_); rintro ev w1 ⟨rfl, hg1⟩)
    have HA := Lib.hid (abs_calls v z w1 (HI.out.gr hg1))
    go_wp2_with (go_at_call 97; (with_reducible refine HA.out.mono ?_); rintro ev w2 ⟨⟨r2, rfl, hr2⟩, hg2⟩; have HR2 := Lib.hid hr2; clear hr2)
    obtain ⟨S, hS⟩ : ∃ S : ByteArray, S = ⟨(Lib.decDigits z.natAbs).toArray⟩ := ⟨_, rfl⟩
    have hsz : S.size ≤ 20 * m := by
      rw [hS, Lib.size_eq]
      exact nd_le (20 * m) _ (by omega) (Nat.lt_of_lt_of_le HB.out (B_le_ten m))
    have hct : (⟨#[45]⟩ : ByteArray) ++ S = ⟨(45 :: Lib.decDigits z.natAbs).toArray⟩ := by
      apply ba_ext
      rw [ByteArray.data_append, Array.toList_append, hS]
      rfl
    have ht := text_nat r2 z.natAbs w2 HR2.out m HB.out hm0 hm (HTT.out.gr (hg1.tr hg2))
    rw [← hS] at ht
    have HX := Lib.hid ht
    have HCT := Lib.hid hct
    clear hS ht hct
    go_wp2_with (go_at_call 61; (with_reducible refine HX.out.mono ?_); rintro ev w3 ⟨rfl, hg3⟩)
    go_ret
    exact ⟨ret_str HCT.out, (hg1.tr hg2).tr hg3⟩
  · have b1 : decide (z.sign < 0) = false := decide_eq_false (fun h => hz (HZ.out.1 h))
    have hit : Lib.itoa z = Lib.decDigits z.natAbs := by unfold Lib.itoa; rw [if_neg hz]; congr 1; omega
    rw [hit]
    generalize z.sign = s at HS b1 HZ
    clear h hb hT hit HZ hz
    go_enter Tryz.func43, Tryz.ntmps43
    go_wp2_with (go_at_call 89; (with_reducible refine HS.out.mono ?_); rintro ev w1 ⟨rfl, hg1⟩)
    have HA := Lib.hid (abs_calls v z w1 (HI.out.gr hg1))
    go_wp2_with (go_at_call 97; (with_reducible refine HA.out.mono ?_); rintro ev w2 ⟨⟨r2, rfl, hr2⟩, hg2⟩; have HR2 := Lib.hid hr2; clear hr2)
    have HX := Lib.hid (text_nat r2 z.natAbs w2 HR2.out m HB.out hm0 hm (HTT.out.gr (hg1.tr hg2)))
    go_wp2_with (go_at_call 61; (with_reducible refine HX.out.mono ?_); rintro ev w3 ⟨rfl, hg3⟩)
    go_ret
    exact ⟨rfl, (hg1.tr hg2).tr hg3⟩

set_option maxRecDepth 100000 in
/-- (*Int).Neg. -/
theorem neg_calls (v : Value) (z : Int) (w : World) (h : IntAt w v z) :
    Calls Tryz.prog 88 #[v] w fun e w' => (∃ r, e = .returned r ∧ IntP w' r (-z)) ∧ Gr w w' := by
  have HS := Lib.hid (sign_calls v z w h)
  have HI := Lib.hid h
  obtain ⟨bb, hbb⟩ : ∃ bb : Bool, decide (0 ≤ z.sign) = bb := ⟨_, rfl⟩
  have hr : sgn bb z.natAbs = -z := by
    have := sign_neg_iff z
    cases bb
    · have h1 := of_decide_eq_false hbb; simp [sgn]; omega
    · have h1 := of_decide_eq_true hbb; simp [sgn]; omega
  have HR := Lib.hid hr
  generalize z.sign = s at HS hbb
  clear h hr
  go_enter Tryz.func88, Tryz.ntmps88
  go_wp2_with (go_at_call 89; (with_reducible refine HS.out.mono ?_); rintro ev w1 ⟨rfl, hg1⟩)
  have HA := Lib.hid (abs_calls v z w1 (HI.out.gr hg1))
  go_wp2_with (go_at_call 97; (with_reducible refine HA.out.mono ?_); rintro ev w2 ⟨⟨r2, rfl, hr2⟩, hg2⟩; have HR2 := Lib.hid hr2; clear hr2)
  have HN := Lib.hid (newP_calls bb r2 _ w2 HR2.out)
  go_wp2_with (go_at_call 66; (with_reducible refine HN.out.mono ?_); rintro ev w3 ⟨⟨r3, rfl, hr3⟩, hg3⟩; have HR3 := Lib.hid hr3; clear hr3)
  go_ret
  exact ⟨⟨_, rfl, by rw [← HR.out]; exact HR3.out⟩, (hg1.tr hg2).tr hg3⟩

set_option maxRecDepth 100000 in
set_option maxHeartbeats 1000000 in
/-- (*Int).Mul. -/
theorem mul_int (x y : Value) (a b : Int) (w : World) (hx : IntAt w x a) (hy : IntAt w y b) (k : Nat) (ha : a.natAbs < B ^ k) (hb : b.natAbs < B ^ k) (hk : k ≤ 1000000) :
    Calls Tryz.prog 72 #[x, y] w fun e w' => (∃ r, e = .returned r ∧ IntP w' r (a * b)) ∧ Gr w w' := by
  have HS := Lib.hid (sign_calls x a w hx)
  have HX := Lib.hid hx
  have HY := Lib.hid hy
  have HB := Lib.hid (And.intro ha hb)
  obtain ⟨bb, hbb⟩ : ∃ bb : Bool, decide ((a * b).sign < 0) = bb := ⟨_, rfl⟩
  have hr : sgn bb (a.natAbs * b.natAbs) = a * b := by
    have := sign_neg_iff (a * b)
    rw [← Int.natAbs_mul]
    cases bb
    · have h1 := of_decide_eq_false hbb; simp [sgn]; omega
    · have h1 := of_decide_eq_true hbb; simp [sgn]; omega
  have HR := Lib.hid hr
  have hm : a.sign * b.sign = (a * b).sign := (Int.sign_mul a b).symm
  have hbd := sign_bd (a * b)
  obtain ⟨hb1, hb2⟩ := hbd
  have HSY : ∀ w', Gr w w' → Calls Tryz.prog 89 #[y] w' fun e w2 => e = .returned (.int .i64 b.sign) ∧ Gr w' w2 := fun w' hg => sign_calls y b w' (hy.gr hg)
  generalize (a * b).sign = s at hm hbb hb1 hb2
  generalize a.sign = sa at HS hm
  generalize b.sign = sb at HSY hm
  have HSY := Lib.hid HSY
  clear hx hy ha hb hr
  go_enter Tryz.func72, Tryz.ntmps72
  go_wp2_with (go_at_call 89; (with_reducible refine HS.out.mono ?_); rintro ev w1 ⟨rfl, hg1⟩)
  go_wp2_with (go_at_call 89; (with_reducible refine (HSY.out _ hg1).mono ?_); rintro ev w2 ⟨rfl, hg2⟩)
  have HA := Lib.hid (abs_calls x a w2 (HX.out.gr (hg1.tr hg2)))
  go_wp2_with (go_at_call 97; (with_reducible refine HA.out.mono ?_); rintro ev w3 ⟨⟨r3, rfl, hr3⟩, hg3⟩; have HR3 := Lib.hid hr3; clear hr3)
  have HA2 := Lib.hid (abs_calls y b w3 (HY.out.gr ((hg1.tr hg2).tr hg3)))
  go_wp2_with (go_at_call 97; (with_reducible refine HA2.out.mono ?_); rintro ev w4 ⟨⟨r4, rfl, hr4⟩, hg4⟩; have HR4 := Lib.hid hr4; clear hr4)
  have HM := Lib.hid (mul_calls r3 r4 _ _ w4 (HR3.out.gr hg4) HR4.out k HB.out.1 HB.out.2 hk)
  go_wp2_with (go_at_call 58; (with_reducible refine HM.out.mono ?_); rintro ev w5 ⟨⟨r5, rfl, hr5⟩, hg5⟩; have HR5 := Lib.hid hr5; clear hr5)
  have HN := Lib.hid (newP_calls bb r5 _ w5 HR5.out.at_)
  go_wp2_with (go_at_call 66; (with_reducible refine HN.out.mono ?_); rintro ev w6 ⟨⟨r6, rfl, hr6⟩, hg6⟩; have HR6 := Lib.hid hr6; clear hr6)
  go_ret
  exact ⟨⟨_, rfl, by rw [← HR.out]; exact HR6.out⟩, ((((hg1.tr hg2).tr hg3).tr hg4).tr hg5).tr hg6⟩
end
section
open Go.RowKit Go.Extern.Stop Go.Stop Go.Extern Go.Sort
set_option linter.unusedVariables false
set_option linter.unusedSimpArgs false

set_option maxRecDepth 100000 in
set_option maxHeartbeats 2000000 in
/-- (*Int).Add. -/
theorem add_int (x y : Value) (a b : Int) (w : World) (hx : IntAt w x a) (hy : IntAt w y b) (k : Nat) (ha : a.natAbs < B ^ k) (hb : b.natAbs < B ^ k) (hk : k ≤ 1000000) :
    Calls Tryz.prog 146 #[x, y] w fun e w' => (∃ r, e = .returned r ∧ IntP w' r (a + b)) ∧ Gr w w' := by
  have HS := Lib.hid (sign_calls x a w hx)
  have HB := Lib.hid (And.intro ha hb)
  have HX := Lib.hid (fun w' (hg : Gr w w') => abs_calls x a w' (hx.gr hg))
  have HY := Lib.hid (fun w' (hg : Gr w w') => abs_calls y b w' (hy.gr hg))
  have hsa := sign_neg_iff a
  have hsb := sign_neg_iff b
  have HSY : ∀ w', Gr w w' → Calls Tryz.prog 89 #[y] w' fun e w2 => e = .returned (.int .i64 b.sign) ∧ Gr w' w2 := fun w' hg => sign_calls y b w' (hy.gr hg)
  generalize a.sign = sa at HS hsa
  generalize b.sign = sb at HSY hsb
  obtain ⟨ba, hba⟩ : ∃ ba : Bool, decide (sa < 0) = ba := ⟨_, rfl⟩
  obtain ⟨bb, hbb⟩ : ∃ bb : Bool, decide (sb < 0) = bb := ⟨_, rfl⟩
  have HSY := Lib.hid HSY
  clear hx hy ha hb
  by_cases hs : ba = bb
  · have hbe : (ba == bb) = true := by rw [hs]; exact beq_self_eq_true bb
    have hr : sgn ba (a.natAbs + b.natAbs) = a + b := by
      cases bb <;> subst hs
      · have h1 := of_decide_eq_false hba; have h2 := of_decide_eq_false hbb; simp [sgn]; omega
      · have h1 := of_decide_eq_true hba; have h2 := of_decide_eq_true hbb; simp [sgn]; omega
    have HR := Lib.hid hr
    clear hr hs hsa hsb
    go_enter Tryz.func146, Tryz.ntmps146
    go_wp2_with (go_at_call 89; (with_reducible refine HS.out.mono ?_); rintro ev w1 ⟨rfl, hg1⟩)
    go_wp2_with (go_at_call 89; (with_reducible refine (HSY.out _ hg1).mono ?_); rintro ev w2 ⟨rfl, hg2⟩)
    have HA := Lib.hid (HX.out w2 (hg1.tr hg2))
    go_wp2_with (go_at_call 97; (with_reducible refine HA.out.mono ?_); rintro ev w3 ⟨⟨r3, rfl, hr3⟩, hg3⟩; have HR3 := Lib.hid hr3; clear hr3)
    have HA2 := Lib.hid (HY.out w3 ((hg1.tr hg2).tr hg3))
    go_wp2_with (go_at_call 97; (with_reducible refine HA2.out.mono ?_); rintro ev w4 ⟨⟨r4, rfl, hr4⟩, hg4⟩; have HR4 := Lib.hid hr4; clear hr4)
    have HM := Lib.hid (add_calls r3 r4 _ _ w4 (HR3.out.gr hg4) HR4.out k HB.out.1 HB.out.2 hk)
    go_wp2_with (go_at_call 59; (with_reducible refine HM.out.mono ?_); rintro ev w5 ⟨⟨r5, rfl, hr5⟩, hg5⟩; have HR5 := Lib.hid hr5; clear hr5)
    have HN := Lib.hid (newP_calls ba r5 _ w5 HR5.out.at_)
    go_wp2_with (go_at_call 66; (with_reducible refine HN.out.mono ?_); rintro ev w6 ⟨⟨r6, rfl, hr6⟩, hg6⟩; have HR6 := Lib.hid hr6; clear hr6)
    go_ret
    exact ⟨⟨_, rfl, by rw [← HR.out]; exact HR6.out⟩, ((((hg1.tr hg2).tr hg3).tr hg4).tr hg5).tr hg6⟩
  · have hbe : (ba == bb) = false := beq_eq_false_iff_ne.2 hs
    have HBE := Lib.hid hs
    have HI := Lib.hid (And.intro hsa hsb)
    have HBA := Lib.hid (And.intro hba hbb)
    by_cases hlt : a.natAbs < b.natAbs
    · have hcc : decide (cmpN a.natAbs b.natAbs < 0) = true := decide_eq_true (cmpN_neg.2 hlt)
      have hr : sgn bb (b.natAbs - a.natAbs) = a + b := by
        have h0 := HBE.out
        cases bb
        · have h1 : ba = true := by cases ba; exact absurd rfl h0; rfl
          rw [h1] at hba
          have h1 := of_decide_eq_true hba; have h2 := of_decide_eq_false hbb; simp [sgn]; omega
        · have h1 : ba = false := by cases ba; rfl; exact absurd rfl h0
          rw [h1] at hba
          have h1 := of_decide_eq_false hba; have h2 := of_decide_eq_true hbb; simp [sgn]; omega
      have HR := Lib.hid hr
      have HLT := Lib.hid hlt
      clear hr hs hlt hsa hsb
      have HCN := Lib.hid (fun (r3 r4 : Value) (w4 : World) h3 h4 => cmp_calls r3 r4 a.natAbs b.natAbs w4 h3 h4 k HB.out.1 HB.out.2 hk)
      generalize cmpN a.natAbs b.natAbs = cc at HCN hcc
      go_enter Tryz.func146, Tryz.ntmps146
      go_wp2_with (go_at_call 89; (with_reducible refine HS.out.mono ?_); rintro ev w1 ⟨rfl, hg1⟩)
      go_wp2_with (go_at_call 89; (with_reducible refine (HSY.out _ hg1).mono ?_); rintro ev w2 ⟨rfl, hg2⟩)
      have hg12 := hg1.tr hg2
      have HA := Lib.hid (HX.out w2 hg12)
      go_wp2_with (go_at_call 97; (with_reducible refine HA.out.mono ?_); rintro ev w3 ⟨⟨r3, rfl, hr3⟩, hg3⟩; have HR3 := Lib.hid hr3; clear hr3)
      have hg13 := hg12.tr hg3
      have HA2 := Lib.hid (HY.out w3 hg13)
      go_wp2_with (go_at_call 97; (with_reducible refine HA2.out.mono ?_); rintro ev w4 ⟨⟨r4, rfl, hr4⟩, hg4⟩; have HR4 := Lib.hid hr4; clear hr4)
      have hg14 := hg13.tr hg4
      have HC := Lib.hid (HCN.out r3 r4 w4 (HR3.out.gr hg4) HR4.out)
      go_wp2_with (go_at_call 60; (with_reducible refine HC.out.mono ?_); rintro ev w5 ⟨rfl, hg5⟩)
      have hg15 := hg14.tr hg5
      have HA3 := Lib.hid (HY.out w5 hg15)
      go_wp2_with (go_at_call 97; (with_reducible refine HA3.out.mono ?_); rintro ev w6 ⟨⟨r6, rfl, hr6⟩, hg6⟩; have HR6 := Lib.hid hr6; clear hr6)
      have hg16 := hg15.tr hg6
      have HA4 := Lib.hid (HX.out w6 hg16)
      go_wp2_with (go_at_call 97; (with_reducible refine HA4.out.mono ?_); rintro ev w7 ⟨⟨r7, rfl, hr7⟩, hg7⟩; have HR7 := Lib.hid hr7; clear hr7)
      have hg17 := hg16.tr hg7
      have HSU := Lib.hid (sub_calls r6 r7 _ _ w7 (HR6.out.gr hg7) HR7.out k HB.out.2 HB.out.1 hk)
      go_wp2_with (go_at_call 148; (with_reducible refine HSU.out.mono ?_); rintro ev w8 ⟨⟨_, hsu⟩, hg8⟩; obtain ⟨r8, rfl, hr8⟩ := hsu (Nat.le_of_lt HLT.out); have HR8 := Lib.hid hr8; clear hr8 hsu)
      have HN := Lib.hid (newP_calls bb r8 _ w8 HR8.out.at_)
      go_wp2_with (go_at_call 66; (with_reducible refine HN.out.mono ?_); rintro ev w9 ⟨⟨r9, rfl, hr9⟩, hg9⟩; have HR9 := Lib.hid hr9; clear hr9)
      go_ret
      exact ⟨⟨_, rfl, by rw [← HR.out]; exact HR9.out⟩, (hg17.tr hg8).tr hg9⟩
    · have hcc : decide (cmpN a.natAbs b.natAbs < 0) = false := decide_eq_false (fun h => hlt (cmpN_neg.1 h))
      have hr : sgn ba (a.natAbs - b.natAbs) = a + b := by
        have h0 := HBE.out
        cases bb
        · have h1 : ba = true := by cases ba; exact absurd rfl h0; rfl
          subst h1
          have h1 := of_decide_eq_true hba; have h2 := of_decide_eq_false hbb; simp [sgn]; omega
        · have h1 : ba = false := by cases ba; rfl; exact absurd rfl h0
          subst h1
          have h1 := of_decide_eq_false hba; have h2 := of_decide_eq_true hbb; simp [sgn]; omega
      have HR := Lib.hid hr
      have HLT := Lib.hid hlt
      clear hr hs hlt hsa hsb
      have HCN := Lib.hid (fun (r3 r4 : Value) (w4 : World) h3 h4 => cmp_calls r3 r4 a.natAbs b.natAbs w4 h3 h4 k HB.out.1 HB.out.2 hk)
      generalize cmpN a.natAbs b.natAbs = cc at HCN hcc
      go_enter Tryz.func146, Tryz.ntmps146
      go_wp2_with (go_at_call 89; (with_reducible refine HS.out.mono ?_); rintro ev w1 ⟨rfl, hg1⟩)
      go_wp2_with (go_at_call 89; (with_reducible refine (HSY.out _ hg1).mono ?_); rintro ev w2 ⟨rfl, hg2⟩)
      have hg12 := hg1.tr hg2
      have HA := Lib.hid (HX.out w2 hg12)
      go_wp2_with (go_at_call 97; (with_reducible refine HA.out.mono ?_); rintro ev w3 ⟨⟨r3, rfl, hr3⟩, hg3⟩; have HR3 := Lib.hid hr3; clear hr3)
      have hg13 := hg12.tr hg3
      have HA2 := Lib.hid (HY.out w3 hg13)
      go_wp2_with (go_at_call 97; (with_reducible refine HA2.out.mono ?_); rintro ev w4 ⟨⟨r4, rfl, hr4⟩, hg4⟩; have HR4 := Lib.hid hr4; clear hr4)
      have hg14 := hg13.tr hg4
      have HC := Lib.hid (HCN.out r3 r4 w4 (HR3.out.gr hg4) HR4.out)
      go_wp2_with (go_at_call 60; (with_reducible refine HC.out.mono ?_); rintro ev w5 ⟨rfl, hg5⟩)
      have hg15 := hg14.tr hg5
      have HA3 := Lib.hid (HX.out w5 hg15)
      go_wp2_with (go_at_call 97; (with_reducible refine HA3.out.mono ?_); rintro ev w6 ⟨⟨r6, rfl, hr6⟩, hg6⟩; have HR6 := Lib.hid hr6; clear hr6)
      have hg16 := hg15.tr hg6
      have HA4 := Lib.hid (HY.out w6 hg16)
      go_wp2_with (go_at_call 97; (with_reducible refine HA4.out.mono ?_); rintro ev w7 ⟨⟨r7, rfl, hr7⟩, hg7⟩; have HR7 := Lib.hid hr7; clear hr7)
      have hg17 := hg16.tr hg7
      have HSU := Lib.hid (sub_calls r6 r7 _ _ w7 (HR6.out.gr hg7) HR7.out k HB.out.1 HB.out.2 hk)
      go_wp2_with (go_at_call 148; (with_reducible refine HSU.out.mono ?_); rintro ev w8 ⟨⟨_, hsu⟩, hg8⟩; obtain ⟨r8, rfl, hr8⟩ := hsu (by have := HLT.out; omega); have HR8 := Lib.hid hr8; clear hr8 hsu)
      have HN := Lib.hid (newP_calls ba r8 _ w8 HR8.out.at_)
      go_wp2_with (go_at_call 66; (with_reducible refine HN.out.mono ?_); rintro ev w9 ⟨⟨r9, rfl, hr9⟩, hg9⟩; have HR9 := Lib.hid hr9; clear hr9)
      go_ret
      exact ⟨⟨_, rfl, by rw [← HR.out]; exact HR9.out⟩, (hg17.tr hg8).tr hg9⟩

theorem IntP.at_ {w : World} {v : Value} {z : Int} (h : IntP w v z) : IntAt w v z := h.choose_spec.2

set_option maxRecDepth 100000 in
/-- (*Int).Sub. -/
theorem sub_int (x y : Value) (a b : Int) (w : World) (hx : IntAt w x a) (hy : IntAt w y b) (k : Nat) (ha : a.natAbs < B ^ k) (hb : b.natAbs < B ^ k) (hk : k ≤ 1000000) :
    Calls Tryz.prog 147 #[x, y] w fun e w' => (∃ r, e = .returned r ∧ IntP w' r (a - b)) ∧ Gr w w' := by
  have HN := Lib.hid (neg_calls y b w hy)
  have HX := Lib.hid hx
  have HB := Lib.hid (show a.natAbs < B ^ k ∧ (-b).natAbs < B ^ k from ⟨ha, by rw [Int.natAbs_neg]; exact hb⟩)
  clear hx hy ha hb
  go_enter Tryz.func147, Tryz.ntmps147
  go_wp2_with (go_at_call 88; (with_reducible refine HN.out.mono ?_); rintro ev w1 ⟨⟨r1, rfl, hr1⟩, hg1⟩; have HR1 := Lib.hid hr1; clear hr1)
  have HA := Lib.hid (add_int x r1 a (-b) w1 (HX.out.gr hg1) HR1.out.at_ k HB.out.1 HB.out.2 hk)
  go_wp2_with (go_at_call 146; (with_reducible refine HA.out.mono ?_); rintro ev w2 ⟨⟨r2, rfl, hr2⟩, hg2⟩; have HR2 := Lib.hid hr2; clear hr2)
  go_ret
  exact ⟨⟨_, rfl, HR2.out⟩, hg1.tr hg2⟩

set_option maxRecDepth 100000 in
/-- (*Int).Cmp. -/
theorem cmp_int (x y : Value) (a b : Int) (w : World) (hx : IntAt w x a) (hy : IntAt w y b) (k : Nat) (ha : a.natAbs < B ^ k) (hb : b.natAbs < B ^ k) (hk : k ≤ 1000000) :
    Calls Tryz.prog 90 #[x, y] w fun e w' => e = .returned (.int .i64 (a - b).sign) ∧ Gr w w' := by
  have HS := Lib.hid (sub_int x y a b w hx hy k ha hb hk)
  clear hx hy ha hb
  go_enter Tryz.func90, Tryz.ntmps90
  go_wp2_with (go_at_call 147; (with_reducible refine HS.out.mono ?_); rintro ev w1 ⟨⟨r1, rfl, hr1⟩, hg1⟩; have HR1 := Lib.hid hr1; clear hr1)
  have HG := Lib.hid (sign_calls r1 _ w1 HR1.out.at_)
  go_wp2_with (go_at_call 89; (with_reducible refine HG.out.mono ?_); rintro ev w2 ⟨rfl, hg2⟩)
  go_ret
  exact ⟨rfl, hg1.tr hg2⟩

set_option maxRecDepth 100000 in
/-- (*Nat).Small. -/
theorem small_nat (x : Value) (n : Nat) (w : World) (hx : NatAt w x n) (k : Nat) (hn : n < B ^ k) (hk : k ≤ 1000000) :
    Calls Tryz.prog 143 #[x] w fun e w' => ((n < B → e = .returned (.tuple #[.int .u64 (n : Int), .bool true])) ∧ (B ≤ n → e = .returned (.tuple #[.int .u64 0, .bool false]))) ∧ w = w' := by
  obtain ⟨sa, p, sc, hl, hnm, hv, hcl⟩ := limbs_ex x n w hx
  have h1 := norm_length p hnm k (by rw [hv]; exact hn)
  have HL := Lib.hid hcl
  subst hv
  clear hx hcl hn
  by_cases h0 : p.length = 0
  · have hp : p = [] := List.eq_nil_of_length_eq_zero h0
    subst hp
    rw [show ([] : List Nat).length = 0 from rfl] at HL
    clear hl hnm h0 h1
    go_enter Tryz.func143, Tryz.ntmps143
    go_wp2_with (go_at_call 117; (with_reducible refine HL.out.mono ?_); rintro ev w1 ⟨rfl, rfl⟩)
    go_ret2
    exact ⟨⟨fun _ => rfl, fun h => absurd h (by decide)⟩, rfl⟩
  · by_cases h2 : p.length = 1
    · obtain ⟨d, rfl⟩ : ∃ d, p = [d] := by
        cases p with
        | nil => exact absurd rfl h0
        | cons d t =>
          have ht : t = [] := List.eq_nil_of_length_eq_zero (by simpa using h2)
          exact ⟨d, by rw [ht]⟩
      obtain ⟨g, o, c, e, hc⟩ := hl.get (Gr.rf w) 0 (by simp)
      cases e
      have hc3 : w.cell? ⟨g, o, none⟩ = some (.int .u64 (d : Int)) := hc
      have hdB := hl.1 d (by simp)
      rw [val1]
      have HD := Lib.hid hdB
      rw [show [d].length = 1 from rfl] at HL
      clear hl hnm h0 h1 h2 hc hdB
      go_enter Tryz.func143, Tryz.ntmps143
      go_wp2_with (go_at_call 117; (with_reducible refine HL.out.mono ?_); rintro ev w1 ⟨rfl, rfl⟩)
      go_ret2
      exact ⟨⟨fun _ => rfl, fun h => absurd h (by have := HD.out; omega)⟩, rfl⟩
    · have hB : B ≤ val p := by
        have := norm_pos p hnm (by rintro rfl; exact h0 rfl)
        refine Nat.le_trans ?_ this
        calc B = B ^ 1 := (Nat.pow_one B).symm
          _ ≤ _ := Nat.pow_le_pow_right B_pos (by omega)
      have HBB := Lib.hid hB
      have b1 : ((p.length : Int) == 0) = false := beq_eq_false_iff_ne.2 (by omega)
      have b2 : ((p.length : Int) == 1) = false := beq_eq_false_iff_ne.2 (by omega)
      clear hl hnm h0 h2 hB
      go_enter Tryz.func143, Tryz.ntmps143
      go_wp2_with (go_at_call 117; (with_reducible refine HL.out.mono ?_); rintro ev w1 ⟨rfl, rfl⟩)
      go_ret2
      exact ⟨⟨fun h => absurd h (by have := HBB.out; omega), fun _ => rfl⟩, rfl⟩
end
end Go.Proofs.YtcjjgdoafkdeaaaGreatDoor
