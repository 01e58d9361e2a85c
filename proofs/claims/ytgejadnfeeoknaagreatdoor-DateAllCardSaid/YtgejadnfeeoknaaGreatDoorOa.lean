/- Layer 3: integers in memory; New, Of, Abs, Sign, Text, Neg by contract. -/
import Derived.Test.YtgejadnfeeoknaaGreatDoorNx
namespace Go.Proofs.YtgejadnfeeoknaaGreatDoor
open Go.RowKit Go.Extern.Stop Go.Stop Go.Extern Go.Sort
set_option linter.unusedVariables false
set_option linter.unusedSimpArgs false

def sgn (neg : Bool) (m : Nat) : Int := if neg then -(m : Int) else (m : Int)
/-- An integer behind a pointer. -/
def IntAt (w : World) (v : Value) (z : Int) : Prop :=
  (v = .pointer none ∧ z = 0) ∨ ∃ b neg p m, v = .pointer (some ⟨b, 0, none⟩) ∧ w.cell? ⟨b, 0, none⟩ = some (.bool neg) ∧ w.cell? ⟨b, 1, none⟩ = some (.pointer p) ∧ NatAt w (.pointer p) m ∧ z = sgn neg m ∧ (neg = true → m ≠ 0)
theorem IntAt.gr {w w' : World} (hg : Gr w w') {v : Value} {z : Int} (h : IntAt w v z) : IntAt w' v z := by
  rcases h with h | ⟨b, neg, p, m, hv, h0, h1, hn, hz, hm⟩
  · exact .inl h
  · exact .inr ⟨b, neg, p, m, hv, (hg.cell (World.block_lt_of_cell? w _ h0)).trans h0, (hg.cell (World.block_lt_of_cell? w _ h1)).trans h1, hn.gr hg, hz, hm⟩
theorem NatAt.ptr {w : World} {v : Value} {n : Nat} (h : NatAt w v n) : ∃ p, v = .pointer p := by
  rcases h with ⟨rfl, _⟩ | ⟨b, s, l, rfl, _⟩ <;> exact ⟨_, rfl⟩
theorem sgn_sign (neg : Bool) (m : Nat) (h : neg = true → m ≠ 0) : (sgn neg m).sign = if m = 0 then 0 else if neg then -1 else 1 := by
  cases neg
  · by_cases h0 : m = 0
    · subst h0; rfl
    · simp only [sgn, if_neg h0]; exact Int.sign_eq_one_of_pos (by simp; omega)
  · have h0 := h rfl
    simp only [sgn, if_neg h0]; exact Int.sign_eq_neg_one_of_neg (by simp; omega)
theorem sgn_abs (neg : Bool) (m : Nat) : (sgn neg m).natAbs = m := by cases neg <;> simp [sgn]

set_option maxRecDepth 100000 in
set_option maxHeartbeats 1000000 in
/-- num.New. -/
theorem newInt_calls (neg : Bool) (v : Value) (m : Nat) (w : World) (h : NatAt w v m) :
    Calls Tryz.prog 125 #[.bool neg, v] w fun e w' => (∃ b, e = .returned (.pointer (some ⟨b, 0, none⟩)) ∧ IntAt w' (.pointer (some ⟨b, 0, none⟩)) (sgn neg m)) ∧ Gr w w' := by
  obtain ⟨p, rfl⟩ := h.ptr
  have HZ := Lib.hid (zero_calls _ m w h)
  have HN := Lib.hid h
  clear h
  have hfin : ∀ (neg' : Bool), sgn neg m = sgn neg' m → (neg' = true → m ≠ 0) → (∃ b, Ending.returned (Value.pointer (some ⟨w.heap.size, 0, none⟩)) = .returned (.pointer (some ⟨b, 0, none⟩)) ∧ IntAt (w.alloc (.cells #[.bool neg', .pointer p] 179)) (.pointer (some ⟨b, 0, none⟩)) (sgn neg m)) ∧ Gr w (w.alloc (.cells #[.bool neg', .pointer p] 179)) := fun neg' e hm => by
    have hg : Gr w (w.alloc (.cells #[.bool neg', .pointer p] 179)) := (Gr.rf w).alloc (Nat.le_refl _) _
    refine ⟨⟨_, rfl, .inr ⟨_, neg', p, m, rfl, ?_, ?_, HN.out.gr hg, e, hm⟩⟩, hg⟩
    · rw [World.cell?_alloc_at _ _ _ _ rfl]; rfl
    · rw [World.cell?_alloc_at _ _ _ _ rfl]; rfl
  have HF := Lib.hid hfin
  clear hfin
  cases neg with
  | false =>
    go_enter Tryz.func125, Tryz.ntmps125
    go_wp2
    go_ret
    exact HF.out false rfl (by simp)
  | true =>
    by_cases h0 : m = 0
    · rw [show (m == 0) = true from beq_iff_eq.2 h0] at HZ
      have H0 := Lib.hid h0
      clear h0
      go_enter Tryz.func125, Tryz.ntmps125
      go_wp2_with (go_at_call 140; (with_reducible refine HZ.out.mono ?_); rintro ev w1 ⟨rfl, rfl⟩)
      go_ret
      exact HF.out false (by rw [H0.out]; rfl) (by simp)
    · rw [show (m == 0) = false from beq_eq_false_iff_ne.2 h0] at HZ
      have H0 := Lib.hid h0
      clear h0
      go_enter Tryz.func125, Tryz.ntmps125
      go_wp2_with (go_at_call 140; (with_reducible refine HZ.out.mono ?_); rintro ev w1 ⟨rfl, rfl⟩)
      go_ret
      exact HF.out true rfl (fun _ => H0.out)

set_option maxRecDepth 100000 in
/-- num.Of. -/
theorem of_int_calls (z : Int) (h0 : -9223372036854775808 ≤ z) (h1 : z ≤ 9223372036854775807) (w : World) :
    Calls Tryz.prog 89 #[.int .i64 z] w fun e w' => (∃ b, e = .returned (.pointer (some ⟨b, 0, none⟩)) ∧ IntAt w' (.pointer (some ⟨b, 0, none⟩)) z) ∧ Gr w w' := by
  by_cases hz : z < 0
  · have b1 : decide (z < 0) = true := decide_eq_true hz
    have hw : IntKind.u64.wrap (-IntKind.u64.wrap z) = ((z.natAbs : Nat) : Int) := by rw [IntKind.wrap_u64, IntKind.wrap_u64]; omega
    have hs : sgn true z.natAbs = z := by unfold sgn; simp; omega
    have hB : z.natAbs < B := by rw [B_eq]; omega
    generalize z.natAbs = m at hw hs hB
    have HS := Lib.hid hs
    have HO := Lib.hid (of_nat_calls m hB w)
    clear hs hB
    go_enter Tryz.func89, Tryz.ntmps89
    go_wp2_with (go_at_call 92; (with_reducible refine HO.out.mono ?_); rintro ev w1 ⟨⟨r1, rfl, hr1⟩, hg1⟩; have HR1 := Lib.hid hr1; clear hr1)
    have HN := Lib.hid (newInt_calls true r1 m w1 HR1.out)
    go_wp2_with (go_at_call 125; (with_reducible refine HN.out.mono ?_); rintro ev w2 ⟨⟨b2, rfl, hb2⟩, hg2⟩; have HB2 := Lib.hid hb2; clear hb2)
    go_ret
    exact ⟨⟨_, rfl, by rw [← HS.out]; exact HB2.out⟩, hg1.tr hg2⟩
  · have b1 : decide (z < 0) = false := decide_eq_false hz
    obtain ⟨m, rfl⟩ : ∃ m : Nat, z = m := ⟨z.toNat, by omega⟩
    have hB : m < B := by rw [B_eq]; omega
    have hw := wrapN m hB
    have HO := Lib.hid (of_nat_calls m hB w)
    clear hB
    go_enter Tryz.func89, Tryz.ntmps89
    go_wp2_with (go_at_call 92; (with_reducible refine HO.out.mono ?_); rintro ev w1 ⟨⟨r1, rfl, hr1⟩, hg1⟩; have HR1 := Lib.hid hr1; clear hr1)
    have HN := Lib.hid (newInt_calls false r1 m w1 HR1.out)
    go_wp2_with (go_at_call 125; (with_reducible refine HN.out.mono ?_); rintro ev w2 ⟨⟨b2, rfl, hb2⟩, hg2⟩; have HB2 := Lib.hid hb2; clear hb2)
    go_ret
    exact ⟨⟨_, rfl, HB2.out⟩, hg1.tr hg2⟩

set_option maxRecDepth 100000 in
/-- (*Int).Abs. -/
theorem abs_calls (v : Value) (z : Int) (w : World) (h : IntAt w v z) :
    Calls Tryz.prog 107 #[v] w fun e w' => (∃ r, e = .returned r ∧ NatAt w' r z.natAbs) ∧ Gr w w' := by
  rcases h with ⟨rfl, rfl⟩ | ⟨b, neg, p, m, rfl, h0, h1, hn, rfl, hm⟩
  · go_enter Tryz.func107, Tryz.ntmps107
    go_wp2_with (go_at_call 92; (with_reducible refine (of0_calls _).mono ?_); rintro ev w1 ⟨⟨r1, rfl, hr1⟩, hg1⟩; have HR1 := Lib.hid hr1; clear hr1)
    go_ret
    exact ⟨⟨_, rfl, HR1.out.at_⟩, hg1⟩
  · rw [sgn_abs]
    have HN := Lib.hid hn
    clear h0 hm
    cases p with
    | none =>
      have hm0 : m = 0 := by
        rcases hn with ⟨_, h⟩ | ⟨_, _, _, h, _⟩
        · exact h
        · cases h
      have H0 := Lib.hid hm0
      clear hn hm0
      go_enter Tryz.func107, Tryz.ntmps107
      go_wp2_with (go_at_call 92; (with_reducible refine (of0_calls _).mono ?_); rintro ev w1 ⟨⟨r1, rfl, hr1⟩, hg1⟩; have HR1 := Lib.hid hr1; clear hr1)
      go_ret
      exact ⟨⟨_, rfl, by rw [H0.out]; exact HR1.out.at_⟩, hg1⟩
    | some a =>
      clear hn
      go_enter Tryz.func107, Tryz.ntmps107
      go_wp2
      go_ret
      exact ⟨⟨_, rfl, HN.out⟩, Gr.rf _⟩

set_option maxRecDepth 100000 in
/-- (*Int).Sign. -/
theorem sign_calls (v : Value) (z : Int) (w : World) (h : IntAt w v z) :
    Calls Tryz.prog 106 #[v] w fun e w' => e = .returned (.int .i64 z.sign) ∧ Gr w w' := by
  have HA := Lib.hid (abs_calls v z w h)
  rcases h with ⟨rfl, rfl⟩ | ⟨b, neg, p, m, rfl, h0, h1, hn, rfl, hm⟩
  · rw [show (0 : Int).sign = 0 from rfl]
    rw [show (0 : Int).natAbs = 0 from rfl] at HA
    go_enter Tryz.func106, Tryz.ntmps106
    go_wp2_with (go_at_call 107; (with_reducible refine HA.out.mono ?_); rintro ev w1 ⟨⟨r1, rfl, hr1⟩, hg1⟩; have HR1 := Lib.hid hr1; clear hr1)
    have HZ := zero_calls r1 0 w1 HR1.out
    rw [show ((0 : Nat) == 0) = true from rfl] at HZ
    have HZ := Lib.hid HZ
    go_wp2_with (go_at_call 140; (with_reducible refine HZ.out.mono ?_); rintro ev w2 ⟨rfl, rfl⟩)
    go_ret
    exact ⟨rfl, hg1⟩
  · rw [sgn_sign neg m hm]
    rw [sgn_abs] at HA
    have HM := Lib.hid hm
    have H0 := Lib.hid h0
    clear hm hn h1 h0
    by_cases hm0 : m = 0
    · rw [if_pos hm0]
      have E0 := Lib.hid hm0
      clear hm0
      go_enter Tryz.func106, Tryz.ntmps106
      go_wp2_with (go_at_call 107; (with_reducible refine HA.out.mono ?_); rintro ev w1 ⟨⟨r1, rfl, hr1⟩, hg1⟩; have HR1 := Lib.hid hr1; clear hr1)
      have HZ := zero_calls r1 m w1 HR1.out
      rw [show (m == 0) = true from beq_iff_eq.2 E0.out] at HZ
      have HZ := Lib.hid HZ
      go_wp2_with (go_at_call 140; (with_reducible refine HZ.out.mono ?_); rintro ev w2 ⟨rfl, rfl⟩)
      go_ret
      exact ⟨rfl, hg1⟩
    · rw [if_neg hm0]
      have E0 := Lib.hid hm0
      clear hm0
      cases neg
      all_goals
        go_enter Tryz.func106, Tryz.ntmps106
        go_wp2_with (go_at_call 107; (with_reducible refine HA.out.mono ?_); rintro ev w1 ⟨⟨r1, rfl, hr1⟩, hg1⟩; have HR1 := Lib.hid hr1; clear hr1)
        have HZ := zero_calls r1 m w1 HR1.out
        rw [show (m == 0) = false from beq_eq_false_iff_ne.2 E0.out] at HZ
        have HZ := Lib.hid HZ
        have hc := (hg1.cell (World.block_lt_of_cell? w _ H0.out)).trans H0.out
        go_wp2_with (go_at_call 140; (with_reducible refine HZ.out.mono ?_); rintro ev w2 ⟨rfl, rfl⟩)
        go_ret
        exact ⟨rfl, hg1⟩
end Go.Proofs.YtgejadnfeeoknaaGreatDoor
