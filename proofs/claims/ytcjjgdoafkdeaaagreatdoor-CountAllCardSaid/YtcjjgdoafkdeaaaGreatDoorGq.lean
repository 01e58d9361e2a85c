/- Layers 2 to 5: what each law begins with: some numbers; Layers 2 to 5: begun by contract. -/
import Derived.Test.YtcjjgdoafkdeaaaGreatDoorGn
import Derived.Test.YtcjjgdoafkdeaaaGreatDoorGh
import Derived.Test.YtcjjgdoafkdeaaaGreatDoorGb
namespace Go.Proofs.YtcjjgdoafkdeaaaGreatDoor
section
open Go.RowKit Go.Extern.Stop Go.Stop Go.Extern Go.Sort
set_option linter.unusedVariables false
set_option linter.unusedSimpArgs false

/-- Digits without noughts ahead are their number's own. -/
theorem decDigits_dv (l : List UInt8) (h : Dig l) (hne : l ≠ []) (h0 : l.length = 1 ∨ l.head? ≠ some 48) : Lib.decDigits (dv l) = l ∧ (l.head? ≠ some 48 → 1 ≤ dv l) := by
  obtain ⟨n, hn⟩ : ∃ n, n = l.length := ⟨_, rfl⟩
  induction n generalizing l with
  | zero => exact absurd (List.eq_nil_of_length_eq_zero hn.symm) hne
  | succ n ih =>
    obtain ⟨a, c, rfl⟩ : ∃ a c, l = a ++ [c] := ⟨l.dropLast, l.getLast hne, (List.dropLast_concat_getLast hne).symm⟩
    have hc := h c (by simp)
    have hcd : dv [c] = c.toNat - 48 := by simp [dv]
    have hcc : UInt8.ofNat (48 + (c.toNat - 48)) = c := by
      apply UInt8.toNat_inj.1
      rw [UInt8.toNat_ofNat']
      omega
    rw [dv_append, hcd, List.length_singleton, Nat.pow_one]
    by_cases ha : a = []
    · subst ha
      have hd0 : dv [] = 0 := rfl
      rw [hd0, Nat.zero_mul, Nat.zero_add, Lib.decDigits_one (by omega), hcc]
      refine ⟨rfl, fun hh => ?_⟩
      rcases Nat.eq_zero_or_pos (c.toNat - 48) with h1 | h1
      · exfalso; apply hh
        have : c = 48 := UInt8.toNat_inj.1 (by show c.toNat = 48; omega)
        simp [this]
      · exact h1
    · have hlen : n = a.length := by rw [List.length_append, List.length_singleton] at hn; omega
      have hhd : (a ++ [c]).head? = a.head? := by cases a with
        | nil => exact absurd rfl ha
        | cons x t => rfl
      rw [hhd] at h0 ⊢
      have h0' : a.head? ≠ some 48 := h0.resolve_left (by rw [List.length_append, List.length_singleton]; have := List.length_pos_iff.2 ha; omega)
      obtain ⟨e1, e2⟩ := ih a (fun x hx => h x (List.mem_append_left _ hx)) ha (.inr h0') hlen
      have h1 := e2 h0'
      refine ⟨?_, fun _ => by omega⟩
      rw [decDigits_step _ (by omega), show (dv a * 10 + (c.toNat - 48)) / 10 = dv a by omega, show (dv a * 10 + (c.toNat - 48)) % 10 = c.toNat - 48 by omega, e1, hcc]
theorem digits_of (l : List UInt8) (n : Nat) (hn : dv l = n) (h : Dig l) (hne : l ≠ []) (h0 : l.length = 1 ∨ l.head? ≠ some 48) : Lib.decDigits n = l := by rw [← hn]; exact (decDigits_dv l h hne h0).1
def txt30 : List UInt8 := [49, 50, 51, 52, 53, 54, 55, 56, 57, 48, 49, 50, 51, 52, 53, 54, 55, 56, 57, 48, 49, 50, 51, 52, 53, 54, 55, 56, 57, 48]
theorem dig30 : Dig txt30 := by unfold Dig; decide
theorem get30_calls (w : World) : Calls Tryz.prog 53 #[.string ⟨#[49, 50, 51, 52, 53, 54, 55, 56, 57, 48, 49, 50, 51, 52, 53, 54, 55, 56, 57, 48, 49, 50, 51, 52, 53, 54, 55, 56, 57, 48]⟩] w fun e w' => (∃ b, e = .returned (.tuple #[.pointer (some ⟨b, 0, none⟩), .nilIface]) ∧ NatAt w' (.pointer (some ⟨b, 0, none⟩)) (dv txt30)) ∧ Gr w w' :=
  (get_nat_ok ⟨#[49, 50, 51, 52, 53, 54, 55, 56, 57, 48, 49, 50, 51, 52, 53, 54, 55, 56, 57, 48, 49, 50, 51, 52, 53, 54, 55, 56, 57, 48]⟩ w (by decide) (by decide) dig30 (.inr (fun _ => by show (49 : UInt8).toNat ≠ 48; decide))).mono (by
    rintro e w' ⟨⟨r, rfl, ⟨b, rfl⟩, hr⟩, hg⟩
    exact ⟨⟨b, rfl, hr⟩, hg⟩)
theorem text30_calls (v : Value) (w : World) (h : NatAt w v (dv txt30)) (hT : PowTab w) : Calls Tryz.prog 61 #[v] w fun e w' => e = .returned (.string ⟨#[49, 50, 51, 52, 53, 54, 55, 56, 57, 48, 49, 50, 51, 52, 53, 54, 55, 56, 57, 48, 49, 50, 51, 52, 53, 54, 55, 56, 57, 48]⟩) ∧ Gr w w' := by
  have h1 := text_nat v (dv txt30) w h 2 (by decide) (by decide) (by decide) hT
  rw [(decDigits_dv txt30 dig30 (by decide) (.inr (by decide))).1] at h1
  exact h1
theorem of7_calls (w : World) : Calls Tryz.prog 54 #[.int .u64 7] w fun e w' => (∃ b, e = .returned (.pointer (some ⟨b, 0, none⟩)) ∧ NatAt w' (.pointer (some ⟨b, 0, none⟩)) 7) ∧ Gr w w' :=
  (of_nat_calls 7 (by decide) w).mono (by
    rintro e w' ⟨⟨r, rfl, ⟨b, rfl⟩, hr⟩, hg⟩
    exact ⟨⟨b, rfl, hr⟩, hg⟩)
theorem div30_calls (x y : Value) (w : World) (hx : NatAt w x (dv txt30)) (hy : NatAt w y 7) : Calls Tryz.prog 55 #[x, y] w fun e w' =>
    (∃ b c, e = .returned (.tuple #[.pointer (some ⟨b, 0, none⟩), .pointer (some ⟨c, 0, none⟩), .nilIface]) ∧ NatAt w' (.pointer (some ⟨b, 0, none⟩)) (dv txt30 / 7) ∧ NatAt w' (.pointer (some ⟨c, 0, none⟩)) (dv txt30 % 7)) ∧ Gr w w' :=
  (div1_calls x y (dv txt30) 7 w hx hy 2 (by decide) (by decide) (by decide)).mono (by
    rintro e w' ⟨⟨_, h⟩, hg⟩
    obtain ⟨q, r, rfl, ⟨⟨b, rfl⟩, hq⟩, ⟨⟨c, rfl⟩, hr⟩⟩ := h (by decide)
    exact ⟨⟨b, c, rfl, hq, hr⟩, hg⟩)
theorem of7i_calls (w : World) : Calls Tryz.prog 56 #[.int .i64 (-7)] w fun e w' => (∃ b, e = .returned (.pointer (some ⟨b, 0, none⟩)) ∧ IntAt w' (.pointer (some ⟨b, 0, none⟩)) (-7)) ∧ Gr w w' := of_int_calls (-7) (by decide) (by decide) w
theorem text7_calls (v : Value) (w : World) (h : IntAt w v (-7)) (hT : PowTab w) : Calls Tryz.prog 43 #[v] w fun e w' => e = .returned (.string ⟨#[45, 55]⟩) ∧ Gr w w' := by
  have h1 := text_int v (-7) w h 1 (by decide) (by decide) (by decide) hT
  rw [show Lib.itoa (-7) = [45, 55] by unfold Lib.itoa; rw [if_pos (by decide), show (-7 : Int).natAbs = 7 from rfl, Lib.decDigits_one (by decide)]; rfl] at h1
  exact h1
theorem of64_calls (w : World) (hT : BitTab w) : Calls Tryz.prog 29 #[.int .i64 (-6), .int .i64 4] w fun e w' => (∃ b, e = .returned (.tuple #[.pointer (some ⟨b, 0, none⟩), .nilIface]) ∧ RatAt w' (.pointer (some ⟨b, 0, none⟩)) (-3) 2) ∧ Gr w w' :=
  (ofRat_calls (-6) 4 w hT (by decide) (by decide) (by decide) (by decide)).mono (by
    rintro e w' ⟨⟨_, h⟩, hg⟩
    obtain ⟨b, n, d, rfl, hr, hnd, _⟩ := h (by decide)
    obtain ⟨e1, e2⟩ := rat_unique n (-3) (-6) 4 d 2 (by decide) hnd (by decide) hr.pos (by decide) hr.cop (by decide)
    subst e1
    subst e2
    exact ⟨⟨b, rfl, hr⟩, hg⟩)
theorem dig150 : Lib.decDigits 150 = [49, 53, 48] := digits_of [49, 53, 48] 150 (by decide) (by unfold Dig; decide) (by decide) (.inr (by decide))
theorem roundA_calls (v : Value) (w : World) (h : RatAt w v (-3) 2) (hT : PowTab w) : Calls Tryz.prog 13 #[v, .int .i64 2, .int .i64 1] w fun e w' => e = .returned (.tuple #[.string ⟨#[45, 49, 46, 53, 48]⟩, .nilIface]) ∧ Gr w w' := by
  have h1 := round_calls v (-3) 2 2 1 w h 1 (by decide) (by decide) (by decide) (by decide) (.inl rfl) hT
  rw [show placedL (sgn (decide ((-3 : Int) * ((10 ^ 2 : Nat) : Int) < 0)) (roundN ((-3 : Int) * ((10 ^ 2 : Nat) : Int)).natAbs 2 1)) 2 = [45, 49, 46, 53, 48] by
    rw [show sgn (decide ((-3 : Int) * ((10 ^ 2 : Nat) : Int) < 0)) (roundN ((-3 : Int) * ((10 ^ 2 : Nat) : Int)).natAbs 2 1) = -150 by decide]
    unfold placedL
    rw [if_pos (by decide), show (-150 : Int).natAbs = 150 from rfl, dig150]
    rfl] at h1
  exact h1
theorem unitsA_calls (v : Value) (w : World) (h : RatAt w v (-3) 2) : Calls Tryz.prog 22 #[v, .int .i64 2] w fun e w' => e = .returned (.tuple #[.int .i64 (-2), .nilIface]) ∧ Gr w w' :=
  units_calls v (-3) 2 2 w h 2 (by decide) (by decide) (by decide) (by decide) (.inr (.inl rfl)) (by decide)
theorem textR_calls (v : Value) (w : World) (h : RatAt w v (-3) 2) (hT : PowTab w) : Calls Tryz.prog 18 #[v] w fun e w' => e = .returned (.string ⟨#[45, 51, 47, 50]⟩) ∧ Gr w w' := by
  have h1 := textRat_calls v (-3) 2 w h 1 (by decide) (by decide) (by decide) (by decide) hT
  rw [show ratText (-3) 2 = [45, 51, 47, 50] by unfold ratText Lib.itoa; rw [if_neg (by decide), if_pos (by decide), show (-3 : Int).natAbs = 3 from rfl, Lib.decDigits_one (by decide), Lib.decDigits_one (by decide)]; rfl] at h1
  exact h1
theorem cmpR_calls (x y : Value) (w : World) (hx : RatAt w x (-3) 2) (hy : RatAt w y (-3) 2) : Calls Tryz.prog 33 #[x, y] w fun e w' => e = .returned (.int .i64 0) ∧ Gr w w' :=
  cmpRat_calls x y (-3) (-3) 2 2 w hx hy 1 (by decide) (by decide) (by decide) (by decide) (by decide)
theorem pow20_calls (v : Value) (w : World) (h : NatAt w v 10) : Calls Tryz.prog 62 #[v, .int .i64 20] w fun e w' => (∃ r, e = .returned r ∧ NatAt w' r 100000000000000000000) ∧ Gr w w' :=
  pow_calls v 10 20 w h 2 (by decide) (by decide) (by decide) (by decide) (by decide)
theorem root20_calls (v : Value) (w : World) (h : NatAt w v 100000000000000000000) : Calls Tryz.prog 63 #[v, .int .i64 2] w fun e w' => (∃ r, e = .returned r ∧ NatAt w' r 10000000000) ∧ Gr w w' :=
  (root_calls v 100000000000000000000 2 w h 2 (by decide) (by decide) (by decide) (by decide) (by decide)).mono (by
    rintro e w' ⟨⟨v', r, rfl, hr, h1, h2⟩, hg⟩
    have e1 := root_unique r 10000000000 2 100000000000000000000 h1 h2 (by decide) (by decide)
    subst e1
    exact ⟨⟨_, rfl, hr⟩, hg⟩)
theorem text11_calls (v : Value) (w : World) (h : NatAt w v 10000000000) (hT : PowTab w) : Calls Tryz.prog 61 #[v] w fun e w' => e = .returned (.string ⟨#[49, 48, 48, 48, 48, 48, 48, 48, 48, 48, 48]⟩) ∧ Gr w w' := by
  have h1 := text_nat v 10000000000 w h 1 (by decide) (by decide) (by decide) hT
  rw [digits_of [49, 48, 48, 48, 48, 48, 48, 48, 48, 48, 48] 10000000000 (by decide) (by unfold Dig; decide) (by decide) (.inr (by decide))] at h1
  exact h1
theorem mul30_calls (x y : Value) (w : World) (hx : NatAt w x (dv txt30 / 7)) (hy : NatAt w y 7) : Calls Tryz.prog 58 #[x, y] w fun e w' => (∃ r, e = .returned r ∧ NatAt w' r (dv txt30 / 7 * 7)) ∧ Gr w w' :=
  (mul_calls x y (dv txt30 / 7) 7 w hx hy 2 (by decide) (by decide) (by decide)).mono (by rintro e w' ⟨⟨r, rfl, hr⟩, hg⟩; exact ⟨⟨r, rfl, hr.at_⟩, hg⟩)
theorem add30_calls (x y : Value) (w : World) (hx : NatAt w x (dv txt30 / 7 * 7)) (hy : NatAt w y (dv txt30 % 7)) : Calls Tryz.prog 59 #[x, y] w fun e w' => (∃ r, e = .returned r ∧ NatAt w' r (dv txt30)) ∧ Gr w w' :=
  (add_calls x y (dv txt30 / 7 * 7) (dv txt30 % 7) w hx hy 2 (by decide) (by decide) (by decide)).mono (by rintro e w' ⟨⟨r, rfl, hr⟩, hg⟩; exact ⟨⟨r, rfl, by have := hr.at_; rw [show dv txt30 / 7 * 7 + dv txt30 % 7 = dv txt30 by decide] at this; exact this⟩, hg⟩)
theorem cmp30_calls (x y : Value) (w : World) (hx : NatAt w x (dv txt30)) (hy : NatAt w y (dv txt30)) : Calls Tryz.prog 60 #[x, y] w fun e w' => e = .returned (.int .i64 0) ∧ Gr w w' := by
  have h := cmp_calls x y (dv txt30) (dv txt30) w hx hy 2 (by decide) (by decide) (by decide)
  rw [cmpN_eq] at h
  exact h
end
section
open Go.RowKit Go.Extern.Stop Go.Stop Go.Extern Go.Sort
set_option linter.unusedVariables false
set_option linter.unusedSimpArgs false

theorem Has.gr_ {w w' : World} (h : Has w) (hg : Gr w w') : Has w' := h.gr hg
set_option maxRecDepth 100000 in
theorem begunB_calls (w : World) (hg : Has w) : Calls Tryz.prog 57 #[] w fun e w' => e = .returned (.bool true) ∧ Gr w w' := by
  have H := Lib.hid (begun1_calls w hg)
  clear hg
  go_enter Tryz.func57, Tryz.ntmps57
  go_wp2_with (go_at_call 121; (with_reducible refine H.out.mono ?_); rintro ev w1 ⟨rfl, hg1⟩)
  go_ret
  exact ⟨rfl, hg1⟩

theorem ratZero (w : World) : RatAt (w.alloc (.cells #[.pointer none, .pointer none] 93)) (.pointer (some ⟨w.heap.size, 0, none⟩)) 0 1 :=
  .inr ⟨_, none, none, rfl, by rw [World.cell?_alloc_at _ _ _ _ rfl]; rfl, by rw [World.cell?_alloc_at _ _ _ _ rfl]; rfl, .inl ⟨rfl, rfl⟩, .inl ⟨rfl, rfl⟩, by decide, by decide⟩
set_option maxRecDepth 100000 in
set_option maxHeartbeats 8000000 in
theorem begun2_calls (w : World) (hH : Has w) (hB : BitTab w) (hP : PowTab w) : Calls Tryz.prog 11 #[] w fun e w' => e = .returned (.bool true) ∧ Gr w w' := by
  have HH := Lib.hid (And.intro hH (And.intro hB hP))
  clear hH hB hP
  go_enter Tryz.func11, Tryz.ntmps11
  go_wp2_with (go_at_call 53; (with_reducible refine (get30_calls _).mono ?_); rintro ev w1 ⟨⟨b1, rfl, hr1⟩, hg1⟩; have HA := Lib.hid hr1; clear hr1)
  go_wp2_with (go_at_call 54; (with_reducible refine (of7_calls _).mono ?_); rintro ev w2 ⟨⟨b2, rfl, hr2⟩, hg2⟩; have HB := Lib.hid hr2; clear hr2)
  have HD := Lib.hid (div30_calls _ _ w2 (HA.out.gr hg2) HB.out)
  go_wp2_with (go_at_call 55; (with_reducible refine HD.out.mono ?_); rintro ev w3 ⟨⟨b3, c3, rfl, hq3, hr3⟩, hg3⟩; have HQ := Lib.hid hq3; have HR := Lib.hid hr3; clear hq3 hr3)
  go_wp2_with (go_at_call 56; (refine (of7i_calls _).mono ?_); rintro ev w4 ⟨⟨b4, rfl, hr4⟩, hg4⟩; have HX := Lib.hid hr4; clear hr4)
  have hga : Gr w4 (w4.alloc (.cells #[.pointer none, .pointer none] 93)) := (Gr.rf w4).alloc (Nat.le_refl _) _
  have HY := Lib.hid (ratZero w4)
  have HGA := Lib.hid hga
  have G5 := Lib.hid ((((hg1.tr hg2).tr hg3).tr hg4).tr hga)
  clear hga
  have HZ0 := Lib.hid (of64_calls _ (HH.out.2.1.gr G5.out))
  go_wp2_with (go_at_call 29; (refine HZ0.out.mono ?_); rintro ev w5 ⟨⟨b5, rfl, hr5⟩, hg5⟩; have HZ := Lib.hid hr5; clear hr5)
  have HR0 := Lib.hid (roundA_calls _ w5 HZ.out (HH.out.2.2.gr (G5.out.tr hg5)))
  go_wp2_with (go_at_call 13; (with_reducible refine HR0.out.mono ?_); rintro ev w6 ⟨rfl, hg6⟩)
  have HG0 := Lib.hid (get_dec_150 w6 (HH.out.2.1.gr ((G5.out.tr hg5).tr hg6)))
  go_wp2_with (go_at_call 14; (with_reducible refine HG0.out.mono ?_); rintro ev w7 ⟨⟨b7, rfl, hr7⟩, hg7⟩; have HP := Lib.hid hr7; clear hr7)
  have HU0 := Lib.hid (unitsA_calls _ w7 ((HZ.out.gr hg6).gr hg7))
  go_wp2_with (go_at_call 22; (refine HU0.out.mono ?_); rintro ev w8 ⟨rfl, hg8⟩)
  have g8 := ((G5.out.tr hg5).tr hg6).tr (hg7.tr hg8)
  have HBG := Lib.hid (begunB_calls w8 (HH.out.1.gr g8))
  go_wp2_with (go_at_call 57; (with_reducible refine HBG.out.mono ?_); rintro ev w9 ⟨rfl, hg9⟩)
  have g49 := HGA.out.tr (hg5.tr (hg6.tr (hg7.tr (hg8.tr hg9))))
  have g29 := hg3.tr (hg4.tr g49)
  have HM0 := Lib.hid (mul30_calls _ _ w9 (HQ.out.gr (hg4.tr g49)) (HB.out.gr g29))
  go_wp2_with (go_at_call 58; (with_reducible refine HM0.out.mono ?_); rintro ev w10 ⟨⟨r10, rfl, hr10⟩, hg10⟩; have H10 := Lib.hid hr10; clear hr10)
  have HA0 := Lib.hid (add30_calls _ _ w10 H10.out (HR.out.gr ((hg4.tr g49).tr hg10)))
  go_wp2_with (go_at_call 59; (with_reducible refine HA0.out.mono ?_); rintro ev w11 ⟨⟨r11, rfl, hr11⟩, hg11⟩; have H11 := Lib.hid hr11; clear hr11)
  have g111 := (hg2.tr g29).tr (hg10.tr hg11)
  have HC0 := Lib.hid (cmp30_calls _ _ w11 H11.out (HA.out.gr g111))
  go_wp2_with (go_at_call 60; (with_reducible refine HC0.out.mono ?_); rintro ev w12 ⟨rfl, hg12⟩)
  have HT0 := Lib.hid (text30_calls _ w12 (HA.out.gr (g111.tr hg12)) (HH.out.2.2.gr ((hg1.tr g111).tr hg12)))
  go_wp2_with (go_at_call 61; (with_reducible refine HT0.out.mono ?_); rintro ev w13 ⟨rfl, hg13⟩)
  have g013 := (hg1.tr g111).tr (hg12.tr hg13)
  have g413 := g49.tr ((hg10.tr hg11).tr (hg12.tr hg13))
  have HT1 := Lib.hid (text7_calls _ w13 (HX.out.gr g413) (HH.out.2.2.gr g013))
  go_wp2_with (go_at_call 43; (with_reducible refine HT1.out.mono ?_); rintro ev w14 ⟨rfl, hg14⟩)
  have gA14 := (hg5.tr (hg6.tr (hg7.tr (hg8.tr hg9)))).tr (((hg10.tr hg11).tr (hg12.tr hg13)).tr hg14)
  have HS1 := Lib.hid (signRat_calls _ 0 1 w14 (HY.out.gr gA14))
  go_wp2_with (go_at_call 32; (refine HS1.out.mono ?_); rintro ev w15 ⟨rfl, hg15⟩)
  have g015 := (g013.tr hg14).tr hg15
  have g515 := ((hg6.tr (hg7.tr (hg8.tr hg9))).tr (((hg10.tr hg11).tr (hg12.tr hg13)).tr hg14)).tr hg15
  have HT2 := Lib.hid (textR_calls _ w15 (HZ.out.gr g515) (HH.out.2.2.gr g015))
  go_wp2_with (go_at_call 18; (with_reducible refine HT2.out.mono ?_); rintro ev w16 ⟨rfl, hg16⟩)
  have g716 := ((((hg8.tr hg9).tr (((hg10.tr hg11).tr (hg12.tr hg13)).tr hg14)).tr hg15)).tr hg16
  have HC2 := Lib.hid (cmpR_calls _ _ w16 (HP.out.gr g716) (HZ.out.gr (g515.tr hg16)))
  go_wp2_with (go_at_call 33; (with_reducible refine HC2.out.mono ?_); rintro ev w17 ⟨rfl, hg17⟩)
  have g017 := (g015.tr hg16).tr hg17
  go_wp2_with (go_at_call 54; (with_reducible refine (of10_calls _).mono ?_); rintro ev w18 ⟨⟨r18, rfl, hr18⟩, hg18⟩; have H18 := Lib.hid hr18; clear hr18)
  have HPW := Lib.hid (pow20_calls _ w18 H18.out)
  go_wp2_with (go_at_call 62; (with_reducible refine HPW.out.mono ?_); rintro ev w19 ⟨⟨r19, rfl, hr19⟩, hg19⟩; have H19 := Lib.hid hr19; clear hr19)
  have HRT := Lib.hid (root20_calls _ w19 H19.out)
  go_wp2_with (go_at_call 63; (with_reducible refine HRT.out.mono ?_); rintro ev w20 ⟨⟨r20, rfl, hr20⟩, hg20⟩; have H20 := Lib.hid hr20; clear hr20)
  have g020 := g017.tr ((hg18.tr hg19).tr hg20)
  have HT3 := Lib.hid (text11_calls _ w20 H20.out (HH.out.2.2.gr g020))
  go_wp2_with (go_at_call 61; (with_reducible refine HT3.out.mono ?_); rintro ev w21 ⟨rfl, hg21⟩)
  go_ret
  exact ⟨rfl, g020.tr hg21⟩
end
end Go.Proofs.YtcjjgdoafkdeaaaGreatDoor
