/- Layers 2 to 5: what each law begins with: some numbers. -/
import Derived.Test.YtgejadnfeeoknaaGreatDoorOi
import Derived.Test.YtgejadnfeeoknaaGreatDoorNs
namespace Go.Proofs.YtgejadnfeeoknaaGreatDoor
open Go.RowKit Go.Extern.Stop Go.Stop Go.Extern Go.Sort
set_option linter.unusedVariables false
set_option linter.unusedSimpArgs false

/-- Digits without noughts ahead are their number's own. -/
theorem decDigits_dv (l : List UInt8) (h : Dig l) (hne : l ≠ []) (h0 : l.length = 1 ∨ l.head? ≠ some 48) : Lib.decDigits (dv l) = l ∧ (l.head? ≠ some 48 → 1 ≤ dv l) := by
  obtain ⟨n, hn⟩ : ∃ n, n = l.length := ⟨_, rfl⟩
  induction n generalizing l with
  | zero => exact absurd (List.eq_nil_of_length_eq_zero hn.symm) hne
  | succ n ih =>
    obtain ⟨a, c, rfl⟩ : ∃ a c, l = a ++ [c] := ⟨l.dropLast, l.getLast hne, (List.dropLast_concat_getLast hne).symm⟩
    have hc := h c (by simp)
    have hcd : dv [c] = c.toNat - 48 := by simp [dv]
    have hcc : UInt8.ofNat (48 + (c.toNat - 48)) = c := by
      apply UInt8.toNat_inj.1
      rw [UInt8.toNat_ofNat']
      omega
    rw [dv_append, hcd, List.length_singleton, Nat.pow_one]
    by_cases ha : a = []
    · subst ha
      have hd0 : dv [] = 0 := rfl
      rw [hd0, Nat.zero_mul, Nat.zero_add, Lib.decDigits_one (by omega), hcc]
      refine ⟨rfl, fun hh => ?_⟩
      rcases Nat.eq_zero_or_pos (c.toNat - 48) with h1 | h1
      · exfalso; apply hh
        have : c = 48 := UInt8.toNat_inj.1 (by show c.toNat = 48; omega)
        simp [this]
      · exact h1
    · have hlen : n = a.length := by rw [List.length_append, List.length_singleton] at hn; omega
      have hhd : (a ++ [c]).head? = a.head? := by cases a with
        | nil => exact absurd rfl ha
        | cons x t => rfl
      rw [hhd] at h0 ⊢
      have h0' : a.head? ≠ some 48 := h0.resolve_left (by rw [List.length_append, List.length_singleton]; have := List.length_pos_iff.2 ha; omega)
      obtain ⟨e1, e2⟩ := ih a (fun x hx => h x (List.mem_append_left _ hx)) ha (.inr h0') hlen
      have h1 := e2 h0'
      refine ⟨?_, fun _ => by omega⟩
      rw [decDigits_step _ (by omega), show (dv a * 10 + (c.toNat - 48)) / 10 = dv a by omega, show (dv a * 10 + (c.toNat - 48)) % 10 = c.toNat - 48 by omega, e1, hcc]
theorem digits_of (l : List UInt8) (n : Nat) (hn : dv l = n) (h : Dig l) (hne : l ≠ []) (h0 : l.length = 1 ∨ l.head? ≠ some 48) : Lib.decDigits n = l := by rw [← hn]; exact (decDigits_dv l h hne h0).1
def txt30 : List UInt8 := [49, 50, 51, 52, 53, 54, 55, 56, 57, 48, 49, 50, 51, 52, 53, 54, 55, 56, 57, 48, 49, 50, 51, 52, 53, 54, 55, 56, 57, 48]
theorem dig30 : Dig txt30 := by unfold Dig; decide
theorem get30_calls (w : World) : Calls Tryz.prog 91 #[.string ⟨#[49, 50, 51, 52, 53, 54, 55, 56, 57, 48, 49, 50, 51, 52, 53, 54, 55, 56, 57, 48, 49, 50, 51, 52, 53, 54, 55, 56, 57, 48]⟩] w fun e w' => (∃ b, e = .returned (.tuple #[.pointer (some ⟨b, 0, none⟩), .nilIface]) ∧ NatAt w' (.pointer (some ⟨b, 0, none⟩)) (dv txt30)) ∧ Gr w w' :=
  (get_nat_ok ⟨#[49, 50, 51, 52, 53, 54, 55, 56, 57, 48, 49, 50, 51, 52, 53, 54, 55, 56, 57, 48, 49, 50, 51, 52, 53, 54, 55, 56, 57, 48]⟩ w (by decide) (by decide) dig30 (.inr (fun _ => by show (49 : UInt8).toNat ≠ 48; decide))).mono (by
    rintro e w' ⟨⟨r, rfl, ⟨b, rfl⟩, hr⟩, hg⟩
    exact ⟨⟨b, rfl, hr⟩, hg⟩)
theorem text30_calls (v : Value) (w : World) (h : NatAt w v (dv txt30)) (hT : PowTab w) : Calls Tryz.prog 101 #[v] w fun e w' => e = .returned (.string ⟨#[49, 50, 51, 52, 53, 54, 55, 56, 57, 48, 49, 50, 51, 52, 53, 54, 55, 56, 57, 48, 49, 50, 51, 52, 53, 54, 55, 56, 57, 48]⟩) ∧ Gr w w' := by
  have h1 := text_nat v (dv txt30) w h 2 (by decide) (by decide) (by decide) hT
  rw [(decDigits_dv txt30 dig30 (by decide) (.inr (by decide))).1] at h1
  exact h1
theorem of7_calls (w : World) : Calls Tryz.prog 92 #[.int .u64 7] w fun e w' => (∃ b, e = .returned (.pointer (some ⟨b, 0, none⟩)) ∧ NatAt w' (.pointer (some ⟨b, 0, none⟩)) 7) ∧ Gr w w' :=
  (of_nat_calls 7 (by decide) w).mono (by
    rintro e w' ⟨⟨r, rfl, ⟨b, rfl⟩, hr⟩, hg⟩
    exact ⟨⟨b, rfl, hr⟩, hg⟩)
theorem div30_calls (x y : Value) (w : World) (hx : NatAt w x (dv txt30)) (hy : NatAt w y 7) : Calls Tryz.prog 93 #[x, y] w fun e w' =>
    (∃ b c, e = .returned (.tuple #[.pointer (some ⟨b, 0, none⟩), .pointer (some ⟨c, 0, none⟩), .nilIface]) ∧ NatAt w' (.pointer (some ⟨b, 0, none⟩)) (dv txt30 / 7) ∧ NatAt w' (.pointer (some ⟨c, 0, none⟩)) (dv txt30 % 7)) ∧ Gr w w' :=
  (div1_calls x y (dv txt30) 7 w hx hy 2 (by decide) (by decide) (by decide)).mono (by
    rintro e w' ⟨⟨_, h⟩, hg⟩
    obtain ⟨q, r, rfl, ⟨⟨b, rfl⟩, hq⟩, ⟨⟨c, rfl⟩, hr⟩⟩ := h (by decide)
    exact ⟨⟨b, c, rfl, hq, hr⟩, hg⟩)
theorem of7i_calls (w : World) : Calls Tryz.prog 89 #[.int .i64 (-7)] w fun e w' => (∃ b, e = .returned (.pointer (some ⟨b, 0, none⟩)) ∧ IntAt w' (.pointer (some ⟨b, 0, none⟩)) (-7)) ∧ Gr w w' := of_int_calls (-7) (by decide) (by decide) w
theorem text7_calls (v : Value) (w : World) (h : IntAt w v (-7)) (hT : PowTab w) : Calls Tryz.prog 79 #[v] w fun e w' => e = .returned (.string ⟨#[45, 55]⟩) ∧ Gr w w' := by
  have h1 := text_int v (-7) w h 1 (by decide) (by decide) (by decide) hT
  rw [show Lib.itoa (-7) = [45, 55] by unfold Lib.itoa; rw [if_pos (by decide), show (-7 : Int).natAbs = 7 from rfl, Lib.decDigits_one (by decide)]; rfl] at h1
  exact h1
theorem of64_calls (w : World) (hT : BitTab w) : Calls Tryz.prog 74 #[.int .i64 (-6), .int .i64 4] w fun e w' => (∃ b, e = .returned (.tuple #[.pointer (some ⟨b, 0, none⟩), .nilIface]) ∧ RatAt w' (.pointer (some ⟨b, 0, none⟩)) (-3) 2) ∧ Gr w w' :=
  (ofRat_calls (-6) 4 w hT (by decide) (by decide) (by decide) (by decide)).mono (by
    rintro e w' ⟨⟨_, h⟩, hg⟩
    obtain ⟨b, n, d, rfl, hr, hnd, _⟩ := h (by decide)
    obtain ⟨e1, e2⟩ := rat_unique n (-3) (-6) 4 d 2 (by decide) hnd (by decide) hr.pos (by decide) hr.cop (by decide)
    subst e1
    subst e2
    exact ⟨⟨b, rfl, hr⟩, hg⟩)
theorem dig150 : Lib.decDigits 150 = [49, 53, 48] := digits_of [49, 53, 48] 150 (by decide) (by unfold Dig; decide) (by decide) (.inr (by decide))
theorem roundA_calls (v : Value) (w : World) (h : RatAt w v (-3) 2) (hT : PowTab w) : Calls Tryz.prog 94 #[v, .int .i64 2, .int .i64 1] w fun e w' => e = .returned (.tuple #[.string ⟨#[45, 49, 46, 53, 48]⟩, .nilIface]) ∧ Gr w w' := by
  have h1 := round_calls v (-3) 2 2 1 w h 1 (by decide) (by decide) (by decide) (by decide) (.inl rfl) hT
  rw [show placedL (sgn (decide ((-3 : Int) * ((10 ^ 2 : Nat) : Int) < 0)) (roundN ((-3 : Int) * ((10 ^ 2 : Nat) : Int)).natAbs 2 1)) 2 = [45, 49, 46, 53, 48] by
    rw [show sgn (decide ((-3 : Int) * ((10 ^ 2 : Nat) : Int) < 0)) (roundN ((-3 : Int) * ((10 ^ 2 : Nat) : Int)).natAbs 2 1) = -150 by decide]
    unfold placedL
    rw [if_pos (by decide), show (-150 : Int).natAbs = 150 from rfl, dig150]
    rfl] at h1
  exact h1
theorem unitsA_calls (v : Value) (w : World) (h : RatAt w v (-3) 2) : Calls Tryz.prog 96 #[v, .int .i64 2] w fun e w' => e = .returned (.tuple #[.int .i64 (-2), .nilIface]) ∧ Gr w w' :=
  units_calls v (-3) 2 2 w h 2 (by decide) (by decide) (by decide) (by decide) (.inr (.inl rfl)) (by decide)
theorem textR_calls (v : Value) (w : World) (h : RatAt w v (-3) 2) (hT : PowTab w) : Calls Tryz.prog 51 #[v] w fun e w' => e = .returned (.string ⟨#[45, 51, 47, 50]⟩) ∧ Gr w w' := by
  have h1 := textRat_calls v (-3) 2 w h 1 (by decide) (by decide) (by decide) (by decide) hT
  rw [show ratText (-3) 2 = [45, 51, 47, 50] by unfold ratText Lib.itoa; rw [if_neg (by decide), if_pos (by decide), show (-3 : Int).natAbs = 3 from rfl, Lib.decDigits_one (by decide), Lib.decDigits_one (by decide)]; rfl] at h1
  exact h1
theorem cmpR_calls (x y : Value) (w : World) (hx : RatAt w x (-3) 2) (hy : RatAt w y (-3) 2) : Calls Tryz.prog 103 #[x, y] w fun e w' => e = .returned (.int .i64 0) ∧ Gr w w' :=
  cmpRat_calls x y (-3) (-3) 2 2 w hx hy 1 (by decide) (by decide) (by decide) (by decide) (by decide)
theorem pow20_calls (v : Value) (w : World) (h : NatAt w v 10) : Calls Tryz.prog 104 #[v, .int .i64 20] w fun e w' => (∃ r, e = .returned r ∧ NatAt w' r 100000000000000000000) ∧ Gr w w' :=
  pow_calls v 10 20 w h 2 (by decide) (by decide) (by decide) (by decide) (by decide)
theorem root20_calls (v : Value) (w : World) (h : NatAt w v 100000000000000000000) : Calls Tryz.prog 105 #[v, .int .i64 2] w fun e w' => (∃ r, e = .returned r ∧ NatAt w' r 10000000000) ∧ Gr w w' :=
  (root_calls v 100000000000000000000 2 w h 2 (by decide) (by decide) (by decide) (by decide) (by decide)).mono (by
    rintro e w' ⟨⟨v', r, rfl, hr, h1, h2⟩, hg⟩
    have e1 := root_unique r 10000000000 2 100000000000000000000 h1 h2 (by decide) (by decide)
    subst e1
    exact ⟨⟨_, rfl, hr⟩, hg⟩)
theorem text11_calls (v : Value) (w : World) (h : NatAt w v 10000000000) (hT : PowTab w) : Calls Tryz.prog 101 #[v] w fun e w' => e = .returned (.string ⟨#[49, 48, 48, 48, 48, 48, 48, 48, 48, 48, 48]⟩) ∧ Gr w w' := by
  have h1 := text_nat v 10000000000 w h 1 (by decide) (by decide) (by decide) hT
  rw [digits_of [49, 48, 48, 48, 48, 48, 48, 48, 48, 48, 48] 10000000000 (by decide) (by unfold Dig; decide) (by decide) (.inr (by decide))] at h1
  exact h1
theorem mul30_calls (x y : Value) (w : World) (hx : NatAt w x (dv txt30 / 7)) (hy : NatAt w y 7) : Calls Tryz.prog 98 #[x, y] w fun e w' => (∃ r, e = .returned r ∧ NatAt w' r (dv txt30 / 7 * 7)) ∧ Gr w w' :=
  (mul_calls x y (dv txt30 / 7) 7 w hx hy 2 (by decide) (by decide) (by decide)).mono (by rintro e w' ⟨⟨r, rfl, hr⟩, hg⟩; exact ⟨⟨r, rfl, hr.at_⟩, hg⟩)
theorem add30_calls (x y : Value) (w : World) (hx : NatAt w x (dv txt30 / 7 * 7)) (hy : NatAt w y (dv txt30 % 7)) : Calls Tryz.prog 99 #[x, y] w fun e w' => (∃ r, e = .returned r ∧ NatAt w' r (dv txt30)) ∧ Gr w w' :=
  (add_calls x y (dv txt30 / 7 * 7) (dv txt30 % 7) w hx hy 2 (by decide) (by decide) (by decide)).mono (by rintro e w' ⟨⟨r, rfl, hr⟩, hg⟩; exact ⟨⟨r, rfl, by have := hr.at_; rw [show dv txt30 / 7 * 7 + dv txt30 % 7 = dv txt30 by decide] at this; exact this⟩, hg⟩)
theorem cmp30_calls (x y : Value) (w : World) (hx : NatAt w x (dv txt30)) (hy : NatAt w y (dv txt30)) : Calls Tryz.prog 100 #[x, y] w fun e w' => e = .returned (.int .i64 0) ∧ Gr w w' := by
  have h := cmp_calls x y (dv txt30) (dv txt30) w hx hy 2 (by decide) (by decide) (by decide)
  rw [cmpN_eq] at h
  exact h
end Go.Proofs.YtgejadnfeeoknaaGreatDoor
