/- Layer 6: a day's text read back; the days that the law DateKnown names, the Easters that EasterKnown names: plain. -/
import Derived.Test.YtjgihjpckjdikaaGreatDoorMe
import Derived.Test.YtjgihjpckjdikaaGreatDoorHh
import Derived.Lib.ConvBytes
namespace Go.Proofs.YtjgihjpckjdikaaGreatDoor
open Go.RowKit Go.Extern.Stop Go.Stop Go.Extern
set_option linter.unusedVariables false
set_option linter.unusedSimpArgs false

theorem get_calls (s : ByteArray) (hm : s.size ≤ 9223372036854775807) (w : World) : Calls Tryz.prog 45 #[.string s] w fun e w' => e = getE s.data.toList ∧ Gr w w' := by
  by_cases hs : s.size = 10
  · exact get_ten s hs w
  · exact get_len s hs hm w
theorem ch_nat (n : Nat) : ((ch n).toNat : Int) = 48 + (n : Int) % 10 := by
  unfold ch
  have h := Nat.mod_lt n (by decide : 0 < 10)
  show (((48 + n % 10) % 256 : Nat) : Int) = _
  omega
theorem dg_ch (n : Nat) : dg (ch n) = (n : Int) % 10 := by unfold dg; rw [ch_nat]; omega
theorem ch_rng (n : Nat) : 48 ≤ (ch n).toNat ∧ (ch n).toNat ≤ 57 := by have := ch_nat n; omega
theorem dayL_ten (a b c : Nat) (h0 : 1000 ≤ a) (h1 : a < 10000) (hb : b < 100) (hc : c < 100) : dayL a b c = [ch (a / 10 / 10 / 10), ch (a / 10 / 10), ch (a / 10), ch a, 45, ch (b / 10), ch b, 45, ch (c / 10), ch c] := by
  unfold dayL
  rw [pad_four a h0 h1, pad_two b hb, pad_two c hc]
  rfl
theorem dayL_form (a b c : Nat) (h0 : 1000 ≤ a) (h1 : a < 10000) (hb : b < 100) (hc : c < 100) : formOk (dayL a b c) = true := by
  rw [dayL_ten a b c h0 h1 hb hc]
  refine formOk_yes rfl ?_
  have hd : ∀ k n, ¬ (k = 4 ∨ k = 7) → okC10 k (ch n) = true := fun k n hk => by
    have := ch_rng n
    unfold okC10; rw [if_neg hk]; exact decide_eq_true this
  intro k hk
  rcases (by omega : k = 0 ∨ k = 1 ∨ k = 2 ∨ k = 3 ∨ k = 4 ∨ k = 5 ∨ k = 6 ∨ k = 7 ∨ k = 8 ∨ k = 9) with rfl | rfl | rfl | rfl | rfl | rfl | rfl | rfl | rfl | rfl
  · exact hd _ _ (by decide)
  · exact hd _ _ (by decide)
  · exact hd _ _ (by decide)
  · exact hd _ _ (by decide)
  · rfl
  · exact hd _ _ (by decide)
  · exact hd _ _ (by decide)
  · rfl
  · exact hd _ _ (by decide)
  · exact hd _ _ (by decide)
theorem dayL_back {d y m k : Int} (h : IsDay d y m k) : getE (dayL y.toNat m.toNat k.toNat) = .returned (.tuple #[.int .i64 d, .nilIface]) := by
  obtain ⟨a, b, c, rfl, rfl, rfl, ha, ha', hb, hb', hc, hc'⟩ := isDay_nat h
  show getE (dayL a b c) = _
  unfold getE
  rw [dayL_form a b c (by omega) (by omega) (by omega) (by omega), if_pos rfl, dayL_ten a b c (by omega) (by omega) (by omega) (by omega)]
  have e4 : num4 (ch (a / 10 / 10 / 10)) (ch (a / 10 / 10)) (ch (a / 10)) (ch a) = (a : Int) := by unfold num4; rw [dg_ch, dg_ch, dg_ch, dg_ch]; omega
  have e2 : ∀ n : Nat, n < 100 → num2 (ch (n / 10)) (ch n) = (n : Int) := fun n hn => by unfold num2; rw [dg_ch, dg_ch]; omega
  show Ending.returned (.tuple #[.int .i64 (ofD (num4 (ch (a / 10 / 10 / 10)) (ch (a / 10 / 10)) (ch (a / 10)) (ch a)) (num2 (ch (b / 10)) (ch b)) (num2 (ch (c / 10)) (ch c))), ofE (num4 (ch (a / 10 / 10 / 10)) (ch (a / 10 / 10)) (ch (a / 10)) (ch a)) (num2 (ch (b / 10)) (ch b)) (num2 (ch (c / 10)) (ch c))]) = _
  rw [e4, e2 b (by omega), e2 c (by omega), ofD_day h, ofE_day h]
theorem dget_back {d y m k : Int} (h : IsDay d y m k) (w : World) : Calls Tryz.prog 45 #[.string ⟨(dayL y.toNat m.toNat k.toNat).toArray⟩] w fun e w' => e = .returned (.tuple #[.int .i64 d, .nilIface]) ∧ Gr w w' := by
  have hs : (⟨(dayL y.toNat m.toNat k.toNat).toArray⟩ : ByteArray).size = 10 := by
    obtain ⟨a, b, c, rfl, rfl, rfl, ha, ha', hb, hb', hc, hc'⟩ := isDay_nat h
    exact dayL_len a b c (by omega) (by omega) (by omega) (by omega)
  have hc := get_calls ⟨(dayL y.toNat m.toNat k.toNat).toArray⟩ (by rw [hs]; decide) w
  rw [show (⟨(dayL y.toNat m.toNat k.toNat).toArray⟩ : ByteArray).data.toList = dayL y.toNat m.toNat k.toNat from rfl, dayL_back h] at hc
  exact hc
/-- A day as the law names it: year, month, day, weekday, number. -/
structure Known where
  y : Nat
  m : Nat
  k : Nat
  wd : Int
  d : Int
def knownOk (x : Known) : Bool := decide (ofD x.y x.m x.k = x.d ∧ OkC x.y x.m x.k ∧ (x.d + 1) % 7 = x.wd)
def knowns : List Known := [⟨1900, 1, 1, 1, 0⟩, ⟨1969, 7, 20, 0, 25402⟩, ⟨2000, 1, 1, 6, 36524⟩, ⟨2024, 2, 29, 4, 45349⟩, ⟨2026, 11, 16, 1, 46340⟩, ⟨2100, 3, 1, 1, 73108⟩, ⟨2199, 12, 31, 2, 109572⟩]
theorem knowns_ok : ∀ x ∈ knowns, knownOk x = true := List.all_eq_true.1 (show knowns.all knownOk = true by decide +kernel)
theorem known_day {x : Known} (h : x ∈ knowns) : IsDay x.d x.y x.m x.k ∧ (x.d + 1) % 7 = x.wd := by
  obtain ⟨h1, h2, h3⟩ := of_decide_eq_true (knowns_ok x h)
  have h4 := okC_day h2
  rw [← ofD_ok h2, h1] at h4
  exact ⟨h4, h3⟩
/-- A text of the right form that is of no day. -/
theorem dayL_no (a b c : Nat) (h0 : 1000 ≤ a) (h1 : a < 10000) (hb : b < 100) (hc : c < 100) (h : ¬ OkC a b c) : getE (dayL a b c) = .returned (.tuple #[.int .i64 0, .iface 97 (.int .i64 4)]) := by
  unfold getE
  rw [dayL_form a b c h0 h1 hb hc, if_pos rfl, dayL_ten a b c h0 h1 hb hc]
  have e4 : num4 (ch (a / 10 / 10 / 10)) (ch (a / 10 / 10)) (ch (a / 10)) (ch a) = (a : Int) := by unfold num4; rw [dg_ch, dg_ch, dg_ch, dg_ch]; omega
  have e2 : ∀ n : Nat, n < 100 → num2 (ch (n / 10)) (ch n) = (n : Int) := fun n hn => by unfold num2; rw [dg_ch, dg_ch]; omega
  show Ending.returned (.tuple #[.int .i64 (ofD (num4 (ch (a / 10 / 10 / 10)) (ch (a / 10 / 10)) (ch (a / 10)) (ch a)) (num2 (ch (b / 10)) (ch b)) (num2 (ch (c / 10)) (ch c))), ofE (num4 (ch (a / 10 / 10 / 10)) (ch (a / 10 / 10)) (ch (a / 10)) (ch a)) (num2 (ch (b / 10)) (ch b)) (num2 (ch (c / 10)) (ch c))]) = _
  rw [e4, e2 b hb, e2 c hc, ofD_no h, ofE_no h]
theorem no_2100 : getE (dayL 2100 2 29) = .returned (.tuple #[.int .i64 0, .iface 97 (.int .i64 4)]) := dayL_no 2100 2 29 (by decide) (by decide) (by decide) (by decide) (by decide)
theorem no_1899 : getE (dayL 1899 12 31) = .returned (.tuple #[.int .i64 0, .iface 97 (.int .i64 4)]) := dayL_no 1899 12 31 (by decide) (by decide) (by decide) (by decide) (by decide)
/-- Easter Sundays as the law EasterKnown names them. -/
def easters : List (Int × Int × Int) := [(1900, 4, 15), (1943, 4, 25), (1961, 4, 2), (2000, 4, 23), (2008, 3, 23), (2019, 4, 21), (2024, 3, 31), (2025, 4, 20), (2038, 4, 25)]
theorem easters_ok : ∀ x ∈ easters, decide (eastAt x.1 / 31 = x.2.1 ∧ eastAt x.1 % 31 + 1 = x.2.2) = true := List.all_eq_true.1 (show (easters.all fun x => decide (eastAt x.1 / 31 = x.2.1 ∧ eastAt x.1 % 31 + 1 = x.2.2)) = true by decide +kernel)
end Go.Proofs.YtjgihjpckjdikaaGreatDoor
