/- Layer 6: a day's text, read back; rentierlaw1.Text. -/
import Derived.Test.YtgejadnfeeoknaaGreatDoorMh
namespace Go.Proofs.YtgejadnfeeoknaaGreatDoor
open Go.RowKit Go.Extern.Stop Go.Stop Go.Extern
set_option linter.unusedVariables false
set_option linter.unusedSimpArgs false

theorem dg_ch (n : Nat) : dg (ch n) = (n : Int) % 10 := by unfold dg; rw [ch_nat]; omega
theorem ch_rng (n : Nat) : 48 ≤ (ch n).toNat ∧ (ch n).toNat ≤ 57 := by have := ch_nat n; omega
theorem dayL_ten (a b c : Nat) (h0 : 1000 ≤ a) (h1 : a < 10000) (hb : b < 100) (hc : c < 100) : dayL a b c = [ch (a / 10 / 10 / 10), ch (a / 10 / 10), ch (a / 10), ch a, 45, ch (b / 10), ch b, 45, ch (c / 10), ch c] := by
  unfold dayL
  rw [pad_four a h0 h1, pad_two b hb, pad_two c hc]
  rfl
theorem dayL_form (a b c : Nat) (h0 : 1000 ≤ a) (h1 : a < 10000) (hb : b < 100) (hc : c < 100) : formOk (dayL a b c) = true := by
  rw [dayL_ten a b c h0 h1 hb hc]
  refine formOk_yes rfl ?_
  have hd : ∀ k n, ¬ (k = 4 ∨ k = 7) → okC10 k (ch n) = true := fun k n hk => by
    have := ch_rng n
    unfold okC10; rw [if_neg hk]; exact decide_eq_true this
  intro k hk
  rcases (by omega : k = 0 ∨ k = 1 ∨ k = 2 ∨ k = 3 ∨ k = 4 ∨ k = 5 ∨ k = 6 ∨ k = 7 ∨ k = 8 ∨ k = 9) with rfl | rfl | rfl | rfl | rfl | rfl | rfl | rfl | rfl | rfl
  · exact hd _ _ (by decide)
  · exact hd _ _ (by decide)
  · exact hd _ _ (by decide)
  · exact hd _ _ (by decide)
  · rfl
  · exact hd _ _ (by decide)
  · exact hd _ _ (by decide)
  · rfl
  · exact hd _ _ (by decide)
  · exact hd _ _ (by decide)
theorem dayL_back {d y m k : Int} (h : IsDay d y m k) : getE (dayL y.toNat m.toNat k.toNat) = .returned (.tuple #[.int .i64 d, .nilIface]) := by
  obtain ⟨a, b, c, rfl, rfl, rfl, ha, ha', hb, hb', hc, hc'⟩ := isDay_nat h
  show getE (dayL a b c) = _
  unfold getE
  rw [dayL_form a b c (by omega) (by omega) (by omega) (by omega), if_pos rfl, dayL_ten a b c (by omega) (by omega) (by omega) (by omega)]
  have e4 : num4 (ch (a / 10 / 10 / 10)) (ch (a / 10 / 10)) (ch (a / 10)) (ch a) = (a : Int) := by unfold num4; rw [dg_ch, dg_ch, dg_ch, dg_ch]; omega
  have e2 : ∀ n : Nat, n < 100 → num2 (ch (n / 10)) (ch n) = (n : Int) := fun n hn => by unfold num2; rw [dg_ch, dg_ch]; omega
  show Ending.returned (.tuple #[.int .i64 (ofD (num4 (ch (a / 10 / 10 / 10)) (ch (a / 10 / 10)) (ch (a / 10)) (ch a)) (num2 (ch (b / 10)) (ch b)) (num2 (ch (c / 10)) (ch c))), ofE (num4 (ch (a / 10 / 10 / 10)) (ch (a / 10 / 10)) (ch (a / 10)) (ch a)) (num2 (ch (b / 10)) (ch b)) (num2 (ch (c / 10)) (ch c))]) = _
  rw [e4, e2 b (by omega), e2 c (by omega), ofD_day h, ofE_day h]
theorem dget_back {d y m k : Int} (h : IsDay d y m k) (w : World) : Calls Tryz.prog 41 #[.string ⟨(dayL y.toNat m.toNat k.toNat).toArray⟩] w fun e w' => e = .returned (.tuple #[.int .i64 d, .nilIface]) ∧ Gr w w' := by
  have hs : (⟨(dayL y.toNat m.toNat k.toNat).toArray⟩ : ByteArray).size = 10 := by
    obtain ⟨a, b, c, rfl, rfl, rfl, ha, ha', hb, hb', hc, hc'⟩ := isDay_nat h
    exact dayL_len a b c (by omega) (by omega) (by omega) (by omega)
  have hc := get_calls ⟨(dayL y.toNat m.toNat k.toNat).toArray⟩ (by rw [hs]; decide) w
  rw [show (⟨(dayL y.toNat m.toNat k.toNat).toArray⟩ : ByteArray).data.toList = dayL y.toNat m.toNat k.toNat from rfl, dayL_back h] at hc
  exact hc
def cut15 (s : ByteArray) : ByteArray := s.extract 0 (min (s.size : Int) 15).toNat
theorem cut15_size (s : ByteArray) : (cut15 s).size ≤ 15 := by unfold cut15; rw [ByteArray.size_extract]; omega
set_option maxRecDepth 100000 in
theorem cut15_calls (s : ByteArray) (hm : s.size ≤ 9223372036854775807) (w : World) : Calls Tryz.prog 39 #[.string s, .int .i64 15] w fun e w' => e = .returned (.string (cut15 s)) ∧ w = w' := by
  go_enter Tryz.func39, Tryz.ntmps39
  go_wp2
  go_ret
  exact ⟨rfl, rfl⟩
end Go.Proofs.YtgejadnfeeoknaaGreatDoor
