/- Layer 6: (*Cal).Count, roll.toward back, roll.stays, roll.Day by every rule, by contract. -/
import Derived.Test.YtjgihjpckjdikaaGreatDoorKb
namespace Go.Proofs.YtjgihjpckjdikaaGreatDoor
open Go.RowKit Go.Extern.Stop Go.Stop Go.Extern
set_option linter.unusedVariables false
set_option linter.unusedSimpArgs false

theorem cnt_clip (S : Int → Bool) (a b x : Int) (h0 : max a 0 ≤ x) (h1 : x ≤ min b 109573 ∨ x = max a 0) (h2 : ¬ x < min b 109573) : opU S x - opU S (max a 0) = cntV S a b := by
  have ea : opU S a = opU S (max a 0) := by
    rcases (by omega : a < 0 ∨ 0 ≤ a) with h | h
    · rw [opU_zero S a (by omega), opU_zero S (max a 0) (by omega)]
    · rw [show max a 0 = a by omega]
  have eb : opU S b = opU S (min b 109573) := by
    rcases (by omega : b ≤ 109573 ∨ 109573 < b) with h | h
    · rw [show min b 109573 = b by omega]
    · rw [opU_end S (show 109573 ≤ b by omega), show min b 109573 = 109573 by omega]
  by_cases hl : max a 0 < min b 109573
  · rw [show x = min b 109573 by omega, ← eb, ← ea, cntV_lt (by omega)]
  · rw [show x = max a 0 by omega]
    by_cases hab : a < b
    · rw [cntV_lt (by omega)]
      have h3 := (opU_mono S (show a ≤ b by omega)).1
      have h4 := (opU_mono S (show min b 109573 ≤ max a 0 by omega)).1
      omega
    · rw [cntV_ge (by omega)]; omega
set_option maxRecDepth 100000 in
set_option maxHeartbeats 1000000 in
/-- (*Cal).Count. -/
theorem count_calls (v : Value) (S : Int → Bool) (a b : Int) (ha : -10000000 ≤ a) (ha' : a ≤ 10000000) (hb : -10000000 ≤ b) (hb' : b ≤ 10000000) (w : World) (h : CalAt w v S) :
    Calls Tryz.prog 36 #[v, .int .i64 a, .int .i64 b] w fun e w' => e = .returned (.int .i64 (cntV S a b)) ∧ w = w' := by
  have HO := Lib.hid (fun (x : Int) p q => open_calls v S x p q w h)
  have HC := Lib.hid (cnt_clip S a b)
  obtain ⟨A, hA, hA2⟩ : ∃ A, max a 0 = A ∧ ((a < 0 ∧ A = 0) ∨ (0 ≤ a ∧ A = a)) := ⟨_, rfl, by omega⟩
  obtain ⟨B, hB, hB2⟩ : ∃ B, min b 109573 = B ∧ ((b ≤ 109573 ∧ B = b) ∨ (109573 < b ∧ B = 109573)) := ⟨_, rfl, by omega⟩
  have hA0 : 0 ≤ A := by omega
  have hA1 : A ≤ 10000000 := by omega
  have hB1 : B ≤ 109573 := by omega
  rw [hA, hB] at HC
  clear h hA hB
  rcases hA2 with ⟨ha2, rfl⟩ | ⟨ha2, rfl⟩ <;> rcases hB2 with ⟨hb2, rfl⟩ | ⟨hb2, rfl⟩
  · go_enter Tryz.func36, Tryz.ntmps36
    go_wp2
    go_loopg [7, 8] (B - 0).toNat (fun g s4 s5 wr => ∃ x : Int, g = (B - x).toNat ∧ 0 ≤ x ∧ (x ≤ B ∨ x = 0) ∧ s5 = .int .i64 x ∧ s4 = .int .i64 (opU S x - opU S 0) ∧ wr = w)
    case atStart => exact ⟨0, rfl, Int.le_refl _, .inr rfl, rfl, by rw [Int.sub_self], rfl⟩
    case round =>
      obtain ⟨x, hg, hx0, hx1, rfl, rfl, rfl⟩ := hrel
      have HGX := Lib.hid hg
      have hm := opU_mono S hx0
      clear hg
      by_cases hlt : x < B
      · have ho := HO.out x (by omega) (by omega)
        have bl : decide (x < B) = true := decide_eq_true hlt
        cases hop : openB S x with
        | true =>
          rw [hop] at ho
          have HOP := Lib.hid ho
          have HS := Lib.hid (opU_on hop)
          clear ho hop
          go_wp2_with (go_at_call 27; (with_reducible refine HOP.out.mono ?_); rintro ev w1 ⟨rfl, rfl⟩)
          go_roundg (gk - 1)
          case measure => have := HGX.out; omega
          case rel => exact ⟨x + 1, by have := HGX.out; omega, by omega, by omega, rfl, by rw [HS.out]; congr 1; omega, rfl⟩
        | false =>
          rw [hop] at ho
          have HOP := Lib.hid ho
          have HS := Lib.hid (opU_off hop)
          clear ho hop
          go_wp2_with (go_at_call 27; (with_reducible refine HOP.out.mono ?_); rintro ev w1 ⟨rfl, rfl⟩)
          go_roundg (gk - 1)
          case measure => have := HGX.out; omega
          case rel => exact ⟨x + 1, by have := HGX.out; omega, by omega, by omega, rfl, by rw [HS.out], rfl⟩
      · have bl : decide (x < B) = false := decide_eq_false hlt
        have hc := HC.out x hx0 hx1 (by omega)
        rw [hc]
        have HS := Lib.hid hc
        clear hm hc
        go_wp2
        go_ret
        exact ⟨rfl, rfl⟩
  · go_enter Tryz.func36, Tryz.ntmps36
    go_wp2
    go_loopg [7, 8] ((109573 : Int) - 0).toNat (fun g s4 s5 wr => ∃ x : Int, g = ((109573 : Int) - x).toNat ∧ 0 ≤ x ∧ (x ≤ (109573 : Int) ∨ x = 0) ∧ s5 = .int .i64 x ∧ s4 = .int .i64 (opU S x - opU S 0) ∧ wr = w)
    case atStart => exact ⟨0, rfl, Int.le_refl _, .inr rfl, rfl, by rw [Int.sub_self], rfl⟩
    case round =>
      obtain ⟨x, hg, hx0, hx1, rfl, rfl, rfl⟩ := hrel
      have HGX := Lib.hid hg
      have hm := opU_mono S hx0
      clear hg
      by_cases hlt : x < (109573 : Int)
      · have ho := HO.out x (by omega) (by omega)
        have bl : decide (x < (109573 : Int)) = true := decide_eq_true hlt
        cases hop : openB S x with
        | true =>
          rw [hop] at ho
          have HOP := Lib.hid ho
          have HS := Lib.hid (opU_on hop)
          clear ho hop
          go_wp2_with (go_at_call 27; (with_reducible refine HOP.out.mono ?_); rintro ev w1 ⟨rfl, rfl⟩)
          go_roundg (gk - 1)
          case measure => have := HGX.out; omega
          case rel => exact ⟨x + 1, by have := HGX.out; omega, by omega, by omega, rfl, by rw [HS.out]; congr 1; omega, rfl⟩
        | false =>
          rw [hop] at ho
          have HOP := Lib.hid ho
          have HS := Lib.hid (opU_off hop)
          clear ho hop
          go_wp2_with (go_at_call 27; (with_reducible refine HOP.out.mono ?_); rintro ev w1 ⟨rfl, rfl⟩)
          go_roundg (gk - 1)
          case measure => have := HGX.out; omega
          case rel => exact ⟨x + 1, by have := HGX.out; omega, by omega, by omega, rfl, by rw [HS.out], rfl⟩
      · have bl : decide (x < (109573 : Int)) = false := decide_eq_false hlt
        have hc := HC.out x hx0 hx1 (by omega)
        rw [hc]
        have HS := Lib.hid hc
        clear hm hc
        go_wp2
        go_ret
        exact ⟨rfl, rfl⟩
  · go_enter Tryz.func36, Tryz.ntmps36
    go_wp2
    go_loopg [7, 8] (B - A).toNat (fun g s4 s5 wr => ∃ x : Int, g = (B - x).toNat ∧ A ≤ x ∧ (x ≤ B ∨ x = A) ∧ s5 = .int .i64 x ∧ s4 = .int .i64 (opU S x - opU S A) ∧ wr = w)
    case atStart => exact ⟨A, rfl, Int.le_refl _, .inr rfl, rfl, by rw [Int.sub_self], rfl⟩
    case round =>
      obtain ⟨x, hg, hx0, hx1, rfl, rfl, rfl⟩ := hrel
      have HGX := Lib.hid hg
      have hm := opU_mono S hx0
      clear hg
      by_cases hlt : x < B
      · have ho := HO.out x (by omega) (by omega)
        have bl : decide (x < B) = true := decide_eq_true hlt
        cases hop : openB S x with
        | true =>
          rw [hop] at ho
          have HOP := Lib.hid ho
          have HS := Lib.hid (opU_on hop)
          clear ho hop
          go_wp2_with (go_at_call 27; (with_reducible refine HOP.out.mono ?_); rintro ev w1 ⟨rfl, rfl⟩)
          go_roundg (gk - 1)
          case measure => have := HGX.out; omega
          case rel => exact ⟨x + 1, by have := HGX.out; omega, by omega, by omega, rfl, by rw [HS.out]; congr 1; omega, rfl⟩
        | false =>
          rw [hop] at ho
          have HOP := Lib.hid ho
          have HS := Lib.hid (opU_off hop)
          clear ho hop
          go_wp2_with (go_at_call 27; (with_reducible refine HOP.out.mono ?_); rintro ev w1 ⟨rfl, rfl⟩)
          go_roundg (gk - 1)
          case measure => have := HGX.out; omega
          case rel => exact ⟨x + 1, by have := HGX.out; omega, by omega, by omega, rfl, by rw [HS.out], rfl⟩
      · have bl : decide (x < B) = false := decide_eq_false hlt
        have hc := HC.out x hx0 hx1 (by omega)
        rw [hc]
        have HS := Lib.hid hc
        clear hm hc
        go_wp2
        go_ret
        exact ⟨rfl, rfl⟩
  · go_enter Tryz.func36, Tryz.ntmps36
    go_wp2
    go_loopg [7, 8] ((109573 : Int) - A).toNat (fun g s4 s5 wr => ∃ x : Int, g = ((109573 : Int) - x).toNat ∧ A ≤ x ∧ (x ≤ (109573 : Int) ∨ x = A) ∧ s5 = .int .i64 x ∧ s4 = .int .i64 (opU S x - opU S A) ∧ wr = w)
    case atStart => exact ⟨A, rfl, Int.le_refl _, .inr rfl, rfl, by rw [Int.sub_self], rfl⟩
    case round =>
      obtain ⟨x, hg, hx0, hx1, rfl, rfl, rfl⟩ := hrel
      have HGX := Lib.hid hg
      have hm := opU_mono S hx0
      clear hg
      by_cases hlt : x < (109573 : Int)
      · have ho := HO.out x (by omega) (by omega)
        have bl : decide (x < (109573 : Int)) = true := decide_eq_true hlt
        cases hop : openB S x with
        | true =>
          rw [hop] at ho
          have HOP := Lib.hid ho
          have HS := Lib.hid (opU_on hop)
          clear ho hop
          go_wp2_with (go_at_call 27; (with_reducible refine HOP.out.mono ?_); rintro ev w1 ⟨rfl, rfl⟩)
          go_roundg (gk - 1)
          case measure => have := HGX.out; omega
          case rel => exact ⟨x + 1, by have := HGX.out; omega, by omega, by omega, rfl, by rw [HS.out]; congr 1; omega, rfl⟩
        | false =>
          rw [hop] at ho
          have HOP := Lib.hid ho
          have HS := Lib.hid (opU_off hop)
          clear ho hop
          go_wp2_with (go_at_call 27; (with_reducible refine HOP.out.mono ?_); rintro ev w1 ⟨rfl, rfl⟩)
          go_roundg (gk - 1)
          case measure => have := HGX.out; omega
          case rel => exact ⟨x + 1, by have := HGX.out; omega, by omega, by omega, rfl, by rw [HS.out], rfl⟩
      · have bl : decide (x < (109573 : Int)) = false := decide_eq_false hlt
        have hc := HC.out x hx0 hx1 (by omega)
        rw [hc]
        have HS := Lib.hid hc
        clear hm hc
        go_wp2
        go_ret
        exact ⟨rfl, rfl⟩
set_option maxRecDepth 100000 in
set_option maxHeartbeats 1000000 in
/-- roll.toward, back. -/
theorem tow_dn (c : Value) (S : Int → Bool) (d : Int) (h0 : -1 ≤ d) (h1 : d ≤ 109572) (w : World) (h : CalAt w c S) :
    Calls Tryz.prog 64 #[c, .int .i64 d, .int .i64 (-1)] w (Tow S (fun k => d - k) w) := by
  have HO := Lib.hid (fun (x : Int) a b => open_calls c S x a b w h)
  clear h
  go_enter Tryz.func64, Tryz.ntmps64
  go_wp2
  go_loopg [1] (d + 1).toNat (fun g s1 wr => ∃ k : Nat, (g : Int) = (d - k) + 1 ∧ -1 ≤ d - k ∧ s1 = .int .i64 (d - k) ∧ Hid (∀ j : Nat, j < k → openB S (d - j) = false) ∧ wr = w)
  case atStart => exact ⟨0, by omega, by omega, by rw [show d - ((0 : Nat) : Int) = d by omega], Lib.hid (fun j hj => absurd hj (Nat.not_lt_zero _)), rfl⟩
  case round =>
    obtain ⟨k, hg, hk, rfl, HN, rfl⟩ := hrel
    have HGK := Lib.hid hg
    clear hg
    obtain ⟨x, hx⟩ : ∃ x : Int, d - k = x := ⟨_, rfl⟩
    have HX := Lib.hid hx
    have hx0 : x ≤ 109572 := by omega
    have hx1 : -1 ≤ x := by omega
    rw [hx]
    clear hx hk
    by_cases hr : 0 ≤ x
    · have hw := fun w => weekday_calls x w hr hx0
      have hz0 := Int.emod_nonneg (x + 1) (show (7 : Int) ≠ 0 by decide)
      generalize (x + 1) % 7 = z at hw hz0
      have HW := Lib.hid hw
      have bz : decide (0 ≤ z) = true := decide_eq_true hz0
      clear hw
      have ho := HO.out x (by omega) (by omega)
      cases hop : openB S x with
      | true =>
        rw [hop] at ho
        have HOP := Lib.hid ho
        have HT : Hid (TowF S (fun k => d - k) x) := Lib.hid (.inr ⟨k, HX.out.symm, hop, fun j hj => HN.out j hj⟩)
        clear ho hop
        go_wp2_with (first | (go_at_call 46; (with_reducible refine (HW.out _).mono ?_); rintro ev w1 ⟨rfl, rfl⟩) | (go_at_call 27; (with_reducible refine HOP.out.mono ?_); rintro ev w1 ⟨rfl, rfl⟩))
        go_ret
        exact ⟨x, rfl, HT.out, rfl⟩
      | false =>
        rw [hop] at ho
        have HOP := Lib.hid ho
        have HN2 : Hid (∀ j : Nat, j < k + 1 → openB S (d - j) = false) := Lib.hid (fun j hj => by
          by_cases e : j = k
          · rw [e, HX.out]; exact hop
          · exact HN.out j (by omega))
        clear ho hop
        go_wp2_with (first | (go_at_call 46; (with_reducible refine (HW.out _).mono ?_); rintro ev w1 ⟨rfl, rfl⟩) | (go_at_call 27; (with_reducible refine HOP.out.mono ?_); rintro ev w1 ⟨rfl, rfl⟩))
        go_roundg (gk - 1)
        case measure => have := HGK.out; have := HX.out; omega
        case rel => exact ⟨k + 1, by have := HGK.out; have := HX.out; omega, by have := HX.out; omega, by congr 1; have := HX.out; omega, HN2, rfl⟩
    · have hw := Lib.hid (fun w => weekday_no x w (by omega))
      have HT : Hid (TowF S (fun k => d - k) (-1)) := Lib.hid (.inl ⟨rfl, fun j => by
        by_cases e : j < k
        · exact HN.out j e
        · show openB S (d - (j : Int)) = false
          exact openB_out (.inl (by have := HX.out; omega))⟩)
      go_wp2_with (go_at_call 46; (with_reducible refine (hw.out _).mono ?_); rintro ev w1 ⟨rfl, rfl⟩)
      go_ret
      exact ⟨-1, rfl, HT.out, rfl⟩
/-- .. as the plain texts tell them. -/
theorem towUp_calls (c : Value) (S : Int → Bool) (d : Int) (h0 : 0 ≤ d) (h1 : d ≤ 109573) (w : World) (h : CalAt w c S) :
    Calls Tryz.prog 64 #[c, .int .i64 d, .int .i64 1] w fun e w' => (∃ u, e = .returned (.int .i64 u) ∧ UpR S d u ∧ (u = -1 ∨ (0 ≤ u ∧ u ≤ 109572))) ∧ w = w' :=
  (tow_up c S d h0 h1 w h).mono fun e w' (hh : Tow S _ w e w') => by
    obtain ⟨u, rfl, hu, rfl⟩ := hh
    have hU := tow_upR h0 h1 hu
    exact ⟨⟨u, rfl, hU, hU.elim (fun h => .inl h.1) fun h => .inr ⟨by omega, h.2.1⟩⟩, rfl⟩
theorem towDn_calls (c : Value) (S : Int → Bool) (d : Int) (h0 : 0 ≤ d) (h1 : d ≤ 109572) (w : World) (h : CalAt w c S) :
    Calls Tryz.prog 64 #[c, .int .i64 d, .int .i64 (-1)] w fun e w' => (∃ u, e = .returned (.int .i64 u) ∧ DnR S d u ∧ (u = -1 ∨ (0 ≤ u ∧ u ≤ 109572))) ∧ w = w' :=
  (tow_dn c S d (by omega) h1 w h).mono fun e w' (hh : Tow S _ w e w') => by
    obtain ⟨u, rfl, hu, rfl⟩ := hh
    have hU := tow_dnR h0 h1 hu
    exact ⟨⟨u, rfl, hU, hU.elim (fun h => .inl h.1) fun h => .inr ⟨h.1, by omega⟩⟩, rfl⟩
set_option maxRecDepth 100000 in
set_option maxHeartbeats 1000000 in
theorem stays_days (a d y m k y' m' k' : Int) (h : IsDay a y m k) (h' : IsDay d y' m' k') (w : World) :
    Calls Tryz.prog 65 #[.int .i64 a, .int .i64 d] w fun e w' => e = .returned (.bool (decide (y = y' ∧ m = m'))) ∧ Gr w w' := by
  have HC := Lib.hid (fun w => civil_calls a y m k h w)
  have HD := Lib.hid (fun w => civil_calls d y' m' k' h' w)
  clear h h'
  obtain ⟨b1, hb1, e1⟩ : ∃ b, (y == y') = b ∧ decide (y = y') = b := ⟨_, rfl, by by_cases e : y = y' <;> simp [e]⟩
  obtain ⟨b2, hb2, e2⟩ : ∃ b, (m == m') = b ∧ decide (m = m') = b := ⟨_, rfl, by by_cases e : m = m' <;> simp [e]⟩
  have HE := Lib.hid (show decide (y = y' ∧ m = m') = (b1 && b2) by rw [← e1, ← e2]; by_cases u : y = y' <;> by_cases v : m = m' <;> simp [u, v])
  rw [HE.out]
  clear e1 e2
  cases b1 <;> cases b2
  all_goals
    go_enter Tryz.func65, Tryz.ntmps65
    go_wp2_with ((go_at_call 17; (with_reducible refine (HC.out _).mono ?_); rintro ev w1 ⟨rfl, hg1⟩))
    have hblk : (w1.alloc (.cells #[.int .i64 y, .int .i64 m, .int .i64 k] 23)).heap[w1.heap.size]? = some (.cells #[.int .i64 y, .int .i64 m, .int .i64 k] 23 (0, 0)) := heap_alloc_new w1 _
    have hga : Gr w (w1.alloc (.cells #[.int .i64 y, .int .i64 m, .int .i64 k] 23)) := hg1.tr ((Gr.rf w1).alloc (Nat.le_refl _) _)
    generalize w1.alloc (.cells #[.int .i64 y, .int .i64 m, .int .i64 k] 23) = W1 at hblk hga ⊢
    generalize w1.heap.size = bb at hblk ⊢
    have HBK := Lib.hid hblk
    have HGA := Lib.hid hga
    clear hga hblk hg1
    go_wp2_with fail
    refine (HD.out _).mono ?_
    rintro ev w2 ⟨rfl, hg2⟩
    have hb2 := hg2.heap HBK.out
    have c0 := heap_cell hb2 0
    have c1 := heap_cell hb2 1
    have HG2 := Lib.hid hg2
    have hlt := cells_lt hb2
    have hn1 : bb ≠ w2.heap.size := by omega
    have hn2 : w2.heap.size ≠ bb := by omega
    clear hb2 hg2
    go_wp2
    go_ret
    exact ⟨by first | rfl | simp_all, (HGA.out.tr HG2.out).tr ((Gr.rf w2).alloc (Nat.le_refl _) _)⟩
end Go.Proofs.YtjgihjpckjdikaaGreatDoor
