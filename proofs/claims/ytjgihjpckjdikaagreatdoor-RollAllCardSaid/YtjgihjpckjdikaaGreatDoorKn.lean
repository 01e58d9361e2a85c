/- Layer 6: within 329 days there is an open one, if rules and days are few: plain. -/
import Derived.Test.YtjgihjpckjdikaaGreatDoorKb
namespace Go.Proofs.YtjgihjpckjdikaaGreatDoor
open Go.RowKit Go.Extern.Stop Go.Stop Go.Extern
set_option linter.unusedVariables false
set_option linter.unusedSimpArgs false

theorem pigeon (f : Nat → Int) (hf : ∀ i j, i < j → f i ≠ f j) : ∀ (n : Nat) (L : List Int), (∀ i, i < n → f i ∈ L) → n ≤ L.length := by
  intro n
  induction n with
  | zero => exact fun L _ => Nat.zero_le _
  | succ n ih =>
    intro L h
    have hm := h n (by omega)
    have h1 := ih (L.erase (f n)) (fun i hi => (List.mem_erase_of_ne (hf i n hi)).2 (h i (by omega)))
    rw [List.length_erase_of_mem hm] at h1
    have := List.length_pos_of_mem hm
    omega
theorem flat_le {α β : Type} (f : α → List β) (n : Nat) : ∀ (l : List α), (∀ x ∈ l, (f x).length ≤ n) → (l.flatMap f).length ≤ l.length * n := by
  intro l
  induction l with
  | nil => intro _; simp
  | cons a l ih =>
    intro h
    rw [List.flatMap_cons, List.length_append, List.length_cons, Nat.succ_mul]
    have h1 := h a (List.mem_cons_self ..)
    have h2 := ih fun x hx => h x (List.mem_cons_of_mem _ hx)
    omega
/-- The days that rules and days shut, of four years. -/
def shutL (rs : List Ru) (ms : List Int) (y : Int) : List Int := ms ++ rs.flatMap fun r => [y - 1, y, y + 1, y + 2].filterMap fun j => holD r j
theorem shutL_le (rs : List Ru) (ms : List Int) (y : Int) : (shutL rs ms y).length ≤ ms.length + rs.length * 4 := by
  unfold shutL
  rw [List.length_append]
  have := flat_le (fun r => [y - 1, y, y + 1, y + 2].filterMap fun j => holD r j) 4 rs (fun r _ => List.length_filterMap_le ..)
  omega
theorem open_near {rs : List Ru} {ms : List Int} {S : Int → Bool} (h : ShutBy rs ms S) (hr : rs.length ≤ 8) (hm : ms.length ≤ 8) {a : Int} (h0 : 0 ≤ a) (h1 : a + 328 ≤ 109572) : ∃ e, a ≤ e ∧ e ≤ a + 328 ∧ openB S e = true := by
  refine Classical.byContradiction fun hno => ?_
  have hc : ∀ e, a ≤ e → e ≤ a + 328 → openB S e = false := fun e h2 h3 => by
    cases ho : openB S e
    · rfl
    · exact absurd ⟨e, h2, h3, ho⟩ hno
  obtain ⟨y, m, k, hd⟩ := isDay_of a h0 (by omega)
  have key := pigeon (fun i : Nat => a + (2 - a) % 7 + 7 * (i : Int)) (fun i j hij => by show a + (2 - a) % 7 + 7 * (i : Int) ≠ a + (2 - a) % 7 + 7 * (j : Int); omega) 47 (shutL rs ms y) (fun i hi => by
    obtain ⟨e, he⟩ : ∃ e, a + (2 - a) % 7 + 7 * (i : Int) = e := ⟨_, rfl⟩
    show a + (2 - a) % 7 + 7 * (i : Int) ∈ _
    rw [he]
    have hcl := hc e (by omega) (by omega)
    have hS : S e = true := by
      unfold openB at hcl
      rw [decide_eq_true (show 0 ≤ e ∧ e ≤ 109572 by omega), show (e + 1) % 7 = 3 by omega] at hcl
      cases hs : S e
      · rw [hs] at hcl; simp at hcl
      · rfl
    obtain ⟨y', m', k', hd'⟩ := isDay_of e (by omega) (by omega)
    have hy : y ≤ y' ∧ y' ≤ y + 1 := by
      have a1 := isDay_in_year hd
      have a2 := isDay_in_year hd'
      refine ⟨?_, ?_⟩
      · by_cases c : y ≤ y'
        · exact c
        · have := befY_mono (y' + 1) y (by omega); omega
      · by_cases c : y' ≤ y + 1
        · exact c
        · have := befY_mono (y + 2) y' (by omega)
          have := befY_mono (y + 1) (y + 2) (by omega)
          omega
    unfold shutL
    rw [List.mem_append]
    rcases (h e).1 hS with h2 | ⟨r, hr, j, _, _, h3⟩
    · exact .inl h2
    · right
      have hn := (holD_near h3 hd').1
      refine List.mem_flatMap.2 ⟨r, hr, List.mem_filterMap.2 ⟨j, ?_, h3⟩⟩
      rcases (by omega : j = y - 1 ∨ j = y ∨ j = y + 1 ∨ j = y + 2) with rfl | rfl | rfl | rfl <;> simp)
  have := shutL_le rs ms y
  omega
theorem cum_near (p q m : Int) (h0 : 1 ≤ m) (h1 : m ≤ 12) : cumM p m ≤ cumM q m + 1 := by
  have a := lp_01 p
  have b := lp_01 q
  have e2 : ∀ y, lenM y 2 = 28 + lp y := fun y => by simp [lenM]
  rcases (by omega : m = 1 ∨ m = 2 ∨ m = 3 ∨ m = 4 ∨ m = 5 ∨ m = 6 ∨ m = 7 ∨ m = 8 ∨ m = 9 ∨ m = 10 ∨ m = 11 ∨ m = 12) with rfl | rfl | rfl | rfl | rfl | rfl | rfl | rfl | rfl | rfl | rfl | rfl <;> simp [cumM, cumN, lenM] <;> omega
/-- Of two days of one month's name so near to one another that no day between is open, the year is one. -/
theorem same_year {rs : List Ru} {ms : List Int} {S : Int → Bool} (h : ShutBy rs ms S) (hr : rs.length ≤ 8) (hm : ms.length ≤ 8) {d u y m k y' k' : Int} (hd : IsDay d y m k) (hu : IsDay u y' m k') (hc : ∀ e, d ≤ e → e < u → openB S e = false) (hc' : ∀ e, u < e → e ≤ d → openB S e = false) : y = y' := by
  have a1 := isDay_range hd
  have a2 := isDay_range hu
  have b1 := month_of_day hd
  have b2 := month_of_day hu
  have f1 := endN_first y m
  have f2 := endN_first y' m
  have l1 := lenM_bd y m
  have l2 := lenM_bd y' m
  have far : ∀ p q : Int, p < q → dayN p m 1 + 364 ≤ dayN q m 1 := fun p q hpq => by
    unfold dayN
    have g1 := befY_mono p q (by omega)
    have g5 := cum_near p q m hd.2.2.1 hd.2.2.2.1
    omega
  rcases Int.lt_trichotomy y y' with e | e | e
  · have := far y y' e
    obtain ⟨x, hx0, hx1, hx2⟩ := open_near h hr hm (a := d) a1.1 (by omega)
    rw [hc x hx0 (by omega)] at hx2
    cases hx2
  · exact e
  · have := far y' y e
    obtain ⟨x, hx0, hx1, hx2⟩ := open_near h hr hm (a := u + 1) (by omega) (by omega)
    rw [hc' x (by omega) (by omega)] at hx2
    cases hx2
end Go.Proofs.YtjgihjpckjdikaaGreatDoor
