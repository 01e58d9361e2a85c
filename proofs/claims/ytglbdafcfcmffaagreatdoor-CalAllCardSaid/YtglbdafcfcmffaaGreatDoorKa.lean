/- Layer 6: open days counted, the first open day on either side: plain. -/
import Derived.Test.YtglbdafcfcmffaaGreatDoorHg
namespace Go.Proofs.YtglbdafcfcmffaaGreatDoor
open Go.RowKit Go.Extern.Stop Go.Stop Go.Extern
set_option linter.unusedVariables false
set_option linter.unusedSimpArgs false

/-- How many of the days ahead of a day are open. -/
def opN (S : Int → Bool) : Nat → Int
  | 0 => 0
  | n + 1 => opN S n + if openB S (n : Int) then 1 else 0
def opU (S : Int → Bool) (d : Int) : Int := opN S d.toNat
theorem openB_range {S : Int → Bool} {d : Int} (h : openB S d = true) : 0 ≤ d ∧ d ≤ 109572 := by
  rcases (by omega : (0 ≤ d ∧ d ≤ 109572) ∨ (d < 0 ∨ 109572 < d)) with h1 | h1
  · exact h1
  · rw [openB_out h1] at h; cases h
theorem opU_zero (S : Int → Bool) (d : Int) (h : d ≤ 0) : opU S d = 0 := by unfold opU; rw [show d.toNat = 0 by omega]; rfl
theorem opU_succ (S : Int → Bool) (d : Int) (h : 0 ≤ d) : opU S (d + 1) = opU S d + if openB S d then 1 else 0 := by
  unfold opU
  rw [show (d + 1).toNat = d.toNat + 1 by omega]
  show opN S d.toNat + (if openB S ((d.toNat : Nat) : Int) then 1 else 0) = _
  rw [Int.toNat_of_nonneg h]
theorem opU_on {S : Int → Bool} {d : Int} (ho : openB S d = true) : opU S (d + 1) = opU S d + 1 := by
  rw [opU_succ S d (openB_range ho).1, if_pos ho]
theorem opU_off {S : Int → Bool} {d : Int} (ho : openB S d = false) : opU S (d + 1) = opU S d := by
  by_cases h : 0 ≤ d
  · rw [opU_succ S d h, ho]; simp
  · rw [opU_zero S d (by omega), opU_zero S (d + 1) (by omega)]
theorem opU_step (S : Int → Bool) (d : Int) : opU S d ≤ opU S (d + 1) ∧ opU S (d + 1) ≤ opU S d + 1 := by
  cases h : openB S d
  · rw [opU_off h]; omega
  · rw [opU_on h]; omega
theorem opU_to (S : Int → Bool) (a : Int) (n : Nat) : opU S a ≤ opU S (a + n) ∧ opU S (a + n) ≤ opU S a + n := by
  induction n with
  | zero => rw [show a + ((0 : Nat) : Int) = a by omega]; omega
  | succ n ih =>
    have h := opU_step S (a + n)
    rw [show a + ((n + 1 : Nat) : Int) = a + n + 1 by omega]
    omega
theorem opU_mono (S : Int → Bool) {a b : Int} (h : a ≤ b) : opU S a ≤ opU S b ∧ opU S b ≤ opU S a + (b - a) := by
  have h1 := opU_to S a (b - a).toNat
  rw [show a + ((b - a).toNat : Int) = b by omega] at h1
  omega
theorem opU_nonneg (S : Int → Bool) (d : Int) : 0 ≤ opU S d := by
  by_cases h : 0 ≤ d
  · have := (opU_mono S h).1; rw [opU_zero S 0 (by omega)] at this; exact this
  · rw [opU_zero S d (by omega)]; omega
theorem opU_shut {S : Int → Bool} {a b : Int} (h : a ≤ b) (hc : ∀ d, a ≤ d → d < b → openB S d = false) : opU S b = opU S a := by
  obtain ⟨n, rfl⟩ : ∃ n : Nat, b = a + n := ⟨(b - a).toNat, by omega⟩
  clear h
  induction n with
  | zero => rw [show a + ((0 : Nat) : Int) = a by omega]
  | succ n ih =>
    rw [show a + ((n + 1 : Nat) : Int) = a + n + 1 by omega, opU_off (hc (a + n) (by omega) (by omega))]
    exact ih fun d h1 h2 => hc d h1 (by omega)
theorem opU_end (S : Int → Bool) {d : Int} (h : 109573 ≤ d) : opU S d = opU S 109573 := opU_shut h fun e h1 _ => openB_out (.inr (by omega))
theorem opU_all (S : Int → Bool) (d : Int) : opU S d ≤ opU S 109573 := by
  by_cases h : d ≤ 109573
  · exact (opU_mono S h).1
  · rw [opU_end S (by omega)]; exact Int.le_refl _
theorem opU_lt {S : Int → Bool} {a b : Int} (ho : openB S a = true) (h : a < b) : opU S a + 1 ≤ opU S b := by
  have h1 := opU_on ho
  have h2 := (opU_mono S (show a + 1 ≤ b by omega)).1
  omega
theorem opU_none {S : Int → Bool} {a b : Int} (he : opU S b = opU S a) : ∀ d, a ≤ d → d < b → openB S d = false := by
  intro d h1 h2
  cases h : openB S d
  · rfl
  · have h3 := opU_lt h h2
    have h4 := (opU_mono S h1).1
    omega
/-- Two open days with as many open ones ahead of them are one. -/
theorem opU_uniq {S : Int → Bool} {a b : Int} (ha : openB S a = true) (hb : openB S b = true) (h : opU S a = opU S b) : a = b := by
  rcases (by omega : a < b ∨ a = b ∨ b < a) with e | e | e
  · have := opU_lt ha e; omega
  · exact e
  · have := opU_lt hb e; omega
/-- What Count answers. -/
def cntV (S : Int → Bool) (a b : Int) : Int := if a < b then opU S b - opU S a else 0
theorem cntV_lt {S : Int → Bool} {a b : Int} (h : a ≤ b) : cntV S a b = opU S b - opU S a := by
  unfold cntV
  split
  · rfl
  · rw [show a = b by omega]; omega
theorem cntV_ge {S : Int → Bool} {a b : Int} (h : b ≤ a) : cntV S a b = 0 := by
  unfold cntV; rw [if_neg (by omega)]
/-- The first open day from one on; -1: none. -/
def UpR (S : Int → Bool) (d r : Int) : Prop := (r = -1 ∧ opU S 109573 = opU S d) ∨ (d ≤ r ∧ r ≤ 109572 ∧ openB S r = true ∧ opU S r = opU S d)
/-- The last open day up to one; -1: none. -/
def DnR (S : Int → Bool) (d r : Int) : Prop := (r = -1 ∧ opU S (d + 1) = 0) ∨ (0 ≤ r ∧ r ≤ d ∧ openB S r = true ∧ opU S (r + 1) = opU S (d + 1))
theorem tow_upR {S : Int → Bool} {d r : Int} (h0 : 0 ≤ d) (h1 : d ≤ 109573) (h : TowF S (fun k => d + k) r) : UpR S d r := by
  have h : (r = -1 ∧ ∀ k : Nat, openB S (d + k) = false) ∨ ∃ k : Nat, r = d + k ∧ openB S r = true ∧ ∀ j : Nat, j < k → openB S (d + j) = false := h
  rcases h with ⟨rfl, hc⟩ | ⟨k, rfl, ho, hc⟩
  · refine .inl ⟨rfl, opU_shut h1 fun e h2 h3 => ?_⟩
    have := hc (e - d).toNat
    rw [show d + ((e - d).toNat : Int) = e by omega] at this
    exact this
  · have hr := openB_range ho
    refine .inr ⟨by omega, hr.2, ho, opU_shut (by omega) fun e h2 h3 => ?_⟩
    have := hc (e - d).toNat (by omega)
    rw [show d + ((e - d).toNat : Int) = e by omega] at this
    exact this
theorem tow_dnR {S : Int → Bool} {d r : Int} (h0 : 0 ≤ d) (h1 : d ≤ 109572) (h : TowF S (fun k => d - k) r) : DnR S d r := by
  have h : (r = -1 ∧ ∀ k : Nat, openB S (d - k) = false) ∨ ∃ k : Nat, r = d - k ∧ openB S r = true ∧ ∀ j : Nat, j < k → openB S (d - j) = false := h
  rcases h with ⟨rfl, hc⟩ | ⟨k, rfl, ho, hc⟩
  · refine .inl ⟨rfl, ?_⟩
    rw [opU_shut (a := 0) (by omega) fun e h2 h3 => ?_, opU_zero S 0 (by omega)]
    have := hc (d - e).toNat
    rw [show d - ((d - e).toNat : Int) = e by omega] at this
    exact this
  · have hr := openB_range ho
    refine .inr ⟨hr.1, by omega, ho, (opU_shut (by omega) fun e h2 h3 => ?_).symm⟩
    have := hc (d - e).toNat (by omega)
    rw [show d - ((d - e).toNat : Int) = e by omega] at this
    exact this
theorem upR_uniq {S : Int → Bool} {d r r' : Int} (h : UpR S d r) (h' : UpR S d r') : r = r' := by
  rcases h with ⟨rfl, a⟩ | ⟨a, b, c, e⟩
  · rcases h' with ⟨rfl, a'⟩ | ⟨a', b', c', e'⟩
    · rfl
    · have h1 := opU_lt c' (show r' < 109573 by omega); omega
  · rcases h' with ⟨rfl, a'⟩ | ⟨a', b', c', e'⟩
    · have h1 := opU_lt c (show r < 109573 by omega); omega
    · exact opU_uniq c c' (by omega)
theorem dnR_uniq {S : Int → Bool} {d r r' : Int} (h : DnR S d r) (h' : DnR S d r') : r = r' := by
  rcases h with ⟨rfl, a⟩ | ⟨a, b, c, e⟩
  · rcases h' with ⟨rfl, a'⟩ | ⟨a', b', c', e'⟩
    · rfl
    · have h1 := opU_on c'; have h2 := opU_nonneg S r'; omega
  · rcases h' with ⟨rfl, a'⟩ | ⟨a', b', c', e'⟩
    · have h1 := opU_on c; have h2 := opU_nonneg S r; omega
    · have h1 := opU_on c; have h2 := opU_on c'; exact opU_uniq c c' (by omega)
theorem upR_here {S : Int → Bool} {d : Int} (h : openB S d = true) : UpR S d d := .inr ⟨Int.le_refl _, (openB_range h).2, h, rfl⟩
theorem dnR_here {S : Int → Bool} {d : Int} (h : openB S d = true) : DnR S d d := .inr ⟨(openB_range h).1, Int.le_refl _, h, rfl⟩
/-- Where so many open days on, or back, lead; -1: nowhere. -/
def AddR (S : Int → Bool) (d n r : Int) : Prop :=
  (n = 0 ∧ r = d) ∨ (0 < n ∧ d < r ∧ openB S r = true ∧ opU S (r + 1) - opU S (d + 1) = n) ∨ (0 < n ∧ r = -1 ∧ opU S 109573 - opU S (d + 1) < n) ∨
  (n < 0 ∧ r < d ∧ openB S r = true ∧ opU S d - opU S r = -n) ∨ (n < 0 ∧ r = -1 ∧ opU S d < -n)
theorem addR_uniq {S : Int → Bool} {d n r r' : Int} (h : AddR S d n r) (h' : AddR S d n r') : r = r' := by
  rcases h with ⟨a, b⟩ | ⟨a, b, c, e⟩ | ⟨a, b, c⟩ | ⟨a, b, c, e⟩ | ⟨a, b, c⟩
  · rcases h' with ⟨a', b'⟩ | ⟨a', b', c', e'⟩ | ⟨a', b', c'⟩ | ⟨a', b', c', e'⟩ | ⟨a', b', c'⟩ <;> omega
  · rcases h' with ⟨a', b'⟩ | ⟨a', b', c', e'⟩ | ⟨a', b', c'⟩ | ⟨a', b', c', e'⟩ | ⟨a', b', c'⟩
    · omega
    · have h1 := opU_on c; have h2 := opU_on c'; exact opU_uniq c c' (by omega)
    · have h1 := opU_all S (r + 1); omega
    · omega
    · omega
  · rcases h' with ⟨a', b'⟩ | ⟨a', b', c', e'⟩ | ⟨a', b', c'⟩ | ⟨a', b', c', e'⟩ | ⟨a', b', c'⟩
    · omega
    · have h1 := opU_all S (r' + 1); omega
    · omega
    · omega
    · omega
  · rcases h' with ⟨a', b'⟩ | ⟨a', b', c', e'⟩ | ⟨a', b', c'⟩ | ⟨a', b', c', e'⟩ | ⟨a', b', c'⟩
    · omega
    · omega
    · omega
    · exact opU_uniq c c' (by omega)
    · have h1 := opU_nonneg S r; omega
  · rcases h' with ⟨a', b'⟩ | ⟨a', b', c', e'⟩ | ⟨a', b', c'⟩ | ⟨a', b', c', e'⟩ | ⟨a', b', c'⟩
    · omega
    · omega
    · omega
    · have h1 := opU_nonneg S r'; omega
    · omega
theorem addR_range {S : Int → Bool} {d n r : Int} (h0 : 0 ≤ d) (h1 : d ≤ 109572) (h : AddR S d n r) : r = -1 ∨ (0 ≤ r ∧ r ≤ 109572) := by
  rcases h with ⟨a, b⟩ | ⟨a, b, c, e⟩ | ⟨a, b, c⟩ | ⟨a, b, c, e⟩ | ⟨a, b, c⟩
  · exact .inr (by omega)
  · exact .inr (openB_range c)
  · exact .inl b
  · exact .inr (openB_range c)
  · exact .inl b
/-- So many on and as many back. -/
theorem addR_back {S : Int → Bool} {d k a b : Int} (h0 : 0 ≤ d) (hk : 0 ≤ k) (ha : AddR S d k a) (hb : AddR S a (-k) b) (hne : a ≠ -1) :
    (openB S d = true → b = d) ∧ (openB S d = false → b = -1 ∨ b ≤ d) := by
  rcases ha with ⟨a1, a2⟩ | ⟨a1, a2, a3, a4⟩ | ⟨a1, a2, a3⟩ | ⟨a1, a2, a3, a4⟩ | ⟨a1, a2, a3⟩
  · rcases hb with ⟨b1, b2⟩ | ⟨b1, b2, b3, b4⟩ | ⟨b1, b2, b3⟩ | ⟨b1, b2, b3, b4⟩ | ⟨b1, b2, b3⟩ <;> first | omega | (subst a2; exact ⟨fun _ => b2, fun _ => .inr (by omega)⟩)
  · have e1 := opU_on a3
    rcases hb with ⟨b1, b2⟩ | ⟨b1, b2, b3, b4⟩ | ⟨b1, b2, b3⟩ | ⟨b1, b2, b3, b4⟩ | ⟨b1, b2, b3⟩
    · omega
    · omega
    · omega
    · refine ⟨fun ho => ?_, fun hc => ?_⟩
      · have e2 := opU_on ho
        exact opU_uniq b3 ho (by omega)
      · have e2 := opU_off hc
        right
        rcases (by omega : b ≤ d ∨ d < b) with h | h
        · exact h
        · have := (opU_mono S (show d ≤ b by omega)).1
          omega
    · refine ⟨fun ho => ?_, fun hc => .inl b2⟩
      have e2 := opU_on ho
      have := opU_nonneg S d
      omega
  · omega
  · omega
  · omega
/-- What Add and roll.Day answer. -/
def atE (r : Int) : Ending := if r = -1 then .returned (.tuple #[.int .i64 0, .iface 187 (.int .i64 4)]) else .returned (.tuple #[.int .i64 r, .nilIface])
theorem atE_no : atE (-1) = .returned (.tuple #[.int .i64 0, .iface 187 (.int .i64 4)]) := rfl
theorem atE_ok {r : Int} (h : r ≠ -1) : atE r = .returned (.tuple #[.int .i64 r, .nilIface]) := if_neg h
end Go.Proofs.YtglbdafcfcmffaaGreatDoor
