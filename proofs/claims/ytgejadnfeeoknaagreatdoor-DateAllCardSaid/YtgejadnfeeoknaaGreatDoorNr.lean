/- Layer 2: width, bit by contract. -/
import Derived.Test.YtgejadnfeeoknaaGreatDoorNt
namespace Go.Proofs.YtgejadnfeeoknaaGreatDoor
open Go.RowKit Go.Extern.Stop Go.Stop Go.Extern
set_option linter.unusedVariables false
set_option linter.unusedSimpArgs false

/-- How many bits there are. -/
def wdN (n : Nat) : Nat := if n = 0 then 0 else Nat.log2 n + 1
theorem wdN_hi (n : Nat) : n < 2 ^ wdN n := by
  unfold wdN
  split
  · omega
  · exact Nat.lt_log2_self
theorem wdN_lo (n : Nat) (h : n ≠ 0) : 1 ≤ wdN n ∧ 2 ^ (wdN n - 1) ≤ n := by
  unfold wdN
  rw [if_neg h, Nat.add_sub_cancel]
  exact ⟨by omega, Nat.log2_self_le h⟩
theorem wdN_lo2 (n : Nat) (h : n ≠ 0) : 2 ^ (wdN n - 1) ≤ n := (wdN_lo n h).2
theorem wdN_of (n k : Nat) (h1 : 2 ^ (k - 1) ≤ n) (h2 : n < 2 ^ k) (hk : 1 ≤ k) : wdN n = k := by
  have h0 : n ≠ 0 := by have := Nat.two_pow_pos (k - 1); omega
  unfold wdN
  rw [if_neg h0, (Nat.log2_eq_iff h0).2 ⟨h1, by rw [show k - 1 + 1 = k by omega]; exact h2⟩]
  omega
theorem wdN_le (n k : Nat) (h : n < B ^ k) : wdN n ≤ 64 * k := by
  by_cases h0 : n = 0
  · subst h0; unfold wdN; simp
  · have h1 := wdN_lo2 n h0
    rw [B_pow64] at h
    have := (Nat.pow_lt_pow_iff_right (by decide : 1 < 2)).1 (Nat.lt_of_le_of_lt h1 h)
    omega

set_option maxRecDepth 100000 in
set_option maxHeartbeats 2000000 in
/-- (*Nat).width. -/
theorem width_calls (x : Value) (n : Nat) (w : World) (hx : NatAt w x n) (k : Nat) (hn : n < B ^ k) (hk : k ≤ 1000000) :
    Calls Tryz.prog 150 #[x] w fun e w' => e = .returned (.int .i64 (wdN n : Int)) ∧ w = w' := by
  obtain ⟨sa, p, sc, hl, hnm, hv, hcl⟩ := limbs_ex x n w hx
  have h1 := norm_length p hnm k (by rw [hv]; exact hn)
  have hz := norm_zero p hnm
  subst hv
  have HL := Lib.hid hcl
  have HP := Lib.hid hl
  clear hx hn hcl hl
  by_cases h0 : p.length = 0
  · have hp : p = [] := List.eq_nil_of_length_eq_zero h0
    subst hp
    rw [show wdN (val []) = 0 from rfl]
    rw [show ([] : List Nat).length = 0 from rfl] at HL
    clear h0 h1 hz hnm HP
    go_enter Tryz.func150, Tryz.ntmps150
    go_wp2_with (go_at_call 129; (with_reducible refine HL.out.mono ?_); rintro ev w1 ⟨rfl, rfl⟩)
    go_ret
    exact ⟨rfl, rfl⟩
  · have hlt : p.length - 1 < p.length := by omega
    obtain ⟨g, o, c, e1, hc⟩ := HP.out.get (Gr.rf w) (p.length - 1) hlt
    cases e1
    have hyB := getD_lt HP.out.1 (p.length - 1)
    have hy0 : p.getD (p.length - 1) 0 ≠ 0 := by
      intro h
      apply hnm
      rw [List.getLast?_eq_getElem?, List.getElem?_eq_getElem hlt]
      rw [List.getD_eq_getElem?_getD, List.getElem?_eq_getElem hlt] at h
      rw [← h]; rfl
    obtain ⟨s, hs, hs1, hs2, hlz⟩ := lz_calls _ (Nat.pos_of_ne_zero hy0) hyB
    obtain ⟨b1, b2⟩ := width_nums p _ s HP.out.1 (by omega) rfl hs hs1 hs2
    rw [wdN_of _ _ b1 b2 (by omega)]
    have HZ := Lib.hid hlz
    generalize p.getD (p.length - 1) 0 = y at hc HZ
    have t0 : ((p.length : Int) == 0) = false := beq_eq_false_iff_ne.2 (by omega)
    have t1 : ((p.length : Int) - 1).toNat = p.length - 1 := by omega
    have t2 : ((64 * p.length - s : Nat) : Int) = 64 * (p.length : Int) - (s : Int) := by omega
    rw [t2]
    clear hs1 hs2 hlz b1 b2 hyB hy0 hnm hz t2
    go_enter Tryz.func150, Tryz.ntmps150
    go_wp2_with (go_at_call 129; (with_reducible refine HL.out.mono ?_); rintro ev w1 ⟨rfl, rfl⟩)
    go_wp2_with (go_at_call 172; (with_reducible refine (HZ.out _).mono ?_); rintro ev w1 ⟨rfl, rfl⟩)
    go_ret
    exact ⟨rfl, rfl⟩

theorem val_bit (k : Nat) : val ((List.range (k / 64 + 1)).map fun j => if j = k / 64 then 2 ^ (k % 64) else 0) = 2 ^ k := by
  rw [val_map_succ, if_pos rfl, val_map_congr (G := fun _ => 0) (fun j hj => if_neg (by omega)), List.map_const', val_replicate, Nat.zero_add, B_pow64, ← Nat.pow_add]
  congr 1; omega

theorem shl_one (r : Nat) (hr : r ≤ 63) : IntKind.u64.wrap (2 ^ r) = ((2 ^ r : Nat) : Int) := by
  have := wrapN (2 ^ r) (by rw [B_pow]; exact Nat.pow_lt_pow_right (by decide) (by omega))
  rw [Int.natCast_pow] at this ⊢
  exact this
set_option maxRecDepth 100000 in
set_option maxHeartbeats 2000000 in
/-- nat.bit. -/
theorem bit_calls (k : Nat) (hk : k ≤ 60000000) (w : World) :
    Calls Tryz.prog 151 #[.int .i64 (k : Int)] w fun e w' => (∃ r, e = .returned r ∧ NatP w' r (2 ^ k)) ∧ Gr w w' := by
  have hv := val_bit k
  have e1 : (k : Int) / 64 = ((k / 64 : Nat) : Int) := by omega
  have e2 : (k : Int) % 64 = ((k % 64 : Nat) : Int) := by omega
  have hr : k % 64 ≤ 63 := by omega
  have hq : k / 64 ≤ 1000000 := by omega
  have hsh := shl_one (k % 64) hr
  have hlt : 2 ^ (k % 64) < B := by rw [B_pow]; exact Nat.pow_lt_pow_right (by decide) (by omega)
  generalize 2 ^ (k % 64) = P at hv hsh hlt
  generalize k % 64 = r at e2 hr hsh
  generalize k / 64 = q at hv e1 hq
  have hmk := make64 (q + 1) (by omega)
  have ec : ((q + 1 : Nat) : Int) = (q : Int) + 1 := by omega
  rw [ec] at hmk
  have hrow := rowU_made w (q + 1)
  have hcell := hrow.cell (i := q) (by omega)
  rw [show ((0 : Nat) : Int) = 0 from rfl] at hcell
  have hfr := World.rowIs.frozen hrow q
  have hset := hrow.set q P
  have hlim := hset.lim (fun j _ => by split; exact hlt; exact B_pos) (by omega)
  have hg : Gr w (w.alloc (.cells (madeCells #[.int .u64 0] (q + 1)) 105)) := (Gr.rf w).alloc (Nat.le_refl _) _
  have hg2 := hg.setCell (a := ⟨w.heap.size, q, none⟩) (Nat.le_refl _) (.int .u64 (P : Int))
  have hmd := made_calls _ _ _ hlim (by rw [List.length_map, List.length_range]; omega)
  rw [hv] at hmd
  rw [World.setCell_alloc_at _ _ _ _ _ rfl] at hmd hg2
  have HM := Lib.hid hmd
  have HG := Lib.hid hg2
  clear hmd hlim hset hrow hg hg2 hlt ec hv
  go_enter Tryz.func151, Tryz.ntmps151
  go_wp2_with (go_at_call 128; (with_reducible refine HM.out.mono ?_); rintro ev w1 ⟨⟨r1, rfl, hr1⟩, hg1⟩; have HR := Lib.hid hr1; clear hr1)
  go_ret
  exact ⟨⟨_, rfl, HR.out⟩, HG.out.tr hg1⟩
end Go.Proofs.YtgejadnfeeoknaaGreatDoor
