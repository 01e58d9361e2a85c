/- Layer 2: TrailingZeros64, Clone, and the greatest common divisor's helpers at numbers of one limb. -/
import Derived.Test.YtgejadnfeeoknaaGreatDoorNk
import Derived.Test.YtgejadnfeeoknaaGreatDoorGf
import Derived.Shelf.Spec.TrailingZeros
import Derived.Lib.SliceRun
import Derived.Lib.Walk
import Derived.Below
namespace Go.Proofs.YtgejadnfeeoknaaGreatDoor
open Go.RowKit Go.Extern.Stop Go.Stop Go.Extern
set_option linter.unusedVariables false
set_option linter.unusedSimpArgs false

theorem RowU.gr {w w' : World} {b n : Nat} {F : Nat → Nat} (h : RowU w b n F) (hg : Gr w w') : RowU w' b n F := World.rowIs.of_block h (hg.block b (World.rowIs.lt h))
theorem of0_calls (w : World) : Calls Tryz.prog 92 #[.int .u64 0] w fun e w' => (∃ r, e = .returned r ∧ NatP w' r 0) ∧ Gr w w' := of_nat_calls 0 B_pos w
theorem of1_calls (w : World) : Calls Tryz.prog 92 #[.int .u64 1] w fun e w' => (∃ r, e = .returned r ∧ NatP w' r 1) ∧ Gr w w' := of_nat_calls 1 (by decide) w
/-- The table of math/bits in its variable. -/
def BitTab (w : World) : Prop := TabAt 7 Lib.deBruijn64tab w
theorem BitTab.gr {w w' : World} (h : BitTab w) (hg : Gr w w') : BitTab w' := fun j hj => (hg.cell (World.block_lt_of_cell? w _ (h j hj))).trans (h j hj)

set_option maxRecDepth 100000 in
theorem tz64_walk (x k idx : Nat) (w : World) (hx0 : ((x : Int) == 0) = false)
    (key : IntKind.u64.wrap (bits BinOp.and IntKind.u64 (x : Int) (IntKind.u64.wrap (-(x : Int))) * 285870213051353865) / 288230376151711744 = (idx : Int))
    (hi : idx < 64) (hk : k < 64) (hcell : w.cell? ⟨7, idx, none⟩ = some (.int .u8 k)) :
    Calls Tryz.prog 212 #[.int .u64 x] w fun e w' => e = .returned (.int .i64 k) ∧ w = w' := by
  go_enter Tryz.func212, Tryz.ntmps212
  go_wp2_with (simp only [key])
  go_ret
  exact ⟨rfl, rfl⟩
theorem tz_ex (x : Nat) (h0 : x ≠ 0) (hx : x < B) : ∃ t o : Nat, x = 2 ^ t * o ∧ o % 2 = 1 ∧ t ≤ 63 ∧
    ∀ w, BitTab w → Calls Tryz.prog 212 #[.int .u64 (x : Int)] w fun e w' => e = .returned (.int .i64 (t : Int)) ∧ w = w' := by
  obtain ⟨m, hm, hlt⟩ := Lib.ctzFrom_spec 64 x (by omega) (by rw [B_eq] at hx; omega)
  refine ⟨Lib.ctz 64 x, 2 * m + 1, by unfold Lib.ctz; rw [if_neg h0]; exact hm, by omega, by unfold Lib.ctz; rw [if_neg h0]; omega, fun w hT => ?_⟩
  rw [B_eq] at hx
  obtain ⟨hlow, hk⟩ := Lib.lowest_bit 64 x h0 hx
  obtain ⟨hi, htab⟩ := Lib.deBruijn64_at _ hk
  have hcell := hT _ hi
  rw [htab] at hcell
  exact tz64_walk x _ _ w (by simp; omega) (tz64_key x _ hx h0 hlow) hi hk hcell

set_option maxRecDepth 100000 in
set_option maxHeartbeats 2000000 in
/-- slices.Clone of limbs. -/
theorem clone_calls (g o n c : Nat) (zs : List Nat) (w : World) (hz : zs.length = n) (hbig : n ≤ 1000000) (hc : ∀ j, j < zs.length → w.cell? ⟨g, o + j, none⟩ = some (.int .u64 ((zs.getD j 0 : Nat) : Int))) :
    Calls Tryz.prog 145 #[.slice (some ⟨g, o, none⟩) n c] w fun e w' => ∃ v', e = .returned v' ∧ w'.ownsRow w.heap.size 105 1 v' n (zs.map U) ∧ Below w.heap.size w w' := by
  obtain ⟨i0, hi, hz0, hz1, hz2⟩ := info_parts info45
  have t24 := under24
  have q22 : ∀ (w : World) (a : Option Addr) (n c n' c' : Nat), (binOp .eql 151 (.slice a n c) (.slice none n' c')).run Tryz.prog w = .ok (.bool a.isNone) w := fun w a n c n' c' => Lib.run_eql_slice_nil w _ _ a n c n' c' t24
  have A := Lib.hid hc
  have HZ := Lib.hid hz
  clear hc hz
  go_enter Tryz.func145, Tryz.ntmps145
  go_wp2_with (at_builtin; refine wpList_append_own _ rfl _ _ 151 rfl w.heap.size 105 i0 (.int .u64 0) 1 8 t24 hi hz0 hz1 hz2 rfl (by decide) _ _ _ rfl (World.ownsRow_made w #[] 0 (Nat.le_refl _) (Nat.zero_le _) rfl) ⟨g, o, none⟩ n c (zs.map U) rfl ?qc1 ?qc2 ?qc3 ?qc4 ?qc5 ?qc6 ?_)
  case qc1 => simp; exact HZ.out
  case qc2 =>
    intro j u hj
    have hjn : j < zs.length := by
      have := (List.getElem?_eq_some_iff.1 hj).1
      simpa using this
    rw [Addr.add_lit]
    refine Lib.cell?_alloc_some _ ?_
    rw [A.out j hjn]
    have e : (zs.map U)[j]? = some (.int .u64 ((zs.getD j 0 : Nat) : Int)) := by simp [List.getD, List.getElem?_eq_getElem hjn, U]
    rw [e] at hj
    exact hj
  case qc3 => intro u hu; obtain ⟨x, _, rfl⟩ := List.mem_map.1 hu; rfl
  case qc4 => unfold maxLen; omega
  case qc5 => omega
  case qc6 => simp
  intro v' w1 hown hgrow hnil
  go_wp2
  go_ret
  refine ⟨v', rfl, by simpa using hown, ?_⟩
  exact ((Below.refl _ w).alloc (Nat.le_refl _) _).grown hgrow (by simp) (by intro k hk; simp [Value.ownBlock] at hk; omega)
theorem Gr.below {w w' : World} (h : Below w.heap.size w w') : Gr w w' := ⟨h.os, h.tape, h.output, h.size, fun i hi => h.block i hi⟩

set_option maxRecDepth 100000 in
/-- nat.made of one limb that is not 0. -/
theorem made1_calls (g o c x : Nat) (w : World) (h0 : x ≠ 0) (hc : w.cell? ⟨g, o, none⟩ = some (.int .u64 (x : Int))) (h1 : 1 ≤ c) :
    Calls Tryz.prog 128 #[.slice (some ⟨g, o, none⟩) 1 c] w fun e w' => e = .returned (.pointer (some ⟨w.heap.size, 0, none⟩)) ∧ w' = w.alloc (.cells #[.slice (some ⟨g, o, none⟩) 1 c] 173) := by
  have hb : ((x : Int) == 0) = false := beq_eq_false_iff_ne.2 (by omega)
  have HC := Lib.hid hc
  clear h0 hc
  go_enter Tryz.func128, Tryz.ntmps128
  go_wp2
  go_loopg [0] 0 (fun k v wr => v = .slice (some ⟨g, o, none⟩) 1 c ∧ wr = w)
  case atStart => exact ⟨rfl, rfl⟩
  case round =>
    obtain ⟨rfl, rfl⟩ := hrel
    have hc := HC.out
    go_wp2
    go_ret
    exact ⟨rfl, rfl⟩

set_option maxRecDepth 100000 in
/-- nat.twos of one limb. -/
theorem twos1_ex (x : Nat) (h0 : x ≠ 0) (hx : x < B) : ∃ t p : Nat, x = 2 ^ t * p ∧ p % 2 = 1 ∧ t ≤ 63 ∧
    ∀ (g o c : Nat) (w : World), BitTab w → w.cell? ⟨g, o, none⟩ = some (.int .u64 (x : Int)) →
      Calls Tryz.prog 194 #[.slice (some ⟨g, o, none⟩) 1 c] w fun e w' => e = .returned (.int .i64 (t : Int)) ∧ w = w' := by
  obtain ⟨t, p, e1, e2, ht, hcl⟩ := tz_ex x h0 hx
  refine ⟨t, p, e1, e2, ht, fun g o c w hT hc => ?_⟩
  have HT := Lib.hid (hcl w hT)
  have hb : ((x : Int) == 0) = false := beq_eq_false_iff_ne.2 (by omega)
  have HC := Lib.hid hc
  clear hcl e1 e2 h0 hx hT hc
  go_enter Tryz.func194, Tryz.ntmps194
  go_wp2
  go_loopg [3] 0 (fun k i wr => i = .int .i64 0 ∧ wr = w)
  case atStart => exact ⟨rfl, rfl⟩
  case round =>
    obtain ⟨rfl, rfl⟩ := hrel
    have hc := HC.out
    go_wp2_with (go_at_call 212; (with_reducible refine HT.out.mono ?_); rintro ev w1 ⟨rfl, rfl⟩)
    go_ret
    exact ⟨rfl, rfl⟩
end Go.Proofs.YtgejadnfeeoknaaGreatDoor
