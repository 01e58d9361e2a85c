/- Layer 2's reference: trim, OfU by contract. -/
import Derived.Test.YtglbdafcfcmffaaGreatDoorQc
import Derived.Test.YtglbdafcfcmffaaGreatDoorGj
namespace Go.Proofs.YtglbdafcfcmffaaGreatDoor
open Go.RowKit Go.Extern.Stop Go.Stop Go.Extern Go.Sort
set_option linter.unusedVariables false
set_option linter.unusedSimpArgs false

/-- A number of the reference behind a slice. -/
def RN (w : World) (v : Value) (n : Nat) : Prop := Lim w v (Dg.digs n)
theorem RN.gr {w w' : World} (hg : Gr w w') {v : Value} {n : Nat} (h : RN w v n) : RN w' v n := Lim.gr hg h
theorem RN.mk {w : World} {v : Value} {l : List Nat} {n : Nat} (h : Lim w v l) (hd : Dg.Limbs l) (hn : Norm l) (hv : Dg.val l = n) : RN w v n := by
  subst hv
  unfold RN
  rw [Dg.digs_val l hd hn]
  exact h
theorem underN : Tryz.prog.underlying 48 = some (.slice 60) := by kernel_rfl

set_option maxRecDepth 100000 in
set_option maxHeartbeats 1000000 in
/-- rentierref2.trim. -/
theorem rtrim_calls (v : Value) (l : List Nat) (w : World) (h : Lim w v l) (hdd : Dg.Limbs l) (hsz : l.length ≤ 1000000000) :
    Calls Tryz.prog 124 #[v] w fun e w' => (∃ r, e = .returned r ∧ RN w' r (Dg.val l)) ∧ w = w' := by
  have HDD := Lib.hid hdd
  have H := Lib.hid h
  obtain ⟨a, c, rfl⟩ := h.slice
  clear h hdd
  go_enter Tryz.func124, Tryz.ntmps124
  go_wp2
  go_loopg [0] l.length (fun k v wr => ∃ l', k = l'.length ∧ l'.length ≤ l.length ∧ Lim w v l' ∧ Dg.val l' = Dg.val l ∧ Hid (Dg.Limbs l') ∧ w = wr)
  case atStart => exact ⟨l, rfl, Nat.le_refl _, H.out, rfl, HDD, rfl⟩
  case round =>
    obtain ⟨l', hk, hle, hl, hv, HDL, rfl⟩ := hrel
    obtain ⟨a', c', rfl⟩ := hl.slice
    have HV := Lib.hid hv
    have HK := Lib.hid hk
    have HL := Lib.hid hl
    clear hv hk
    by_cases hne : 0 < l'.length
    · rcases hl.2 with ⟨h1, h2⟩ | ⟨g, o, c'', h1, h2, h3, h4, h5⟩
      · subst h2; simp at hne
      cases h1
      have hx : l'.getLast? = some (l'[l'.length - 1]'(by omega)) := by rw [List.getLast?_eq_getElem?, List.getElem?_eq_getElem (by omega)]
      have hc : w.cell? ⟨g, o + (l'.length - 1), none⟩ = some (.int .u64 ((l'[l'.length - 1]'(by omega) : Nat) : Int)) := h5 _ (by omega)
      generalize l'[l'.length - 1]'(by omega) = x at hx hc
      have HX := Lib.hid hx
      clear hx
      have hsub : ((l'.length : Int) - 1).toNat = l'.length - 1 := by omega
      have h5' := Lib.hid h5
      clear h5
      by_cases hx0 : x = 0
      · have hb : ((x : Int) == 0) = true := beq_iff_eq.2 (by omega)
        go_wp2
        go_roundg (l'.length - 1)
        case measure => have := HK.out; omega
        case rel => exact ⟨l'.take (l'.length - 1), by rw [List.length_take]; omega, by rw [List.length_take]; omega, by have := HL.out.take (l'.length - 1) (by omega); exact this, by rw [← HV.out, ← List.dropLast_eq_take, Dg.val_drop_last _ (by rw [HX.out, hx0])], Lib.hid (Dg.limbs_take HDL.out _), rfl⟩
      · have hb : ((x : Int) == 0) = false := beq_eq_false_iff_ne.2 (by omega)
        have HX0 := Lib.hid hx0
        clear hx0
        go_wp2
        go_ret
        exact ⟨⟨_, rfl, RN.mk HL.out HDL.out (by unfold Norm; rw [HX.out]; intro h; injection h with h; exact HX0.out h) HV.out⟩, rfl⟩
    · have hnil : l' = [] := List.eq_nil_of_length_eq_zero (by omega)
      have HNL := Lib.hid hnil
      clear hnil
      go_wp2
      go_ret
      exact ⟨⟨_, rfl, RN.mk HL.out HDL.out (by rw [HNL.out]; simp [Norm]) HV.out⟩, rfl⟩

set_option maxRecDepth 100000 in
set_option maxHeartbeats 1000000 in
/-- rentierref2.OfU. -/
theorem ofU_calls (x : Nat) (hx : x < B) (w : World) :
    Calls Tryz.prog 39 #[.int .u64 (x : Int)] w fun e w' => (∃ r, e = .returned r ∧ RN w' r x) ∧ Gr w w' := by
  obtain ⟨i0, hi, hz0, hz1, hz2⟩ := info_parts info45
  have hl3 : (Dg.digs x).length ≤ 3 := Dg.digs_len x 3 (Nat.lt_trans hx (by decide))
  rw [B_eq] at hx
  go_enter Tryz.func39, Tryz.ntmps39
  go_wp2
  go_loopg [0, 3] x (fun g sx sn wr => ∃ (y : Nat) (p : List Nat), g = y ∧ sx = .int .u64 (y : Int) ∧ y ≤ x ∧ Hid (Dg.digs x = p ++ Dg.digs y) ∧ Hid (wr.ownsRow w.heap.size 60 1 sn p.length (p.map U)) ∧ Hid (Gr w wr))
  case atStart => exact ⟨x, [], rfl, rfl, Nat.le_refl _, Lib.hid rfl, Lib.hid (World.ownsRow_nil _ _ _ _), Lib.hid (Gr.rf w)⟩
  case round =>
    obtain ⟨y, p, hg, rfl, hyx, HD, HOW, HG⟩ := hrel
    have HGG := Lib.hid hg
    have hpl : p.length + (Dg.digs y).length ≤ 3 := by have := congrArg List.length HD.out; rw [List.length_append] at this; omega
    clear hg
    by_cases hy : 0 < y
    · have b1 : decide ((0 : Int) < (y : Int)) = true := decide_eq_true (by omega)
      have e1 : (y : Int) % 1000000000 = ((y % 1000000000 : Nat) : Int) := by omega
      have e2 : (y : Int) / 1000000000 = ((y / 1000000000 : Nat) : Int) := by omega
      have HDP := Lib.hid (Dg.digs_pos y hy)
      have hs := HG.out.size
      have hq : y % 1000000000 < B := by rw [B_eq]; omega
      obtain ⟨q, hqq⟩ : ∃ q, y % 1000000000 = q := ⟨_, rfl⟩
      obtain ⟨z, hzz⟩ : ∃ z, y / 1000000000 = z := ⟨_, rfl⟩
      have hzy : z < y := by omega
      rw [hqq] at e1 hq
      rw [hzz] at e2
      have HD2 : Hid (Dg.digs x = (p ++ [q]) ++ Dg.digs z) := Lib.hid (by rw [HD.out, HDP.out, List.append_assoc]; show p ++ (y % 1000000000) :: Dg.digs (y / 1000000000) = _; rw [hqq, hzz]; rfl)
      clear hqq hzz
      go_wp2_with (at_builtin; refine wpList_append_own _ rfl _ _ 48 rfl w.heap.size 60 i0 (.int .u64 0) 1 8 underN hi hz0 hz1 hz2 rfl (by decide) _ _ _ rfl (HOW.out.alloc _) ⟨wr.heap.size, 0, none⟩ 1 1 [.int .u64 (q : Int)] rfl rfl (cell_one_new _ _ _) (fun x hx => by simp at hx; subst hx; rfl) (by simp only [maxLen]; omega) (by omega) (by simp; omega) ?_; intro v' w2 hown1 hgrow _)
      have HOW2 := Lib.hid hown1
      have HG2 := Lib.hid (show Gr w w2 from Below.grown (HG.out.tr ((Gr.rf wr).alloc (Nat.le_refl _) _)) hgrow (by have := HG.out.size; simp; omega) (fun j hj => (HOW.out.lt j hj).1))
      clear hown1 hgrow
      go_wp2
      go_roundg z
      case measure => have := HGG.out; omega
      case rel => exact ⟨z, p ++ [q], rfl, by first | rfl | (rw [e2]), by omega, HD2, Lib.hid (by rw [List.map_append, List.length_append]; exact HOW2.out), HG2⟩
    · have b1 : decide ((0 : Int) < (y : Int)) = false := decide_eq_false (by omega)
      obtain rfl : y = 0 := by omega
      have HF := Lib.hid (HD.out.trans (by rw [Dg.digs_zero, List.append_nil]))
      have HL := Lib.hid (lim_own HOW.out (by rw [← HF.out]; exact Dg.limbs_B (Dg.digs_limbs x)))
      clear hy
      go_wp2
      go_ret
      exact ⟨⟨_, rfl, by unfold RN; rw [HF.out]; exact HL.out⟩, HG.out⟩
end Go.Proofs.YtglbdafcfcmffaaGreatDoor
