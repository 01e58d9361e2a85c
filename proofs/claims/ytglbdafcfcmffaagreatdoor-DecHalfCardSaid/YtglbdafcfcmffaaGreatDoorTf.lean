/- Layer 2: a number in a block of one's own; odd, less by contract. -/
import Derived.Test.YtglbdafcfcmffaaGreatDoorTe
import Derived.Test.YtglbdafcfcmffaaGreatDoorTc
namespace Go.Proofs.YtglbdafcfcmffaaGreatDoor
open Go.RowKit Go.Extern.Stop Go.Stop Go.Extern
set_option linter.unusedVariables false
set_option linter.unusedSimpArgs false

/-- A number behind a slice of a block of one's own. -/
def OwnN (w : World) (g N : Nat) (v : Value) (x : Nat) : Prop := ∃ o n c F, v = .slice (some ⟨g, o, none⟩) n c ∧ OwnF w g N F ∧ o + n ≤ N ∧ n ≤ c ∧ c ≤ 9223372036854775807 ∧ n ≤ 1000000 ∧ (∀ j, F j < B) ∧
  (n = 0 ∨ F (o + (n - 1)) ≠ 0) ∧ rv B (fun j => F (o + j)) n = x
theorem OwnN.of_block {w w' : World} {g N x : Nat} {v : Value} (h : OwnN w g N v x) (e : w'.heap[g]? = w.heap[g]?) : OwnN w' g N v x := by
  obtain ⟨o, n, c, F, h1, h2, h3⟩ := h
  exact ⟨o, n, c, F, h1, h2.of_block e, h3⟩
theorem OwnN.lt {w : World} {g N x : Nat} {v : Value} (h : OwnN w g N v x) : g < w.heap.size := by
  obtain ⟨o, n, c, F, h1, h2, h3⟩ := h
  exact h2.lt
theorem OwnN.gr {w w' : World} {g N x : Nat} {v : Value} (h : OwnN w g N v x) (hg : Gr w w') : OwnN w' g N v x := h.of_block (hg.block g h.lt)
theorem OwnN.grown {w w' : World} {g k N x : Nat} {v : Value} (h : OwnN w g N v x) (hg : w.grownBy w' (some k)) (hne : g ≠ k) : OwnN w' g N v x := h.of_block (hg.block g h.lt (fun e => hne (by injection e)))
theorem row_norm (F : Nat → Nat) (n : Nat) (h : n = 0 ∨ F (n - 1) ≠ 0) : Norm ((List.range n).map F) := by
  unfold Norm
  cases n with
  | zero => simp
  | succ n =>
    rw [List.range_succ, List.map_append, List.map_cons, List.map_nil, List.getLast?_concat]
    intro e
    injection e with e
    rcases h with h | h
    · omega
    · exact h e
theorem OwnN.lim {w : World} {g N x : Nat} {v : Value} (h : OwnN w g N v x) : ∃ l, Lim w v l ∧ Norm l ∧ val l = x ∧ l.length ≤ 1000000 := by
  obtain ⟨o, n, c, F, rfl, h2, h3, h4, h5, h6, h7, h8, h9⟩ := h
  refine ⟨(List.range n).map fun j => F (o + j), h2.lim o n c (fun j _ => h7 _) h3 h4 h5, row_norm _ _ h8, by rw [rv_val]; exact h9, by simpa using h6⟩
theorem grown_gr0 {b w w' : World} {g : Nat} (h : Gr b w) (hg : w.grownBy w' (some g)) (hb : b.heap.size ≤ g) : Gr b w' := grown_gr h hg hb
/-- The row of what is shifted, nought beyond its end. -/
def upTo (F : Nat → Nat) (o n i : Nat) : Nat := if i < n then F (o + i) else 0
theorem upTo_in {F : Nat → Nat} {o n i : Nat} (h : i < n) : upTo F o n i = F (o + i) := if_pos h
theorem upTo_out {F : Nat → Nat} {o n i : Nat} (h : ¬ i < n) : upTo F o n i = 0 := if_neg h
theorem upTo_lt {F : Nat → Nat} {o n : Nat} (h : ∀ j, F j < B) (i : Nat) : upTo F o n i < B := by
  unfold upTo; split
  · exact h _
  · exact B_pos
theorem odd_last (t : Nat) (R : Nat → Nat) (i : Nat) (h : R (i + 1) = 0) : shr t R i = R i / 2 ^ t := by unfold shr; rw [h, Nat.zero_mod, Nat.zero_mul, Nat.add_zero]
theorem two_exp (t p t' p' : Nat) (h : 2 ^ t * p = 2 ^ t' * p') (hp : p % 2 = 1) (hp' : p' % 2 = 1) : t = t' := by
  have e := two_unique t p t' p' h hp hp'
  subst e
  have h2 := Nat.eq_of_mul_eq_mul_right (by omega : 0 < p') h
  rcases Nat.lt_trichotomy t t' with h3 | h3 | h3
  · have := Nat.pow_lt_pow_right (by decide : 1 < 2) h3; omega
  · exact h3
  · have := Nat.pow_lt_pow_right (by decide : 1 < 2) h3; omega
theorem lim_cells {w : World} {v : Value} {l : List Nat} (h : Lim w v l) (hne : 0 < l.length) : ∃ g o c, v = .slice (some ⟨g, o, none⟩) l.length c ∧ l.length ≤ c ∧ CellsAt w g o l.length (l.getD · 0) := by
  obtain ⟨g, o, c, h1, h2, h3, h4⟩ := h.at hne
  refine ⟨g, o, c, h1, h2, h3, fun j hj => ?_⟩
  rw [h4 w (Gr.rf w) j hj]
  show _ = some (Value.int .u64 ((l.getD j 0 : Nat) : Int))
  rw [List.getD_eq_getElem?_getD, List.getElem?_eq_getElem hj]; rfl
/-- nat.twos of a number behind a slice. -/
theorem twosL_calls (v : Value) (l : List Nat) (w : World) (hT : BitTab w) (h : Lim w v l) (hx : val l ≠ 0) (hn : l.length ≤ 1000000) (t p : Nat) (e : val l = 2 ^ t * p) (hp : p % 2 = 1) :
    Calls Tryz.prog 187 #[v] w fun e w' => e = .returned (.int .i64 (t : Int)) ∧ Gr w w' := by
  have hne : 0 < l.length := List.length_pos_iff.2 (by rintro rfl; exact hx rfl)
  obtain ⟨g, o, c, rfl, hc, hcells⟩ := lim_cells h hne
  have hrl := rv_list l l.length (Nat.le_refl _)
  obtain ⟨z, hz, h0, hfz⟩ := first_limb (l.getD · 0) l.length (by rw [hrl]; exact hx)
  obtain ⟨t0, o0, e1, e2, ht, hcl⟩ := tz_ex (l.getD z 0) hfz (getD_lt h.1 z)
  obtain ⟨p', _, f2, f3⟩ := twos_num (l.getD · 0) z l.length t0 o0 hz h0 e1 e2 ht
  rw [hrl, e] at f3
  rw [two_exp _ _ _ _ f3 hp f2]
  exact twos_calls g o c l.length z t0 (l.getD · 0) w hcells hz h0 hfz hn ht (fun w' hg => hcl w' (hT.gr hg))

theorem OwnN.cells {w : World} {g N x : Nat} {v : Value} (h : OwnN w g N v x) : ∃ o n c F, v = .slice (some ⟨g, o, none⟩) n c ∧ OwnF w g N F ∧ o + n ≤ N ∧ n ≤ c ∧ c ≤ 9223372036854775807 ∧ n ≤ 1000000 ∧ (∀ j, F j < B) ∧ rv B (fun j => F (o + j)) n = x := by
  obtain ⟨o, n, c, F, h1, h2, h3, h4, h5, h6, h7, h8, h9⟩ := h
  exact ⟨o, n, c, F, h1, h2, h3, h4, h5, h6, h7, h9⟩

set_option maxRecDepth 100000 in
set_option maxHeartbeats 8000000 in
/-- nat.odd. -/
theorem odd_calls (g N : Nat) (v : Value) (x : Nat) (w : World) (hT : BitTab w) (h : OwnN w g N v x) (hx : x ≠ 0) (t p : Nat) (e : x = 2 ^ t * p) (hp : p % 2 = 1) :
    Calls Tryz.prog 188 #[v] w fun e w' => (∃ v', e = .returned v' ∧ OwnN w' g N v' p) ∧ w.grownBy w' (some g) := by
  obtain ⟨o, n, c, F, rfl, hF, hoN, hnc, hcc, hn6, hFB, hv⟩ := h.cells
  obtain ⟨z, hz, h0, hfz⟩ := first_limb (fun j => F (o + j)) n (by rw [hv]; exact hx)
  obtain ⟨t0, o0, e1, e2, ht, hcl⟩ := tz_ex (F (o + z)) hfz (hFB _)
  obtain ⟨p', f1, f2, f3⟩ := twos_num (fun j => F (o + j)) z n t0 o0 hz h0 e1 e2 ht
  rw [hv, e] at f3
  have et := two_exp _ _ _ _ f3 hp f2
  obtain rfl := two_unique _ _ _ _ f3 hp f2
  subst et
  have HT := Lib.hid (twos_calls g o c n z t0 (fun j => F (o + j)) w (hF.cells o n hoN) hz h0 hfz hn6 ht (fun w' hg => hcl w' (hT.gr hg)))
  obtain ⟨n', hn'⟩ : ∃ n', n - z = n' := ⟨_, rfl⟩
  rw [hn'] at f1
  have hR : rv B (upTo F (o + z) n') n' = 2 ^ t0 * p' := by
    rw [← f1]
    exact rv_congr B fun j hj => by rw [upTo_in hj, Nat.add_assoc]
  have hsh := shr_rv t0 (by omega) (upTo F (o + z) n') n' (upTo_out (by omega))
  rw [hR, Nat.mul_div_cancel_left _ (Nat.two_pow_pos t0)] at hsh
  have HSH := Lib.hid hsh
  have HFF := Lib.hid hF
  have HFB := Lib.hid hFB
  have q1 : (64 * (z : Int) + (t0 : Int)) / 64 = (z : Int) := by omega
  have q2 : (64 * (z : Int) + (t0 : Int)) % 64 = (t0 : Int) := by omega
  have q3 : ((64 * z + t0 : Nat) : Int) = 64 * (z : Int) + (t0 : Int) := by omega
  rw [q3] at HT
  have hzn : (z : Int) ≤ (n : Int) := by omega
  have hzz : (z : Int).toNat = z := by omega
  have hnz : z + n' = n := by omega
  clear h hF hx e hp h0 hfz e1 e2 hcl f1 f2 f3 hR hsh hv hFB q3
  go_enter Tryz.func188, Tryz.ntmps188
  go_wp2_with fail
  refine HT.out.mono ?_
  rintro ev w1 ⟨rfl, hg1⟩
  have HG1 := Lib.hid hg1
  have HF1 := Lib.hid (HFF.out.gr hg1)
  clear hg1
  go_wp2_with fail
  rw [q1, q2]
  clear q1 q2
  have hs1 : (63 - (t0 : Int)).toNat = 63 - t0 := by omega
  have hws : IntKind.i64.wrap (63 - (t0 : Int)) = 63 - (t0 : Int) := by rw [IntKind.wrap_i64]; omega
  have hws0 : (t0 : Int) ≤ 63 := by omega
  have hn'6 : n' ≤ 1000000 := by omega
  go_loopg [15] n' (fun k si wr => ∃ (i : Nat) (F2 : Nat → Nat), k = n' - i ∧ i ≤ n' ∧ si = .int .i64 (i : Int) ∧ Hid (OwnF wr g N F2) ∧ Hid (∀ j, F2 j < B) ∧ Hid (∀ j, j < i → F2 (o + z + j) = shr t0 (upTo F (o + z) n') j) ∧ Hid (∀ j, i ≤ j → F2 (o + z + j) = F (o + z + j)) ∧ Hid (w.grownBy wr (some g)))
  case atStart => exact ⟨0, F, rfl, Nat.zero_le _, rfl, HF1, HFB, Lib.hid (fun j hj => absurd hj (by omega)), Lib.hid (fun _ _ => rfl), Lib.hid (grownBy_tr (grownBy_rf w g) HG1.out)⟩
  case round =>
    obtain ⟨i, F2, hk, hi, rfl, HO, HF2, HE1, HE2, HGW⟩ := hrel
    have HK := Lib.hid hk
    clear hk
    by_cases hlt : i < n'
    · have b1 : decide (i < n') = true := decide_eq_true hlt
      have hcell := HO.out.cell (i := o + z + i) (by omega)
      have hfr := HO.out.frozen (o + z + i)
      have hx := HE2.out i (Nat.le_refl _)
      rw [hx] at hcell
      have hxB := HFB.out (o + z + i)
      have hwi : IntKind.i64.wrap ((i : Int) + 1) = (i : Int) + 1 := by rw [IntKind.wrap_i64]; omega
      have hwi0 : (0 : Int) ≤ (i : Int) + 1 := by omega
      have hwi1 : ((i : Int) + 1).toNat = i + 1 := by omega
      have hd1 : (F (o + z + i) : Int) / 2 ^ t0 = ((F (o + z + i) / 2 ^ t0 : Nat) : Int) := by rw [Int.natCast_ediv, Int.natCast_pow]; rfl
      have hdB : F (o + z + i) / 2 ^ t0 < B := Nat.lt_of_le_of_lt (Nat.div_le_self _ _) hxB
      have hoi : o + z + i < N := by omega
      by_cases hl2 : i + 1 < n'
      · have b2 : decide ((i : Int) + 1 < (n' : Int)) = true := decide_eq_true (by omega)
        have b2n : decide (i + 1 < n') = true := decide_eq_true hl2
        have b2i : (i : Int) + 1 < (n' : Int) := by omega
        have hy := HE2.out (i + 1) (by omega)
        have hsb := shr_bits (F (o + z + i)) (F (o + z + (i + 1))) t0 ht hxB (HFB.out _)
        rw [hd1] at hsb
        have hsv : F (o + z + i) / 2 ^ t0 + F (o + z + (i + 1)) % 2 ^ t0 * 2 ^ (64 - t0) = shr t0 (upTo F (o + z) n') i := by
          unfold shr; rw [upTo_in hlt, upTo_in hl2]
        rw [hsv] at hsb
        have hsl := shr_limb t0 ht (upTo F (o + z) n') (upTo_lt HFB.out) i
        have HS1 := Lib.hid (HO.out.set (o + z + i) (F (o + z + i) / 2 ^ t0))
        have hc1 := HS1.out.cell (i := o + z + i) hoi
        have hc2 := HS1.out.cell (i := o + z + (i + 1)) (by omega)
        have hf1 := HS1.out.frozen (o + z + i)
        try dsimp only at hc1 hc2
        rw [if_pos rfl] at hc1
        rw [if_neg (by omega), hy] at hc2
        generalize hz1 : shr t0 (upTo F (o + z) n') i = sv at *
        generalize hxd : F (o + z + i) / 2 ^ t0 = xd at *
        generalize F (o + z + i) = xx at *
        generalize F (o + z + (i + 1)) = yy at *
        have HZ1 := Lib.hid hz1
        have HSL := Lib.hid hsl
        have hd_lt := Lib.hid hdB
        clear hx hxB hdB hy hsv hsl hz1 hxd
        go_wp2
        generalize hW1 : wr.setCell ⟨g, o + z + i, none⟩ (.int .u64 (xd : Int)) = W1 at hc1 hc2 hf1 ⊢
        have HW1 := Lib.hid hW1
        clear hW1 hcell hfr hf1
        have hd1' : W1.drew.cell? ⟨g, o + z + i, none⟩ = some (.int .u64 (xd : Int)) := hc1
        have hd2' : W1.drew.cell? ⟨g, o + z + (i + 1), none⟩ = some (.int .u64 (yy : Int)) := hc2
        have hf1' : W1.frozen? ⟨g, o + z + i, none⟩ = false := by rw [← HW1.out]; exact HS1.out.frozen _
        refine wp_region_still_tail 15 (by kernel_rfl) (by kernel_rfl) ?_
        simp only [List.take_succ_cons, List.take_zero, List.drop_succ_cons, List.drop_zero]
        change wpStill _ _ W1.drew _ _ _
        generalize W1.drew = W2 at hd1' hd2' ⊢
        repeat still_step
        refine wpStill_nil ?_
        go_wp2
        go_roundg (n' - (i + 1))
        case measure => have := HK.out; omega
        case rel => exact ⟨i + 1, (fun j => if j = o + z + i then sv else (if j = o + z + i then xd else F2 j)), rfl, by omega, by first | rfl | go_num, Lib.hid (by have h := HS1.out.set (o + z + i) sv; rw [HW1.out] at h; exact h), Lib.hid (set_lt (set_lt HF2.out hd_lt.out) HSL.out), Lib.hid (fun j hj => by
          by_cases e : j = i
          · subst e; dsimp only; rw [if_pos rfl]; exact HZ1.out.symm
          · dsimp only; rw [if_neg (by omega), if_neg (by omega)]; exact HE1.out j (by omega)), Lib.hid (fun j hj => by dsimp only; rw [if_neg (by omega), if_neg (by omega)]; exact HE2.out j (by omega)), Lib.hid (by
          have h := grownBy_set (grownBy_set HGW.out (o + z + i) (.int .u64 (xd : Int))) (o + z + i) (.int .u64 (sv : Int))
          rw [HW1.out] at h
          exact grownBy_drew h 1)⟩
      · have b2 : decide ((i : Int) + 1 < (n' : Int)) = false := decide_eq_false (by omega)
        have b2n : decide (i + 1 < n') = false := decide_eq_false hl2
        have hsv := odd_last t0 (upTo F (o + z) n') i (upTo_out hl2)
        rw [upTo_in hlt] at hsv
        have HS1 := Lib.hid (HO.out.set (o + z + i) (F (o + z + i) / 2 ^ t0))
        generalize hxd : F (o + z + i) / 2 ^ t0 = xd at *
        generalize F (o + z + i) = xx at *
        have HSV := Lib.hid hsv
        have HDB := Lib.hid hdB
        clear hx hxB hdB hsv hxd
        go_wp2
        go_roundg (n' - (i + 1))
        case measure => have := HK.out; omega
        case rel => exact ⟨i + 1, (fun j => if j = o + z + i then xd else F2 j), rfl, by omega, by first | rfl | go_num, HS1, Lib.hid (set_lt HF2.out HDB.out), Lib.hid (fun j hj => by
          by_cases e : j = i
          · subst e; dsimp only; rw [if_pos rfl]; exact HSV.out.symm
          · dsimp only; rw [if_neg (by omega)]; exact HE1.out j (by omega)), Lib.hid (fun j hj => by dsimp only; rw [if_neg (by omega)]; exact HE2.out j (by omega)), Lib.hid (grownBy_set HGW.out _ _)⟩
    · obtain rfl : i = n' := by omega
      have b1 : decide (i < i) = false := decide_eq_false (by omega)
      have hmd := madeOwn_calls g (o + z) (c - z) i (fun j => F2 (o + z + j)) wr (HO.out.cells (o + z) i (by omega)) hn'6 (by omega)
      have HMD := Lib.hid hmd
      have hval : rv B (fun j => F2 (o + z + j)) i = p' := by
        rw [← HSH.out]
        exact rv_congr B fun j hj => HE1.out j hj
      have HVL := Lib.hid hval
      clear hmd hval
      go_wp2_with fail
      (with_reducible refine HMD.out.mono ?_)
      rintro ev w2 ⟨rfl, m, hm1, hm2, hm3, rfl⟩
      have HM2 := Lib.hid hm2
      have HM3 := Lib.hid hm3
      clear hm2 hm3
      go_wp2
      go_ret
      exact ⟨⟨_, rfl, o + z, m, c - z, F2, rfl, HO.out.of_block (Below.heap_alloc wr _ g HO.out.lt), by omega, by omega, by omega, by omega, HF2.out, HM2.out, by rw [HM3.out]; exact HVL.out⟩, grownBy_alloc HGW.out _⟩
end Go.Proofs.YtglbdafcfcmffaaGreatDoor
