/- Layer 2: left, long, Div by contract, of numbers of any length. -/
import Derived.Test.YtglbdafcfcmffaaGreatDoorTb
import Derived.StillTailTactics
import Derived.Deep.RegionHeld3
namespace Go.Proofs.YtglbdafcfcmffaaGreatDoor
open Go.RowKit Go.Extern.Stop Go.Stop Go.Extern
set_option linter.unusedVariables false
set_option linter.unusedSimpArgs false

/-- The digit that is left of two. -/
theorem shr_bits (x y t : Nat) (ht : t ≤ 63) (hx : x < B) (hy : y < B) :
    bits .or .u64 ((x : Int) / 2 ^ t) (IntKind.u64.wrap (IntKind.u64.wrap ((y : Int) * 2) * 2 ^ (63 - t))) = ((x / 2 ^ t + y % 2 ^ t * 2 ^ (64 - t) : Nat) : Int) := by
  have h1 : (x : Int) / 2 ^ t = ((x / 2 ^ t : Nat) : Int) := by rw [Int.natCast_ediv, Int.natCast_pow]; rfl
  have h2 : IntKind.u64.wrap ((y : Int) * 2) = ((y * 2 ^ 1 % B : Nat) : Int) := by
    have := wrapM (y * 2 ^ 1)
    rw [← this]; congr 1
  have h3 : IntKind.u64.wrap (((y * 2 ^ 1 % B : Nat) : Int) * 2 ^ (63 - t)) = ((y * 2 ^ 1 % B * 2 ^ (63 - t) % B : Nat) : Int) := by
    have := wrapM (y * 2 ^ 1 % B * 2 ^ (63 - t))
    rw [← this]; congr 1
  have h4 : y * 2 ^ 1 % B * 2 ^ (63 - t) % B = y % 2 ^ t * 2 ^ (64 - t) := by
    rw [Nat.mod_mul_mod, Nat.mul_assoc, ← Nat.pow_add, show 1 + (63 - t) = 64 - t by omega]
    conv => lhs; rw [B_split t (by omega), Nat.mul_comm (2 ^ (64 - t)) (2 ^ t)]
    rw [Nat.mul_mod_mul_right]
  have h5 : x / 2 ^ t < 2 ^ (64 - t) := by rw [Nat.div_lt_iff_lt_mul (Nat.two_pow_pos t), ← B_split t (by omega)]; exact hx
  have h6 : x / 2 ^ t < B := Nat.lt_of_le_of_lt (Nat.div_le_self _ _) hx
  have h7 : y % 2 ^ t * 2 ^ (64 - t) < B := by
    have := Nat.mod_lt y (Nat.two_pow_pos t)
    rw [B_split t (by omega), Nat.mul_comm]
    exact Nat.mul_lt_mul_of_pos_left this (Nat.two_pow_pos _)
  rw [h1, h2, h3, h4, bits_or_u64_nat _ _ (by rw [← B_eq]; exact h6) (by rw [← B_eq]; exact h7), Nat.or_comm, or_add _ _ _ h5, Nat.add_comm]
/-- A digit shifted to the left, laid upon what came from below. -/
theorem left_bits (f x s : Nat) (hs : s ≤ 63) (hf : f < 2 ^ s) (hx : x < B) :
    bits .or .u64 (f : Int) (IntKind.u64.wrap ((x : Int) * 2 ^ s)) = ((f + x * 2 ^ s % B : Nat) : Int) ∧ f + x * 2 ^ s % B < B := by
  have h1 : IntKind.u64.wrap ((x : Int) * 2 ^ s) = ((x * 2 ^ s % B : Nat) : Int) := by
    have := wrapM (x * 2 ^ s)
    rw [← this]; congr 1
  have h2 : x * 2 ^ s % B = x % 2 ^ (64 - s) * 2 ^ s := by
    conv => lhs; rw [B_split s (by omega)]
    rw [Nat.mul_mod_mul_right]
  have h3 : 2 ^ s ≤ B := by rw [B_pow]; exact Nat.pow_le_pow_right (by decide) (by omega)
  have h4 : (x % 2 ^ (64 - s) + 1) * 2 ^ s ≤ 2 ^ (64 - s) * 2 ^ s := Nat.mul_le_mul_right _ (Nat.mod_lt _ (Nat.two_pow_pos _))
  rw [← B_split s (by omega), Nat.add_mul, Nat.one_mul] at h4
  refine ⟨?_, by rw [h2]; omega⟩
  rw [h1, h2, bits_or_u64_nat _ _ (by rw [← B_eq]; omega) (by rw [← B_eq]; omega), Nat.or_comm, or_add _ _ _ hf, Nat.add_comm]
/-- What is shifted out of a digit, in two steps. -/
theorem left_out (x s : Nat) (hs : s ≤ 63) : (x : Int) / 2 / 2 ^ (63 - s) = ((x / 2 ^ (64 - s) : Nat) : Int) := by
  have h : x / 2 / 2 ^ (63 - s) = x / 2 ^ (64 - s) := by rw [Nat.div_div_eq_div_mul, ← Nat.pow_succ', show (63 - s).succ = 64 - s by omega]
  rw [← h, Int.natCast_ediv, Int.natCast_ediv, Int.natCast_pow]; rfl

set_option maxRecDepth 100000 in
set_option maxHeartbeats 4000000 in
/-- nat.left. -/
theorem left_calls (v : Value) (l : List Nat) (s : Nat) (w : World) (h : Lim w v l) (hs : s ≤ 63) (hn : l.length ≤ 1000000) :
    Calls Tryz.prog 183 #[v, .int .i64 (s : Int)] w fun e w' => ∃ F : Nat → Nat, e = .returned (.slice (some ⟨w.heap.size, 0, none⟩) (l.length + 1) (l.length + 1)) ∧ OwnF w' w.heap.size (l.length + 1) F ∧ (∀ j, F j < B) ∧ rv B F (l.length + 1) = val l * 2 ^ s ∧ Gr w w' := by
  have HP := Lib.hid h
  obtain ⟨a, c, rfl⟩ := h.slice
  have hmk := make64 (l.length + 1) (by omega)
  have ec : ((l.length + 1 : Nat) : Int) = (l.length : Int) + 1 := by omega
  rw [ec] at hmk
  have hs1 : (63 - (s : Int)).toNat = 63 - s := by omega
  clear h ec
  go_enter Tryz.func183, Tryz.ntmps183
  go_wp2
  clear hmk
  go_loopg [14] l.length (fun k si wr => ∃ (i : Nat) (F : Nat → Nat), k = l.length - i ∧ i ≤ l.length ∧ si = .int .i64 (i : Int) ∧ Hid (OwnF wr w.heap.size (l.length + 1) F) ∧ Hid (∀ j, F j < B) ∧ Hid (F i < 2 ^ s) ∧ Hid (∀ j, i < j → F j = 0) ∧ Hid (rv B F (i + 1) = val (l.take i) * 2 ^ s) ∧ Hid (Gr w wr))
  case atStart => exact ⟨0, fun _ => 0, rfl, Nat.zero_le _, rfl, Lib.hid ((rowU_made w _).own (by omega)), Lib.hid (fun _ => B_pos), Lib.hid (Nat.two_pow_pos s), Lib.hid (fun _ _ => rfl), Lib.hid (by simp [rv_zero, rv_succ, val]), Lib.hid ((Gr.rf w).alloc (Nat.le_refl _) _)⟩
  case round =>
    obtain ⟨i, F, hk, hi, rfl, HO, HFB, HFP, HF0, HFV, HG⟩ := hrel
    have HK := Lib.hid hk
    clear hk
    by_cases hlt : i < l.length
    · have b1 : decide (i < l.length) = true := decide_eq_true hlt
      obtain ⟨g1, o1, c1, e1, hcx⟩ := HP.out.get HG.out i hlt
      cases e1
      have hxB := getD_lt HP.out.1 i
      have hcell := HO.out.cell (i := i) (by omega)
      have hcell2 := HO.out.cell (i := i + 1) (by omega)
      have hfr := HO.out.frozen i
      have hfr2 := HO.out.frozen (i + 1)
      rw [HF0.out (i + 1) (by omega)] at hcell2
      have HST := Lib.hid (left_step F l s i hs HFV.out)
      have hxs := shr_lt (l.getD i 0) s (by omega) hxB
      generalize l.getD i 0 = x at *
      obtain ⟨hb, hbB⟩ := left_bits (F i) x s hs HFP.out hxB
      have ho := left_out x s hs
      have hyB : x / 2 ^ (64 - s) < B := Nat.lt_of_le_of_lt (Nat.div_le_self _ _) hxB
      generalize hfi : F i = f at *
      obtain ⟨d, hd⟩ : ∃ d, f + x * 2 ^ s % B = d := ⟨_, rfl⟩
      obtain ⟨z, hz⟩ : ∃ z, x / 2 ^ (64 - s) = z := ⟨_, rfl⟩
      rw [hd] at hb hbB HST
      rw [hz] at ho hyB HST hxs
      have HXS := Lib.hid hxs
      have HBB := Lib.hid hbB
      have HYB := Lib.hid hyB
      have hsz := HG.out.size
      clear hd hz hfi hxs hbB hyB
      have hb1 : (i : Int) < (l.length : Int) + 1 := by omega
      go_wp2
      have hcd : wr.drew.cell? ⟨w.heap.size, i, none⟩ = some (.int .u64 (f : Int)) := hcell
      refine wp_region_still_tail 9 (by kernel_rfl) (by kernel_rfl) ?_
      simp only [List.take_succ_cons, List.take_zero, List.drop_succ_cons, List.drop_zero]
      change wpStill _ _ wr.drew _ _ _
      generalize wr.drew = W2 at hcd ⊢
      repeat still_step
      refine wpStill_nil ?_
      go_wp2
      go_roundg (l.length - (i + 1))
      case measure => have := HK.out; omega
      case rel => exact ⟨i + 1, (fun j => if j = i + 1 then z else if j = i then d else F j), rfl, by omega, by first | rfl | go_num, Lib.hid ((HO.out.set i d).set (i + 1) z), Lib.hid (fun j => by dsimp only; split; exact HYB.out; split; exact HBB.out; exact HFB.out j), Lib.hid (by dsimp only; rw [if_pos rfl]; exact HXS.out), Lib.hid (fun j hj => by dsimp only; rw [if_neg (by omega), if_neg (by omega)]; exact HF0.out j (by omega)), HST, Lib.hid (gr_drew1 ((HG.out.setCell (a := ⟨w.heap.size, i, none⟩) (Nat.le_refl _) _).setCell (a := ⟨w.heap.size, i + 1, none⟩) (Nat.le_refl _) _))⟩
    · obtain rfl : i = l.length := by omega
      have b1 : decide (l.length < l.length) = false := decide_eq_false (by omega)
      go_wp2
      go_ret
      exact ⟨F, rfl, HO.out, HFB.out, by have h := HFV.out; rw [List.take_of_length_le (Nat.le_refl _)] at h; exact h, HG.out⟩

theorem gr_grown {b w w' : World} {g : Nat} (h : Gr b w) (hg : w.grownBy w' (some g)) (hb : b.heap.size ≤ g) : Gr b w' :=
  ⟨hg.os.trans h.os, hg.tape.trans h.tape, hg.output.trans h.output, Nat.le_trans h.size hg.size, fun i hi => (hg.block i (Nat.lt_of_lt_of_le hi h.size) (fun e => by injection e; omega)).trans (h.block i hi)⟩
theorem OwnF.setOther {w : World} {g n : Nat} {F : Nat → Nat} (h : OwnF w g n F) (a : Addr) (v : Value) (hne : g ≠ a.block) : OwnF (w.setCell a v) g n F :=
  h.of_block (Below.heap_setCell w a v g hne)
theorem CellsAt.setOther {w : World} {g o n : Nat} {F : Nat → Nat} (h : CellsAt w g o n F) (a : Addr) (v : Value) (hne : g ≠ a.block) : CellsAt (w.setCell a v) g o n F :=
  ⟨by have := h.1; simpa [World.setCell] using this, fun j hj => by rw [cell_of_block (Below.heap_setCell w a v g hne)]; exact h.2 j hj⟩
theorem set_lt {G : Nat → Nat} {j x b : Nat} (h : ∀ i, G i < b) (hx : x < b) : ∀ i, (if i = j then x else G i) < b := fun i => by
  split
  · exact hx
  · exact h i
theorem over_start {n U V q x b2 : Nat} (hx : x < B ^ (n + 1)) (hq : U / V ≤ q) (hB : q < B) (hb : b2 ≤ 1) (h : x + q * V = U + B ^ (n + 1) * b2) : Over n U V q x (b2 != 0) := by
  unfold Over
  refine ⟨hx, hq, hB, ?_⟩
  rw [h]
  rcases (show b2 = 0 ∨ b2 = 1 by omega) with e | e
  · rw [e, Nat.mul_zero, if_neg (by decide)]
  · rw [e, Nat.mul_one, if_pos (by decide)]
theorem set_up {F H : Nat → Nat} {i x : Nat} (h : ∀ j, j < i → F j = H j) (hx : x = H i) : ∀ j, j < i + 1 → (fun j => if j = i then x else F j) j = H j := fun j hj => by
  dsimp only
  by_cases e : j = i
  · rw [if_pos e, e]; exact hx
  · rw [if_neg e]; exact h j (by omega)
theorem left_any (v : Value) (l : List Nat) (s : Nat) (w : World) (h : Lim w v l) (hs : s ≤ 63) (hn : l.length ≤ 1000000) :
    Calls Tryz.prog 183 #[v, .int .i64 (s : Int)] w fun e w' => ∃ (g : Nat) (F : Nat → Nat), e = .returned (.slice (some ⟨g, 0, none⟩) (l.length + 1) (l.length + 1)) ∧ w.heap.size ≤ g ∧ OwnF w' g (l.length + 1) F ∧ (∀ j, F j < B) ∧ rv B F (l.length + 1) = val l * 2 ^ s ∧ Gr w w' := by
  refine (left_calls v l s w h hs hn).mono ?_
  rintro e w2 ⟨F, h1, h2, h3, h4, h5⟩
  exact ⟨_, F, h1, Nat.le_refl _, h2, h3, h4, h5⟩
theorem below_pow (l : List Nat) (s : Nat) (h63 : s ≤ 63) (hl : Limbs l) (hne : 0 < l.length) (hs : l.getD (l.length - 1) 0 * 2 ^ s < B) : val l * 2 ^ s < B ^ l.length := by
  have h1 := val_take_getD l (l.length - 1)
  rw [show l.length - 1 + 1 = l.length by omega, List.take_of_length_le (Nat.le_refl _)] at h1
  have h2 := val_lt _ (limbs_take hl (l.length - 1))
  rw [List.length_take, Nat.min_eq_left (by omega)] at h2
  generalize l.getD (l.length - 1) 0 = y at *
  have h3 : B ^ l.length = B ^ (l.length - 1) * B := by rw [← Nat.pow_succ, show (l.length - 1).succ = l.length by omega]
  rw [h1, h3]
  generalize B ^ (l.length - 1) = P at *
  generalize val (l.take (l.length - 1)) = z at *
  have hp := Nat.two_pow_pos s
  have h5 : y < 2 ^ (64 - s) := by
    rw [B_split s (by omega)] at hs
    exact Nat.lt_of_mul_lt_mul_right hs
  have h6 : (y + 1) * 2 ^ s ≤ B := by
    rw [B_split s (by omega)]
    exact Nat.mul_le_mul_right _ h5
  have h7 : z + P * y < P * (y + 1) := by rw [Nat.mul_add, Nat.mul_one]; omega
  calc (z + P * y) * 2 ^ s < P * (y + 1) * 2 ^ s := Nat.mul_lt_mul_of_pos_right h7 hp
    _ = P * ((y + 1) * 2 ^ s) := Nat.mul_assoc _ _ _
    _ ≤ P * B := Nat.mul_le_mul_left _ h6

/-- What the division leaves in memory. -/
theorem row_list (F : Nat → Nat) (n : Nat) : ((List.range n).map F).length = n := by simp
theorem row_getD (F : Nat → Nat) (n j : Nat) (h : j < n) : ((List.range n).map F).getD j 0 = F j := by
  rw [List.getD_eq_getElem?_getD, List.getElem?_map, List.getElem?_range h]; rfl

set_option maxRecDepth 100000 in
set_option maxHeartbeats 8000000 in
/-- nat.long. -/
theorem long_calls (x y : Value) (p q : List Nat) (w : World) (hx : Lim w x p) (hy : Lim w y q) (hq : Norm q) (hq2 : 2 ≤ q.length) (hle : q.length ≤ p.length) (hn : p.length ≤ 1000000) :
    Calls Tryz.prog 139 #[x, y] w fun e w' => ∃ v1 l1 v2 l2, e = .returned (.tuple #[v1, v2]) ∧ Lim w' v1 l1 ∧ Lim w' v2 l2 ∧ val l1 = val p / val q ∧ val l2 = val p % val q ∧ l1.length ≤ 1000000 ∧ l2.length ≤ 1000000 ∧ Gr w w' := by
  have HP := Lib.hid hx
  have HQ := Lib.hid hy
  have hQL := hy.1
  have hPL := hx.1
  obtain ⟨xa, xc, rfl⟩ := hx.slice
  obtain ⟨ya, yc, rfl⟩ := hy.slice
  have htop : q.getD (q.length - 1) 0 ≠ 0 := by
    intro e
    apply hq
    rw [List.getLast?_eq_getElem?, List.getElem?_eq_getElem (by omega)]
    rw [List.getD_eq_getElem?_getD, List.getElem?_eq_getElem (by omega)] at e
    rw [← e]; rfl
  obtain ⟨s, hs, hs1, hs2, hlz⟩ := lz_calls _ (Nat.pos_of_ne_zero htop) (getD_lt hQL _)
  have hroom := long_room p q s hPL hq (by rintro rfl; simp at hq2) hle
  have hvn := below_pow q s hs hQL (by omega) hs2
  have hvq : 0 < val q := Nat.pos_of_ne_zero fun e => by have h := (norm_zero q hq).1 e; rw [h] at hq2; simp at hq2
  have hV0 : 0 < val q * 2 ^ s := Nat.mul_pos hvq (Nat.two_pow_pos s)
  obtain ⟨g0, o0, c0, e0, hc0⟩ := HQ.out.get (Gr.rf w) (q.length - 1) (by omega)
  cases e0
  have HLZ := Lib.hid hlz
  generalize q.getD (q.length - 1) 0 = top at hc0 HLZ
  have hsh := long_shift (val p) (val q) s
  obtain ⟨m, hm⟩ : ∃ m, p.length - q.length + 1 = m := ⟨_, rfl⟩
  rw [hm] at hroom
  have hmn : p.length + 1 = m + q.length := by omega
  have i1 : ((q.length : Int) - 1).toNat = q.length - 1 := by omega
  have hmk := make64 m (by omega)
  have ecm : (m : Int) = (p.length : Int) - (q.length : Int) + 1 := by omega
  have HSH := Lib.hid hsh
  have HRM := Lib.hid hroom
  have HVN := Lib.hid hvn
  have HV0 := Lib.hid hV0
  have HQL := Lib.hid hQL
  clear hx hy hq hs1 hs2 hlz htop hsh hroom hvn hV0 hvq hPL hQL
  have HL1 := Lib.hid (fun w' (hg : Gr w w') => left_any _ p s w' (HP.out.gr hg) hs hn)
  have HL2 := Lib.hid (fun w' (hg : Gr w w') => left_any _ q s w' (HQ.out.gr hg) hs (by omega))
  rw [ecm] at hmk
  have hlq1 : (q.length : Int) ≤ (q.length : Int) + 1 := by omega
  go_enter Tryz.func139, Tryz.ntmps139
  go_wp2_with (go_at_call 182; (with_reducible refine (HLZ.out _).mono ?_); rintro ev w1 ⟨rfl, rfl⟩)
  have hheld0 : Gr w w := Gr.rf w
  go_region_held3 (fun w' => Gr w w') (first | assumption | exact gr_drew1 (by assumption))
    (first
      | (go_at_call 183; (with_reducible refine (HL1.out _ (by assumption)).mono ?_); rintro ev w2 ⟨gu, Fu, rfl, hgu, hOu, hFu, hVu, hg2⟩; have hgm : Gr w w2 := Gr.tr (by assumption) hg2; have HGU := Lib.hid hgu; have HOU := Lib.hid hOu; have HFU := Lib.hid hFu; have HVU := Lib.hid hVu; clear hgu hOu hFu hVu hg2)
      | (go_at_call 183; (with_reducible refine (HL2.out _ (by assumption)).mono ?_); rintro ev w3 ⟨gv, Fv, rfl, hgv, hOv, hFv, hVv, hg3⟩; have hgm3 : Gr w w3 := Gr.tr (by assumption) hg3; have HG3 := Lib.hid hg3; have HGV := Lib.hid hgv; have HOV := Lib.hid hOv; have HFV := Lib.hid hFv; have HVV := Lib.hid hVv; clear hgv hOv hFv hVv hg3))
  have hvl : ((List.range q.length).map Fv).length = q.length := by simp
  have hvL : Limbs ((List.range q.length).map Fv) := fun x hx => by
    obtain ⟨j, _, rfl⟩ := List.mem_map.1 hx
    exact HFV.out j
  have hv0 : Fv q.length = 0 := by
    have h1 := (top_digit Fv q.length (fun j _ => HFV.out j)).1
    have h2 := HVV.out
    have h3 := HVN.out
    by_cases e : Fv q.length = 0
    · exact e
    · have := h1 e; omega
  have hvv : val ((List.range q.length).map Fv) = val q * 2 ^ s := by
    rw [rv_val, ← HVV.out, rv_succ, hv0, Nat.mul_zero, Nat.add_zero]
  have hvc : CellsAt w3 gv 0 q.length (((List.range q.length).map Fv).getD · 0) := ⟨HOV.out.lt, fun j hj => by
    rw [Nat.zero_add, HOV.out.cell (by omega)]
    show _ = some (Value.int .u64 (((((List.range q.length).map Fv).getD j 0 : Nat)) : Int))
    rw [row_getD Fv q.length j hj]⟩
  have hst := long_start (val p * 2 ^ s) (val q * 2 ^ s) q.length m Fu (fun _ => 0) HFU.out (by rw [← hmn]; exact HVU.out) HRM.out
  have hou := HOU.out.gr HG3.out
  rw [hmn] at hou
  have hgue : gu < w3.heap.size := hou.lt
  have hgne : gv ≠ gu := by
    have h1 := HOU.out.lt
    have h2 := HGV.out
    omega
  have hwgu : w.heap.size ≤ gu := HGU.out
  have hwgv : w.heap.size ≤ gv := Nat.le_trans hgm.size HGV.out
  have hwm : w.heap.size ≤ w3.heap.size := hgm3.size
  have hgvl : gv < w3.heap.size := HOV.out.lt
  generalize (List.range q.length).map Fv = vl at hvl hvL hvv hvc
  have HVC := Lib.hid hvc
  have HVL := Lib.hid hvL
  have HVE := Lib.hid hvv
  have HLEN := Lib.hid hvl
  have HST := Lib.hid hst
  have HOUU := Lib.hid hou
  have HGM := Lib.hid hgm3
  clear HGU HOU HFU HVU HG3 HGV HOV HFV HVV hvc hvL hvv hst hou hgm hgm3 hv0 hvl
  clear hheld0 HL1 HL2 HLZ
  have hm1 : 1 ≤ m := by omega
  go_wp2
  clear hmk ecm
  go_loopg [10] m (fun k sj wr => ∃ (R G : Nat → Nat), k ≤ m ∧ sj = .int .i64 ((k : Int) - 1) ∧ Hid (OwnF wr gu (m + q.length) R) ∧ Hid (OwnF wr w3.heap.size m G) ∧ Hid (∀ j, G j < B) ∧ Hid (CellsAt wr gv 0 q.length (vl.getD · 0)) ∧ Hid (Long (val p * 2 ^ s) (val q * 2 ^ s) q.length m k R G) ∧ Hid (Gr w wr))
  case atStart => exact ⟨Fu, fun _ => 0, Nat.le_refl _, by first | rfl | go_num, Lib.hid (HOUU.out.gr ((Gr.rf w3).alloc (Nat.le_refl _) _)), Lib.hid ((rowU_made w3 _).own (by omega)), Lib.hid (fun _ => B_pos), Lib.hid (HVC.out.gr ((Gr.rf w3).alloc (Nat.le_refl _) _)), HST, Lib.hid (HGM.out.tr ((Gr.rf w3).alloc (Nat.le_refl _) _))⟩
  case round =>
    obtain ⟨R, G, hk, rfl, HR, HG, HGB, HV, HLG, HGR⟩ := hrel
    by_cases h0 : 0 < gk
    · obtain ⟨j, rfl⟩ : ∃ j, gk = j + 1 := ⟨gk - 1, by omega⟩
      have hji : ((j + 1 : Nat) : Int) - 1 = (j : Int) := by omega
      rw [hji]
      have hjn : (j : Int).toNat = j := by omega
      have hpart := HLG.out.part
      obtain ⟨ld1, ld2, ld3⟩ := long_digit (val p * 2 ^ s) (val q * 2 ^ s) j HV0.out
      rw [← hpart] at ld1
      have hcu := HR.out.cells j (q.length + 1) (by omega)
      have hRB := HLG.out.1
      have hrl : rv B (vl.getD · 0) q.length = val q * 2 ^ s := by rw [← HVE.out]; exact rv_list vl _ (by rw [HLEN.out]; exact Nat.le_refl _)
      have hgs := guess_calls gu j (m + q.length - j) gv 0 (q.length + 1) q.length (fun i => R (j + i)) (vl.getD · 0) wr hq2 (by omega) hcu HV.out (fun i => hRB _) (fun i => getD_lt HVL.out i) (by rw [hrl]; exact ld1)
      rw [hrl] at hgs
      have HGS := Lib.hid hgs
      have HLT := Lib.hid ld1
      clear hji hpart ld1 ld2 ld3 hcu hgs hrl
      go_wp2_with fail
      rw [show j + q.length + 1 - j = q.length + 1 by omega]
      (with_reducible refine HGS.out.mono ?_)
      rintro ev w5 ⟨⟨gq, rfl, hgq1, hgq2⟩, hg5⟩
      have HR5 := Lib.hid (HR.out.gr hg5)
      have HG5 := Lib.hid (HG.out.gr hg5)
      have HV5 := Lib.hid (HV.out.gr hg5)
      have HGR5 := Lib.hid (HGR.out.tr hg5)
      have hcell := HG5.out.cell (i := j) (by omega)
      have hfr := HG5.out.frozen j
      have HR6 := Lib.hid (HR5.out.setOther ⟨w3.heap.size, j, none⟩ (.int .u64 (gq : Int)) (by show gu ≠ w3.heap.size; omega))
      have HV6 := Lib.hid (HV5.out.setOther ⟨w3.heap.size, j, none⟩ (.int .u64 (gq : Int)) (by show gv ≠ w3.heap.size; omega))
      have HG6 := Lib.hid (HG5.out.set j gq)
      have HGR6 := Lib.hid (HGR5.out.setCell (a := ⟨w3.heap.size, j, none⟩) hwm (.int .u64 (gq : Int)))
      have hcell6 := HG6.out.cell (i := j) (by omega)
      try dsimp only at hcell6
      rw [if_pos rfl] at hcell6
      have hv6 := HV6.out
      rw [← HLEN.out] at hv6
      have htk := takes_calls gu j (m + q.length - j) gv 0 (q.length + 1) gq (m + q.length) vl R _ HR6.out (by rw [HLEN.out]; omega) hv6 HVL.out hgne hRB hgq2 (by rw [HLEN.out]; omega)
      rw [HLEN.out] at htk
      have HTK := Lib.hid htk
      generalize hoj : G j = old at hcell
      have HGQ1 := Lib.hid hgq1
      clear htk hv6 hg5 hoj hgq1
      go_wp2_with (go_at_call 185; (with_reducible refine HTK.out.mono ?_); rintro ev w7 ⟨R7, b2, rfl, hb2, hO7, hB7, hlow, hval, hgw⟩)
      have HO7 := Lib.hid hO7
      have HB7 := Lib.hid hB7
      have HLW := Lib.hid hlow
      have HVA := Lib.hid hval
      have HG7 := Lib.hid (HG6.out.grown hgw (by omega))
      have HV7 := Lib.hid (HV6.out.grown hgw (by omega))
      have HGR7 := Lib.hid (gr_grown HGR6.out hgw hwgu)
      clear hO7 hB7 hlow hval hgw
      go_loopg [12] gq (fun k so wr2 => ∃ (qq : Nat) (ov : Bool) (R2 : Nat → Nat), k = qq ∧ so = .bool ov ∧ Hid (OwnF wr2 gu (m + q.length) R2) ∧ Hid (∀ i, R2 i < B) ∧ Hid (∀ i, i < j → R2 i = R i) ∧ Hid (Over q.length (rv B (fun i => R (j + i)) (q.length + 1)) (val q * 2 ^ s) qq (rv B (fun i => R2 (j + i)) (q.length + 1)) ov) ∧
        Hid (OwnF wr2 w3.heap.size m (fun i => if i = j then qq else G i)) ∧ Hid (CellsAt wr2 gv 0 q.length (vl.getD · 0)) ∧ Hid (Gr w wr2))
      case atStart => exact ⟨gq, (b2 != 0), R7, rfl, rfl, HO7, HB7, HLW, Lib.hid (over_start (rv_lt B _ _ (fun i _ => HB7.out _)) HGQ1.out hgq2 hb2 (by rw [← HVE.out]; exact HVA.out)), HG7, HV7, HGR7⟩
      case round =>
        obtain ⟨qq, ov, R2, hqq, rfl, HO, HB2, HLO, HOV, HGG, HVV, HGRR⟩ := hrel
        have HQQ := Lib.hid hqq
        clear hqq
        cases ov
        case false =>
         as_aux_lemma =>
          obtain ⟨o1, o2⟩ := HOV.out.done HV0.out
          have HNX := Lib.hid (HLG.out.next (by omega) HV0.out HVN.out HB2.out HLO.out o2)
          rw [← o1] at HNX
          clear o1 o2
          go_wp2
          go_roundg j
          case measure => omega
          case rel => exact ⟨R2, _, by omega, by first | rfl | go_num, HO, HGG, Lib.hid (set_lt HGB.out HOV.out.2.2.1), HVV, HNX, HGRR⟩
        case true =>
         as_aux_lemma =>
          obtain ⟨p1, p2⟩ := HOV.out.pos HV0.out
          have hqB := HOV.out.2.2.1
          have hcq := HGG.out.cell (i := j) (by omega)
          try dsimp only at hcq
          rw [if_pos rfl] at hcq
          have hfq := HGG.out.frozen j
          have hqi : (qq : Int) - 1 = ((qq - 1 : Nat) : Int) := by omega
          have hwq : IntKind.u64.wrap ((qq - 1 : Nat) : Int) = ((qq - 1 : Nat) : Int) := wrapN _ (by omega)
          have HO8 := Lib.hid (HO.out.setOther ⟨w3.heap.size, j, none⟩ (.int .u64 ((qq - 1 : Nat) : Int)) (by show gu ≠ w3.heap.size; omega))
          have HV8 := Lib.hid (HVV.out.setOther ⟨w3.heap.size, j, none⟩ (.int .u64 ((qq - 1 : Nat) : Int)) (by show gv ≠ w3.heap.size; omega))
          have HG8 := Lib.hid ((HGG.out.set j (qq - 1)).congr (G := fun i => if i = j then qq - 1 else G i) (fun i _ => by (try dsimp only); by_cases e : i = j; (rw [if_pos e, if_pos e]); (rw [if_neg e, if_neg e, if_neg e])))
          have HGR8 := Lib.hid (HGRR.out.setCell (a := ⟨w3.heap.size, j, none⟩) hwm (.int .u64 ((qq - 1 : Nat) : Int)))
          have hv8 := HV8.out
          rw [← HLEN.out] at hv8
          have hgv8 := gives_calls gu j (m + q.length - j) gv 0 (q.length + 1) (m + q.length) vl R2 _ HO8.out (by rw [HLEN.out]; omega) hv8 HVL.out hgne HB2.out (by rw [HLEN.out]; omega)
          rw [HLEN.out, HVE.out] at hgv8
          have HGV8 := Lib.hid hgv8
          clear hv8 hgv8
          go_wp2_with fail
          (with_reducible refine HGV8.out.mono ?_)
          rintro ev w9 ⟨R9, kk, rfl, hO9, hB9, hlow9, hval9, hgw9⟩
          have HO9 := Lib.hid hO9
          have HB9 := Lib.hid hB9
          have HLW9 := Lib.hid hlow9
          have HG9 := Lib.hid (HG8.out.grown hgw9 (by omega))
          have HV9 := Lib.hid (HV8.out.grown hgw9 (by omega))
          have HGR9 := Lib.hid (gr_grown HGR8.out hgw9 hwgu)
          have hbk := HOV.out.back HV0.out HVN.out (rv_lt B (fun i => R9 (j + i)) (q.length + 1) (fun i _ => hB9 _)) hval9
          have htd := top_digit (fun i => R9 (j + i)) q.length (fun i _ => hB9 _)
          try dsimp only at htd
          have hct := HO9.out.cell (i := j + q.length) (by omega)
          have hdd : ((R9 (j + q.length) : Int) != 0) = decide (B ^ q.length ≤ rv B (fun i => R9 (j + i)) (q.length + 1)) := by
            rw [bne_cast]
            by_cases e : R9 (j + q.length) = 0
            · rw [e, decide_eq_false (fun h => absurd e (htd.2 h))]; rfl
            · rw [decide_eq_true (htd.1 e)]; exact bne_iff_ne.2 e
          generalize decide (B ^ q.length ≤ rv B (fun i => R9 (j + i)) (q.length + 1)) = ov9 at hbk hdd
          generalize R9 (j + q.length) = td at hct hdd
          have HBK := Lib.hid hbk
          clear hO9 hB9 hlow9 hval9 hgw9 hbk htd
          go_wp2
          go_roundg (qq - 1)
          case measure => have := HQQ.out; omega
          case rel => exact ⟨qq - 1, ov9, R9, rfl, by first | rfl | (rw [hdd]), HO9, HB9, Lib.hid (fun i hi => (HLW9.out i hi).trans (HLO.out i hi)), HBK, HG9, HV9, HGR9⟩
    · obtain rfl : gk = 0 := by omega
      rename World => wo
      have hmk2 := make64 q.length (by omega)
      have hRB := HLG.out.1
      have HQUO := Lib.hid ((HLG.out.quot HRM.out).trans HSH.out.1)
      obtain ⟨r1, r2⟩ := HLG.out.rest (by omega)
      have HRST := Lib.hid ((show rv B (shr s R) q.length = _ from (shr_rv s (by omega) R q.length r2).trans (by rw [r1])).trans HSH.out.2)
      clear r1 r2
      have hs1 : (63 - (s : Int)).toNat = 63 - s := by omega
      go_wp2
      clear hmk2
      go_loopg [87] q.length (fun k si wr2 => ∃ (i : Nat) (F : Nat → Nat), k = q.length - i ∧ i ≤ q.length ∧ si = .int .i64 (i : Int) ∧ Hid (OwnF wr2 wo.heap.size q.length F) ∧ Hid (∀ j, F j < B) ∧ Hid (∀ j, j < i → F j = shr s R j) ∧ Hid (Gr wo wr2))
      case atStart => exact ⟨0, fun _ => 0, rfl, Nat.zero_le _, rfl, Lib.hid ((rowU_made wo _).own (by omega)), Lib.hid (fun _ => B_pos), Lib.hid (fun j hj => absurd hj (by omega)), Lib.hid ((Gr.rf wo).alloc (Nat.le_refl _) _)⟩
      case round =>
        obtain ⟨i, F, hk2, hi, rfl, HO, HFB, HFE, HG2⟩ := hrel
        have HK := Lib.hid hk2
        clear hk2
        by_cases hlt : i < q.length
        · have b1 : decide (i < q.length) = true := decide_eq_true hlt
          have hcell := HO.out.cell (i := i) (by omega)
          have hfr := HO.out.frozen i
          have hu0 := (HR.out.gr HG2.out).cell (i := i) (by omega)
          have hu1 := (HR.out.gr HG2.out).cell (i := i + 1) (by omega)
          have hsb := shr_bits (R i) (R (i + 1)) s hs (hRB i) (hRB (i + 1))
          have hsl := shr_limb s hs R hRB i
          have hsd : R i / 2 ^ s + R (i + 1) % 2 ^ s * 2 ^ (64 - s) = shr s R i := rfl
          rw [hsd] at hsb
          have hb1 : (i : Int) < (m : Int) + (q.length : Int) := by omega
          have hb2 : (i : Int) + 1 < (m : Int) + (q.length : Int) := by omega
          have hwi : IntKind.i64.wrap ((i : Int) + 1) = (i : Int) + 1 := by rw [IntKind.wrap_i64]; omega
          have hwi0 : (0 : Int) ≤ (i : Int) + 1 := by omega
          have hwi1 : ((i : Int) + 1).toNat = i + 1 := by omega
          have hws : IntKind.i64.wrap (63 - (s : Int)) = 63 - (s : Int) := by rw [IntKind.wrap_i64]; omega
          have hws0 : (s : Int) ≤ 63 := by omega
          generalize hz : shr s R i = z at *
          generalize R i = x at *
          generalize R (i + 1) = y at *
          generalize F i = old at hcell
          have HZ := Lib.hid hz
          have HSL := Lib.hid hsl
          clear hz hsl hsd
          go_wp2
          have hu0d : wr.drew.cell? ⟨gu, i, none⟩ = some (.int .u64 (x : Int)) := hu0
          have hu1d : wr.drew.cell? ⟨gu, i + 1, none⟩ = some (.int .u64 (y : Int)) := hu1
          refine wp_region_still_tail 19 (by kernel_rfl) (by kernel_rfl) ?_
          simp only [List.take_succ_cons, List.take_zero, List.drop_succ_cons, List.drop_zero]
          change wpStill _ _ wr.drew _ _ _
          generalize wr.drew = W2 at hu0d hu1d ⊢
          repeat still_step
          refine wpStill_nil ?_
          go_wp2
          go_roundg (q.length - (i + 1))
          case measure => have := HK.out; omega
          case rel => exact ⟨i + 1, (fun j => if j = i then z else F j), rfl, by omega, by first | rfl | go_num, Lib.hid (HO.out.set i z), Lib.hid (set_lt HFB.out HSL.out), Lib.hid (set_up HFE.out HZ.out.symm), Lib.hid (gr_drew1 (HG2.out.setCell (a := ⟨wo.heap.size, i, none⟩) (Nat.le_refl _) _))⟩
        · obtain rfl : i = q.length := by omega
          have b1 : decide (q.length < q.length) = false := decide_eq_false (by omega)
          go_wp2
          go_ret2
          refine ⟨_, (List.range m).map fun j => G (0 + j), _, (List.range q.length).map fun j => F (0 + j), rfl, (HG.out.gr HG2.out).lim 0 m m (fun j _ => HGB.out _) (by omega) (Nat.le_refl _) (by omega), HO.out.lim 0 q.length q.length (fun j _ => HFB.out _) (by omega) (Nat.le_refl _) (by omega), ?_, ?_, by simp; omega, by simp; omega, HGR.out.tr HG2.out⟩
          · rw [rv_val, ← HQUO.out]
            exact rv_congr B fun j _ => by rw [Nat.zero_add]
          · rw [rv_val, ← HRST.out]
            exact rv_congr B fun j hj => by rw [Nat.zero_add]; exact HFE.out j hj
end Go.Proofs.YtglbdafcfcmffaaGreatDoor
