/- Layer 2's reference, plain: numbers of digits of a thousand million. No program here; Layer 2's reference, plain: texts by nine digits. No program here; Layer 2's reference: trim, OfU by contract; Texts of digits, plain: what the numeral of a number is. No program here; Layer 2's reference: GetN by contract; Layer 2's reference: Text by contract. -/
import Derived.Test.YtcjjgdoafkdeaaaGreatDoorGc
import Derived.Test.YtcjjgdoafkdeaaaGreatDoorGj
import Derived.Test.YtcjjgdoafkdeaaaGreatDoorGq
import Derived.Laws.IdiomStrings
namespace Go.Proofs.YtcjjgdoafkdeaaaGreatDoor
section
namespace Dg

/-- How many there are of one digit of the reference. -/
def D : Nat := 1000000000
theorem D_eq : D = 1000000000 := rfl
theorem D_pos : 0 < D := by decide
/-- The number of limbs, the lowest first. -/
def val : List Nat → Nat
  | [] => 0
  | x :: l => x + D * val l
def Limbs (l : List Nat) : Prop := ∀ x ∈ l, x < D
theorem val_nil : val [] = 0 := rfl
theorem val_cons (x : Nat) (l : List Nat) : val (x :: l) = x + D * val l := rfl
theorem val_append (a b : List Nat) : val (a ++ b) = val a + D ^ a.length * val b := by
  induction a with
  | nil => simp [val]
  | cons x a ih =>
    simp only [List.cons_append, val, ih, List.length_cons, Nat.pow_succ, Nat.mul_add]
    rw [← Nat.mul_assoc, Nat.mul_comm (D ^ a.length) D]; omega
theorem val_snoc (a : List Nat) (x : Nat) : val (a ++ [x]) = val a + D ^ a.length * x := by
  rw [val_append]; simp [val]
theorem val_lt (l : List Nat) (h : Limbs l) : val l < D ^ l.length := by
  induction l with
  | nil => simp [val]
  | cons x l ih =>
    have hx := h x (by simp)
    have hl := ih (fun y hy => h y (by simp [hy]))
    simp only [val, List.length_cons, Nat.pow_succ]
    calc x + D * val l < D + D * val l := by omega
      _ = D * (val l + 1) := by rw [Nat.mul_add]; omega
      _ ≤ D * D ^ l.length := Nat.mul_le_mul_left _ hl
      _ = D ^ l.length * D := Nat.mul_comm _ _
theorem val_take_succ (l : List Nat) (i : Nat) (h : i < l.length) : val (l.take (i + 1)) = val (l.take i) + D ^ i * l[i] := by
  rw [List.take_succ_eq_append_getElem h, val_snoc, List.length_take, Nat.min_eq_left (Nat.le_of_lt h)]
theorem val_take_getD (l : List Nat) (i : Nat) : val (l.take (i + 1)) = val (l.take i) + D ^ i * l.getD i 0 := by
  by_cases h : i < l.length
  · rw [val_take_succ l i h]; simp [h]
  · rw [List.take_of_length_le (by omega), List.take_of_length_le (by omega)]; simp [h]
theorem val_replicate (n : Nat) : val (List.replicate n 0) = 0 := by
  induction n with
  | zero => rfl
  | succ n ih => simp [List.replicate_succ, val, ih]
theorem val_drop_last (l : List Nat) (h : l.getLast? = some 0) : val l.dropLast = val l := by
  have hne : l ≠ [] := by rintro rfl; cases h
  obtain ⟨a, x, rfl⟩ : ∃ a x, l = a ++ [x] := ⟨l.dropLast, l.getLast hne, (List.dropLast_concat_getLast hne).symm⟩
  simp at h
  subst h
  simp [val_snoc]
theorem norm_pos (l : List Nat) (hn : Norm l) (hne : l ≠ []) : D ^ (l.length - 1) ≤ val l := by
  obtain ⟨a, x, rfl⟩ : ∃ a x, l = a ++ [x] := ⟨l.dropLast, l.getLast hne, (List.dropLast_concat_getLast hne).symm⟩
  have hx : x ≠ 0 := by intro h; apply hn; simp [h]
  rw [val_snoc, List.length_append, List.length_singleton, Nat.add_sub_cancel]
  calc D ^ a.length = D ^ a.length * 1 := (Nat.mul_one _).symm
    _ ≤ D ^ a.length * x := Nat.mul_le_mul_left _ (by omega)
    _ ≤ _ := Nat.le_add_left _ _
theorem norm_zero (l : List Nat) (hn : Norm l) : val l = 0 ↔ l = [] := by
  constructor
  · intro h
    by_cases hne : l = []
    · exact hne
    · have := norm_pos l hn hne
      have := Nat.pow_pos (n := l.length - 1) D_pos
      omega
  · rintro rfl; rfl
theorem norm_length (l : List Nat) (hn : Norm l) (k : Nat) (h : val l < D ^ k) : l.length ≤ k := by
  by_cases hne : l = []
  · simp [hne]
  · have h1 := norm_pos l hn hne
    have h2 := Nat.lt_of_le_of_lt h1 h
    have h3 := (Nat.pow_lt_pow_iff_right (by decide : 1 < D)).1 h2
    have := List.length_pos_iff.2 hne
    omega
/-- Which limbs are greater tells which number is. -/
theorem val_lt_of_length (a b : List Nat) (ha : Limbs a) (hb : Norm b) (h : a.length < b.length) : val a < val b := by
  have h1 := val_lt a ha
  have h2 := norm_pos b hb (by rintro rfl; simp at h)
  have h3 : D ^ a.length ≤ D ^ (b.length - 1) := Nat.pow_le_pow_right D_pos (by omega)
  omega
theorem val_split (l : List Nat) (i : Nat) (h : i < l.length) : val l = val (l.take i) + D ^ i * (l[i] + D * val (l.drop (i + 1))) := by
  conv => lhs; rw [← List.take_append_drop i l, List.drop_eq_getElem_cons h]
  rw [val_append, List.length_take, Nat.min_eq_left (Nat.le_of_lt h)]; rfl
theorem limbs_take {l : List Nat} (h : Limbs l) (i : Nat) : Limbs (l.take i) := fun x hx => h x (List.mem_of_mem_take hx)
theorem limbs_drop {l : List Nat} (h : Limbs l) (i : Nat) : Limbs (l.drop i) := fun x hx => h x (List.mem_of_mem_drop hx)
/-- The first limb from above that differs decides. -/
theorem val_lt_of_limb (a b : List Nat) (ha : Limbs a) (i : Nat) (hia : i < a.length) (hib : i < b.length) (hd : a.drop (i + 1) = b.drop (i + 1)) (h : a[i] < b[i]) : val a < val b := by
  rw [val_split a i hia, val_split b i hib, hd]
  have h1 := val_lt _ (limbs_take ha i)
  rw [List.length_take, Nat.min_eq_left (Nat.le_of_lt hia)] at h1
  have h2 : D ^ i * (a[i] + D * val (b.drop (i + 1)) + 1) ≤ D ^ i * (b[i] + D * val (b.drop (i + 1))) := Nat.mul_le_mul_left _ (by omega)
  rw [Nat.mul_add _ _ 1] at h2
  omega

theorem limbs_B {l : List Nat} (h : Limbs l) : Go.Proofs.YtcjjgdoafkdeaaaGreatDoor.Limbs l := fun x hx => Nat.lt_trans (h x hx) (by decide)
/-- The digits of a number, the lowest first. -/
def digs : Nat → List Nat
  | 0 => []
  | n + 1 => ((n + 1) % D) :: digs ((n + 1) / D)
decreasing_by exact Nat.div_lt_self (Nat.succ_pos n) (show 1 < D by decide)
theorem digs_zero : digs 0 = [] := by rw [digs]
theorem digs_pos (n : Nat) (h : 0 < n) : digs n = (n % D) :: digs (n / D) := by
  cases n with
  | zero => omega
  | succ n => rw [digs]
theorem val_digs (n : Nat) : val (digs n) = n := by
  induction n using Nat.strongRecOn with
  | _ n ih =>
    by_cases h : 0 < n
    · rw [digs_pos n h, val_cons, ih _ (Nat.div_lt_self h (show 1 < D by decide)), Nat.mod_add_div]
    · obtain rfl : n = 0 := by omega
      rw [digs_zero]; rfl
theorem digs_limbs (n : Nat) : Limbs (digs n) := by
  induction n using Nat.strongRecOn with
  | _ n ih =>
    by_cases h : 0 < n
    · rw [digs_pos n h]
      intro x hx
      rcases List.mem_cons.1 hx with rfl | hx
      · exact Nat.mod_lt _ D_pos
      · exact ih _ (Nat.div_lt_self h (show 1 < D by decide)) x hx
    · obtain rfl : n = 0 := by omega
      rw [digs_zero]; intro x hx; cases hx
theorem digs_norm (n : Nat) : Norm (digs n) := by
  induction n using Nat.strongRecOn with
  | _ n ih =>
    by_cases h : 0 < n
    · rw [digs_pos n h]
      by_cases h2 : 0 < n / D
      · have := ih _ (Nat.div_lt_self h (show 1 < D by decide))
        unfold Norm at this ⊢
        rw [digs_pos _ h2] at this ⊢
        rw [List.getLast?_cons_cons]
        exact this
      · have e : n / D = 0 := Nat.eq_zero_of_not_pos h2
        rw [e, digs_zero]
        have : n % D = n := Nat.mod_eq_of_lt ((Nat.div_eq_zero_iff_lt D_pos).1 e)
        unfold Norm
        rw [this]
        simp
        omega
    · obtain rfl : n = 0 := by omega
      rw [digs_zero]; simp [Norm]
/-- A number has one row of digits. -/
theorem val_inj : ∀ (a b : List Nat), Limbs a → Limbs b → Norm a → Norm b → val a = val b → a = b
  | [], b, _, _, _, hb, h => ((norm_zero b hb).1 h.symm).symm
  | a, [], _, _, ha, _, h => (norm_zero a ha).1 h
  | x :: a, y :: b, la, lb, ha, hb, h => by
    have hx := la x (by simp)
    have hy := lb y (by simp)
    rw [val_cons, val_cons] at h
    have e : x = y := by
      have := congrArg (· % D) h
      simp only [Nat.add_mul_mod_self_left, Nat.mod_eq_of_lt hx, Nat.mod_eq_of_lt hy] at this
      exact this
    subst e
    have e2 : val a = val b := Nat.eq_of_mul_eq_mul_left D_pos (by omega)
    have na : Norm a := by
      cases a with
      | nil => simp [Norm]
      | cons z a => unfold Norm at ha ⊢; rw [List.getLast?_cons_cons] at ha; exact ha
    have nb : Norm b := by
      cases b with
      | nil => simp [Norm]
      | cons z b => unfold Norm at hb ⊢; rw [List.getLast?_cons_cons] at hb; exact hb
    rw [val_inj a b (fun z hz => la z (by simp [hz])) (fun z hz => lb z (by simp [hz])) na nb e2]
theorem digs_val (l : List Nat) (hl : Limbs l) (hn : Norm l) : digs (val l) = l := val_inj _ _ (digs_limbs _) hl (digs_norm _) hn (val_digs _)
theorem digs_len (n k : Nat) (h : n < D ^ k) : (digs n).length ≤ k := norm_length _ (digs_norm n) k (by rw [val_digs]; exact h)
end Dg
end
section
open Go.RowKit
set_option linter.unusedVariables false

theorem D_pow (k : Nat) : Dg.D ^ k = 10 ^ (9 * k) := by rw [Nat.pow_mul]; rfl
theorem dv_nil : dv [] = 0 := rfl
theorem dv_one (c : UInt8) : dv [c] = c.toNat - 48 := by simp [dv]
theorem dv_cons (c : UInt8) (l : List UInt8) : dv (c :: l) = (c.toNat - 48) * 10 ^ l.length + dv l := by
  rw [show c :: l = [c] ++ l from rfl, dv_append, dv_one]
theorem dv_split (L : List UInt8) (lo e : Nat) (h1 : lo ≤ e) (h2 : e ≤ L.length) : dv (L.drop lo) = dv ((L.drop lo).take (e - lo)) * 10 ^ (L.length - e) + dv (L.drop e) := by
  conv => lhs; rw [← List.take_append_drop (e - lo) (L.drop lo)]
  rw [dv_append, List.drop_drop, List.length_drop, show lo + (e - lo) = e by omega]
/-- The number that the digits from lo to j are. -/
def dw (L : List UInt8) (lo j : Nat) : Nat := dv ((L.drop lo).take (j - lo))
def DigW (L : List UInt8) (lo j : Nat) : Prop := Dig ((L.drop lo).take (j - lo))
theorem dw_start (L : List UInt8) (lo : Nat) : dw L lo lo = 0 := by unfold dw; rw [Nat.sub_self, List.take_zero]; rfl
theorem digW_start (L : List UInt8) (lo : Nat) : DigW L lo lo := by unfold DigW; rw [Nat.sub_self, List.take_zero]; intro c hc; cases hc
theorem take_next (L : List UInt8) (lo j : Nat) (h1 : lo ≤ j) (h2 : j < L.length) : (L.drop lo).take (j + 1 - lo) = (L.drop lo).take (j - lo) ++ [L[j]] := by
  have hl : j - lo < (L.drop lo).length := by rw [List.length_drop]; omega
  rw [show j + 1 - lo = j - lo + 1 by omega, List.take_succ_eq_append_getElem hl, List.getElem_drop]
  simp only [show lo + (j - lo) = j by omega]
theorem dw_next (L : List UInt8) (lo j : Nat) (h1 : lo ≤ j) (h2 : j < L.length) : dw L lo (j + 1) = dw L lo j * 10 + (L[j].toNat - 48) := by
  unfold dw
  rw [take_next L lo j h1 h2, dv_append, dv_one]
  simp
theorem digW_next (L : List UInt8) (lo j : Nat) (h1 : lo ≤ j) (h2 : j < L.length) (h : DigW L lo j) (h48 : 48 ≤ L[j].toNat) (h57 : L[j].toNat ≤ 57) : DigW L lo (j + 1) := by
  unfold DigW at *
  rw [take_next L lo j h1 h2]
  intro c hc
  rcases List.mem_append.1 hc with hc | hc
  · exact h c hc
  · rw [List.mem_singleton.1 hc]; exact ⟨h48, h57⟩
theorem dw_lt (L : List UInt8) (lo j : Nat) (h : DigW L lo j) (h1 : lo ≤ j) (h9 : j ≤ lo + 9) : dw L lo j < 1000000000 := by
  have := dv_lt _ h
  refine Nat.lt_of_lt_of_le this ?_
  rw [List.length_take]
  exact Nat.pow_le_pow_right (by decide) (by omega : _ ≤ 9)
/-- A group more. -/
theorem group_val (L : List UInt8) (p : List Nat) (lo e : Nat) (h1 : lo ≤ e) (he : e + 9 * p.length = L.length) (hv : Dg.val p = dv (L.drop e)) : Dg.val (p ++ [dw L lo e]) = dv (L.drop lo) := by
  rw [Dg.val_snoc, hv, dv_split L lo e h1 (by omega), D_pow, show L.length - e = 9 * p.length by omega]
  unfold dw
  rw [Nat.mul_comm, Nat.add_comm]
theorem group_dig (L : List UInt8) (lo e : Nat) (h1 : lo ≤ e) (h : Dig (L.drop e)) (hw : DigW L lo e) : Dig (L.drop lo) := by
  rw [← List.take_append_drop (e - lo) (L.drop lo), List.drop_drop, show lo + (e - lo) = e by omega]
  intro c hc
  rcases List.mem_append.1 hc with hc | hc
  · exact hw c hc
  · exact h c hc
theorem not_dig (L : List UInt8) (j : Nat) (hj : j < L.length) (h : ¬ (48 ≤ L[j].toNat ∧ L[j].toNat ≤ 57)) : ¬ Dig L := fun hd => h (hd _ (List.getElem_mem hj))

/-- A digit more ahead of a text. -/
theorem text_step (S : List UInt8) (c : UInt8) (d0 i k v : Nat) (hc : c.toNat = 48 + d0 / 10 ^ k % 10) (hl : S.length = 9 * i + k) (hv : dv S = d0 % 10 ^ k * 10 ^ (9 * i) + v) :
    dv (c :: S) = d0 % 10 ^ (k + 1) * 10 ^ (9 * i) + v := by
  rw [dv_cons, hl, hv, hc, Nat.mod_pow_succ, Nat.add_sub_cancel_left, Nat.pow_add]
  generalize d0 / 10 ^ k % 10 = x
  generalize d0 % 10 ^ k = y
  generalize 10 ^ (9 * i) = q
  generalize 10 ^ k = p
  have h : p * x * q = x * (q * p) := by rw [Nat.mul_comm p x, Nat.mul_assoc, Nat.mul_comm p q]
  rw [Nat.add_mul, h]
  omega
theorem text_group (l : List Nat) (i : Nat) (hi : i < l.length) (hl : Dg.Limbs l) (S : List UInt8) (hv : dv S = l[i] % 10 ^ 9 * 10 ^ (9 * i) + Dg.val (l.take i)) : dv S = Dg.val (l.take (i + 1)) := by
  have h : l[i] % 10 ^ 9 = l[i] := Nat.mod_eq_of_lt (hl _ (List.getElem_mem hi))
  rw [Dg.val_take_succ l i hi, hv, D_pow, h, Nat.add_comm, Nat.mul_comm]
theorem dig_cons (c : UInt8) (S : List UInt8) (d : Nat) (hc : c.toNat = 48 + d % 10) (h : Dig S) : Dig (c :: S) := by
  intro x hx
  rcases List.mem_cons.1 hx with rfl | hx
  · have := Nat.mod_lt d (show 0 < 10 by decide)
    omega
  · exact h x hx
theorem dv_strip (c : UInt8) (S : List UInt8) (hc : c.toNat = 48) : dv (c :: S) = dv S := by rw [dv_cons, hc]; simp
end
section
open Go.RowKit Go.Extern.Stop Go.Stop Go.Extern Go.Sort
set_option linter.unusedVariables false
set_option linter.unusedSimpArgs false

/-- A number of the reference behind a slice. -/
def RN (w : World) (v : Value) (n : Nat) : Prop := Lim w v (Dg.digs n)
theorem RN.gr {w w' : World} (hg : Gr w w') {v : Value} {n : Nat} (h : RN w v n) : RN w' v n := Lim.gr hg h
theorem RN.mk {w : World} {v : Value} {l : List Nat} {n : Nat} (h : Lim w v l) (hd : Dg.Limbs l) (hn : Norm l) (hv : Dg.val l = n) : RN w v n := by
  subst hv
  unfold RN
  rw [Dg.digs_val l hd hn]
  exact h
theorem underN : Tryz.prog.underlying 25 = some (.slice 56) := by kernel_rfl

set_option maxRecDepth 100000 in
set_option maxHeartbeats 1000000 in
/-- rentierref2.trim. -/
theorem rtrim_calls (v : Value) (l : List Nat) (w : World) (h : Lim w v l) (hdd : Dg.Limbs l) (hsz : l.length ≤ 1000000000) :
    Calls Tryz.prog 131 #[v] w fun e w' => (∃ r, e = .returned r ∧ RN w' r (Dg.val l)) ∧ w = w' := by
  have HDD := Lib.hid hdd
  have H := Lib.hid h
  obtain ⟨a, c, rfl⟩ := h.slice
  clear h hdd
  go_enter Tryz.func131, Tryz.ntmps131
  go_wp2
  go_loopg [0] l.length (fun k v wr => ∃ l', k = l'.length ∧ l'.length ≤ l.length ∧ Lim w v l' ∧ Dg.val l' = Dg.val l ∧ Hid (Dg.Limbs l') ∧ w = wr)
  case atStart => exact ⟨l, rfl, Nat.le_refl _, H.out, rfl, HDD, rfl⟩
  case round =>
    obtain ⟨l', hk, hle, hl, hv, HDL, rfl⟩ := hrel
    obtain ⟨a', c', rfl⟩ := hl.slice
    have HV := Lib.hid hv
    have HK := Lib.hid hk
    have HL := Lib.hid hl
    clear hv hk
    by_cases hne : 0 < l'.length
    · rcases hl.2 with ⟨h1, h2⟩ | ⟨g, o, c'', h1, h2, h3, h4, h5⟩
      · subst h2; simp at hne
      cases h1
      have hx : l'.getLast? = some (l'[l'.length - 1]'(by omega)) := by rw [List.getLast?_eq_getElem?, List.getElem?_eq_getElem (by omega)]
      have hc : w.cell? ⟨g, o + (l'.length - 1), none⟩ = some (.int .u64 ((l'[l'.length - 1]'(by omega) : Nat) : Int)) := h5 _ (by omega)
      generalize l'[l'.length - 1]'(by omega) = x at hx hc
      have HX := Lib.hid hx
      clear hx
      have hsub : ((l'.length : Int) - 1).toNat = l'.length - 1 := by omega
      have h5' := Lib.hid h5
      clear h5
      by_cases hx0 : x = 0
      · have hb : ((x : Int) == 0) = true := beq_iff_eq.2 (by omega)
        go_wp2
        go_roundg (l'.length - 1)
        case measure => have := HK.out; omega
        case rel => exact ⟨l'.take (l'.length - 1), by rw [List.length_take]; omega, by rw [List.length_take]; omega, by have := HL.out.take (l'.length - 1) (by omega); exact this, by rw [← HV.out, ← List.dropLast_eq_take, Dg.val_drop_last _ (by rw [HX.out, hx0])], Lib.hid (Dg.limbs_take HDL.out _), rfl⟩
      · have hb : ((x : Int) == 0) = false := beq_eq_false_iff_ne.2 (by omega)
        have HX0 := Lib.hid hx0
        clear hx0
        go_wp2
        go_ret
        exact ⟨⟨_, rfl, RN.mk HL.out HDL.out (by unfold Norm; rw [HX.out]; intro h; injection h with h; exact HX0.out h) HV.out⟩, rfl⟩
    · have hnil : l' = [] := List.eq_nil_of_length_eq_zero (by omega)
      have HNL := Lib.hid hnil
      clear hnil
      go_wp2
      go_ret
      exact ⟨⟨_, rfl, RN.mk HL.out HDL.out (by rw [HNL.out]; simp [Norm]) HV.out⟩, rfl⟩

set_option maxRecDepth 100000 in
set_option maxHeartbeats 1000000 in
/-- rentierref2.OfU. -/
theorem ofU_calls (x : Nat) (hx : x < B) (w : World) :
    Calls Tryz.prog 27 #[.int .u64 (x : Int)] w fun e w' => (∃ r, e = .returned r ∧ RN w' r x) ∧ Gr w w' := by
  obtain ⟨i0, hi, hz0, hz1, hz2⟩ := info_parts info45
  have hl3 : (Dg.digs x).length ≤ 3 := Dg.digs_len x 3 (Nat.lt_trans hx (by decide))
  rw [B_eq] at hx
  go_enter Tryz.func27, Tryz.ntmps27
  go_wp2
  go_loopg [0, 3] x (fun g sx sn wr => ∃ (y : Nat) (p : List Nat), g = y ∧ sx = .int .u64 (y : Int) ∧ y ≤ x ∧ Hid (Dg.digs x = p ++ Dg.digs y) ∧ Hid (wr.ownsRow w.heap.size 56 1 sn p.length (p.map U)) ∧ Hid (Gr w wr))
  case atStart => exact ⟨x, [], rfl, rfl, Nat.le_refl _, Lib.hid rfl, Lib.hid (World.ownsRow_nil _ _ _ _), Lib.hid (Gr.rf w)⟩
  case round =>
    obtain ⟨y, p, hg, rfl, hyx, HD, HOW, HG⟩ := hrel
    have HGG := Lib.hid hg
    have hpl : p.length + (Dg.digs y).length ≤ 3 := by have := congrArg List.length HD.out; rw [List.length_append] at this; omega
    clear hg
    by_cases hy : 0 < y
    · have b1 : decide ((0 : Int) < (y : Int)) = true := decide_eq_true (by omega)
      have e1 : (y : Int) % 1000000000 = ((y % 1000000000 : Nat) : Int) := by omega
      have e2 : (y : Int) / 1000000000 = ((y / 1000000000 : Nat) : Int) := by omega
      have HDP := Lib.hid (Dg.digs_pos y hy)
      have hs := HG.out.size
      have hq : y % 1000000000 < B := by rw [B_eq]; omega
      obtain ⟨q, hqq⟩ : ∃ q, y % 1000000000 = q := ⟨_, rfl⟩
      obtain ⟨z, hzz⟩ : ∃ z, y / 1000000000 = z := ⟨_, rfl⟩
      have hzy : z < y := by omega
      rw [hqq] at e1 hq
      rw [hzz] at e2
      have HD2 : Hid (Dg.digs x = (p ++ [q]) ++ Dg.digs z) := Lib.hid (by rw [HD.out, HDP.out, List.append_assoc]; show p ++ (y % 1000000000) :: Dg.digs (y / 1000000000) = _; rw [hqq, hzz]; rfl)
      clear hqq hzz
      go_wp2_with (at_builtin; refine wpList_append_own _ rfl _ _ 25 rfl w.heap.size 56 i0 (.int .u64 0) 1 8 underN hi hz0 hz1 hz2 rfl (by decide) _ _ _ rfl (HOW.out.alloc _) ⟨wr.heap.size, 0, none⟩ 1 1 [.int .u64 (q : Int)] rfl rfl (cell_one_new _ _ _) (fun x hx => by simp at hx; subst hx; rfl) (by simp only [maxLen]; omega) (by omega) (by simp; omega) ?_; intro v' w2 hown1 hgrow _)
      have HOW2 := Lib.hid hown1
      have HG2 := Lib.hid (show Gr w w2 from Below.grown (HG.out.tr ((Gr.rf wr).alloc (Nat.le_refl _) _)) hgrow (by have := HG.out.size; simp; omega) (fun j hj => (HOW.out.lt j hj).1))
      clear hown1 hgrow
      go_wp2
      go_roundg z
      case measure => have := HGG.out; omega
      case rel => exact ⟨z, p ++ [q], rfl, by first | rfl | (rw [e2]), by omega, HD2, Lib.hid (by rw [List.map_append, List.length_append]; exact HOW2.out), HG2⟩
    · have b1 : decide ((0 : Int) < (y : Int)) = false := decide_eq_false (by omega)
      obtain rfl : y = 0 := by omega
      have HF := Lib.hid (HD.out.trans (by rw [Dg.digs_zero, List.append_nil]))
      have HL := Lib.hid (lim_own HOW.out (by rw [← HF.out]; exact Dg.limbs_B (Dg.digs_limbs x)))
      clear hy
      go_wp2
      go_ret
      exact ⟨⟨_, rfl, by unfold RN; rw [HF.out]; exact HL.out⟩, HG.out⟩
end
section
open Go.RowKit

theorem digit_byte (k : Nat) : (UInt8.ofNat (48 + k % 10)).toNat = 48 + k % 10 := by
  rw [UInt8.toNat_ofNat']; omega
theorem numeral (n : Nat) : Dig (Lib.decDigits n) ∧ dv (Lib.decDigits n) = n ∧ Lib.decDigits n ≠ [] ∧ ((Lib.decDigits n).length = 1 ∨ (Lib.decDigits n).head? ≠ some 48) := by
  induction n using Nat.strongRecOn with
  | _ n ih =>
    by_cases h : n < 10
    · have e : (UInt8.ofNat (48 + n)).toNat = 48 + n := by rw [UInt8.toNat_ofNat']; omega
      rw [Lib.decDigits_one h]
      refine ⟨fun c hc => ?_, ?_, by simp, .inl rfl⟩
      · rw [List.mem_singleton.1 hc, e]; omega
      · rw [dv_one, e]; omega
    · obtain ⟨h1, h2, h3, h4⟩ := ih (n / 10) (by omega)
      rw [Lib.decDigits, dif_neg h]
      refine ⟨fun c hc => ?_, ?_, by simp, .inr ?_⟩
      · rcases List.mem_append.1 hc with hc | hc
        · exact h1 c hc
        · rw [List.mem_singleton.1 hc, digit_byte]; omega
      · rw [dv_append, h2, dv_one, digit_byte, List.length_singleton]; omega
      · rcases h4 with h4 | h4
        · have h5 : 1 ≤ n / 10 := by omega
          cases hl : Lib.decDigits (n / 10) with
          | nil => exact absurd hl h3
          | cons a l =>
            rw [hl] at h2 h4
            have : l = [] := List.eq_nil_of_length_eq_zero (by simpa using h4)
            subst this
            rw [dv_one] at h2
            intro h6
            simp at h6
            subst h6
            rw [show (48 : UInt8).toNat = 48 from rfl] at h2
            omega
        · cases hl : Lib.decDigits (n / 10) with
          | nil => exact absurd hl h3
          | cons a l => rw [hl] at h4; simpa using h4
end
section
open Go.RowKit Go.Extern.Stop Go.Stop Go.Extern Go.Sort
set_option linter.unusedVariables false
set_option linter.unusedSimpArgs false

theorem at_list (s : ByteArray) (i : Nat) (h : i < s.size) (h2 : i < s.data.toList.length) : s.data.toList[i] = s[i]'h := by
  rw [Array.getElem_toList]; rfl
set_option maxRecDepth 100000 in
set_option maxHeartbeats 8000000 in
/-- GetN of a text whose head is no fault. -/
theorem rgetN_pass (s : ByteArray) (w : World) (hne : 0 < s.size) (hlen : s.size ≤ 4000) (h0 : s.size = 1 ∨ ∀ h : 0 < s.size, (s[0]'h).toNat ≠ 48) :
    Calls Tryz.prog 64 #[.string s] w fun e w' => ((Dig s.data.toList → ∃ r, e = .returned (.tuple #[r, .bool true]) ∧ RN w' r (dv s.data.toList)) ∧ (¬ Dig s.data.toList → e = .returned (.tuple #[.slice none 0 0, .bool false]))) ∧ Gr w w' := by
  obtain ⟨i0, hi, hz0, hz1, hz2⟩ := info_parts info45
  have e1 : decide ((s.size : Int) < 1) = false := decide_eq_false (by omega)
  have e2 : decide ((4000 : Int) < (s.size : Int)) = false := decide_eq_false (by omega)
  have e3 : (s.size = 1 ∧ decide ((1 : Int) < (s.size : Int)) = false) ∨ (decide ((1 : Int) < (s.size : Int)) = true ∧ ∀ h : 0 < s.size, (((s[0]'h).toNat : Int) == 48) = false) := by
    by_cases h1 : s.size = 1
    · exact .inl ⟨h1, decide_eq_false (by omega)⟩
    · refine .inr ⟨decide_eq_true (by omega), fun h => beq_eq_false_iff_ne.2 ?_⟩
      have := h0.resolve_left h1 h
      omega
  have hLs : s.data.toList.length = s.size := (Lib.size_eq s).symm
  clear h0
  rcases e3 with ⟨hs1, b3⟩ | ⟨b3, b4⟩
  case' inl => have HS1 := Lib.hid hs1; clear hs1
  case' inr => have b5 := b4 hne; clear b4
  all_goals
    go_enter Tryz.func64, Tryz.ntmps64
    go_wp2
    go_loopg [4, 5] s.size (fun g sn se wr => ∃ (e : Int) (p : List Nat), g = e.toNat ∧ se = .int .i64 e ∧ e ≤ s.size ∧ -9 ≤ e ∧ Hid (0 ≤ e → e + 9 * p.length = s.size) ∧ Hid (9 * p.length ≤ s.size + 8) ∧ Hid (Dg.Limbs p) ∧ Hid (Dg.val p = dv (s.data.toList.drop e.toNat)) ∧ Hid (Dig (s.data.toList.drop e.toNat)) ∧ Hid (wr.ownsRow w.heap.size 56 1 sn p.length (p.map U)) ∧ Hid (Gr w wr))
    case atStart =>
      have hd0 : s.data.toList.drop (s.size : Int).toNat = [] := List.drop_of_length_le (by rw [hLs]; omega)
      exact ⟨(s.size : Int), [], by omega, rfl, Int.le_refl _, by omega, Lib.hid (fun _ => by simp), Lib.hid (by simp), Lib.hid (fun x hx => by cases hx), Lib.hid (by rw [hd0]; rfl), Lib.hid (by rw [hd0]; intro c hc; cases hc), Lib.hid (World.ownsRow_nil _ _ _ _), Lib.hid (Gr.rf w)⟩
    case round =>
      obtain ⟨e, p, hg, rfl, he1, he0, HE, HP9, HPL, HPV, HPD, HOW, HG⟩ := hrel
      have HGG := Lib.hid hg
      clear hg
      by_cases hpos : 0 < e
      · obtain ⟨E, rfl⟩ : ∃ E : Nat, e = (E : Int) := ⟨e.toNat, by omega⟩
        have b1 : decide ((0 : Int) < (E : Int)) = true := decide_eq_true (by omega)
        have b1n : decide (0 < E) = true := decide_eq_true (by omega)
        obtain ⟨lo, hlo, hlo1, hlo2, hlo3⟩ : ∃ lo : Nat, max ((E : Int) - 9) 0 = (lo : Int) ∧ lo ≤ E ∧ E ≤ lo + 9 ∧ ((E : Int) - 9).toNat = lo := ⟨E - 9, by omega, by omega, by omega, by omega⟩
        have HE9 := Lib.hid (HE.out (by omega))
        go_wp2
        go_loopg [6, 7] (E - lo) (fun g2 sd si wr2 => ∃ j : Nat, g2 = E - j ∧ lo ≤ j ∧ j ≤ E ∧ sd = .int .u64 ((dw s.data.toList lo j : Nat) : Int) ∧ si = .int .i64 (j : Int) ∧ Hid (DigW s.data.toList lo j) ∧ wr = wr2)
        case atStart => exact ⟨lo, rfl, Nat.le_refl _, hlo1, by rw [dw_start]; rfl, by first | rfl | (rw [hlo]) | simp [hlo], Lib.hid (digW_start _ _), rfl⟩
        case round =>
          obtain ⟨j, hg2, hj1, hj2, rfl, rfl, HDW, rfl⟩ := hrel
          have HG2 := Lib.hid hg2
          clear hg2
          have hy9 := dw_lt s.data.toList lo j HDW.out hj1 (by omega)
          generalize hy : dw s.data.toList lo j = y at hy9 ⊢
          have HY := Lib.hid hy
          clear hy
          by_cases hjl : j < E
          · have b2 : decide ((j : Int) < (E : Int)) = true := decide_eq_true (by omega)
            have b2n : decide (j < E) = true := decide_eq_true hjl
            have hjs : j < s.size := by omega
            have HSL := Lib.hid (at_list s j hjs (by omega))
            have hx0 : ((s[j]'hjs).toNat : Int) < 256 := by have := (s[j]'hjs).toNat_lt; omega
            by_cases c1 : ((s[j]'hjs).toNat : Int) < 48
            · have b3 : decide (((s[j]'hjs).toNat : Int) < 48) = true := decide_eq_true c1
              have HND := Lib.hid (not_dig s.data.toList j (by omega) (by rw [HSL.out]; omega))
              go_wp2
              go_ret2
              exact ⟨⟨fun h => absurd h HND.out, fun _ => rfl⟩, HG.out⟩
            · have b3 : decide (((s[j]'hjs).toNat : Int) < 48) = false := decide_eq_false c1
              by_cases c2 : 57 < ((s[j]'hjs).toNat : Int)
              · have b4 : decide (57 < ((s[j]'hjs).toNat : Int)) = true := decide_eq_true c2
                have HND := Lib.hid (not_dig s.data.toList j (by omega) (by rw [HSL.out]; omega))
                go_wp2
                go_ret2
                exact ⟨⟨fun h => absurd h HND.out, fun _ => rfl⟩, HG.out⟩
              · have b4 : decide (57 < ((s[j]'hjs).toNat : Int)) = false := decide_eq_false c2
                have HNX := Lib.hid (dw_next s.data.toList lo j hj1 (by omega))
                have HDX := Lib.hid (digW_next s.data.toList lo j hj1 (by omega) HDW.out (by rw [HSL.out]; omega) (by rw [HSL.out]; omega))
                go_wp2
                go_roundg (E - (j + 1))
                case measure => have := HG2.out; omega
                case rel => exact ⟨j + 1, rfl, by omega, by omega, by
                  rw [HNX.out, HY.out, HSL.out]
                  first | (congr 1; omega) | (generalize (s[j]'hjs).toNat = q at *; congr 1; omega), by go_num, HDX, rfl⟩
          · have hje : j = E := by omega
            subst hje
            have b2 : decide ((j : Int) < (j : Int)) = false := decide_eq_false (by omega)
            have b2n : decide (j < j) = false := decide_eq_false (by omega)
            have hs := HG.out.size
            have hp9 := HP9.out
            go_wp2_with (at_builtin; refine wpList_append_own _ rfl _ _ 25 rfl w.heap.size 56 i0 (.int .u64 0) 1 8 underN hi hz0 hz1 hz2 rfl (by decide) _ _ _ rfl (HOW.out.alloc _) ⟨wr.heap.size, 0, none⟩ 1 1 [.int .u64 (y : Int)] rfl rfl (cell_one_new _ _ _) (fun x hx => by simp at hx; subst hx; rfl) (by simp only [maxLen]; omega) (by omega) (by simp; omega) ?_; intro v' w2 hown1 hgrow _)
            have HOW2 := Lib.hid hown1
            have HGW := Lib.hid (show Gr w w2 from Below.grown (HG.out.tr ((Gr.rf wr).alloc (Nat.le_refl _) _)) hgrow (by have := HG.out.size; simp; omega) (fun j hj => (HOW.out.lt j hj).1))
            clear hown1 hgrow
            go_wp2
            go_roundg ((j : Int) - 9).toNat
            case measure => have := HGG.out; omega
            case rel => exact ⟨(j : Int) - 9, p ++ [y], rfl, by first | rfl | go_num, by omega, by omega,
              Lib.hid (fun h => by rw [List.length_append, List.length_singleton]; have := HE9.out; omega),
              Lib.hid (by rw [List.length_append, List.length_singleton]; have := HE9.out; omega),
              Lib.hid (fun x hx => by
                rcases List.mem_append.1 hx with hx | hx
                · exact HPL.out x hx
                · rw [List.mem_singleton.1 hx]; exact hy9),
              Lib.hid (by rw [hlo3, ← HY.out]; exact group_val _ p lo j hlo1 (by rw [hLs]; have := HE9.out; omega) (by have := HPV.out; rwa [Int.toNat_natCast] at this)),
              Lib.hid (by rw [hlo3]; exact group_dig _ lo j hlo1 (by have := HPD.out; rwa [Int.toNat_natCast] at this) HDW.out),
              Lib.hid (by rw [List.map_append, List.length_append]; exact HOW2.out), HGW⟩
      · have b1 : decide ((0 : Int) < e) = false := decide_eq_false (by omega)
        have ht : e.toNat = 0 := by omega
        have HV := Lib.hid (show Dg.val p = dv s.data.toList by have := HPV.out; rwa [ht, List.drop_zero] at this)
        have HDI := Lib.hid (show Dig s.data.toList by have := HPD.out; rwa [ht, List.drop_zero] at this)
        have HT := Lib.hid (rtrim_calls _ p _ (lim_own HOW.out (Dg.limbs_B HPL.out)) HPL.out (by have := HP9.out; omega))
        rw [HV.out] at HT
        clear ht
        go_wp2_with (go_at_call 131; (with_reducible refine HT.out.mono ?_); rintro ev w1 ⟨⟨r, rfl, hr⟩, rfl⟩; have HR := Lib.hid hr; clear hr)
        go_ret2
        exact ⟨⟨fun _ => ⟨_, rfl, HR.out⟩, fun h => absurd HDI.out h⟩, HG.out⟩
set_option maxRecDepth 100000 in
set_option maxHeartbeats 2000000 in
/-- GetN of a text whose head is a fault. -/
theorem rgetN_head (s : ByteArray) (w : World) (h : s.size = 0 ∨ 4000 < s.size ∨ (1 < s.size ∧ ∀ h : 0 < s.size, (s[0]'h).toNat = 48)) :
    Calls Tryz.prog 64 #[.string s] w fun e w' => e = .returned (.tuple #[.slice none 0 0, .bool false]) ∧ Gr w w' := by
  by_cases c1 : s.size = 0
  · have e1 : decide ((s.size : Int) < 1) = true := decide_eq_true (by omega)
    clear h
    go_enter Tryz.func64, Tryz.ntmps64
    go_wp2
    go_ret2
    exact ⟨rfl, Gr.rf _⟩
  · have e1 : decide ((s.size : Int) < 1) = false := decide_eq_false (by omega)
    have hpos : 0 < s.size := by omega
    by_cases c2 : 4000 < s.size
    · have e2 : decide ((4000 : Int) < (s.size : Int)) = true := decide_eq_true (by omega)
      clear h
      go_enter Tryz.func64, Tryz.ntmps64
      go_wp2
      go_ret2
      exact ⟨rfl, Gr.rf _⟩
    · have e2 : decide ((4000 : Int) < (s.size : Int)) = false := decide_eq_false (by omega)
      obtain ⟨h1, h2⟩ := (h.resolve_left c1).resolve_left c2
      have h3 := h2 hpos
      have e3 : decide ((1 : Int) < (s.size : Int)) = true := decide_eq_true (by omega)
      have e4 : (((s[0]'hpos).toNat : Int) == 48) = true := beq_iff_eq.2 (by omega)
      clear h h2 h3
      go_enter Tryz.func64, Tryz.ntmps64
      go_wp2
      go_ret2
      exact ⟨rfl, Gr.rf _⟩
/-- Which texts are numbers. -/
def NumT (s : ByteArray) : Prop := 0 < s.size ∧ s.size ≤ 4000 ∧ (s.size = 1 ∨ ∀ h : 0 < s.size, (s[0]'h).toNat ≠ 48) ∧ Dig s.data.toList
/-- GetN of whatever text. -/
theorem rgetN_calls (s : ByteArray) (w : World) :
    Calls Tryz.prog 64 #[.string s] w fun e w' => ((NumT s → ∃ r, e = .returned (.tuple #[r, .bool true]) ∧ RN w' r (dv s.data.toList)) ∧ (¬ NumT s → e = .returned (.tuple #[.slice none 0 0, .bool false]))) ∧ Gr w w' := by
  by_cases hh : 0 < s.size ∧ s.size ≤ 4000 ∧ (s.size = 1 ∨ ∀ h : 0 < s.size, (s[0]'h).toNat ≠ 48)
  · refine (rgetN_pass s w hh.1 hh.2.1 hh.2.2).mono ?_
    rintro e w' ⟨⟨h1, h2⟩, hg⟩
    exact ⟨⟨fun h => h1 h.2.2.2, fun h => h2 (fun hd => h ⟨hh.1, hh.2.1, hh.2.2, hd⟩)⟩, hg⟩
  · refine (rgetN_head s w ?_).mono ?_
    · by_cases c1 : s.size = 0
      · exact .inl c1
      · by_cases c2 : 4000 < s.size
        · exact .inr (.inl c2)
        · refine .inr (.inr ⟨?_, fun h => ?_⟩)
          · by_cases c3 : s.size = 1
            · exact absurd ⟨by omega, by omega, .inl c3⟩ hh
            · omega
          · by_cases c4 : (s[0]'h).toNat = 48
            · exact c4
            · exact absurd ⟨h, by omega, .inr fun _ => c4⟩ hh
    · rintro e w' ⟨rfl, hg⟩
      exact ⟨⟨fun h => absurd ⟨h.1, h.2.1, h.2.2.1⟩ hh, fun _ => rfl⟩, hg⟩
end
section
open Go.RowKit Go.Extern.Stop Go.Stop Go.Extern Go.Sort
set_option linter.unusedVariables false
set_option linter.unusedSimpArgs false

theorem byte_cons (c : UInt8) (S : ByteArray) : ((⟨#[c]⟩ : ByteArray) ++ S).data.toList = c :: S.data.toList := by
  rw [ByteArray.data_append, Array.toList_append]; rfl
theorem one_byte (w : World) (c : UInt8) (T E : TypeId) (hT : Tryz.prog.underlying T = some (.slice E)) (hE : Tryz.prog.underlying E = some (.int .u8)) (t : TypeId) (hS : Tryz.prog.underlying t = some .string) (u : TypeId) :
    (convert T t (.slice (some ⟨w.heap.size, 0, none⟩) 1 1)).run Tryz.prog (w.alloc (.cells #[.int .u8 (c.toNat : Int)] u)) = .ok (.string ⟨#[c]⟩) (w.alloc (.cells #[.int .u8 (c.toNat : Int)] u)) :=
  run_convert_bytes_back (P := Tryz.prog) _ T t E ⟨w.heap.size, 0, none⟩ 1 [c] hT hE hS (fun j hj => by
    have : j = 0 := by simpa using hj
    subst this
    rw [Go.WideShapes.add_plain, World.cell?_alloc_at _ _ _ _ rfl]
    rfl)
set_option maxRecDepth 100000 in
set_option maxHeartbeats 8000000 in
/-- The reference's Text. -/
theorem rtext_calls (v : Value) (n : Nat) (w : World) (h : RN w v n) (hn : n < Dg.D ^ 500) :
    Calls Tryz.prog 81 #[v] w fun e w' => e = .returned (.string ⟨(Lib.decDigits n).toArray⟩) ∧ Gr w w' := by
  have hll := Dg.digs_len n 500 hn
  have HLM := Lib.hid (Dg.digs_limbs n)
  have HVL := Lib.hid (Dg.val_digs n)
  unfold RN at h
  have HL := Lib.hid h
  generalize Dg.digs n = l at *
  obtain ⟨a, c, rfl⟩ := h.slice
  clear h hn
  go_enter Tryz.func81, Tryz.ntmps81
  go_wp2
  go_loopg [3, 4] l.length (fun g ss si wr => ∃ (k : Nat) (S : ByteArray), g = l.length - k ∧ k ≤ l.length ∧ ss = .string S ∧ si = .int .i64 (k : Int) ∧ S.size = 9 * k ∧ Hid (Dig S.data.toList) ∧ Hid (dv S.data.toList = Dg.val (l.take k)) ∧ Hid (Gr w wr))
  case atStart => exact ⟨0, ⟨#[]⟩, rfl, Nat.zero_le _, rfl, rfl, rfl, Lib.hid (fun c hc => by cases hc), Lib.hid rfl, Lib.hid (Gr.rf w)⟩
  case round =>
    obtain ⟨k, S, hg, hk, rfl, rfl, hS, HDG, HDV, HG⟩ := hrel
    have HGG := Lib.hid hg
    clear hg
    by_cases hlt : k < l.length
    · have b1 : decide ((k : Int) < (l.length : Int)) = true := decide_eq_true (by omega)
      have b1n : decide (k < l.length) = true := decide_eq_true hlt
      obtain ⟨g1, o1, c1, e1, hc1⟩ := HL.out.get HG.out k hlt
      cases e1
      have hx9 := HLM.out (l[k]) (List.getElem_mem hlt)
      rw [show l.getD k 0 = l[k] by simp [hlt]] at hc1
      generalize hxx : l[k] = x at hc1 hx9
      have HXX := Lib.hid hxx
      rw [show Dg.D = 1000000000 from rfl] at hx9
      clear hxx
      go_wp2
      go_loopg [3, 5, 6] 9 (fun g2 ss sd sk wr2 => ∃ (m : Nat) (T : ByteArray), g2 = 9 - m ∧ m ≤ 9 ∧ ss = .string T ∧ sd = .int .u64 ((x / 10 ^ m : Nat) : Int) ∧ sk = .int .i64 (m : Int) ∧ T.size = 9 * k + m ∧ Hid (Dig T.data.toList) ∧ Hid (dv T.data.toList = x % 10 ^ m * 10 ^ (9 * k) + Dg.val (l.take k)) ∧ Hid (Gr w wr2))
      case atStart => exact ⟨0, S, rfl, by omega, rfl, by simp, rfl, by omega, HDG, Lib.hid (by rw [HDV.out]; simp [Nat.mod_one]), HG⟩
      case round =>
        obtain ⟨m, T, hg2, hm, rfl, rfl, rfl, hT, HTG, HTV, HG2⟩ := hrel
        have HGM := Lib.hid hg2
        clear hg2
        by_cases hm9 : m < 9
        · have b2 : decide ((m : Int) < 9) = true := decide_eq_true (by omega)
          have b2n : decide (m < 9) = true := decide_eq_true hm9
          have hz9 : x / 10 ^ m < 1000000000 := Nat.lt_of_le_of_lt (Nat.div_le_self _ _) hx9
          have hzn : x / 10 ^ (m + 1) = x / 10 ^ m / 10 := by rw [Nat.pow_succ, Nat.div_div_eq_div_mul]
          generalize hz : x / 10 ^ m = z at hz9 hzn ⊢
          have HZ := Lib.hid hz
          have HZN := Lib.hid hzn
          clear hz hzn
          obtain ⟨c', hc⟩ : ∃ c' : UInt8, c'.toNat = 48 + z % 10 := ⟨UInt8.ofNat (48 + z % 10), by rw [UInt8.toNat_ofNat']; omega⟩
          have ec : (48 : Int) + (z : Int) % 10 = (c'.toNat : Int) := by omega
          have hcv := one_byte wr c' 177 5 (by kernel_rfl) (by kernel_rfl) 9 (by kernel_rfl) 5
          have HC := Lib.hid hc
          clear hc
          go_wp2
          go_roundg (9 - (m + 1))
          case measure => have := HGM.out; omega
          case rel => exact ⟨m + 1, (⟨#[c']⟩ : ByteArray) ++ T, rfl, by omega, rfl, by rw [HZN.out]; first | rfl | go_num, by go_num, by rw [ByteArray.size_append, hT]; show 1 + _ = _; omega,
            Lib.hid (by rw [byte_cons]; exact dig_cons c' _ z HC.out HTG.out),
            Lib.hid (by rw [byte_cons]; exact text_step _ c' x k m _ (by rw [HC.out, HZ.out]) (by rw [← Lib.size_eq]; exact hT) HTV.out),
            Lib.hid (HG2.out.alloc HG2.out.size _)⟩
        · have hme : m = 9 := by omega
          subst hme
          have b2 : decide ((9 : Int) < 9) = false := by decide
          have HNV := Lib.hid (text_group l k hlt HLM.out T.data.toList (by rw [HXX.out]; exact HTV.out))
          generalize x / 10 ^ 9 = z
          go_wp2
          go_roundg (l.length - (k + 1))
          case measure => have := HGG.out; omega
          case rel => exact ⟨k + 1, T, rfl, by omega, rfl, by go_num, by omega, HTG, HNV, HG2⟩
    · have hke : k = l.length := by omega
      subst hke
      have b1 : decide ((l.length : Int) < (l.length : Int)) = false := decide_eq_false (by omega)
      have b1n : decide (l.length < l.length) = false := decide_eq_false (by omega)
      have HDN := Lib.hid (show dv S.data.toList = n by rw [HDV.out, List.take_of_length_le (Nat.le_refl _)]; exact HVL.out)
      have hSs : S.size ≤ 4500 := by omega
      clear hS
      go_wp2
      go_loopg [3] S.size (fun g3 ss wr3 => ∃ T : ByteArray, g3 = T.size ∧ ss = .string T ∧ T.size ≤ 4500 ∧ Hid (Dig T.data.toList) ∧ Hid (dv T.data.toList = n) ∧ wr = wr3)
      case atStart => exact ⟨S, rfl, rfl, hSs, HDG, HDN, rfl⟩
      case round =>
        obtain ⟨T, hg3, rfl, hT, HTG, HTV, rfl⟩ := hrel
        have HG3 := Lib.hid hg3
        clear hg3
        have hTL : T.data.toList.length = T.size := (Lib.size_eq T).symm
        by_cases h1 : 1 < T.size
        · have b2 : decide ((1 : Int) < (T.size : Int)) = true := decide_eq_true (by omega)
          have b2n : decide (1 < T.size) = true := decide_eq_true h1
          have hpos : 0 < T.size := by omega
          have HAL := Lib.hid (at_list T 0 hpos (by omega))
          have HCO := Lib.hid (show T.data.toList = T.data.toList[0]'(by omega) :: T.data.toList.drop 1 by
            rw [← List.drop_eq_getElem_cons (by omega : 0 < T.data.toList.length), List.drop_zero])
          by_cases h48 : (T[0]'hpos).toNat = 48
          · have b3 : (((T[0]'hpos).toNat : Int) == 48) = true := beq_iff_eq.2 (by omega)
            have hex := (piece T 1 (by omega)).2
            have HEX := Lib.hid hex
            have HNV := Lib.hid (show dv (T.data.toList.drop 1) = n by
              have := HTV.out
              rw [HCO.out, dv_strip _ _ (by rw [HAL.out]; exact h48)] at this
              exact this)
            have HND := Lib.hid (show Dig (T.data.toList.drop 1) from fun c hc => HTG.out c (List.mem_of_mem_drop hc))
            clear hex h48
            go_wp2
            go_roundg (T.size - 1)
            case measure => have := HG3.out; omega
            case rel => exact ⟨T.extract 1 T.size, HEX.out.2.symm, by first | rfl | simp, by rw [HEX.out.2]; omega, Lib.hid (by rw [HEX.out.1]; exact HND.out), Lib.hid (by rw [HEX.out.1]; exact HNV.out), rfl⟩
          · have b3 : (((T[0]'hpos).toNat : Int) == 48) = false := beq_eq_false_iff_ne.2 (by omega)
            have e1 : T.toList.isEmpty = false := by
              rw [ByteArray.toList_eq, HCO.out]; rfl
            have HF := Lib.hid (digits_of T.data.toList n HTV.out HTG.out (by rw [HCO.out]; simp) (.inr (by
              rw [HCO.out, List.head?_cons, HAL.out]
              intro h
              injection h with h
              rw [h] at h48
              exact h48 rfl)))
            clear h48
            go_wp2
            go_ret
            exact ⟨ret_str (by rw [HF.out]), HG.out⟩
        · have b2 : decide ((1 : Int) < (T.size : Int)) = false := decide_eq_false (by omega)
          have b2n : decide (1 < T.size) = false := decide_eq_false h1
          by_cases h0 : T.size = 0
          · have hnil : T.data.toList = [] := List.eq_nil_of_length_eq_zero (by omega)
            have e1 : T.toList.isEmpty = true := by rw [ByteArray.toList_eq, hnil]; rfl
            have HF := Lib.hid (show n = 0 by have := HTV.out; rw [hnil] at this; exact this.symm)
            clear hnil
            go_wp2
            go_ret
            exact ⟨ret_str (by rw [HF.out, Lib.decDigits_one (by decide)]; rfl), HG.out⟩
          · have hl1 : T.data.toList.length = 1 := by omega
            have hne : T.data.toList ≠ [] := by intro h; rw [h] at hl1; simp at hl1
            have e1 : T.toList.isEmpty = false := by
              rw [ByteArray.toList_eq]
              cases h : T.data.toList with
              | nil => exact absurd h hne
              | cons a l => rfl
            have HF := Lib.hid (digits_of T.data.toList n HTV.out HTG.out hne (.inl hl1))
            clear hl1 hne
            go_wp2
            go_ret
            exact ⟨ret_str (by rw [HF.out]), HG.out⟩
end
end Go.Proofs.YtcjjgdoafkdeaaaGreatDoor
