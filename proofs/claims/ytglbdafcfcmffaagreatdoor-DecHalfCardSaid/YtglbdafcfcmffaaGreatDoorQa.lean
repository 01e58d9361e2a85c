/- Layer 2's reference, plain: numbers of digits of a thousand million. No program here. -/
import Derived.Test.YtglbdafcfcmffaaGreatDoorGc
namespace Go.Proofs.YtglbdafcfcmffaaGreatDoor.Dg

/-- How many there are of one digit of the reference. -/
def D : Nat := 1000000000
theorem D_eq : D = 1000000000 := rfl
theorem D_pos : 0 < D := by decide
/-- The number of limbs, the lowest first. -/
def val : List Nat → Nat
  | [] => 0
  | x :: l => x + D * val l
def Limbs (l : List Nat) : Prop := ∀ x ∈ l, x < D
theorem val_nil : val [] = 0 := rfl
theorem val_cons (x : Nat) (l : List Nat) : val (x :: l) = x + D * val l := rfl
theorem val_append (a b : List Nat) : val (a ++ b) = val a + D ^ a.length * val b := by
  induction a with
  | nil => simp [val]
  | cons x a ih =>
    simp only [List.cons_append, val, ih, List.length_cons, Nat.pow_succ, Nat.mul_add]
    rw [← Nat.mul_assoc, Nat.mul_comm (D ^ a.length) D]; omega
theorem val_snoc (a : List Nat) (x : Nat) : val (a ++ [x]) = val a + D ^ a.length * x := by
  rw [val_append]; simp [val]
theorem val_lt (l : List Nat) (h : Limbs l) : val l < D ^ l.length := by
  induction l with
  | nil => simp [val]
  | cons x l ih =>
    have hx := h x (by simp)
    have hl := ih (fun y hy => h y (by simp [hy]))
    simp only [val, List.length_cons, Nat.pow_succ]
    calc x + D * val l < D + D * val l := by omega
      _ = D * (val l + 1) := by rw [Nat.mul_add]; omega
      _ ≤ D * D ^ l.length := Nat.mul_le_mul_left _ hl
      _ = D ^ l.length * D := Nat.mul_comm _ _
theorem val_take_succ (l : List Nat) (i : Nat) (h : i < l.length) : val (l.take (i + 1)) = val (l.take i) + D ^ i * l[i] := by
  rw [List.take_succ_eq_append_getElem h, val_snoc, List.length_take, Nat.min_eq_left (Nat.le_of_lt h)]
theorem val_take_getD (l : List Nat) (i : Nat) : val (l.take (i + 1)) = val (l.take i) + D ^ i * l.getD i 0 := by
  by_cases h : i < l.length
  · rw [val_take_succ l i h]; simp [h]
  · rw [List.take_of_length_le (by omega), List.take_of_length_le (by omega)]; simp [h]
theorem val_replicate (n : Nat) : val (List.replicate n 0) = 0 := by
  induction n with
  | zero => rfl
  | succ n ih => simp [List.replicate_succ, val, ih]
theorem val_drop_last (l : List Nat) (h : l.getLast? = some 0) : val l.dropLast = val l := by
  have hne : l ≠ [] := by rintro rfl; cases h
  obtain ⟨a, x, rfl⟩ : ∃ a x, l = a ++ [x] := ⟨l.dropLast, l.getLast hne, (List.dropLast_concat_getLast hne).symm⟩
  simp at h
  subst h
  simp [val_snoc]
theorem norm_pos (l : List Nat) (hn : Norm l) (hne : l ≠ []) : D ^ (l.length - 1) ≤ val l := by
  obtain ⟨a, x, rfl⟩ : ∃ a x, l = a ++ [x] := ⟨l.dropLast, l.getLast hne, (List.dropLast_concat_getLast hne).symm⟩
  have hx : x ≠ 0 := by intro h; apply hn; simp [h]
  rw [val_snoc, List.length_append, List.length_singleton, Nat.add_sub_cancel]
  calc D ^ a.length = D ^ a.length * 1 := (Nat.mul_one _).symm
    _ ≤ D ^ a.length * x := Nat.mul_le_mul_left _ (by omega)
    _ ≤ _ := Nat.le_add_left _ _
theorem norm_zero (l : List Nat) (hn : Norm l) : val l = 0 ↔ l = [] := by
  constructor
  · intro h
    by_cases hne : l = []
    · exact hne
    · have := norm_pos l hn hne
      have := Nat.pow_pos (n := l.length - 1) D_pos
      omega
  · rintro rfl; rfl
theorem norm_length (l : List Nat) (hn : Norm l) (k : Nat) (h : val l < D ^ k) : l.length ≤ k := by
  by_cases hne : l = []
  · simp [hne]
  · have h1 := norm_pos l hn hne
    have h2 := Nat.lt_of_le_of_lt h1 h
    have h3 := (Nat.pow_lt_pow_iff_right (by decide : 1 < D)).1 h2
    have := List.length_pos_iff.2 hne
    omega
/-- Which limbs are greater tells which number is. -/
theorem val_lt_of_length (a b : List Nat) (ha : Limbs a) (hb : Norm b) (h : a.length < b.length) : val a < val b := by
  have h1 := val_lt a ha
  have h2 := norm_pos b hb (by rintro rfl; simp at h)
  have h3 : D ^ a.length ≤ D ^ (b.length - 1) := Nat.pow_le_pow_right D_pos (by omega)
  omega
theorem val_split (l : List Nat) (i : Nat) (h : i < l.length) : val l = val (l.take i) + D ^ i * (l[i] + D * val (l.drop (i + 1))) := by
  conv => lhs; rw [← List.take_append_drop i l, List.drop_eq_getElem_cons h]
  rw [val_append, List.length_take, Nat.min_eq_left (Nat.le_of_lt h)]; rfl
theorem limbs_take {l : List Nat} (h : Limbs l) (i : Nat) : Limbs (l.take i) := fun x hx => h x (List.mem_of_mem_take hx)
theorem limbs_drop {l : List Nat} (h : Limbs l) (i : Nat) : Limbs (l.drop i) := fun x hx => h x (List.mem_of_mem_drop hx)
/-- The first limb from above that differs decides. -/
theorem val_lt_of_limb (a b : List Nat) (ha : Limbs a) (i : Nat) (hia : i < a.length) (hib : i < b.length) (hd : a.drop (i + 1) = b.drop (i + 1)) (h : a[i] < b[i]) : val a < val b := by
  rw [val_split a i hia, val_split b i hib, hd]
  have h1 := val_lt _ (limbs_take ha i)
  rw [List.length_take, Nat.min_eq_left (Nat.le_of_lt hia)] at h1
  have h2 : D ^ i * (a[i] + D * val (b.drop (i + 1)) + 1) ≤ D ^ i * (b[i] + D * val (b.drop (i + 1))) := Nat.mul_le_mul_left _ (by omega)
  rw [Nat.mul_add _ _ 1] at h2
  omega

theorem limbs_B {l : List Nat} (h : Limbs l) : Go.Proofs.YtglbdafcfcmffaaGreatDoor.Limbs l := fun x hx => Nat.lt_trans (h x hx) (by decide)
/-- The digits of a number, the lowest first. -/
def digs : Nat → List Nat
  | 0 => []
  | n + 1 => ((n + 1) % D) :: digs ((n + 1) / D)
decreasing_by exact Nat.div_lt_self (Nat.succ_pos n) (show 1 < D by decide)
theorem digs_zero : digs 0 = [] := by rw [digs]
theorem digs_pos (n : Nat) (h : 0 < n) : digs n = (n % D) :: digs (n / D) := by
  cases n with
  | zero => omega
  | succ n => rw [digs]
theorem val_digs (n : Nat) : val (digs n) = n := by
  induction n using Nat.strongRecOn with
  | _ n ih =>
    by_cases h : 0 < n
    · rw [digs_pos n h, val_cons, ih _ (Nat.div_lt_self h (show 1 < D by decide)), Nat.mod_add_div]
    · obtain rfl : n = 0 := by omega
      rw [digs_zero]; rfl
theorem digs_limbs (n : Nat) : Limbs (digs n) := by
  induction n using Nat.strongRecOn with
  | _ n ih =>
    by_cases h : 0 < n
    · rw [digs_pos n h]
      intro x hx
      rcases List.mem_cons.1 hx with rfl | hx
      · exact Nat.mod_lt _ D_pos
      · exact ih _ (Nat.div_lt_self h (show 1 < D by decide)) x hx
    · obtain rfl : n = 0 := by omega
      rw [digs_zero]; intro x hx; cases hx
theorem digs_norm (n : Nat) : Norm (digs n) := by
  induction n using Nat.strongRecOn with
  | _ n ih =>
    by_cases h : 0 < n
    · rw [digs_pos n h]
      by_cases h2 : 0 < n / D
      · have := ih _ (Nat.div_lt_self h (show 1 < D by decide))
        unfold Norm at this ⊢
        rw [digs_pos _ h2] at this ⊢
        rw [List.getLast?_cons_cons]
        exact this
      · have e : n / D = 0 := Nat.eq_zero_of_not_pos h2
        rw [e, digs_zero]
        have : n % D = n := Nat.mod_eq_of_lt ((Nat.div_eq_zero_iff_lt D_pos).1 e)
        unfold Norm
        rw [this]
        simp
        omega
    · obtain rfl : n = 0 := by omega
      rw [digs_zero]; simp [Norm]
/-- A number has one row of digits. -/
theorem val_inj : ∀ (a b : List Nat), Limbs a → Limbs b → Norm a → Norm b → val a = val b → a = b
  | [], b, _, _, _, hb, h => ((norm_zero b hb).1 h.symm).symm
  | a, [], _, _, ha, _, h => (norm_zero a ha).1 h
  | x :: a, y :: b, la, lb, ha, hb, h => by
    have hx := la x (by simp)
    have hy := lb y (by simp)
    rw [val_cons, val_cons] at h
    have e : x = y := by
      have := congrArg (· % D) h
      simp only [Nat.add_mul_mod_self_left, Nat.mod_eq_of_lt hx, Nat.mod_eq_of_lt hy] at this
      exact this
    subst e
    have e2 : val a = val b := Nat.eq_of_mul_eq_mul_left D_pos (by omega)
    have na : Norm a := by
      cases a with
      | nil => simp [Norm]
      | cons z a => unfold Norm at ha ⊢; rw [List.getLast?_cons_cons] at ha; exact ha
    have nb : Norm b := by
      cases b with
      | nil => simp [Norm]
      | cons z b => unfold Norm at hb ⊢; rw [List.getLast?_cons_cons] at hb; exact hb
    rw [val_inj a b (fun z hz => la z (by simp [hz])) (fun z hz => lb z (by simp [hz])) na nb e2]
theorem digs_val (l : List Nat) (hl : Limbs l) (hn : Norm l) : digs (val l) = l := val_inj _ _ (digs_limbs _) hl (digs_norm _) hn (val_digs _)
theorem digs_len (n k : Nat) (h : n < D ^ k) : (digs n).length ≤ k := norm_length _ (digs_norm n) k (by rw [val_digs]; exact h)
end Go.Proofs.YtglbdafcfcmffaaGreatDoor.Dg
