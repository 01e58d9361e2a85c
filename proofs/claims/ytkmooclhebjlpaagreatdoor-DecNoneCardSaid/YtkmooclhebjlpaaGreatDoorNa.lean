/- Layer 2, plain: numbers of limbs. No program here. -/
namespace Go.Proofs.YtkmooclhebjlpaaGreatDoor

/-- How many there are of one limb. -/
def B : Nat := 18446744073709551616
theorem B_eq : B = 18446744073709551616 := rfl
theorem B_pos : 0 < B := by decide
/-- The number of limbs, the lowest first. -/
def val : List Nat → Nat
  | [] => 0
  | x :: l => x + B * val l
def Limbs (l : List Nat) : Prop := ∀ x ∈ l, x < B
/-- No nought above. -/
def Norm (l : List Nat) : Prop := l.getLast? ≠ some 0
theorem val_nil : val [] = 0 := rfl
theorem val_cons (x : Nat) (l : List Nat) : val (x :: l) = x + B * val l := rfl
theorem val_append (a b : List Nat) : val (a ++ b) = val a + B ^ a.length * val b := by
  induction a with
  | nil => simp [val]
  | cons x a ih =>
    simp only [List.cons_append, val, ih, List.length_cons, Nat.pow_succ, Nat.mul_add]
    rw [← Nat.mul_assoc, Nat.mul_comm (B ^ a.length) B]; omega
theorem val_snoc (a : List Nat) (x : Nat) : val (a ++ [x]) = val a + B ^ a.length * x := by
  rw [val_append]; simp [val]
theorem val_lt (l : List Nat) (h : Limbs l) : val l < B ^ l.length := by
  induction l with
  | nil => simp [val]
  | cons x l ih =>
    have hx := h x (by simp)
    have hl := ih (fun y hy => h y (by simp [hy]))
    simp only [val, List.length_cons, Nat.pow_succ]
    calc x + B * val l < B + B * val l := by omega
      _ = B * (val l + 1) := by rw [Nat.mul_add]; omega
      _ ≤ B * B ^ l.length := Nat.mul_le_mul_left _ hl
      _ = B ^ l.length * B := Nat.mul_comm _ _
theorem val_take_succ (l : List Nat) (i : Nat) (h : i < l.length) : val (l.take (i + 1)) = val (l.take i) + B ^ i * l[i] := by
  rw [List.take_succ_eq_append_getElem h, val_snoc, List.length_take, Nat.min_eq_left (Nat.le_of_lt h)]
theorem val_take_getD (l : List Nat) (i : Nat) : val (l.take (i + 1)) = val (l.take i) + B ^ i * l.getD i 0 := by
  by_cases h : i < l.length
  · rw [val_take_succ l i h]; simp [h]
  · rw [List.take_of_length_le (by omega), List.take_of_length_le (by omega)]; simp [h]
theorem val_replicate (n : Nat) : val (List.replicate n 0) = 0 := by
  induction n with
  | zero => rfl
  | succ n ih => simp [List.replicate_succ, val, ih]
theorem val_drop_last (l : List Nat) (h : l.getLast? = some 0) : val l.dropLast = val l := by
  have hne : l ≠ [] := by rintro rfl; cases h
  obtain ⟨a, x, rfl⟩ : ∃ a x, l = a ++ [x] := ⟨l.dropLast, l.getLast hne, (List.dropLast_concat_getLast hne).symm⟩
  simp at h
  subst h
  simp [val_snoc]
theorem norm_pos (l : List Nat) (hn : Norm l) (hne : l ≠ []) : B ^ (l.length - 1) ≤ val l := by
  obtain ⟨a, x, rfl⟩ : ∃ a x, l = a ++ [x] := ⟨l.dropLast, l.getLast hne, (List.dropLast_concat_getLast hne).symm⟩
  have hx : x ≠ 0 := by intro h; apply hn; simp [h]
  rw [val_snoc, List.length_append, List.length_singleton, Nat.add_sub_cancel]
  calc B ^ a.length = B ^ a.length * 1 := (Nat.mul_one _).symm
    _ ≤ B ^ a.length * x := Nat.mul_le_mul_left _ (by omega)
    _ ≤ _ := Nat.le_add_left _ _
theorem norm_zero (l : List Nat) (hn : Norm l) : val l = 0 ↔ l = [] := by
  constructor
  · intro h
    by_cases hne : l = []
    · exact hne
    · have := norm_pos l hn hne
      have := Nat.pow_pos (n := l.length - 1) B_pos
      omega
  · rintro rfl; rfl
theorem norm_length (l : List Nat) (hn : Norm l) (k : Nat) (h : val l < B ^ k) : l.length ≤ k := by
  by_cases hne : l = []
  · simp [hne]
  · have h1 := norm_pos l hn hne
    have h2 := Nat.lt_of_le_of_lt h1 h
    have h3 := (Nat.pow_lt_pow_iff_right (by decide : 1 < B)).1 h2
    have := List.length_pos_iff.2 hne
    omega
/-- Which limbs are greater tells which number is. -/
theorem val_lt_of_length (a b : List Nat) (ha : Limbs a) (hb : Norm b) (h : a.length < b.length) : val a < val b := by
  have h1 := val_lt a ha
  have h2 := norm_pos b hb (by rintro rfl; simp at h)
  have h3 : B ^ a.length ≤ B ^ (b.length - 1) := Nat.pow_le_pow_right B_pos (by omega)
  omega
theorem val_split (l : List Nat) (i : Nat) (h : i < l.length) : val l = val (l.take i) + B ^ i * (l[i] + B * val (l.drop (i + 1))) := by
  conv => lhs; rw [← List.take_append_drop i l, List.drop_eq_getElem_cons h]
  rw [val_append, List.length_take, Nat.min_eq_left (Nat.le_of_lt h)]; rfl
theorem limbs_take {l : List Nat} (h : Limbs l) (i : Nat) : Limbs (l.take i) := fun x hx => h x (List.mem_of_mem_take hx)
theorem limbs_drop {l : List Nat} (h : Limbs l) (i : Nat) : Limbs (l.drop i) := fun x hx => h x (List.mem_of_mem_drop hx)
/-- The first limb from above that differs decides. -/
theorem val_lt_of_limb (a b : List Nat) (ha : Limbs a) (i : Nat) (hia : i < a.length) (hib : i < b.length) (hd : a.drop (i + 1) = b.drop (i + 1)) (h : a[i] < b[i]) : val a < val b := by
  rw [val_split a i hia, val_split b i hib, hd]
  have h1 := val_lt _ (limbs_take ha i)
  rw [List.length_take, Nat.min_eq_left (Nat.le_of_lt hia)] at h1
  have h2 : B ^ i * (a[i] + B * val (b.drop (i + 1)) + 1) ≤ B ^ i * (b[i] + B * val (b.drop (i + 1))) := Nat.mul_le_mul_left _ (by omega)
  rw [Nat.mul_add _ _ 1] at h2
  omega

/-- The sum's limb, and what is carried. -/
def adLo (x y c : Nat) : Nat := (x + y + c) % B
def adHi (x y c : Nat) : Nat := (x + y + c) / B
theorem ad_eq (x y c : Nat) : adLo x y c + B * adHi x y c = x + y + c := by unfold adLo adHi; exact Nat.mod_add_div _ _
theorem adLo_lt (x y c : Nat) : adLo x y c < B := Nat.mod_lt _ B_pos
theorem adHi_le (x y c : Nat) (hx : x < B) (hy : y < B) (hc : c ≤ 1) : adHi x y c ≤ 1 := by
  unfold adHi; rw [B_eq] at *; omega
/-- The difference's limb, and what is borrowed. -/
def suLo (x y b : Nat) : Nat := (x + B - y - b) % B
def suHi (x y b : Nat) : Nat := if x < y + b then 1 else 0
theorem suLo_lt (x y b : Nat) : suLo x y b < B := Nat.mod_lt _ B_pos
theorem suHi_le (x y b : Nat) : suHi x y b ≤ 1 := by unfold suHi; split <;> omega
theorem su_eq (x y b : Nat) (hx : x < B) (hy : y < B) (hb : b ≤ 1) : suLo x y b + y + b = x + B * suHi x y b := by
  unfold suLo suHi; rw [B_eq] at *; split <;> omega
/-- A product's two limbs. -/
def muHi (x y : Nat) : Nat := x * y / B
def muLo (x y : Nat) : Nat := x * y % B
theorem mu_eq (x y : Nat) : muLo x y + B * muHi x y = x * y := Nat.mod_add_div _ _
theorem muLo_lt (x y : Nat) : muLo x y < B := Nat.mod_lt _ B_pos
theorem muHi_le (x y : Nat) (hx : x < B) (hy : y < B) : muHi x y ≤ B - 2 := by
  unfold muHi
  have h : x * y ≤ (B - 1) * (B - 1) := Nat.mul_le_mul (by omega) (by omega)
  have h2 : x * y / B ≤ (B - 1) * (B - 1) / B := Nat.div_le_div_right h
  have h3 : (B - 1) * (B - 1) / B = B - 2 := by decide
  omega
end Go.Proofs.YtkmooclhebjlpaaGreatDoor
