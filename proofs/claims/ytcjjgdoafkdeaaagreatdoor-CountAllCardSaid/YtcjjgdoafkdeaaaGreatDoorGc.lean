/- Layer 2, plain: numbers of limbs. No program here; Layer 2: naturals in memory; limbs, made, Of, Zero by contract; Layer 2: compare, Cmp, Small by contract; Layer 2: Add. -/
import Derived.Test.YtcjjgdoafkdeaaaGreatDoorGb
import Derived.WalkSpells
import Derived.WalkLawsBesides
import Derived.Deep.QuietTactic
import Derived.BigQuiet
import Derived.Deep.OwnRows
import Derived.Shelf.Spec.BitsCarry
namespace Go.Proofs.YtcjjgdoafkdeaaaGreatDoor
section

/-- How many there are of one limb. -/
def B : Nat := 18446744073709551616
theorem B_eq : B = 18446744073709551616 := rfl
theorem B_pos : 0 < B := by decide
/-- The number of limbs, the lowest first. -/
def val : List Nat → Nat
  | [] => 0
  | x :: l => x + B * val l
def Limbs (l : List Nat) : Prop := ∀ x ∈ l, x < B
/-- No nought above. -/
def Norm (l : List Nat) : Prop := l.getLast? ≠ some 0
theorem val_nil : val [] = 0 := rfl
theorem val_cons (x : Nat) (l : List Nat) : val (x :: l) = x + B * val l := rfl
theorem val_append (a b : List Nat) : val (a ++ b) = val a + B ^ a.length * val b := by
  induction a with
  | nil => simp [val]
  | cons x a ih =>
    simp only [List.cons_append, val, ih, List.length_cons, Nat.pow_succ, Nat.mul_add]
    rw [← Nat.mul_assoc, Nat.mul_comm (B ^ a.length) B]; omega
theorem val_snoc (a : List Nat) (x : Nat) : val (a ++ [x]) = val a + B ^ a.length * x := by
  rw [val_append]; simp [val]
theorem val_lt (l : List Nat) (h : Limbs l) : val l < B ^ l.length := by
  induction l with
  | nil => simp [val]
  | cons x l ih =>
    have hx := h x (by simp)
    have hl := ih (fun y hy => h y (by simp [hy]))
    simp only [val, List.length_cons, Nat.pow_succ]
    calc x + B * val l < B + B * val l := by omega
      _ = B * (val l + 1) := by rw [Nat.mul_add]; omega
      _ ≤ B * B ^ l.length := Nat.mul_le_mul_left _ hl
      _ = B ^ l.length * B := Nat.mul_comm _ _
theorem val_take_succ (l : List Nat) (i : Nat) (h : i < l.length) : val (l.take (i + 1)) = val (l.take i) + B ^ i * l[i] := by
  rw [List.take_succ_eq_append_getElem h, val_snoc, List.length_take, Nat.min_eq_left (Nat.le_of_lt h)]
theorem val_take_getD (l : List Nat) (i : Nat) : val (l.take (i + 1)) = val (l.take i) + B ^ i * l.getD i 0 := by
  by_cases h : i < l.length
  · rw [val_take_succ l i h]; simp [h]
  · rw [List.take_of_length_le (by omega), List.take_of_length_le (by omega)]; simp [h]
theorem val_replicate (n : Nat) : val (List.replicate n 0) = 0 := by
  induction n with
  | zero => rfl
  | succ n ih => simp [List.replicate_succ, val, ih]
theorem val_drop_last (l : List Nat) (h : l.getLast? = some 0) : val l.dropLast = val l := by
  have hne : l ≠ [] := by rintro rfl; cases h
  obtain ⟨a, x, rfl⟩ : ∃ a x, l = a ++ [x] := ⟨l.dropLast, l.getLast hne, (List.dropLast_concat_getLast hne).symm⟩
  simp at h
  subst h
  simp [val_snoc]
theorem norm_pos (l : List Nat) (hn : Norm l) (hne : l ≠ []) : B ^ (l.length - 1) ≤ val l := by
  obtain ⟨a, x, rfl⟩ : ∃ a x, l = a ++ [x] := ⟨l.dropLast, l.getLast hne, (List.dropLast_concat_getLast hne).symm⟩
  have hx : x ≠ 0 := by intro h; apply hn; simp [h]
  rw [val_snoc, List.length_append, List.length_singleton, Nat.add_sub_cancel]
  calc B ^ a.length = B ^ a.length * 1 := (Nat.mul_one _).symm
    _ ≤ B ^ a.length * x := Nat.mul_le_mul_left _ (by omega)
    _ ≤ _ := Nat.le_add_left _ _
theorem norm_zero (l : List Nat) (hn : Norm l) : val l = 0 ↔ l = [] := by
  constructor
  · intro h
    by_cases hne : l = []
    · exact hne
    · have := norm_pos l hn hne
      have := Nat.pow_pos (n := l.length - 1) B_pos
      omega
  · rintro rfl; rfl
theorem norm_length (l : List Nat) (hn : Norm l) (k : Nat) (h : val l < B ^ k) : l.length ≤ k := by
  by_cases hne : l = []
  · simp [hne]
  · have h1 := norm_pos l hn hne
    have h2 := Nat.lt_of_le_of_lt h1 h
    have h3 := (Nat.pow_lt_pow_iff_right (by decide : 1 < B)).1 h2
    have := List.length_pos_iff.2 hne
    omega
/-- Which limbs are greater tells which number is. -/
theorem val_lt_of_length (a b : List Nat) (ha : Limbs a) (hb : Norm b) (h : a.length < b.length) : val a < val b := by
  have h1 := val_lt a ha
  have h2 := norm_pos b hb (by rintro rfl; simp at h)
  have h3 : B ^ a.length ≤ B ^ (b.length - 1) := Nat.pow_le_pow_right B_pos (by omega)
  omega
theorem val_split (l : List Nat) (i : Nat) (h : i < l.length) : val l = val (l.take i) + B ^ i * (l[i] + B * val (l.drop (i + 1))) := by
  conv => lhs; rw [← List.take_append_drop i l, List.drop_eq_getElem_cons h]
  rw [val_append, List.length_take, Nat.min_eq_left (Nat.le_of_lt h)]; rfl
theorem limbs_take {l : List Nat} (h : Limbs l) (i : Nat) : Limbs (l.take i) := fun x hx => h x (List.mem_of_mem_take hx)
theorem limbs_drop {l : List Nat} (h : Limbs l) (i : Nat) : Limbs (l.drop i) := fun x hx => h x (List.mem_of_mem_drop hx)
/-- The first limb from above that differs decides. -/
theorem val_lt_of_limb (a b : List Nat) (ha : Limbs a) (i : Nat) (hia : i < a.length) (hib : i < b.length) (hd : a.drop (i + 1) = b.drop (i + 1)) (h : a[i] < b[i]) : val a < val b := by
  rw [val_split a i hia, val_split b i hib, hd]
  have h1 := val_lt _ (limbs_take ha i)
  rw [List.length_take, Nat.min_eq_left (Nat.le_of_lt hia)] at h1
  have h2 : B ^ i * (a[i] + B * val (b.drop (i + 1)) + 1) ≤ B ^ i * (b[i] + B * val (b.drop (i + 1))) := Nat.mul_le_mul_left _ (by omega)
  rw [Nat.mul_add _ _ 1] at h2
  omega

/-- The sum's limb, and what is carried. -/
def adLo (x y c : Nat) : Nat := (x + y + c) % B
def adHi (x y c : Nat) : Nat := (x + y + c) / B
theorem ad_eq (x y c : Nat) : adLo x y c + B * adHi x y c = x + y + c := by unfold adLo adHi; exact Nat.mod_add_div _ _
theorem adLo_lt (x y c : Nat) : adLo x y c < B := Nat.mod_lt _ B_pos
theorem adHi_le (x y c : Nat) (hx : x < B) (hy : y < B) (hc : c ≤ 1) : adHi x y c ≤ 1 := by
  unfold adHi; rw [B_eq] at *; omega
/-- The difference's limb, and what is borrowed. -/
def suLo (x y b : Nat) : Nat := (x + B - y - b) % B
def suHi (x y b : Nat) : Nat := if x < y + b then 1 else 0
theorem suLo_lt (x y b : Nat) : suLo x y b < B := Nat.mod_lt _ B_pos
theorem suHi_le (x y b : Nat) : suHi x y b ≤ 1 := by unfold suHi; split <;> omega
theorem su_eq (x y b : Nat) (hx : x < B) (hy : y < B) (hb : b ≤ 1) : suLo x y b + y + b = x + B * suHi x y b := by
  unfold suLo suHi; rw [B_eq] at *; split <;> omega
/-- A product's two limbs. -/
def muHi (x y : Nat) : Nat := x * y / B
def muLo (x y : Nat) : Nat := x * y % B
theorem mu_eq (x y : Nat) : muLo x y + B * muHi x y = x * y := Nat.mod_add_div _ _
theorem muLo_lt (x y : Nat) : muLo x y < B := Nat.mod_lt _ B_pos
theorem muHi_le (x y : Nat) (hx : x < B) (hy : y < B) : muHi x y ≤ B - 2 := by
  unfold muHi
  have h : x * y ≤ (B - 1) * (B - 1) := Nat.mul_le_mul (by omega) (by omega)
  have h2 : x * y / B ≤ (B - 1) * (B - 1) / B := Nat.div_le_div_right h
  have h3 : (B - 1) * (B - 1) / B = B - 2 := by decide
  omega
end
section
open Go.RowKit Go.Extern.Stop Go.Stop Go.Extern
set_option linter.unusedVariables false
set_option linter.unusedSimpArgs false

/-- A limb in a cell. -/
def U (x : Nat) : Value := .int .u64 (x : Int)
/-- Limbs behind a slice. -/
def Lim (w : World) (v : Value) (l : List Nat) : Prop :=
  Limbs l ∧ ((v = .slice none 0 0 ∧ l = []) ∨
    ∃ g o c, v = .slice (some ⟨g, o, none⟩) l.length c ∧ l.length ≤ c ∧ c ≤ 9223372036854775807 ∧ g < w.heap.size ∧ ∀ i (h : i < l.length), w.cell? ⟨g, o + i, none⟩ = some (U l[i]))
theorem Lim.gr {w w' : World} (hg : Gr w w') {v : Value} {l : List Nat} (h : Lim w v l) : Lim w' v l := by
  refine ⟨h.1, ?_⟩
  rcases h.2 with h | ⟨g, o, c, hv, hc, hm, hl, hcell⟩
  · exact .inl h
  · exact .inr ⟨g, o, c, hv, hc, hm, Nat.lt_of_lt_of_le hl hg.size, fun i hi => (hg.cell hl).trans (hcell i hi)⟩
/-- A natural number behind a pointer. -/
def NatAt (w : World) (v : Value) (n : Nat) : Prop :=
  (v = .pointer none ∧ n = 0) ∨ ∃ b s l, v = .pointer (some ⟨b, 0, none⟩) ∧ w.cell? ⟨b, 0, none⟩ = some s ∧ Lim w s l ∧ Norm l ∧ val l = n
theorem NatAt.gr {w w' : World} (hg : Gr w w') {v : Value} {n : Nat} (h : NatAt w v n) : NatAt w' v n := by
  rcases h with h | ⟨b, s, l, hv, hb, hl, hn, hval⟩
  · exact .inl h
  · exact .inr ⟨b, s, l, hv, (hg.cell (World.block_lt_of_cell? w _ hb)).trans hb, hl.gr hg, hn, hval⟩
/-- The same, not nil. -/
def NatP (w : World) (v : Value) (n : Nat) : Prop := (∃ b, v = .pointer (some ⟨b, 0, none⟩)) ∧ NatAt w v n
theorem NatP.at_ {w : World} {v : Value} {n : Nat} (h : NatP w v n) : NatAt w v n := h.2
instance natPAt (w : World) (v : Value) (n : Nat) : Coe (NatP w v n) (NatAt w v n) := ⟨NatP.at_⟩
theorem NatP.gr {w w' : World} (hg : Gr w w') {v : Value} {n : Nat} (h : NatP w v n) : NatP w' v n := ⟨h.1, h.2.gr hg⟩
theorem Lim.slice {w : World} {v : Value} {l : List Nat} (h : Lim w v l) : ∃ a c, v = .slice a l.length c := by
  rcases h.2 with ⟨h1, h2⟩ | ⟨g, o, c, h1, _⟩
  · subst h2; exact ⟨none, 0, h1⟩
  · exact ⟨_, _, h1⟩

theorem Lim.take {w : World} {g o c : Nat} {l : List Nat} (h : Lim w (.slice (some ⟨g, o, none⟩) l.length c) l) (k : Nat) (hk : k ≤ l.length) : Lim w (.slice (some ⟨g, o, none⟩) k c) (l.take k) := by
  refine ⟨limbs_take h.1 k, ?_⟩
  rcases h.2 with ⟨h1, _⟩ | ⟨g', o', c', h1, h2, h3, h4, h5⟩
  · cases h1
  · cases h1
    exact .inr ⟨g, o, c, by rw [List.length_take, Nat.min_eq_left hk], by rw [List.length_take]; omega, h3, h4, fun i hi => by
      rw [List.length_take] at hi
      rw [h5 i (by omega), List.getElem_take]⟩
theorem NatAt.mk {w : World} {b : Nat} {s : Value} {l : List Nat} {T : TypeId} {f : Nat × Nat} (hb : w.heap[b]? = some (.cells #[s] T f)) (hl : Lim w s l) (hn : Norm l) : NatAt w (.pointer (some ⟨b, 0, none⟩)) (val l) :=
  .inr ⟨b, s, l, rfl, by rw [heap_cell hb]; rfl, hl, hn, rfl⟩
theorem NatP.mk {w : World} {b : Nat} {s : Value} {l : List Nat} {T : TypeId} {f : Nat × Nat} (hb : w.heap[b]? = some (.cells #[s] T f)) (hl : Lim w s l) (hn : Norm l) : NatP w (.pointer (some ⟨b, 0, none⟩)) (val l) :=
  ⟨⟨b, rfl⟩, NatAt.mk hb hl hn⟩

set_option maxRecDepth 100000 in
/-- (*Nat).limbs. -/
theorem limbs_calls (v : Value) (n : Nat) (w : World) (h : NatAt w v n) :
    Calls Tryz.prog 117 #[v] w fun e w' => (∃ s l, e = .returned s ∧ Lim w s l ∧ Norm l ∧ val l = n) ∧ w = w' := by
  rcases h with ⟨rfl, rfl⟩ | ⟨b, s, l, rfl, hb, hl, hn, hval⟩
  · go_enter Tryz.func117, Tryz.ntmps117
    go_wp2
    go_ret
    exact ⟨⟨_, [], rfl, ⟨by simp [Limbs], .inl ⟨rfl, rfl⟩⟩, by simp [Norm], rfl⟩, rfl⟩
  · have HL := Lib.hid hl
    have HN := Lib.hid hn
    have HV := Lib.hid hval
    clear hl hn hval
    go_enter Tryz.func117, Tryz.ntmps117
    go_wp2
    go_ret
    exact ⟨⟨_, l, rfl, HL.out, HN.out, HV.out⟩, rfl⟩

set_option maxRecDepth 100000 in
set_option maxHeartbeats 1000000 in
/-- nat.made: noughts above are dropped; the slice's own memory is kept. -/
theorem made_calls (v : Value) (l : List Nat) (w : World) (h : Lim w v l) (hsz : l.length ≤ 1000000000) :
    Calls Tryz.prog 116 #[v] w fun e w' => (∃ r, e = .returned r ∧ NatP w' r (val l)) ∧ Gr w w' := by
  have H := Lib.hid h
  obtain ⟨a, c, rfl⟩ := h.slice
  clear h
  go_enter Tryz.func116, Tryz.ntmps116
  go_wp2
  go_loopg [0] l.length (fun k v wr => ∃ l', k = l'.length ∧ l'.length ≤ l.length ∧ Lim w v l' ∧ val l' = val l ∧ Gr w wr)
  case atStart => exact ⟨l, rfl, Nat.le_refl _, H.out, rfl, Gr.rf w⟩
  case round =>
    obtain ⟨l', hk, hle, hl, hv, hgr⟩ := hrel
    obtain ⟨a', c', rfl⟩ := hl.slice
    have HV := Lib.hid hv
    have HK := Lib.hid hk
    have HL := Lib.hid hl
    clear hv hk
    by_cases hne : 0 < l'.length
    · rcases hl.2 with ⟨h1, h2⟩ | ⟨g, o, c'', h1, h2, h3, h4, h5⟩
      · subst h2; simp at hne
      cases h1
      have hx : l'.getLast? = some (l'[l'.length - 1]'(by omega)) := by rw [List.getLast?_eq_getElem?, List.getElem?_eq_getElem (by omega)]
      have hc : wr.cell? ⟨g, o + (l'.length - 1), none⟩ = some (.int .u64 ((l'[l'.length - 1]'(by omega) : Nat) : Int)) := (hgr.cell h4).trans (h5 _ (by omega))
      generalize l'[l'.length - 1]'(by omega) = x at hx hc
      have HX := Lib.hid hx
      clear hx
      have hsub : ((l'.length : Int) - 1).toNat = l'.length - 1 := by omega
      have h5' := Lib.hid h5
      clear h5
      by_cases hx0 : x = 0
      · have hb : ((x : Int) == 0) = true := beq_iff_eq.2 (by omega)
        go_wp2
        go_roundg (l'.length - 1)
        case measure => have := HK.out; omega
        case rel => exact ⟨l'.take (l'.length - 1), by rw [List.length_take]; omega, by rw [List.length_take]; omega, by have := HL.out.take (l'.length - 1) (by omega); exact this, by rw [← HV.out, ← List.dropLast_eq_take, val_drop_last _ (by rw [HX.out, hx0])], hgr⟩
      · have hb : ((x : Int) == 0) = false := beq_eq_false_iff_ne.2 (by omega)
        have HX0 := Lib.hid hx0
        clear hx0
        go_wp2
        go_ret
        refine ⟨⟨_, rfl, ?_⟩, hgr.alloc hgr.size _⟩
        rw [← HV.out]
        exact NatP.mk (heap_alloc_new wr _) ((HL.out.gr hgr).gr ((Gr.rf wr).alloc (Nat.le_refl _) _)) (by unfold Norm; rw [HX.out]; intro h; injection h with h; exact HX0.out h)
    · have hnil : l' = [] := List.eq_nil_of_length_eq_zero (by omega)
      have HNL := Lib.hid hnil
      clear hnil
      go_wp2
      go_ret
      refine ⟨⟨_, rfl, ?_⟩, hgr.alloc hgr.size _⟩
      rw [← HV.out]
      exact NatP.mk (heap_alloc_new wr _) ((HL.out.gr hgr).gr ((Gr.rf wr).alloc (Nat.le_refl _) _)) (by rw [HNL.out]; simp [Norm])

set_option maxRecDepth 100000 in
theorem of_nat_calls (x : Nat) (hx : x < B) (w : World) : Calls Tryz.prog 54 #[.int .u64 (x : Int)] w fun e w' => (∃ r, e = .returned r ∧ NatP w' r x) ∧ Gr w w' := by
  have hl : Lim (w.alloc (.cells #[.int .u64 (x : Int)] 56)) (.slice (some ⟨w.heap.size, 0, none⟩) 1 1) [x] := by
    refine ⟨by simpa [Limbs] using hx, .inr ⟨w.heap.size, 0, 1, rfl, Nat.le_refl _, by omega, by simp, fun i hi => ?_⟩⟩
    simp at hi; subst hi
    rw [World.cell?_alloc_at _ _ _ _ rfl]; rfl
  have HM := Lib.hid (made_calls _ [x] _ hl (by simp))
  rw [show val [x] = x by simp [val]] at HM
  clear hl
  go_enter Tryz.func54, Tryz.ntmps54
  go_wp2_with (go_at_call 116; (with_reducible refine HM.out.mono ?_); rintro ev w1 ⟨⟨r, rfl, hr⟩, hg⟩; have HR := Lib.hid hr; clear hr)
  go_ret
  exact ⟨⟨_, rfl, HR.out⟩, ((Gr.rf w).alloc (Nat.le_refl _) _).trans (hg.mono (by simp))⟩

set_option maxRecDepth 100000 in
theorem zero_calls (v : Value) (n : Nat) (w : World) (h : NatAt w v n) :
    Calls Tryz.prog 78 #[v] w fun e w' => e = .returned (.bool (n == 0)) ∧ w = w' := by
  have HL := Lib.hid (limbs_calls v n w h)
  clear h
  go_enter Tryz.func78, Tryz.ntmps78
  go_wp2_with (go_at_call 117; (with_reducible refine HL.out.mono ?_); rintro ev w1 ⟨⟨s, l, rfl, hl, hn, hv⟩, rfl⟩; obtain ⟨a, c, rfl⟩ := hl.slice; have HN := Lib.hid hn; have HV := Lib.hid hv; clear hn hv hl)
  go_ret
  refine ⟨ret_bool ?_, rfl⟩
  have := norm_zero l HN.out
  rw [HV.out] at this
  by_cases hn : n = 0
  · have := this.1 hn; subst this; subst hn; rfl
  · have hl : l ≠ [] := fun h => hn (this.2 h)
    have e1 : ((l.length : Int) == 0) = false := beq_eq_false_iff_ne.2 (by have := List.length_pos_iff.2 hl; omega)
    have e2 : (n == 0) = false := beq_eq_false_iff_ne.2 hn
    rw [e1, e2]
end
section
open Go.RowKit Go.Extern.Stop Go.Stop Go.Extern
set_option linter.unusedVariables false
set_option linter.unusedSimpArgs false

theorem Gr.drew {w w' : World} (h : Gr w w') (n : Nat) : Gr w (w'.drewN n) := ⟨h.os, h.tape, h.output, h.size, h.block⟩
def cmpN (a b : Nat) : Int := if a < b then -1 else if b < a then 1 else 0
/-- A limb of a slice, in a cell. -/
theorem Lim.at {w : World} {v : Value} {l : List Nat} (h : Lim w v l) (hne : 0 < l.length) : ∃ g o c, v = .slice (some ⟨g, o, none⟩) l.length c ∧ l.length ≤ c ∧ g < w.heap.size ∧
    ∀ (w' : World), Gr w w' → ∀ i (hi : i < l.length), w'.cell? ⟨g, o + i, none⟩ = some (.int .u64 ((l[i] : Nat) : Int)) := by
  rcases h.2 with ⟨_, h2⟩ | ⟨g, o, c, h1, h2, h3, h4, h5⟩
  · subst h2; simp at hne
  · exact ⟨g, o, c, h1, h2, h4, fun w' hg i hi => (hg.cell h4).trans (h5 i hi)⟩

set_option maxRecDepth 100000 in
set_option maxHeartbeats 2000000 in
theorem compare_calls (x y : Value) (a b : List Nat) (w : World) (hx : Lim w x a) (hy : Lim w y b) (ha : Norm a) (hb : Norm b) (hsa : a.length ≤ 1000000000) (hsb : b.length ≤ 1000000000) :
    Calls Tryz.prog 118 #[x, y] w fun e w' => e = .returned (.int .i64 (cmpN (val a) (val b))) ∧ Gr w w' := by
  obtain ⟨xa, xc, rfl⟩ := hx.slice
  obtain ⟨ya, yc, rfl⟩ := hy.slice
  have HX := Lib.hid hx
  have HY := Lib.hid hy
  by_cases hl : a.length = b.length
  · have hne : ((a.length : Int) != b.length) = false := by rw [hl]; simp
    have HL := Lib.hid hl
    clear hx hy ha hb hl
    go_enter Tryz.func118, Tryz.ntmps118
    go_wp2
    go_loopg [5] a.length (fun k i wr => k ≤ a.length ∧ i = .int .i64 ((k : Int) - 1) ∧ a.drop k = b.drop k ∧ Gr w wr)
    case atStart => exact ⟨Nat.le_refl _, rfl, by rw [List.drop_of_length_le (Nat.le_refl _), List.drop_of_length_le (by have := HL.out; omega)], Gr.rf w⟩
    case round =>
      obtain ⟨hk, rfl, hd, hgr⟩ := hrel
      have HD := Lib.hid hd
      clear hd
      by_cases h0 : 0 < gk
      · obtain ⟨j, rfl⟩ : ∃ j, gk = j + 1 := ⟨gk - 1, by omega⟩
        obtain ⟨g1, o1, c1, e1, hc1, hl1, hcell1⟩ := HX.out.at (by omega)
        obtain ⟨g2, o2, c2, e2, hc2, hl2, hcell2⟩ := HY.out.at (by have := HL.out; omega)
        cases e1; cases e2
        have hjb : j < b.length := by have := HL.out; omega
        have d1 := hcell1 wr hgr j (by omega)
        have d2 := hcell2 wr hgr j hjb
        generalize hp : a[j]'(by omega) = p at d1
        generalize hq : b[j]'hjb = q at d2
        have hji : ((j + 1 : Nat) : Int) - 1 = (j : Int) := by omega
        have hjn : (j : Int).toNat = j := by omega
        rw [hji]
        have HP := Lib.hid hp
        have HQ := Lib.hid hq
        clear hp hq hcell1 hcell2 hji
        by_cases hpq : p < q
        · have b1 : decide ((p : Int) < (q : Int)) = true := decide_eq_true (by omega)
          go_wp2_with fail
          go_quiet (fail)
          go_wp2
          go_ret
          refine ⟨ret_int ?_, Gr.drew hgr _⟩
          have := val_lt_of_limb a b HX.out.1 j (by omega) hjb HD.out (by rw [HP.out, HQ.out]; exact hpq)
          unfold cmpN; rw [if_pos this]
        · have b1 : decide ((p : Int) < (q : Int)) = false := decide_eq_false (by omega)
          have B1 := Lib.hid b1
          by_cases hqp : q < p
          · have b2 : decide ((q : Int) < (p : Int)) = true := decide_eq_true (by omega)
            go_wp2_with fail
            go_quiet (fail)
            go_wp2
            go_quiet (fail)
            go_wp2
            go_ret
            refine ⟨ret_int ?_, by first | exact Gr.drew hgr _ | exact Gr.drew (Gr.drew hgr _) _⟩
            have := val_lt_of_limb b a HY.out.1 j hjb (by omega) HD.out.symm (by rw [HP.out, HQ.out]; exact hqp)
            unfold cmpN; rw [if_neg (by omega), if_pos this]
          · have b2 : decide ((q : Int) < (p : Int)) = false := decide_eq_false (by omega)
            have hpe : p = q := by omega
            have HPE := Lib.hid hpe
            clear hpe
            go_wp2_with fail
            go_quiet (fail)
            go_wp2
            go_quiet (fail)
            go_wp2
            go_roundg j
            case measure => omega
            case rel => exact ⟨by omega, by first | rfl | go_num, by rw [List.drop_eq_getElem_cons (by omega : j < a.length), List.drop_eq_getElem_cons hjb, HP.out, HQ.out, HPE.out, HD.out], by first | exact Gr.drew hgr _ | exact Gr.drew (Gr.drew hgr _) _⟩
      · obtain rfl : gk = 0 := by omega
        go_wp2
        go_ret
        refine ⟨ret_int ?_, hgr⟩
        have hab : a = b := by simpa using HD.out
        subst hab
        unfold cmpN; rw [if_neg (by omega), if_neg (by omega)]
  · have hne : ((a.length : Int) != b.length) = true := bne_iff_ne.2 (by omega)
    have HA := Lib.hid ha
    have HB := Lib.hid hb
    clear hx hy ha hb
    go_enter Tryz.func118, Tryz.ntmps118
    go_wp2
    go_ret
    refine ⟨ret_int ?_, Gr.rf w⟩
    rcases Nat.lt_or_ge a.length b.length with h | h
    · have := val_lt_of_length a b HX.out.1 HB.out h
      unfold cmpN; rw [if_pos this]; omega
    · have := val_lt_of_length b a HY.out.1 HA.out (by omega)
      unfold cmpN; rw [if_neg (by omega), if_pos this]; omega

set_option maxRecDepth 100000 in
/-- (*Nat).Cmp. -/
theorem cmp_calls (x y : Value) (a b : Nat) (w : World) (hx : NatAt w x a) (hy : NatAt w y b) (k : Nat) (ha : a < B ^ k) (hb : b < B ^ k) (hk : k ≤ 1000000) :
    Calls Tryz.prog 60 #[x, y] w fun e w' => e = .returned (.int .i64 (cmpN a b)) ∧ Gr w w' := by
  have HL := Lib.hid (limbs_calls x a w hx)
  have HM := Lib.hid (limbs_calls y b w hy)
  have HA := Lib.hid ha
  have HB := Lib.hid hb
  clear hx hy ha hb
  go_enter Tryz.func60, Tryz.ntmps60
  go_wp2_with (go_at_call 117; (with_reducible refine HL.out.mono ?_); rintro ev w1 ⟨⟨s, l, rfl, hl, hn, hv⟩, rfl⟩; have HL1 := Lib.hid hl; have HN1 := Lib.hid hn; have HV1 := Lib.hid hv; clear hn hv hl)
  go_wp2_with (go_at_call 117; (with_reducible refine HM.out.mono ?_); rintro ev w1 ⟨⟨s2, l2, rfl, hl, hn, hv⟩, rfl⟩; have HL2 := Lib.hid hl; have HN2 := Lib.hid hn; have HV2 := Lib.hid hv; clear hn hv hl)
  have h1 := norm_length l HN1.out k (by rw [HV1.out]; exact HA.out)
  have h2 := norm_length l2 HN2.out k (by rw [HV2.out]; exact HB.out)
  have HC := Lib.hid (compare_calls s s2 l l2 w HL1.out HL2.out HN1.out HN2.out (by omega) (by omega))
  rw [HV1.out, HV2.out] at HC
  go_wp2_with (go_at_call 118; (with_reducible refine HC.out.mono ?_); rintro ev w1 ⟨rfl, hg⟩)
  go_ret
  exact ⟨rfl, hg⟩
end
section
open Go.RowKit Go.Extern.Stop Go.Stop Go.Extern
set_option linter.unusedVariables false
set_option linter.unusedSimpArgs false

/-- A row of limbs. -/
def RowU (w : World) (b n : Nat) (F : Nat → Nat) : Prop := w.rowIs b 56 n (fun j => U (F j))
theorem RowU.congr {w : World} {b n : Nat} {F G : Nat → Nat} (h : RowU w b n F) (e : ∀ i, i < n → F i = G i) : RowU w b n G := World.rowIs.congr h fun i hi => by rw [e i hi]
theorem RowU.set {w : World} {b n : Nat} {F : Nat → Nat} (h : RowU w b n F) (i x : Nat) : RowU (w.setCell ⟨b, i, none⟩ (.int .u64 (x : Int))) b n (fun j => if j = i then x else F j) :=
  (World.rowIs.set h i (.int .u64 (x : Int))).congr fun j hj => by dsimp only; split <;> rfl
theorem RowU.cell {w : World} {b n : Nat} {F : Nat → Nat} (h : RowU w b n F) {i : Nat} (hi : i < n) : w.cell? ⟨b, i, none⟩ = some (.int .u64 ((F i : Nat) : Int)) := World.rowIs.cell h hi
theorem RowU.lim {w : World} {b n : Nat} {F : Nat → Nat} (h : RowU w b n F) (hb : ∀ j, j < n → F j < B) (hn : n ≤ 9223372036854775807) : Lim w (.slice (some ⟨b, 0, none⟩) n n) ((List.range n).map F) := by
  refine ⟨fun x hx => ?_, .inr ⟨b, 0, n, by simp, by simp, hn, World.rowIs.lt h, fun i hi => ?_⟩⟩
  · obtain ⟨j, hj, rfl⟩ := List.mem_map.1 hx
    exact hb j (List.mem_range.1 hj)
  · have hi' : i < n := by simpa using hi
    rw [Nat.zero_add, h.cell hi']
    simp [U]
theorem RowU.drew {w : World} {b n : Nat} {F : Nat → Nat} (h : RowU w b n F) (k : Nat) : RowU (w.drewN k) b n F := h
theorem rowU_made (w : World) (n : Nat) : RowU (w.alloc (.cells (madeCells #[.int .u64 0] n) 56)) w.heap.size n (fun _ => 0) := World.rowIs_made w (.int .u64 0) n 56
theorem Gr.setCell {w w' : World} (h : Gr w w') {a : Addr} (ha : w.heap.size ≤ a.block) (v : Value) : Gr w (w'.setCell a v) :=
  ⟨h.os, h.tape, h.output, by have := h.size; simpa [World.setCell] using this, fun i hi => by
    rw [← h.block i hi]; exact Go.Deep.blk_setCell_other _ _ _ _ (by omega)⟩
theorem under24 : Tryz.prog.underlying 24 = some (.slice 56) := by kernel_rfl
theorem info45 : (Tryz.prog.info? 56).map (fun i => (i.zero, i.size, i.bytes)) = some (some (.int .u64 0), 1, 8) := by kernel_rfl
theorem make64 (n : Nat) (h : n ≤ 2000000000) (w : World) : (Instr.makeSlice 24 (.int .i64 (n : Int)) (.int .i64 (n : Int))).run Tryz.prog w = .ok (.slice (some ⟨w.heap.size, 0, none⟩) n n) (w.alloc (.cells (madeCells #[.int .u64 0] n) 56)) :=
  run_make_row' 24 56 (.int .u64 0) 8 under24 info45 rfl .i64 .i64 n (by omega) (by omega) w

theorem val_map_succ (F : Nat → Nat) (k : Nat) : val ((List.range (k + 1)).map F) = val ((List.range k).map F) + B ^ k * F k := by
  rw [List.range_succ, List.map_append, List.map_cons, List.map_nil, val_snoc, List.length_map, List.length_range]
theorem val_map_congr {F G : Nat → Nat} {k : Nat} (h : ∀ j, j < k → F j = G j) : val ((List.range k).map F) = val ((List.range k).map G) := by
  congr 1; exact List.map_congr_left fun j hj => h j (List.mem_range.1 hj)
/-- The carry into a place. -/
def addC (a b : Nat → Nat) : Nat → Nat
  | 0 => 0
  | k + 1 => adHi (a k) (b k) (addC a b k)
def addD (a b : Nat → Nat) (k : Nat) : Nat := adLo (a k) (b k) (addC a b k)
theorem addC_le (a b : Nat → Nat) (ha : ∀ k, a k < B) (hb : ∀ k, b k < B) (k : Nat) : addC a b k ≤ 1 := by
  induction k with
  | zero => exact Nat.zero_le _
  | succ k ih => exact adHi_le _ _ _ (ha k) (hb k) ih
theorem val_addD (a b : List Nat) (k : Nat) : val ((List.range k).map (addD (a.getD · 0) (b.getD · 0))) + B ^ k * addC (a.getD · 0) (b.getD · 0) k = val (a.take k) + val (b.take k) := by
  induction k with
  | zero => simp [addC, val]
  | succ k ih =>
    rw [val_map_succ, val_take_getD, val_take_getD]
    have h := ad_eq (a.getD k 0) (b.getD k 0) (addC (a.getD · 0) (b.getD · 0) k)
    have e1 : addD (a.getD · 0) (b.getD · 0) k = adLo (a.getD k 0) (b.getD k 0) (addC (a.getD · 0) (b.getD · 0) k) := rfl
    have e2 : addC (a.getD · 0) (b.getD · 0) (k + 1) = adHi (a.getD k 0) (b.getD k 0) (addC (a.getD · 0) (b.getD · 0) k) := rfl
    rw [e1, e2]
    generalize adLo (a.getD k 0) (b.getD k 0) (addC (a.getD · 0) (b.getD · 0) k) = lo at *
    generalize adHi (a.getD k 0) (b.getD k 0) (addC (a.getD · 0) (b.getD · 0) k) = hi at *
    generalize addC (a.getD · 0) (b.getD · 0) k = c at *
    have hm : B ^ k * (lo + B * hi) = B ^ k * (a.getD k 0 + b.getD k 0 + c) := by rw [h]
    simp only [Nat.pow_succ, Nat.mul_add, Nat.mul_assoc] at *
    omega
theorem getD_lt {a : List Nat} (h : Limbs a) (k : Nat) : a.getD k 0 < B := by
  by_cases hk : k < a.length
  · rw [List.getD_eq_getElem?_getD, List.getElem?_eq_getElem hk]; exact h _ (List.getElem_mem hk)
  · rw [List.getD_eq_getElem?_getD, List.getElem?_eq_none (by omega)]; exact B_pos
/-- What Add leaves. -/
def addF (a b : List Nat) (j : Nat) : Nat := if j < a.length then addD (a.getD · 0) (b.getD · 0) j else addC (a.getD · 0) (b.getD · 0) a.length
theorem val_addF (a b : List Nat) (h : b.length ≤ a.length) : val ((List.range (a.length + 1)).map (addF a b)) = val a + val b := by
  rw [val_map_succ, val_map_congr (G := addD (a.getD · 0) (b.getD · 0)) (fun j hj => by simp [addF, hj])]
  have := val_addD a b a.length
  rw [List.take_of_length_le (Nat.le_refl _), List.take_of_length_le h] at this
  simpa [addF] using this
theorem addF_lt (a b : List Nat) (ha : Limbs a) (hb : Limbs b) (j : Nat) : addF a b j < B := by
  unfold addF
  split
  · exact adLo_lt _ _ _
  · have := addC_le _ _ (getD_lt ha) (getD_lt hb) a.length
    have := B_eq; omega

theorem add64_run (x y c : Nat) (hx : x < B) (hy : y < B) (hc : c ≤ 1) (w : World) :
    (callFunc 123 #[.int .u64 (x : Int), .int .u64 (y : Int), .int .u64 (c : Int)]).run Tryz.prog w =
      .ok (.value (.tuple #[.int .u64 ((adLo x y c : Nat) : Int), .int .u64 ((adHi x y c : Nat) : Int)])) w := by
  rw [B_eq] at hx hy
  rw [run_callFunc_extern Tryz.func123 (by kernel_rfl) (by kernel_rfl) (by kernel_rfl) (e := add64Entry) (by kernel_rfl), run_add64 x y c (by omega) (by omega) (by omega) (by omega)]
  simp only [Result.andThen]
  unfold adLo adHi
  rw [B_eq]
  congr 5 <;> omega

theorem Lim.get {w : World} {v : Value} {l : List Nat} (h : Lim w v l) {w' : World} (hg : Gr w w') (i : Nat) (hi : i < l.length) :
    ∃ g o c, v = .slice (some ⟨g, o, none⟩) l.length c ∧ w'.cell? ⟨g, o + i, none⟩ = some (.int .u64 ((l.getD i 0 : Nat) : Int)) := by
  obtain ⟨g, o, c, e, _, _, hcell⟩ := h.at (by omega)
  refine ⟨g, o, c, e, ?_⟩
  rw [hcell w' hg i hi, List.getD_eq_getElem?_getD, List.getElem?_eq_getElem hi]; rfl
end
end Go.Proofs.YtcjjgdoafkdeaaaGreatDoor
