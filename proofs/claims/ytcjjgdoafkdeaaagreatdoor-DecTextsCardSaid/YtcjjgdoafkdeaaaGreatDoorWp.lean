/- Layers 4 and 5, plain: texts of fractions and of decimals read back. -/
import Derived.Test.YtcjjgdoafkdeaaaGreatDoorWn
import Derived.Test.YtcjjgdoafkdeaaaGreatDoorJe
namespace Go.Proofs.YtcjjgdoafkdeaaaGreatDoor
open Go.RowKit Go.Extern.Stop Go.Stop Go.Extern Go.Sort
set_option linter.unusedVariables false
set_option linter.unusedSimpArgs false

theorem index_at (l : List UInt8) (c : UInt8) (i : Nat) (h1 : l[i]? = some c) (h2 : ∀ j, j < i → l[j]? ≠ some c) : Lib.indexByte l c = (i : Int) := by
  have hge := Lib.indexByte_ge l c
  rcases Int.lt_or_le (Lib.indexByte l c) 0 with h | h
  · exact absurd h1 (Lib.indexByte_none (by omega) i)
  · obtain ⟨k, hk⟩ : ∃ k : Nat, Lib.indexByte l c = (k : Int) := ⟨(Lib.indexByte l c).toNat, by omega⟩
    obtain ⟨g1, g2⟩ := Lib.indexByte_some hk
    rcases Nat.lt_trichotomy k i with e | e | e
    · exact absurd g1 (h2 k e)
    · rw [hk, e]
    · exact absurd h1 (g2 i e)
theorem index_none (l : List UInt8) (c : UInt8) (h : ∀ x ∈ l, x ≠ c) : Lib.indexByte l c = -1 := by
  have hge := Lib.indexByte_ge l c
  rcases Int.lt_or_le (Lib.indexByte l c) 0 with h2 | h2
  · omega
  · obtain ⟨k, hk⟩ : ∃ k : Nat, Lib.indexByte l c = (k : Int) := ⟨(Lib.indexByte l c).toNat, by omega⟩
    have g1 := (Lib.indexByte_some hk).1
    obtain ⟨hl, g2⟩ := List.getElem?_eq_some_iff.1 g1
    exact absurd g2 (h _ (List.getElem_mem hl))
theorem index_mid (a b : List UInt8) (c : UInt8) (h : ∀ x ∈ a, x ≠ c) : Lib.indexByte (a ++ c :: b) c = (a.length : Int) := by
  refine index_at _ c a.length ?_ fun j hj e => ?_
  · rw [List.getElem?_append_right (Nat.le_refl _), Nat.sub_self]; rfl
  · rw [List.getElem?_append_left hj] at e
    obtain ⟨hl, g2⟩ := List.getElem?_eq_some_iff.1 e
    exact h _ (List.getElem_mem hl) g2
theorem dig_ne {l : List UInt8} (h : Dig l) (c : UInt8) (hc : c.toNat < 48 ∨ 57 < c.toNat) : ∀ x ∈ l, x ≠ c := fun x hx e => by
  have := h x hx
  rw [e] at this
  omega
theorem ba_lists (L : List UInt8) : (⟨L.toArray⟩ : ByteArray).data.toList = L ∧ (⟨L.toArray⟩ : ByteArray).size = L.length := ⟨by simp, by rw [Lib.size_eq]⟩
/-- A text of two parts about a sign. -/
theorem mid_parts (a b : List UInt8) (c : UInt8) : (⟨(a ++ c :: b).toArray⟩ : ByteArray).extract 0 a.length = ⟨a.toArray⟩ ∧ (⟨(a ++ c :: b).toArray⟩ : ByteArray).extract (a.length + 1) (⟨(a ++ c :: b).toArray⟩ : ByteArray).size = ⟨b.toArray⟩ ∧ a.length < (⟨(a ++ c :: b).toArray⟩ : ByteArray).size := by
  have hs := (ba_lists (a ++ c :: b)).2
  rw [List.length_append, List.length_cons] at hs
  refine ⟨ba_ext ?_, ba_ext ?_, by omega⟩
  · rw [(piece _ a.length (by omega)).1, (ba_lists _).1, (ba_lists _).1, List.take_left]
  · rw [(piece _ (a.length + 1) (by omega)).2.1, (ba_lists _).1, (ba_lists _).1, show a ++ c :: b = (a ++ [c]) ++ b by simp, show a.length + 1 = (a ++ [c]).length by simp, List.drop_left]
theorem head_app {a b : List UInt8} (h : 0 < a.length) : (a ++ b).head? = a.head? := by
  cases a with
  | nil => exact absurd h (by decide)
  | cons x a => rfl
theorem ba_head (L : List UInt8) (h : 0 < (⟨L.toArray⟩ : ByteArray).size) : L.head? = some ((⟨L.toArray⟩ : ByteArray)[0]'h) := by
  have hl : 0 < L.length := by rw [← (ba_lists L).2]; exact h
  rw [List.head?_eq_getElem?, List.getElem?_eq_getElem hl]
  congr 1
theorem numeral_N (n : Nat) (hl : (Lib.decDigits n).length ≤ 4000) : NumT ⟨(Lib.decDigits n).toArray⟩ := by
  obtain ⟨h1, h2, h3, h4⟩ := numeral n
  have hs := (ba_lists (Lib.decDigits n)).2
  have hp : 0 < (Lib.decDigits n).length := List.length_pos_iff.2 h3
  refine ⟨by omega, by omega, ?_, h1⟩
  rcases h4 with h4 | h4
  · exact .inl (by omega)
  · refine .inr fun h e => h4 ?_
    rw [ba_head _ h]
    congr 1
    exact UInt8.toNat_inj.1 e
/-- An integer's numeral, its sign taken off. -/
theorem parts_sign (b : Bool) (L : List UInt8) (hd : Dig L) : Parts ⟨(if b then 45 :: L else L).toArray⟩ ⟨L.toArray⟩ b := by
  cases b
  · refine .inr ⟨rfl, rfl, fun h e => ?_⟩
    have h' : 0 < (⟨L.toArray⟩ : ByteArray).size := h
    have e' : ((⟨L.toArray⟩ : ByteArray)[0]'h').toNat = 45 := e
    have hh := ba_head L h'
    have hm : (⟨L.toArray⟩ : ByteArray)[0]'h' ∈ L := List.mem_of_mem_head? (by rw [hh]; rfl)
    have := hd _ hm
    omega
  · have hs := (ba_lists (45 :: L)).2
    rw [List.length_cons] at hs
    refine .inl ⟨rfl, by show 0 < (⟨(45 :: L).toArray⟩ : ByteArray).size; omega, rfl, ba_ext ?_⟩
    show _ = ((⟨(45 :: L).toArray⟩ : ByteArray).extract 1 (⟨(45 :: L).toArray⟩ : ByteArray).size).data.toList
    rw [(piece _ 1 (by omega)).2.1, (ba_lists _).1, (ba_lists _).1]; rfl
theorem itoa_sign (n : Int) : Lib.itoa n = if decide (n < 0) then 45 :: Lib.decDigits n.natAbs else Lib.decDigits n.natAbs := by
  by_cases h : n < 0
  · rw [decide_eq_true h, if_pos rfl]
    obtain ⟨m, hm⟩ : ∃ m : Nat, n = -(m : Int) := ⟨n.natAbs, by omega⟩
    rw [show n.natAbs = m by omega, hm]
    exact Lib.itoa_neg m (by omega)
  · rw [decide_eq_false h, if_neg (by decide)]
    obtain ⟨m, hm⟩ : ∃ m : Nat, n = (m : Int) := ⟨n.natAbs, by omega⟩
    rw [show n.natAbs = m by omega, hm]
    exact Lib.itoa_nonneg m
theorem sgn_self (n : Int) : sgn (decide (n < 0)) n.natAbs = n := by
  by_cases h : n < 0
  · rw [decide_eq_true h]; show -(n.natAbs : Int) = n; omega
  · rw [decide_eq_false h]; show (n.natAbs : Int) = n; omega
/-- A fraction's own text is one, of it. -/
theorem rat_back (n : Int) (d : Nat) (hd : 0 < d) (hc : Nat.gcd n.natAbs d = 1) (h1 : n.natAbs < 10 ^ 100) (h2 : d < 10 ^ 100) :
    ∃ t u t2, CutQ ⟨(ratText n d).toArray⟩ t u ∧ Parts t t2 (decide (n < 0)) ∧ QT ⟨(ratText n d).toArray⟩ t2 u (decide (n < 0)) ∧ dv t2.data.toList = n.natAbs ∧ dv u.data.toList = d ∧ (⟨(ratText n d).toArray⟩ : ByteArray).size ≤ 202 := by
  obtain ⟨a1, a2, a3, a4⟩ := numeral n.natAbs
  obtain ⟨b1, b2, b3, b4⟩ := numeral d
  have l1 := nd_le 100 n.natAbs (by decide) h1
  have l2 := nd_le 100 d (by decide) h2
  have hn1 := numeral_N n.natAbs (by omega)
  have hn2 := numeral_N d (by omega)
  have hp := parts_sign (decide (n < 0)) (Lib.decDigits n.natAbs) a1
  rw [← itoa_sign] at hp
  have hnz : decide (n < 0) = true → dv (⟨(Lib.decDigits n.natAbs).toArray⟩ : ByteArray).data.toList ≠ 0 := fun h => by
    rw [(ba_lists _).1, a2]
    have := of_decide_eq_true h
    omega
  have hni : ∀ x ∈ Lib.itoa n, x ≠ 47 := by
    rw [itoa_sign]
    intro x hx
    cases hb : decide (n < 0)
    · rw [hb] at hx
      exact dig_ne a1 47 (by decide) x hx
    · rw [hb] at hx
      rcases List.mem_cons.1 hx with rfl | hx
      · decide
      · exact dig_ne a1 47 (by decide) x hx
  have hli : (Lib.itoa n).length ≤ 101 := by
    rw [itoa_sign]
    split
    · rw [List.length_cons]; omega
    · omega
  have hval : ∀ (T : ByteArray), T.data.toList = ratText n d → ∀ u : ByteArray, dv u.data.toList = d → NumT u → QT T ⟨(Lib.decDigits n.natAbs).toArray⟩ u (decide (n < 0)) := fun T hT u hu hnu => by
    refine ⟨⟨hn1, hnz⟩, hnu, by omega, ?_⟩
    rw [(ba_lists _).1, a2, hu, hc, Nat.div_one, Nat.div_one, sgn_self, hT]
  by_cases h : d = 1
  · have e : ratText n d = Lib.itoa n := by unfold ratText; rw [if_pos h]
    refine ⟨⟨(ratText n d).toArray⟩, ⟨#[49]⟩, _, .inr ⟨?_, rfl, rfl⟩, by rw [e]; exact hp, hval _ (ba_lists _).1 _ (by rw [h]; rfl) ⟨by decide, by decide, .inl rfl, fun c hc => by
      have : c = 49 := by simpa using hc
      subst this; decide⟩, by rw [(ba_lists _).1, a2], by rw [h]; rfl, by rw [(ba_lists _).2, e]; omega⟩
    rw [(ba_lists _).1, e]
    exact index_none _ _ hni
  · have e : ratText n d = Lib.itoa n ++ 47 :: Lib.decDigits d := by unfold ratText; rw [if_neg h]
    obtain ⟨m1, m2, m3⟩ := mid_parts (Lib.itoa n) (Lib.decDigits d) 47
    refine ⟨⟨(Lib.itoa n).toArray⟩, ⟨(Lib.decDigits d).toArray⟩, _, .inl ⟨(Lib.itoa n).length, ?_, by rw [e]; exact m3, by rw [e]; exact m1.symm, by rw [e]; exact m2.symm⟩, hp, hval _ (ba_lists _).1 _ (by rw [(ba_lists _).1, b2]) hn2, by rw [(ba_lists _).1, a2], by rw [(ba_lists _).1, b2], by rw [(ba_lists _).2, e, List.length_append, List.length_cons]; omega⟩
    rw [(ba_lists _).1, e]
    exact index_mid _ _ _ hni

/-- Digits of one length are known by their number. -/
theorem dv_inj : ∀ (l m : List UInt8), Dig l → Dig m → l.length = m.length → dv l = dv m → l = m
  | [], [], _, _, _, _ => rfl
  | [], _ :: _, _, _, h, _ => by cases h
  | _ :: _, [], _, _, h, _ => by cases h
  | c :: l, e :: m, hl, hm, hlen, hv => by
    have hl2 : Dig l := fun x hx => hl x (List.mem_cons_of_mem _ hx)
    have hm2 : Dig m := fun x hx => hm x (List.mem_cons_of_mem _ hx)
    have hc := hl c (List.mem_cons_self ..)
    have he := hm e (List.mem_cons_self ..)
    have a1 := dv_append [c] l
    have a2 := dv_append [e] m
    have v1 : dv [c] = c.toNat - 48 := by show 0 * 10 + (c.toNat - 48) = _; omega
    have v2 : dv [e] = e.toNat - 48 := by show 0 * 10 + (e.toNat - 48) = _; omega
    rw [show ([c] : List UInt8) ++ l = c :: l from rfl, v1] at a1
    rw [show ([e] : List UInt8) ++ m = e :: m from rfl, v2] at a2
    have hln : l.length = m.length := by simpa using hlen
    have b1 := dv_lt l hl2
    have b2 := dv_lt m hm2
    rw [a1, a2, ← hln] at hv
    rw [← hln] at b2
    generalize 10 ^ l.length = P at *
    have hce : c.toNat - 48 = e.toNat - 48 := by
      rcases Nat.lt_trichotomy (c.toNat - 48) (e.toNat - 48) with h | h | h
      · have := Nat.mul_le_mul_right P (show c.toNat - 48 + 1 ≤ e.toNat - 48 by omega)
        rw [Nat.add_mul, Nat.one_mul] at this
        omega
      · exact h
      · have := Nat.mul_le_mul_right P (show e.toNat - 48 + 1 ≤ c.toNat - 48 by omega)
        rw [Nat.add_mul, Nat.one_mul] at this
        omega
    rw [hce] at hv
    have hcc : c = e := UInt8.toNat_inj.1 (by omega)
    rw [hcc, dv_inj l m hl2 hm2 hln (by omega)]
theorem dv_zeros (k : Nat) (l : List UInt8) : dv (List.replicate k 48 ++ l) = dv l := by
  induction k with
  | zero => rfl
  | succ k ih =>
    have a := dv_append [48] (List.replicate k 48 ++ l)
    rw [show ([48] : List UInt8) ++ (List.replicate k 48 ++ l) = List.replicate (k + 1) 48 ++ l from rfl, show dv [48] = 0 from rfl, ih] at a
    omega
theorem dig_zeros (k : Nat) {l : List UInt8} (h : Dig l) : Dig (List.replicate k 48 ++ l) := fun c hc => by
  rcases List.mem_append.1 hc with hc | hc
  · rw [List.eq_of_mem_replicate hc]; decide
  · exact h c hc
/-- A number's numeral, padded, is the digits that it was read from. -/
theorem pad_back (l : List UInt8) (p : Nat) (hd : Dig l) (hp : p < l.length) (h0 : l.length = p + 1 ∨ l.head? ≠ some 48) : padL (Lib.decDigits (dv l)) p = l := by
  obtain ⟨n1, n2, n3, n4⟩ := numeral (dv l)
  have hne : l ≠ [] := by intro e; rw [e] at hp; simp at hp
  by_cases hh : l.head? ≠ some 48
  · have e := (decDigits_dv l hd hne (.inr hh)).1
    rw [e]
    unfold padL
    rw [if_neg (by omega)]
  · have hl := h0.resolve_right hh
    have hle := nd_le l.length (dv l) (by omega) (dv_lt l hd)
    unfold padL
    split
    · refine dv_inj _ _ (dig_zeros _ n1) hd ?_ (by rw [dv_zeros, n2])
      rw [List.length_append, List.length_replicate]
      omega
    · exact dv_inj _ _ n1 hd (by omega) n2
theorem point_parts (a r : List UInt8) (p : Nat) (hr : r.length = p) : pointL (a ++ r) p = if 0 < p then a ++ 46 :: r else a ++ r := by
  unfold pointL
  split
  · rw [List.length_append, show a.length + r.length - p = a.length by omega, List.take_left, List.drop_left]
  · rfl
theorem placed_sign (z : Int) (p : Nat) : placedL z p = if decide (z < 0) then 45 :: pointL (padL (Lib.decDigits z.natAbs) p) p else pointL (padL (Lib.decDigits z.natAbs) p) p := by
  unfold placedL
  by_cases h : z < 0
  · rw [if_pos h, decide_eq_true h, if_pos rfl]
  · rw [if_neg h, decide_eq_false h, if_neg (by decide)]
/-- A decimal put is the text that it was read from. -/
theorem placed_back {s t a r : ByteArray} {neg pt : Bool} (hp : Parts s t neg) (hc : CutP t a r pt) (hd : DecT s a r neg pt) : placedL (sgn neg (dv (a.data.toList ++ r.data.toList))) r.size = s.data.toList := by
  obtain ⟨d1, d2, d3, d4⟩ := hd
  obtain ⟨z2, z3, z4⟩ := cutP_size hc
  have hrd : Dig r.data.toList := by
    cases pt
    · rw [List.eq_nil_of_length_eq_zero (show r.data.toList.length = 0 by rw [← Lib.size_eq]; exact (z4 rfl).1)]
      exact fun c hc => (by cases hc)
    · exact (d2 rfl).2.2
  have hdd : Dig (a.data.toList ++ r.data.toList) := fun c hc => (List.mem_append.1 hc).elim (d3.2.2.2 c) (hrd c)
  have ha0 : 0 < a.data.toList.length := by rw [← Lib.size_eq]; exact d3.1
  have hrs : r.data.toList.length = r.size := (Lib.size_eq r).symm
  have hpad := pad_back (a.data.toList ++ r.data.toList) r.size hdd (by rw [List.length_append]; omega) (by
    rcases d3.2.2.1 with h | h
    · left; rw [List.length_append, ← Lib.size_eq a]; omega
    · refine .inr fun e => h d3.1 ?_
      rw [head_app ha0, List.head?_eq_getElem?, List.getElem?_eq_getElem ha0] at e
      injection e with e
      rw [← at_list a 0 d3.1 ha0, e]; rfl)
  have hsn : decide (sgn neg (dv (a.data.toList ++ r.data.toList)) < 0) = neg := by
    cases neg
    · exact decide_eq_false (by show ¬ ((_ : Nat) : Int) < 0; omega)
    · have := d4 rfl
      exact decide_eq_true (by show -((_ : Nat) : Int) < 0; omega)
  have htl : pointL (a.data.toList ++ r.data.toList) r.size = t.data.toList := by
    rw [point_parts _ _ _ hrs]
    rcases hc with ⟨rfl, i, hi, hlt, rfl, rfl⟩ | ⟨rfl, hi, rfl, rfl⟩
    · rw [if_pos (show 0 < _ from (d2 rfl).1)]
      have hcut := (Lib.indexByte_some hi).1
      have hl : i < t.data.toList.length := by rw [← Lib.size_eq]; exact hlt
      rw [(piece t i (by omega)).1, (piece t (i + 1) (by omega)).2.1]
      rw [List.getElem?_eq_getElem hl] at hcut
      injection hcut with hcut
      conv => rhs; rw [← List.take_append_drop i t.data.toList, List.drop_eq_getElem_cons hl, hcut]
    · rw [if_neg (by decide)]
      simp
  rw [placed_sign, sgn_abs, hsn, hpad, htl]
  rcases hp with ⟨rfl, h1, h2, rfl⟩ | ⟨rfl, rfl, h1⟩
  · rw [if_pos rfl, (piece s 1 (by omega)).2.1]
    conv => rhs; rw [parts_head s h1]
    rw [show s[0]'h1 = 45 from UInt8.toNat_inj.1 h2]
  · rw [if_neg (by decide)]
theorem dec_bd {s t a r : ByteArray} {neg pt : Bool} (hp : Parts s t neg) (hc : CutP t a r pt) (hd : DecT s a r neg pt) : dv (a.data.toList ++ r.data.toList) < Dg.D ^ 30 ∧ r.size ≤ 20 ∧ (neg = true → dv (a.data.toList ++ r.data.toList) ≠ 0) := by
  obtain ⟨d1, d2, d3, d4⟩ := hd
  obtain ⟨z2, z3, z4⟩ := cutP_size hc
  have z1 := size_parts hp
  have hr : r.size ≤ 20 ∧ Dig r.data.toList := by
    cases pt
    · have h0 := (z4 rfl).1
      exact ⟨by omega, by
        rw [List.eq_nil_of_length_eq_zero (show r.data.toList.length = 0 by rw [← Lib.size_eq]; exact h0)]
        exact fun c hc => (by cases hc)⟩
    · exact ⟨(d2 rfl).2.1, (d2 rfl).2.2⟩
  refine ⟨?_, hr.1, d4⟩
  refine Nat.lt_of_lt_of_le (dv_lt _ (fun c hc => (List.mem_append.1 hc).elim (d3.2.2.2 c) (hr.2 c))) ?_
  rw [List.length_append, ← Lib.size_eq, ← Lib.size_eq]
  exact Nat.le_trans (Nat.pow_le_pow_right (by decide) (show a.size + r.size ≤ 9 * 30 by omega)) (Nat.le_of_eq (D_pow 30).symm)
theorem take_drop_dig {l : List UInt8} (h : Dig l) (k : Nat) : Dig (l.take k) ∧ Dig (l.drop k) := ⟨fun c hc => h c (List.mem_of_mem_take hc), fun c hc => h c (List.mem_of_mem_drop hc)⟩
theorem pad_facts (n p : Nat) : Dig (padL (Lib.decDigits n) p) ∧ dv (padL (Lib.decDigits n) p) = n ∧ p < (padL (Lib.decDigits n) p).length ∧ (padL (Lib.decDigits n) p).length ≤ max (p + 1) (Lib.decDigits n).length ∧ ((padL (Lib.decDigits n) p).length = p + 1 ∨ (padL (Lib.decDigits n) p).head? ≠ some 48) := by
  obtain ⟨n1, n2, n3, n4⟩ := numeral n
  have hp : 0 < (Lib.decDigits n).length := List.length_pos_iff.2 n3
  unfold padL
  split
  · refine ⟨dig_zeros _ n1, by rw [dv_zeros, n2], ?_, ?_, .inl ?_⟩
    all_goals rw [List.length_append, List.length_replicate]; omega
  · refine ⟨n1, n2, by omega, by omega, ?_⟩
    rcases n4 with h | h
    · left; omega
    · exact .inr h
/-- What is put can be read: it is that number again. -/
theorem dec_back (z : Int) (p : Nat) (hp : p ≤ 20) (hz : z.natAbs < 10 ^ 57) :
    ∃ t a r pt, Parts ⟨(placedL z p).toArray⟩ t (decide (z < 0)) ∧ CutP t a r pt ∧ DecT ⟨(placedL z p).toArray⟩ a r (decide (z < 0)) pt ∧ r.size = p ∧ dv (a.data.toList ++ r.data.toList) = z.natAbs := by
  obtain ⟨f1, f2, f3, f4, f5⟩ := pad_facts z.natAbs p
  have hl := nd_le 57 z.natAbs (by decide) hz
  rw [placed_sign]
  generalize hL : padL (Lib.decDigits z.natAbs) p = L at *
  have hL57 : L.length ≤ 57 := Nat.le_trans f4 (Nat.max_le.2 ⟨by omega, hl⟩)
  have hspl : L = L.take (L.length - p) ++ L.drop (L.length - p) := (List.take_append_drop _ _).symm
  have hA := take_drop_dig f1 (L.length - p)
  have hrl : (L.drop (L.length - p)).length = p := by rw [List.length_drop]; omega
  have hal : (L.take (L.length - p)).length = L.length - p := by rw [List.length_take]; omega
  have hhd : (L.take (L.length - p)).head? = L.head? := by
    rw [List.head?_take, if_neg (by omega)]
  have hpt : pointL L p = if 0 < p then L.take (L.length - p) ++ 46 :: L.drop (L.length - p) else L := by unfold pointL; rfl
  have hnum : NumT ⟨(L.take (L.length - p)).toArray⟩ := by
    have hs := (ba_lists (L.take (L.length - p))).2
    refine ⟨by omega, by omega, ?_, by rw [(ba_lists _).1]; exact hA.1⟩
    rcases f5 with h | h
    · exact .inl (by omega)
    · refine .inr fun hh e => h ?_
      rw [← hhd, ba_head _ hh]
      congr 1
      exact UInt8.toNat_inj.1 e
  have hdvv : dv ((⟨(L.take (L.length - p)).toArray⟩ : ByteArray).data.toList ++ (⟨(L.drop (L.length - p)).toArray⟩ : ByteArray).data.toList) = z.natAbs := by
    rw [(ba_lists _).1, (ba_lists _).1, ← hspl, f2]
  have hneg : decide (z < 0) = true → z.natAbs ≠ 0 := fun h => by have := of_decide_eq_true h; omega
  have hsz : ∀ X : List UInt8, X.length ≤ 59 → (⟨(if decide (z < 0) then 45 :: X else X).toArray⟩ : ByteArray).size ≤ 60 := fun X hX => by
    rw [(ba_lists _).2]
    split
    · rw [List.length_cons]; omega
    · omega
  have hparts : ∀ X : List UInt8, X.head?.map (fun c => c.toNat ≠ 45) ≠ some False → True := fun _ _ => trivial
  rcases Nat.eq_zero_or_pos p with hp0 | hp0
  · rw [hpt, if_neg (show ¬ 0 < p by omega)]
    have hLL : L.take (L.length - p) = L := by rw [hp0, Nat.sub_zero, List.take_length]
    refine ⟨⟨L.toArray⟩, ⟨(L.take (L.length - p)).toArray⟩, ⟨#[]⟩, false, parts_sign _ L f1, .inr ⟨rfl, ?_, by rw [hLL], rfl⟩, ⟨hsz L (by omega), (fun h => by cases h), hnum, fun h => ?_⟩, hp0.symm, ?_⟩
    · rw [(ba_lists _).1]
      exact index_none _ _ (dig_ne f1 46 (by decide))
    · rw [hLL, (ba_lists _).1]
      have : dv (L ++ (⟨#[]⟩ : ByteArray).data.toList) = dv L := by simp
      rw [this, f2]
      exact hneg h
    · rw [hLL, (ba_lists _).1]
      have : dv (L ++ (⟨#[]⟩ : ByteArray).data.toList) = dv L := by simp
      rw [this, f2]
  · rw [hpt, if_pos hp0]
    generalize L.take (L.length - p) = A at *
    generalize L.drop (L.length - p) = R at *
    obtain ⟨m1, m2, m3⟩ := mid_parts A R 46
    have hparts : Parts ⟨(if decide (z < 0) then 45 :: (A ++ 46 :: R) else (A ++ 46 :: R)).toArray⟩ ⟨(A ++ 46 :: R).toArray⟩ (decide (z < 0)) := by
      generalize decide (z < 0) = b
      have hAp : 0 < A.length := by omega
      cases b
      · refine .inr ⟨rfl, rfl, fun h e => ?_⟩
        have h' : 0 < (⟨(A ++ 46 :: R).toArray⟩ : ByteArray).size := h
        have e' : ((⟨(A ++ 46 :: R).toArray⟩ : ByteArray)[0]'h').toNat = 45 := e
        have hh := ba_head (A ++ 46 :: R) h'
        rw [head_app hAp] at hh
        have hm := List.mem_of_mem_head? (by rw [hh]; rfl)
        have := hA.1 _ hm
        omega
      · have hs := (ba_lists (45 :: (A ++ 46 :: R))).2
        rw [List.length_cons] at hs
        refine .inl ⟨rfl, by show 0 < (⟨(45 :: (A ++ 46 :: R)).toArray⟩ : ByteArray).size; omega, rfl, ba_ext ?_⟩
        show _ = ((⟨(45 :: (A ++ 46 :: R)).toArray⟩ : ByteArray).extract 1 (⟨(45 :: (A ++ 46 :: R)).toArray⟩ : ByteArray).size).data.toList
        rw [(piece _ 1 (by omega)).2.1, (ba_lists _).1, (ba_lists _).1]; rfl
    refine ⟨⟨(A ++ 46 :: R).toArray⟩, ⟨A.toArray⟩, ⟨R.toArray⟩, true, hparts, .inl ⟨rfl, A.length, ?_, m3, m1.symm, m2.symm⟩, ⟨hsz _ (by rw [List.length_append, List.length_cons]; omega), fun _ => ⟨by rw [(ba_lists _).2]; omega, by rw [(ba_lists _).2]; omega, by rw [(ba_lists _).1]; exact hA.2⟩, hnum, fun h => by rw [hdvv]; exact hneg h⟩, by rw [(ba_lists _).2, hrl], hdvv⟩
    rw [(ba_lists _).1]
    exact index_mid _ _ _ (dig_ne hA.1 46 (by decide))
end Go.Proofs.YtcjjgdoafkdeaaaGreatDoor
