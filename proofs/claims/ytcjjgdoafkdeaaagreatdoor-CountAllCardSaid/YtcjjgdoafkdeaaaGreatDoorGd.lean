/- Layer 2: Add, by contract; Layer 2: Sub, by contract. -/
import Derived.Test.YtcjjgdoafkdeaaaGreatDoorGc
namespace Go.Proofs.YtcjjgdoafkdeaaaGreatDoor
section
open Go.RowKit Go.Extern.Stop Go.Stop Go.Extern
set_option linter.unusedVariables false
set_option linter.unusedSimpArgs false

/-- The partial row of a sum. -/
def addP (a b : List Nat) (k j : Nat) : Nat := if j < k then addD (a.getD · 0) (b.getD · 0) j else 0
theorem addP_set (a b : List Nat) (k : Nat) {w : World} {g n : Nat} (h : RowU w g n (addP a b k)) :
    RowU (w.setCell ⟨g, k, none⟩ (.int .u64 ((adLo (a.getD k 0) (b.getD k 0) (addC (a.getD · 0) (b.getD · 0) k) : Nat) : Int))) g n (addP a b (k + 1)) :=
  (h.set k _).congr fun j hj => by
    unfold addP
    by_cases e : j = k
    · subst e; rw [if_pos rfl, if_pos (by omega)]; rfl
    · rw [if_neg e]
      by_cases h2 : j < k
      · rw [if_pos h2, if_pos (by omega)]
      · rw [if_neg h2, if_neg (by omega)]
theorem addP_last (a b : List Nat) {w : World} {g : Nat} (h : RowU w g (a.length + 1) (addP a b a.length)) :
    RowU (w.setCell ⟨g, a.length, none⟩ (.int .u64 ((addC (a.getD · 0) (b.getD · 0) a.length : Nat) : Int))) g (a.length + 1) (addF a b) :=
  (h.set a.length _).congr fun j hj => by
    unfold addP addF
    by_cases e : j = a.length
    · subst e; rw [if_pos rfl, if_neg (by omega)]
    · rw [if_neg e, if_pos (by omega), if_pos (by omega)]

set_option maxRecDepth 100000 in
/-- The limbs, ahead of the walk. -/
theorem limbs_ex (v : Value) (n : Nat) (w : World) (h : NatAt w v n) : ∃ a l c, Lim w (.slice a l.length c) l ∧ Norm l ∧ val l = n ∧
    Calls Tryz.prog 117 #[v] w fun e w' => e = .returned (.slice a l.length c) ∧ w = w' := by
  rcases h with ⟨rfl, rfl⟩ | ⟨b, s, l, rfl, hb, hl, hn, hval⟩
  · refine ⟨none, [], 0, ⟨by simp [Limbs], .inl ⟨rfl, rfl⟩⟩, by simp [Norm], rfl, ?_⟩
    go_enter Tryz.func117, Tryz.ntmps117
    go_wp2
    go_ret
    exact ⟨rfl, rfl⟩
  · obtain ⟨a, c, rfl⟩ := hl.slice
    refine ⟨a, l, c, hl, hn, hval, ?_⟩
    clear hl hn hval
    go_enter Tryz.func117, Tryz.ntmps117
    go_wp2
    go_ret
    exact ⟨rfl, rfl⟩

theorem add_round (p q : List Nat) (hp : Limbs p) (hq : Limbs q) (kk : Nat) : ∃ lo c2 : Nat,
    (∀ w, (callFunc 123 #[.int .u64 ((p.getD kk 0 : Nat) : Int), .int .u64 ((q.getD kk 0 : Nat) : Int), .int .u64 ((addC (p.getD · 0) (q.getD · 0) kk : Nat) : Int)]).run Tryz.prog w = .ok (.value (.tuple #[.int .u64 (lo : Int), .int .u64 (c2 : Int)])) w) ∧
    c2 = addC (p.getD · 0) (q.getD · 0) (kk + 1) ∧
    ∀ w g n, RowU w g n (addP p q kk) → RowU (w.setCell ⟨g, kk, none⟩ (.int .u64 (lo : Int))) g n (addP p q (kk + 1)) :=
  ⟨_, _, add64_run _ _ _ (getD_lt hp kk) (getD_lt hq kk) (addC_le _ _ (getD_lt hp) (getD_lt hq) kk), rfl, fun w g n h => addP_set p q kk h⟩

set_option maxRecDepth 100000 in
set_option maxHeartbeats 4000000 in
/-- (*Nat).Add. -/
theorem add_calls (x y : Value) (a b : Nat) (w : World) (hx : NatAt w x a) (hy : NatAt w y b) (k : Nat) (ha : a < B ^ k) (hb : b < B ^ k) (hk : k ≤ 1000000) :
    Calls Tryz.prog 59 #[x, y] w fun e w' => (∃ r, e = .returned r ∧ NatP w' r (a + b)) ∧ Gr w w' := by
  obtain ⟨sa, l, sc, hl, hn, hv, hcl⟩ := limbs_ex x a w hx
  obtain ⟨ta, l2, tc, hl2, hn2, hv2, hcl2⟩ := limbs_ex y b w hy
  have h1 := norm_length l hn k (by rw [hv]; exact ha)
  have h2 := norm_length l2 hn2 k (by rw [hv2]; exact hb)
  subst hv
  subst hv2
  have HL := Lib.hid hcl
  have HM := Lib.hid hcl2
  clear hx hy ha hb hn hn2 hcl hcl2
  by_cases hlt : l.length < l2.length
  case' pos =>
    have b1 : decide (l.length < l2.length) = true := decide_eq_true hlt
    have HP := Lib.hid hl2
    have HQ := Lib.hid hl
    rw [Nat.add_comm]
    obtain ⟨p, hp⟩ : ∃ p, p = l2 := ⟨_, rfl⟩
    subst hp
    obtain ⟨q, hq⟩ : ∃ q, q = l := ⟨_, rfl⟩
    subst hq
  case' neg =>
    have b1 : decide (l.length < l2.length) = false := decide_eq_false hlt
    have HP := Lib.hid hl
    have HQ := Lib.hid hl2
    obtain ⟨p, hp⟩ : ∃ p, p = l := ⟨_, rfl⟩
    subst hp
    obtain ⟨q, hq⟩ : ∃ q, q = l2 := ⟨_, rfl⟩
    subst hq
  all_goals
    clear hl hl2
    have hle : q.length ≤ p.length := by omega
    have hpk : p.length ≤ 1000000 := by omega
    clear h1 h2 hlt
    have hmk := make64 (p.length + 1) (by omega)
    have ec : ((p.length + 1 : Nat) : Int) = (p.length : Int) + 1 := by omega
    rw [ec] at hmk
    clear ec
    go_enter Tryz.func59, Tryz.ntmps59
    go_wp2_with (go_at_call 117; (with_reducible refine HL.out.mono ?_); rintro ev w1 ⟨rfl, rfl⟩)
    go_wp2_with (go_at_call 117; (with_reducible refine HM.out.mono ?_); rintro ev w1 ⟨rfl, rfl⟩)
    clear HL HM
    clear hmk
    go_loopg [8, 28] p.length (fun n c i wr => ∃ kk, n = p.length - kk ∧ kk ≤ p.length ∧ c = .int .u64 ((addC (p.getD · 0) (q.getD · 0) kk : Nat) : Int) ∧ i = .int .i64 (kk : Int) ∧ RowU wr w.heap.size (p.length + 1) (addP p q kk) ∧ Gr w wr)
    case atStart => exact ⟨0, by omega, by omega, rfl, rfl, (rowU_made w _).congr (fun j hj => by simp [addP]), (Gr.rf w).alloc (Nat.le_refl _) _⟩
    case round =>
      obtain ⟨kk, hn, hkk, rfl, rfl, hrow, hgr⟩ := hrel
      have HN := Lib.hid hn
      have HW := Lib.hid hrow
      clear hn hrow
      by_cases hlt : kk < p.length
      · have b2 : decide (kk < p.length) = true := decide_eq_true hlt
        obtain ⟨g1, o1, c1, e1, hc1⟩ := HP.out.get hgr kk hlt
        cases e1
        obtain ⟨lo, c2, had, hc2, hset⟩ := add_round p q HP.out.1 HQ.out.1 kk
        have hcell := HW.out.cell (i := kk) (by omega)
        have hfr := World.rowIs.frozen HW.out kk
        have hq0 : ¬ kk < q.length → q.getD kk 0 = 0 := fun h => by rw [List.getD_eq_getElem?_getD, List.getElem?_eq_none (by omega)]; rfl
        have HC2 := Lib.hid hc2
        have HSET := Lib.hid hset
        clear hc2 hset
        generalize addP p q kk kk = old at hcell
        generalize p.getD kk 0 = xx at hc1 had
        by_cases hlq : kk < q.length
        · have b3 : decide (kk < q.length) = true := decide_eq_true hlq
          obtain ⟨g2, o2, c2', e2, hc2⟩ := HQ.out.get hgr kk hlq
          cases e2
          clear hq0
          generalize q.getD kk 0 = yy at hc2 had
          generalize hcc : addC (p.getD · 0) (q.getD · 0) kk = cc at had
          have HCC := Lib.hid hcc
          clear hcc
          go_wp2
          go_roundg (p.length - (kk + 1))
          case measure => have := HN.out; omega
          case rel => exact ⟨kk + 1, rfl, by omega, by rw [HC2.out], by first | rfl | go_num, HSET.out _ _ _ HW.out, hgr.setCell (Nat.le_refl _) _⟩
        · have b3 : decide (kk < q.length) = false := decide_eq_false hlq
          have e0 : ((0 : Nat) : Int) = 0 := rfl
          rw [hq0 hlq, e0] at had
          generalize hcc : addC (p.getD · 0) (q.getD · 0) kk = cc at had
          have HCC := Lib.hid hcc
          clear hcc
          go_wp2
          go_roundg (p.length - (kk + 1))
          case measure => have := HN.out; omega
          case rel => exact ⟨kk + 1, rfl, by omega, by rw [HC2.out], by first | rfl | go_num, HSET.out _ _ _ HW.out, hgr.setCell (Nat.le_refl _) _⟩
      · have hke : kk = p.length := by omega
        subst hke
        have b2 : decide (p.length < p.length) = false := decide_eq_false (by omega)
        have hcell := HW.out.cell (i := p.length) (by omega)
        have hfr := World.rowIs.frozen HW.out p.length
        have hl := addP_last p q HW.out
        have hlim := hl.lim (fun j _ => addF_lt p q HP.out.1 HQ.out.1 j) (by omega)
        have hg2 := hgr.setCell (a := ⟨w.heap.size, p.length, none⟩) (Nat.le_refl _) (.int .u64 ((addC (p.getD · 0) (q.getD · 0) p.length : Nat) : Int))
        have hmd := made_calls _ _ _ hlim (by rw [List.length_map, List.length_range]; omega)
        rw [val_addF p q hle] at hmd
        clear hl hlim
        generalize addP p q p.length p.length = old at hcell
        generalize addC (p.getD · 0) (q.getD · 0) p.length = cc at hmd hg2 ⊢
        have HMD := Lib.hid hmd
        have HG2 := Lib.hid hg2
        clear hmd hg2
        go_wp2_with (go_at_call 116; (with_reducible refine HMD.out.mono ?_); rintro ev w1 ⟨⟨r, rfl, hr⟩, hg⟩; have HR := Lib.hid hr; clear hr)
        go_ret
        exact ⟨⟨_, rfl, HR.out⟩, HG2.out.tr hg⟩
end
section
open Go.RowKit Go.Extern.Stop Go.Stop Go.Extern
set_option linter.unusedVariables false
set_option linter.unusedSimpArgs false

/-- The borrow into a place. -/
def subC (a b : Nat → Nat) : Nat → Nat
  | 0 => 0
  | k + 1 => suHi (a k) (b k) (subC a b k)
def subD (a b : Nat → Nat) (k : Nat) : Nat := suLo (a k) (b k) (subC a b k)
theorem subC_le (a b : Nat → Nat) (k : Nat) : subC a b k ≤ 1 := by
  cases k with
  | zero => exact Nat.zero_le _
  | succ k => exact suHi_le _ _ _
theorem val_subD (a b : List Nat) (ha : Limbs a) (hb : Limbs b) (k : Nat) : val ((List.range k).map (subD (a.getD · 0) (b.getD · 0))) + val (b.take k) = val (a.take k) + B ^ k * subC (a.getD · 0) (b.getD · 0) k := by
  induction k with
  | zero => simp [subC, val]
  | succ k ih =>
    rw [val_map_succ, val_take_getD, val_take_getD]
    have h := su_eq (a.getD k 0) (b.getD k 0) (subC (a.getD · 0) (b.getD · 0) k) (getD_lt ha k) (getD_lt hb k) (subC_le _ _ k)
    have e1 : subD (a.getD · 0) (b.getD · 0) k = suLo (a.getD k 0) (b.getD k 0) (subC (a.getD · 0) (b.getD · 0) k) := rfl
    have e2 : subC (a.getD · 0) (b.getD · 0) (k + 1) = suHi (a.getD k 0) (b.getD k 0) (subC (a.getD · 0) (b.getD · 0) k) := rfl
    rw [e1, e2]
    generalize suLo (a.getD k 0) (b.getD k 0) (subC (a.getD · 0) (b.getD · 0) k) = lo at *
    generalize suHi (a.getD k 0) (b.getD k 0) (subC (a.getD · 0) (b.getD · 0) k) = hi at *
    generalize subC (a.getD · 0) (b.getD · 0) k = c at *
    have hm : B ^ k * (lo + b.getD k 0 + c) = B ^ k * (a.getD k 0 + B * hi) := by rw [h]
    simp only [Nat.pow_succ, Nat.mul_add, Nat.mul_assoc] at *
    omega
theorem val_sub (a b : List Nat) (ha : Limbs a) (hb : Limbs b) (h : b.length ≤ a.length) (hle : val b ≤ val a) : val ((List.range a.length).map (subD (a.getD · 0) (b.getD · 0))) = val a - val b := by
  have h1 := val_subD a b ha hb a.length
  rw [List.take_of_length_le (Nat.le_refl _), List.take_of_length_le h] at h1
  have h2 := val_lt ((List.range a.length).map (subD (a.getD · 0) (b.getD · 0))) (fun x hx => by obtain ⟨j, _, rfl⟩ := List.mem_map.1 hx; exact suLo_lt _ _ _)
  rw [List.length_map, List.length_range] at h2
  have h3 := subC_le (a.getD · 0) (b.getD · 0) a.length
  generalize subC (a.getD · 0) (b.getD · 0) a.length = c at *
  have : c = 0 ∨ c = 1 := by omega
  rcases this with rfl | rfl <;> omega
def subP (a b : List Nat) (k j : Nat) : Nat := if j < k then subD (a.getD · 0) (b.getD · 0) j else 0
theorem subP_set (a b : List Nat) (k : Nat) {w : World} {g n : Nat} (h : RowU w g n (subP a b k)) :
    RowU (w.setCell ⟨g, k, none⟩ (.int .u64 ((suLo (a.getD k 0) (b.getD k 0) (subC (a.getD · 0) (b.getD · 0) k) : Nat) : Int))) g n (subP a b (k + 1)) :=
  (h.set k _).congr fun j hj => by
    unfold subP
    by_cases e : j = k
    · subst e; rw [if_pos rfl, if_pos (by omega)]; rfl
    · rw [if_neg e]
      by_cases h2 : j < k
      · rw [if_pos h2, if_pos (by omega)]
      · rw [if_neg h2, if_neg (by omega)]
theorem sub64_run (x y c : Nat) (hc : c ≤ 1) (w : World) :
    (callFunc 194 #[.int .u64 (x : Int), .int .u64 (y : Int), .int .u64 (c : Int)]).run Tryz.prog w =
      .ok (.value (.tuple #[.int .u64 ((suLo x y c : Nat) : Int), .int .u64 ((suHi x y c : Nat) : Int)])) w := by
  rw [run_callFunc_extern Tryz.func194 (by kernel_rfl) (by kernel_rfl) (by kernel_rfl) (e := sub64Entry) (by kernel_rfl), run_sub64 x y c hc]
  simp only [Result.andThen]
  unfold suLo suHi
  rw [B_eq]
theorem sub_round (p q : List Nat) (kk : Nat) : ∃ lo c2 : Nat,
    (∀ w, (callFunc 194 #[.int .u64 ((p.getD kk 0 : Nat) : Int), .int .u64 ((q.getD kk 0 : Nat) : Int), .int .u64 ((subC (p.getD · 0) (q.getD · 0) kk : Nat) : Int)]).run Tryz.prog w = .ok (.value (.tuple #[.int .u64 (lo : Int), .int .u64 (c2 : Int)])) w) ∧
    c2 = subC (p.getD · 0) (q.getD · 0) (kk + 1) ∧
    ∀ w g n, RowU w g n (subP p q kk) → RowU (w.setCell ⟨g, kk, none⟩ (.int .u64 (lo : Int))) g n (subP p q (kk + 1)) :=
  ⟨_, _, sub64_run _ _ _ (subC_le _ _ kk), rfl, fun w g n h => subP_set p q kk h⟩
theorem cmpN_neg {a b : Nat} : (cmpN a b < 0) ↔ a < b := by 
  unfold cmpN
  split
  · exact iff_of_true (by omega) (by omega)
  · split <;> exact iff_of_false (by omega) (by omega)
theorem length_le_of_val (p q : List Nat) (hp : Limbs p) (hq : Norm q) (h : val q ≤ val p) : q.length ≤ p.length := by
  rcases Nat.lt_or_ge p.length q.length with h1 | h1
  · have := val_lt_of_length p q hp hq h1; omega
  · exact h1

set_option maxRecDepth 100000 in
set_option maxHeartbeats 4000000 in
/-- (*Nat).Sub. -/
theorem sub_calls (x y : Value) (a b : Nat) (w : World) (hx : NatAt w x a) (hy : NatAt w y b) (k : Nat) (ha : a < B ^ k) (hb : b < B ^ k) (hk : k ≤ 1000000) :
    Calls Tryz.prog 148 #[x, y] w fun e w' =>
      ((a < b → e = .returned (.tuple #[.pointer none, .iface 169 (.int .i64 2)])) ∧ (b ≤ a → ∃ r, e = .returned (.tuple #[r, .nilIface]) ∧ NatP w' r (a - b))) ∧ Gr w w' := by
  obtain ⟨sa, p, sc, hl, hn, hv, hcl⟩ := limbs_ex x a w hx
  obtain ⟨ta, q, tc, hl2, hn2, hv2, hcl2⟩ := limbs_ex y b w hy
  have h1 := norm_length p hn k (by rw [hv]; exact ha)
  have h2 := norm_length q hn2 k (by rw [hv2]; exact hb)
  have HC := Lib.hid (compare_calls _ _ p q w hl hl2 hn hn2 (by omega) (by omega))
  subst hv
  subst hv2
  have HL := Lib.hid hcl
  have HM := Lib.hid hcl2
  have HO := Lib.hid (of_calls 2 rfl)
  have hlq := length_le_of_val p q hl.1 hn2
  have HP := Lib.hid hl
  have HQ := Lib.hid hl2
  have hpk : p.length ≤ 1000000 := by omega
  have hmk := make64 p.length (by omega)
  clear hx hy ha hb hn hn2 hcl hcl2 hl hl2 h1 h2
  by_cases hlt : val p < val q
  · have b1 : decide (cmpN (val p) (val q) < 0) = true := decide_eq_true (cmpN_neg.2 hlt)
    have HT := Lib.hid hlt
    clear hlt hlq
    generalize cmpN (val p) (val q) = cc at b1 HC
    go_enter Tryz.func148, Tryz.ntmps148
    go_wp2_with (go_at_call 117; (with_reducible refine HL.out.mono ?_); rintro ev w1 ⟨rfl, rfl⟩)
    go_wp2_with (go_at_call 117; (with_reducible refine HM.out.mono ?_); rintro ev w1 ⟨rfl, rfl⟩)
    go_wp2_with (go_at_call 118; (with_reducible refine HC.out.mono ?_); rintro ev w1 ⟨rfl, hg⟩)
    go_wp2_with (go_at_call 68; (with_reducible refine (HO.out _).mono ?_); rintro ev w2 ⟨rfl, rfl⟩)
    go_ret2
    exact ⟨⟨fun _ => rfl, fun h => absurd HT.out (by omega)⟩, hg⟩
  · have b1 : decide (cmpN (val p) (val q) < 0) = false := decide_eq_false (fun h => hlt (cmpN_neg.1 h))
    have HT := Lib.hid hlt
    have hle : val q ≤ val p := by omega
    have hlq := hlq hle
    have HV := Lib.hid (val_sub p q HP.out.1 HQ.out.1 hlq hle)
    clear hlt hle
    generalize cmpN (val p) (val q) = cc at b1 HC
    go_enter Tryz.func148, Tryz.ntmps148
    go_wp2_with (go_at_call 117; (with_reducible refine HL.out.mono ?_); rintro ev w1 ⟨rfl, rfl⟩)
    go_wp2_with (go_at_call 117; (with_reducible refine HM.out.mono ?_); rintro ev w1 ⟨rfl, rfl⟩)
    go_wp2_with (go_at_call 118; (with_reducible refine HC.out.mono ?_); rintro ev w1 ⟨rfl, hg0⟩)
    clear hmk HL HM HC HO
    go_loopg [9, 26] p.length (fun n c i wr => ∃ kk, n = p.length - kk ∧ kk ≤ p.length ∧ c = .int .u64 ((subC (p.getD · 0) (q.getD · 0) kk : Nat) : Int) ∧ i = .int .i64 (kk : Int) ∧ RowU wr w1.heap.size p.length (subP p q kk) ∧ Gr w1 wr)
    case atStart => exact ⟨0, by omega, by omega, rfl, rfl, (rowU_made w1 _).congr (fun j hj => by simp [subP]), (Gr.rf w1).alloc (Nat.le_refl _) _⟩
    case round =>
      obtain ⟨kk, hn, hkk, rfl, rfl, hrow, hgr1⟩ := hrel
      have hgr := hg0.tr hgr1
      have HN := Lib.hid hn
      have HW := Lib.hid hrow
      clear hn hrow
      by_cases hlt : kk < p.length
      · have b2 : decide (kk < p.length) = true := decide_eq_true hlt
        obtain ⟨g1, o1, c1, e1, hc1⟩ := HP.out.get hgr kk hlt
        cases e1
        obtain ⟨lo, c2, had, hc2, hset⟩ := sub_round p q kk
        have hcell := HW.out.cell (i := kk) (by omega)
        have hfr := World.rowIs.frozen HW.out kk
        have hq0 : ¬ kk < q.length → q.getD kk 0 = 0 := fun h => by rw [List.getD_eq_getElem?_getD, List.getElem?_eq_none (by omega)]; rfl
        have HC2 := Lib.hid hc2
        have HSET := Lib.hid hset
        clear hc2 hset
        generalize subP p q kk kk = old at hcell
        generalize p.getD kk 0 = xx at hc1 had
        by_cases hlq : kk < q.length
        · have b3 : decide (kk < q.length) = true := decide_eq_true hlq
          obtain ⟨g2, o2, c2', e2, hc2⟩ := HQ.out.get hgr kk hlq
          cases e2
          clear hq0
          generalize q.getD kk 0 = yy at hc2 had
          generalize hcc : subC (p.getD · 0) (q.getD · 0) kk = cc at had
          have HCC := Lib.hid hcc
          clear hcc
          go_wp2
          go_roundg (p.length - (kk + 1))
          case measure => have := HN.out; omega
          case rel => exact ⟨kk + 1, rfl, by omega, by rw [HC2.out], by first | rfl | go_num, HSET.out _ _ _ HW.out, hgr1.setCell (Nat.le_refl _) _⟩
        · have b3 : decide (kk < q.length) = false := decide_eq_false hlq
          have e0 : ((0 : Nat) : Int) = 0 := rfl
          rw [hq0 hlq, e0] at had
          generalize hcc : subC (p.getD · 0) (q.getD · 0) kk = cc at had
          have HCC := Lib.hid hcc
          clear hcc
          go_wp2
          go_roundg (p.length - (kk + 1))
          case measure => have := HN.out; omega
          case rel => exact ⟨kk + 1, rfl, by omega, by rw [HC2.out], by first | rfl | go_num, HSET.out _ _ _ HW.out, hgr1.setCell (Nat.le_refl _) _⟩
      · have hke : kk = p.length := by omega
        subst hke
        have b2 : decide (p.length < p.length) = false := decide_eq_false (by omega)
        have hlim := (HW.out.congr (G := subD (p.getD · 0) (q.getD · 0)) fun j hj => by simp [subP, hj]).lim (fun j _ => suLo_lt _ _ _) (by omega)
        have hmd := made_calls _ _ _ hlim (by rw [List.length_map, List.length_range]; omega)
        rw [HV.out] at hmd
        clear hlim
        have HMD := Lib.hid hmd
        clear hmd
        go_wp2_with (go_at_call 116; (with_reducible refine HMD.out.mono ?_); rintro ev w1 ⟨⟨r, rfl, hr⟩, hg⟩; have HR := Lib.hid hr; clear hr)
        go_ret2
        exact ⟨⟨fun h => absurd h HT.out, fun _ => ⟨_, rfl, HR.out⟩⟩, hgr.tr hg⟩
end
end Go.Proofs.YtcjjgdoafkdeaaaGreatDoor
