/- Layer 6: roll: the first open day from one on, by contract; Layer 6: cal.Join by contract. -/
import Derived.Test.YtcjjgdoafkdeaaaGreatDoorDh
import Derived.Test.YtcjjgdoafkdeaaaGreatDoorHf
namespace Go.Proofs.YtcjjgdoafkdeaaaGreatDoor
section
open Go.RowKit Go.Extern.Stop Go.Stop Go.Extern
set_option linter.unusedVariables false
set_option linter.unusedSimpArgs false

/-- The first open one of some days; -1: none. -/
def TowF (S : Int → Bool) (f : Nat → Int) (r : Int) : Prop := (r = -1 ∧ ∀ k, openB S (f k) = false) ∨ ∃ k, r = f k ∧ openB S r = true ∧ ∀ j, j < k → openB S (f j) = false
theorem towF_unique {S : Int → Bool} {f : Nat → Int} {r r' : Int} (h : TowF S f r) (h' : TowF S f r') : r = r' := by
  rcases h with ⟨h1, h2⟩ | ⟨k, h1, h2, h3⟩
  · rcases h' with ⟨a1, a2⟩ | ⟨j, a1, a2, a3⟩
    · rw [h1, a1]
    · rw [a1, h2 j] at a2; cases a2
  · rcases h' with ⟨a1, a2⟩ | ⟨j, a1, a2, a3⟩
    · rw [h1, a2 k] at h2; cases h2
    · rcases Nat.lt_trichotomy k j with e | e | e
      · rw [h1, a3 k e] at h2; cases h2
      · rw [h1, a1, e]
      · rw [a1, h3 j e] at a2; cases a2
theorem openB_out {S : Int → Bool} {d : Int} (h : d < 0 ∨ 109572 < d) : openB S d = false := by
  unfold openB
  rw [decide_eq_false (fun e : 0 ≤ d ∧ d ≤ 109572 => by omega)]
  rfl
def Tow (S : Int → Bool) (f : Nat → Int) (w : World) (e : Ending) (w' : World) : Prop := ∃ r, e = .returned (.int .i64 r) ∧ TowF S f r ∧ w = w'
set_option maxRecDepth 100000 in
set_option maxHeartbeats 1000000 in
/-- roll.toward, on. -/
theorem tow_up (c : Value) (S : Int → Bool) (d : Int) (h0 : 0 ≤ d) (h1 : d ≤ 109573) (w : World) (h : CalAt w c S) :
    Calls Tryz.prog 159 #[c, .int .i64 d, .int .i64 1] w (Tow S (fun k => d + k) w) := by
  have HO := Lib.hid (fun (x : Int) a b => open_calls c S x a b w h)
  clear h
  go_enter Tryz.func159, Tryz.ntmps159
  go_wp2
  go_loopg [1] (109573 - d).toNat (fun g s1 wr => ∃ k : Nat, (g : Int) = 109573 - (d + k) ∧ d + k ≤ 109573 ∧ s1 = .int .i64 (d + k) ∧ Hid (∀ j : Nat, j < k → openB S (d + j) = false) ∧ wr = w)
  case atStart => exact ⟨0, by omega, by omega, by rw [show d + ((0 : Nat) : Int) = d by omega], Lib.hid (fun j hj => absurd hj (Nat.not_lt_zero _)), rfl⟩
  case round =>
    obtain ⟨k, hg, hk, rfl, HN, rfl⟩ := hrel
    have HGK := Lib.hid hg
    clear hg
    obtain ⟨x, hx⟩ : ∃ x : Int, d + k = x := ⟨_, rfl⟩
    have HX := Lib.hid hx
    have hx0 : 0 ≤ x := by omega
    have hx1 : x ≤ 109573 := by omega
    rw [hx]
    clear hx hk
    by_cases hr : x ≤ 109572
    · have hw := fun w => weekday_calls x w hx0 hr
      have hz0 := Int.emod_nonneg (x + 1) (show (7 : Int) ≠ 0 by decide)
      generalize (x + 1) % 7 = z at hw hz0
      have HW := Lib.hid hw
      have bz : decide (0 ≤ z) = true := decide_eq_true hz0
      clear hw
      have ho := HO.out x (by omega) (by omega)
      cases hop : openB S x with
      | true =>
        rw [hop] at ho
        have HOP := Lib.hid ho
        have HT : Hid (TowF S (fun k => d + k) x) := Lib.hid (.inr ⟨k, HX.out.symm, hop, fun j hj => HN.out j hj⟩)
        clear ho hop
        go_wp2_with (first | (go_at_call 108; (with_reducible refine (HW.out _).mono ?_); rintro ev w1 ⟨rfl, rfl⟩) | (go_at_call 107; (with_reducible refine HOP.out.mono ?_); rintro ev w1 ⟨rfl, rfl⟩))
        go_ret
        exact ⟨x, rfl, HT.out, rfl⟩
      | false =>
        rw [hop] at ho
        have HOP := Lib.hid ho
        have HN2 : Hid (∀ j : Nat, j < k + 1 → openB S (d + j) = false) := Lib.hid (fun j hj => by
          by_cases e : j = k
          · rw [e, HX.out]; exact hop
          · exact HN.out j (by omega))
        clear ho hop
        go_wp2_with (first | (go_at_call 108; (with_reducible refine (HW.out _).mono ?_); rintro ev w1 ⟨rfl, rfl⟩) | (go_at_call 107; (with_reducible refine HOP.out.mono ?_); rintro ev w1 ⟨rfl, rfl⟩))
        go_roundg (gk - 1)
        case measure => have := HGK.out; have := HX.out; omega
        case rel => exact ⟨k + 1, by have := HGK.out; have := HX.out; omega, by have := HX.out; omega, by congr 1; have := HX.out; omega, HN2, rfl⟩
    · have hw := Lib.hid (fun w => weekday_no x w (by omega))
      have HT : Hid (TowF S (fun k => d + k) (-1)) := Lib.hid (.inl ⟨rfl, fun j => by
        by_cases e : j < k
        · exact HN.out j e
        · show openB S (d + (j : Int)) = false
          exact openB_out (.inr (by have := HX.out; omega))⟩)
      go_wp2_with (go_at_call 108; (with_reducible refine (hw.out _).mono ?_); rintro ev w1 ⟨rfl, rfl⟩)
      go_ret
      exact ⟨-1, rfl, HT.out, rfl⟩
set_option maxRecDepth 100000 in
/-- roll.Day by the rule 'following', where there is an open day. -/
theorem roll1_calls (c : Value) (S : Int → Bool) (d r : Int) (h0 : 0 ≤ d) (h1 : d ≤ 109572) (hr : TowF S (fun k => d + k) r) (hne : r ≠ -1) (w : World) (h : CalAt w c S) :
    Calls Tryz.prog 103 #[c, .int .i64 d, .int .i64 1] w fun e w' => e = .returned (.tuple #[.int .i64 r, .nilIface]) ∧ w = w' := by
  have ht := (tow_up c S d h0 (by omega) w h).mono fun e w' (hh : Tow S _ w e w') => show e = .returned (.int .i64 r) ∧ w = w' by
    obtain ⟨r', rfl, h1, rfl⟩ := hh
    rw [towF_unique h1 hr]
    exact ⟨rfl, rfl⟩
  have HT := Lib.hid ht
  have hw := fun w => weekday_calls d w h0 h1
  have hz0 := Int.emod_nonneg (d + 1) (show (7 : Int) ≠ 0 by decide)
  generalize (d + 1) % 7 = z at hw hz0
  have HW := Lib.hid hw
  have bz : decide (z < 0) = false := decide_eq_false (by omega)
  have br : (r == -1) = false := beq_eq_false_iff_ne.2 hne
  clear ht hw hr h hne
  go_enter Tryz.func103, Tryz.ntmps103
  go_wp2_with (first | (go_at_call 108; (with_reducible refine (HW.out _).mono ?_); rintro ev w1 ⟨rfl, rfl⟩) | (go_at_call 159; (with_reducible refine HT.out.mono ?_); rintro ev w1 ⟨rfl, rfl⟩))
  go_ret2
  exact ⟨rfl, rfl⟩
end
section
open Go.RowKit Go.Extern.Stop Go.Stop Go.Extern Go.Maps
set_option linter.unusedVariables false
set_option linter.unusedSimpArgs false

/-- A calendar whose map has at most N entries. -/
def CalLe (w : World) (v : Value) (S : Int → Bool) (N : Nat) : Prop := (v = .pointer none ∧ S = fun _ => false) ∨ ∃ p b n, n ≤ N ∧ v = .pointer (some ⟨p, 0, none⟩) ∧ CalIn w p b n S
theorem CalLe.gr {w w' : World} {v : Value} {S : Int → Bool} {N : Nat} (h : CalLe w v S N) (hg : Gr w w') : CalLe w' v S N := by
  rcases h with h | ⟨p, b, n, h1, h2, h3⟩
  · exact .inl h
  · exact .inr ⟨p, b, n, h1, h2, h3.gr hg⟩
/-- A slice of calendars. -/
def CalsAt (w : World) (v : Value) (Ss : List (Int → Bool)) (N : Nat) : Prop :=
  (Ss = [] ∧ ∃ a c, v = .slice a 0 c) ∨ ∃ b off c, v = .slice (some ⟨b, off, none⟩) Ss.length c ∧ b < w.heap.size ∧ ∀ (j : Nat) S, Ss[j]? = some S → ∃ cv, w.cell? ⟨b, off + j, none⟩ = some cv ∧ CalLe w cv S N
def inI (k : Int) : Prop := -9223372036854775808 ≤ k ∧ k ≤ 9223372036854775807
def anyS (Ss : List (Int → Bool)) (k : Int) : Bool := Ss.any fun S => S k
def Jo1 (Ss : List (Int → Bool)) (N kk n : Nat) (S : Int → Bool) : Prop := n ≤ N * kk ∧ ∀ k, inI k → S k = anyS (Ss.take kk) k
theorem jo1_start (Ss : List (Int → Bool)) (N : Nat) : Jo1 Ss N 0 0 (fun _ => false) := ⟨Nat.zero_le _, fun k _ => rfl⟩
theorem anyS_next {Ss : List (Int → Bool)} {kk : Nat} {T : Int → Bool} (hT : Ss[kk]? = some T) (k : Int) : anyS (Ss.take (kk + 1)) k = (anyS (Ss.take kk) k || T k) := by
  have hl := (List.getElem?_eq_some_iff.1 hT).1
  have he := (List.getElem?_eq_some_iff.1 hT).2
  unfold anyS
  rw [List.take_succ_eq_append_getElem hl, he]
  simp
theorem jo1_nil {Ss : List (Int → Bool)} {N kk n : Nat} {S : Int → Bool} (h : Jo1 Ss N kk n S) (hT : Ss[kk]? = some fun _ => false) : Jo1 Ss N (kk + 1) n S :=
  ⟨by have := h.1; rw [Nat.mul_succ]; omega, fun k hk => by rw [h.2 k hk, anyS_next hT]; simp⟩
/-- Under way through a calendar T's map: what is left. -/
def Jo2 (Ss : List (Int → Bool)) (N kk : Nat) (T : Int → Bool) (left : Lit → Bool) (cnt n : Nat) (S : Int → Bool) : Prop :=
  n + cnt ≤ N * kk + N ∧ ∀ k, inI k → (left (.int .i64 k) = true → T k = true) ∧ S k = (anyS (Ss.take kk) k || (T k && !left (.int .i64 k)))
theorem jo2_end {Ss : List (Int → Bool)} {N kk cnt n : Nat} {S T : Int → Bool} {left : Lit → Bool} (h : Jo2 Ss N kk T left cnt n S) (hl : ∀ kl, left kl = false) (hT : Ss[kk]? = some T) : Jo1 Ss N (kk + 1) n S :=
  ⟨by have := h.1; rw [Nat.mul_succ]; omega, fun k hk => by rw [(h.2 k hk).2, hl, anyS_next hT]; simp⟩
theorem jo2_next {Ss : List (Int → Bool)} {N kk cnt cnt1 n : Nat} {S T : Int → Bool} {left : Lit → Bool} {x : Int} (h : Jo2 Ss N kk T left cnt n S) (hx : inI x) (hlx : left (.int .i64 x) = true) (hc : cnt1 < cnt) :
    Jo2 Ss N kk T (fun z => left z && !z.sameKey (.int .i64 x)) cnt1 (n + 1) (fun j => if j = x then true else S j) := by
  refine ⟨by have := h.1; omega, fun k hk => ?_⟩
  by_cases e : k = x
  · subst e
    have hs : (Lit.int .i64 k).sameKey (.int .i64 k) = true := by simp [Lit.sameKey]
    refine ⟨fun hl => (h.2 k hk).1 hlx, ?_⟩
    simp [hs, (h.2 k hk).1 hlx]
  · have hs : (Lit.int .i64 k).sameKey (.int .i64 x) = false := by simp [Lit.sameKey, e]
    refine ⟨fun hl => (h.2 k hk).1 (by simpa [hs] using hl), ?_⟩
    simp only [if_neg e, hs]
    rw [(h.2 k hk).2]
    simp
theorem jo2_start {Ss : List (Int → Bool)} {N kk n n0 : Nat} {S T : Int → Bool} {D : DataW Unit} (h : Jo1 Ss N kk n S) (hD : ∀ k : Int, -9223372036854775808 ≤ k → k ≤ 9223372036854775807 → Maps.has D (.int .i64 k) = T k ∧ D.atKey (.int .i64 k) (.lit (.bool false)) = .lit (.bool (T k)))
    (hn : Maps.size D ≤ N) : Jo2 Ss N kk T (Maps.has D) (Maps.size D) n S := by
  refine ⟨by have := h.1; omega, fun k hk => ?_⟩
  rw [(hD k hk.1 hk.2).1]
  refine ⟨id, ?_⟩
  rw [h.2 k hk]
  cases T k <;> simp

section
variable {w : World} {ops : Array Oper} {rest : List Oper} {o : Oper} {a : Act} {Q : Exit → Act → World → Prop}
theorem CalIn.kept {w w' : World} {p b n : Nat} {S : Int → Bool} {row : Option Nat} (h : CalIn w p b n S) (hg : w.grownBy w' row) (h1 : some b ≠ row) (h2 : some p ≠ row) : CalIn w' p b n S :=
  ⟨h.1, by rw [hg.block p (cells_lt h.2.1) h2]; exact h.2.1, h.2.2.kept hg h1⟩
theorem plainBool_ex {v : Value} {y : DataW Unit × List MemPlace} (h : plainElem (H := Unit) Tryz.prog 4 v = some y) : ∃ c, v = .bool c := by
  unfold plainElem at h
  rw [underBool] at h
  cases v <;> simp at h
  exact ⟨_, rfl⟩
/-- The next one of a map's days. -/
theorem wpList_next_days (hg : o.guard = none) (it : Operand) (hop : o.op = Op.next it false) (b r n : Nat) (D : DataW Unit) (left : Lit → Bool) (cnt : Nat) (hit : a.eval it = .pointer (some ⟨r, 0, none⟩))
    (h : w.ranges Tryz.prog 3 (plainElem Tryz.prog 4) b r n D left cnt)
    (hDone : cnt = 0 → (∀ kl, left kl = false) → wpList Tryz.prog ops Q rest (a.put o.dst (.tuple #[.bool false])) w)
    (hMore : ∀ (x : Int) (c : Value) (w' : World) (cnt' : Nat), inI x → left (.int .i64 x) = true → w'.ranges Tryz.prog 3 (plainElem Tryz.prog 4) b r n D (fun z => left z && !z.sameKey (.int .i64 x)) cnt' → cnt' < cnt →
      w.grownBy w' (some r) → w'.heap.size = w.heap.size → (Instr.entry (.pointer (some ⟨r, 0, none⟩))).run Tryz.prog w' = .ok (.tuple #[.int .i64 x, c]) w' → wpList Tryz.prog ops Q rest (a.put o.dst (.tuple #[.bool true, .int .i64 x, c])) w') :
    wpList Tryz.prog ops Q (o :: rest) a w :=
  wpList_next_ranges w hg it hop 3 lawInt (plainElem Tryz.prog 4) (Value.int .i64) Value.bool
    (fun key kl hkey => by obtain ⟨x, rfl, _⟩ := Maps.keyOf_int_inv underInt hkey; exact ⟨x, rfl⟩) (fun v y hv => plainBool_ex hv)
    b r n D left cnt hit h hDone (fun x c kl y w' cnt' hkey hlk hv hat hrg hlt hgr hsz hen => by
      obtain ⟨x', ex, rfl, hwx⟩ := Maps.keyOf_int_inv underInt hkey
      cases ex
      exact hMore x (.bool c) w' cnt' (bounds_i64 hwx) hlk hrg hlt hgr hsz hen)
end
/-- What Join answers. -/
def Joined (Ss : List (Int → Bool)) (N : Nat) (w : World) (e : Ending) (w' : World) : Prop := (∃ p b n S, e = .returned (.pointer (some ⟨p, 0, none⟩)) ∧ CalIn w' p b n S ∧ Jo1 Ss N Ss.length n S) ∧ Gr w w'
set_option maxRecDepth 100000 in
set_option maxHeartbeats 2000000 in
/-- cal.Join. -/
theorem join_calls (Ss : List (Int → Bool)) (v : Value) (N : Nat) (w : World) (h : CalsAt w v Ss N) (hn : Ss.length ≤ 8) (hN : N ≤ 50000) : Calls Tryz.prog 111 #[v] w (Joined Ss N w) := by
  have hmm := @run_makeMap Tryz.prog
  rcases h with ⟨hss, a, c, rfl⟩ | ⟨bb, off, c, rfl, hb, hc⟩
  · have HSS := Lib.hid hss
    have HI0 := Lib.hid (calIn_new w)
    have HGA := Lib.hid (((Gr.rf w).alloc (Nat.le_refl _) (.map #[] 0)).alloc (by simp) (.cells #[.map (some w.heap.size)] 193))
    clear hss
    go_enter Tryz.func111, Tryz.ntmps111
    go_wp2
    generalize (w.alloc (.map #[] 0)).alloc (.cells #[.map (some w.heap.size)] 193) = W0 at HI0 HGA ⊢
    obtain ⟨p, hp⟩ : ∃ p, w.heap.size + 1 = p := ⟨_, rfl⟩
    rw [hp] at HI0 ⊢
    clear hp
    obtain ⟨b, hbe⟩ : ∃ b, w.heap.size = b := ⟨_, rfl⟩
    rw [hbe] at HI0
    clear hbe
    go_loopg [12] 1 (fun gg s12 wr => s12 = .int .i64 0 ∧ Hid (CalIn wr p b 0 (fun _ => false)) ∧ Hid (Gr w wr))
    case atStart => exact ⟨rfl, HI0, HGA⟩
    case round =>
      obtain ⟨rfl, HI, HG⟩ := hrel
      have HS2 := Lib.hid (show Jo1 Ss N Ss.length 0 (fun _ => false) by rw [HSS.out]; exact jo1_start [] N)
      go_wp2
      go_ret
      exact ⟨⟨p, b, 0, _, rfl, HI.out, HS2.out⟩, HG.out⟩
  · have HC := Lib.hid hc
    have HI0 := Lib.hid (calIn_new w)
    have HGA := Lib.hid (((Gr.rf w).alloc (Nat.le_refl _) (.map #[] 0)).alloc (by simp) (.cells #[.map (some w.heap.size)] 193))
    clear hc
    go_enter Tryz.func111, Tryz.ntmps111
    go_wp2
    generalize (w.alloc (.map #[] 0)).alloc (.cells #[.map (some w.heap.size)] 193) = W0 at HI0 HGA ⊢
    obtain ⟨p, hp⟩ : ∃ p, w.heap.size + 1 = p := ⟨_, rfl⟩
    rw [hp] at HI0 ⊢
    clear hp
    obtain ⟨b, hbe⟩ : ∃ b, w.heap.size = b := ⟨_, rfl⟩
    rw [hbe] at HI0
    have HBE := Lib.hid hbe
    clear hbe
    go_loopg [12] Ss.length (fun gg s12 wr => ∃ (kk n : Nat) (S : Int → Bool), kk ≤ Ss.length ∧ gg = Ss.length - kk ∧ s12 = .int .i64 kk ∧ Hid (CalIn wr p b n S) ∧ Hid (Jo1 Ss N kk n S) ∧ Hid (Gr w wr))
    case atStart => exact ⟨0, 0, _, Nat.zero_le _, by omega, rfl, HI0, Lib.hid (jo1_start Ss N), HGA⟩
    case round =>
      obtain ⟨kk, n, S, hkk, hgg, rfl, HI, HS, HG⟩ := hrel
      have HGG := Lib.hid hgg
      clear hgg
      by_cases hlt : kk < Ss.length
      · have hltz : (kk : Int) < (Ss.length : Int) := by omega
        have hj : Ss[kk]? = some Ss[kk] := List.getElem?_eq_getElem hlt
        obtain ⟨cv, hcv, hcal⟩ := HC.out kk _ hj
        generalize Ss[kk] = T at hj hcal
        have d0 := cell_gr HG.out hb hcv
        have HJ := Lib.hid hj
        clear hcv hj
        rcases hcal with ⟨rfl, rfl⟩ | ⟨p2, b2, n2, hn2, rfl, hci0⟩
        · have HS2 := Lib.hid (jo1_nil HS.out HJ.out)
          go_wp2
          go_roundg (Ss.length - (kk + 1))
          case measure => have := HGG.out; omega
          case rel => exact ⟨kk + 1, n, S, by omega, rfl, by go_num, HI, HS2, HG⟩
        · have hb2 : b2 < b := by rw [← HBE.out]; exact hci0.2.2.lt
          have hci := hci0.gr HG.out
          have e0 := heap_cell hci.2.1 0
          obtain ⟨D, hown, hD⟩ := hci.2.2
          have hsz2 := hown.size_le
          have HS2 := Lib.hid (jo2_start HS.out hD (n0 := n2) (by omega))
          have hbp := HI.out.1
          have hpw := cells_lt HI.out.2.1
          clear hD hsz2 hci hci0
          go_wp2_with (at_range; refine wpList_range_own _ rfl _ 191 rfl 3 4 lawInt underMap _ b2 n2 _ rfl hown ?_; intro w0 hrg0 hg0 hs0)
          go_frame
          have HI1 := Lib.hid (HI.out.kept hg0 (by simp) (by simp))
          have HG1 := Lib.hid (HG.out.grown (hg0.but (some b)) (Nat.le_of_eq HBE.out))
          obtain ⟨r0, hr0⟩ : ∃ r0, wr.heap.size = r0 := ⟨_, rfl⟩
          rw [hr0] at hrg0 hpw ⊢
          have HRG := Lib.hid hrg0
          clear hrg0 hg0 hs0 hr0 hown e0
          go_loopg [] (Maps.size D) (fun g wq => ∃ (left : Lit → Bool) (no : Nat) (So : Int → Bool), Hid (wq.ranges Tryz.prog 3 (plainElem Tryz.prog 4) b2 r0 n2 D left g) ∧ Hid (CalIn wq p b no So) ∧ Hid (Jo2 Ss N kk T left g no So) ∧ Hid (Gr w wq))
          case atStart => exact ⟨_, n, S, HRG, HI1, HS2, HG1⟩
          case round =>
            clear HRG HI1 HS2 HG1 HI HS HG
            obtain ⟨left, no, So, HR, HI, HS, HG⟩ := hrel
            go_wp2_with (at_next; refine wpList_next_days rfl _ rfl b2 r0 n2 D left gk rfl HR.out ?_ ?_)
            · intro hc0 hl0
              have HS3 := Lib.hid (jo2_end HS.out hl0 HJ.out)
              clear hl0 hc0
              go_wp2
              go_roundg (Ss.length - (kk + 1))
              case measure => have := HGG.out; omega
              case rel => exact ⟨kk + 1, no, So, by omega, rfl, by go_num, HI, HS3, HG⟩
            · intro x c w1 cnt1 hx hlx hrg1 hlt1 hg1 hs1 hen
              have HS3 := Lib.hid (jo2_next HS.out hx hlx hlt1)
              have HI1 := Lib.hid (HI.out.kept hg1 (fun e => by have := Option.some.inj e; omega) (fun e => by have := Option.some.inj e; omega))
              have HG1 := Lib.hid (HG.out.grown hg1 (by have := HBE.out; omega))
              have p0 := heap_cell HI1.out.2.1 0
              have hno : no < 1000000 := by
                have h1 := HS.out.1
                have h2 : N * kk ≤ 50000 * 8 := Nat.mul_le_mul hN (by omega)
                omega
              have HRG1 := Lib.hid hrg1
              have HLT1 := Lib.hid hlt1
              have hx0 := hx.1
              have hx1 := hx.2
              clear hx hlx hrg1 hlt1 hg1 hs1
              go_wp2_with (at_mapUpdate; refine wpList_shut_store rfl _ _ _ rfl b no So rfl HI1.out.2.2 hno x rfl rfl hx0 hx1 ?_; intro w2 hs2 hg2; go_frame)
              have HI2 := Lib.hid (HI1.out.stored hs2 hg2)
              have HG2 := Lib.hid (HG1.out.grown hg2 (Nat.le_of_eq HBE.out))
              have HRG2 := Lib.hid (HRG1.out.kept hg2 (fun e => by have := Option.some.inj e; omega) (fun e => by have := Option.some.inj e; omega))
              clear hs2 hg2 hen
              go_wp2
              go_roundg cnt1
              case measure => exact HLT1.out
              case rel => exact ⟨_, no + 1, _, HRG2, HI2, HS3, HG2⟩
      · have hltz : ¬ (kk : Int) < (Ss.length : Int) := by omega
        have hke : kk = Ss.length := by omega
        have HS2 := Lib.hid (show Jo1 Ss N Ss.length n S from hke ▸ HS.out)
        clear hke HS
        go_wp2
        go_ret
        exact ⟨⟨p, b, n, S, rfl, HI.out, HS2.out⟩, HG.out⟩
end
end Go.Proofs.YtcjjgdoafkdeaaaGreatDoor
