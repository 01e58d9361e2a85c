/- Layer 6: a calendar's rules and days: what slices.ContainsFunc finds, by contract; Layer 6: cal.New by contract. -/
import Derived.Test.YtcjjgdoafkdeaaaGreatDoorHe
import Derived.Test.YtcjjgdoafkdeaaaGreatDoorDh
namespace Go.Proofs.YtcjjgdoafkdeaaaGreatDoor
section
open Go.RowKit Go.Extern.Stop Go.Stop Go.Extern
set_option linter.unusedVariables false
set_option linter.unusedSimpArgs false

/-- A slice of rules. -/
def RulesAt (w : World) (v : Value) (rs : List Ru) : Prop :=
  (rs = [] ∧ ∃ a c, v = .slice a 0 c) ∨ ∃ b off c, v = .slice (some ⟨b, off, none⟩) rs.length c ∧ b < w.heap.size ∧ ∀ (j : Nat) r, rs[j]? = some r →
    w.cell? ⟨b, off + j * 6, none⟩ = some (.int .i64 r.kind) ∧ w.cell? ⟨b, off + j * 6 + 1, none⟩ = some (.int .i64 r.month) ∧ w.cell? ⟨b, off + j * 6 + 2, none⟩ = some (.int .i64 r.day) ∧
    w.cell? ⟨b, off + j * 6 + 3, none⟩ = some (.int .i64 r.n) ∧ w.cell? ⟨b, off + j * 6 + 4, none⟩ = some (.int .i64 r.wd) ∧ w.cell? ⟨b, off + j * 6 + 5, none⟩ = some (.bool r.sh)
theorem cell_gr {w w' : World} (hg : Gr w w') {b i : Nat} {v : Value} (hb : b < w.heap.size) (h : w.cell? ⟨b, i, none⟩ = some v) : w'.cell? ⟨b, i, none⟩ = some v := by
  have e : w'.cell? ⟨b, i, none⟩ = w.cell? ⟨b, i, none⟩ := Below.cell (p := ⟨b, i, none⟩) hg hb
  rw [e]; exact h
theorem RulesAt.gr {w w' : World} {v : Value} {rs : List Ru} (h : RulesAt w v rs) (hg : Gr w w') : RulesAt w' v rs := by
  rcases h with h | ⟨b, off, c, h1, h2, h3⟩
  · exact .inl h
  · refine .inr ⟨b, off, c, h1, Nat.lt_of_lt_of_le h2 hg.size, fun j r hj => ?_⟩
    obtain ⟨a0, a1, a2, a3, a4, a5⟩ := h3 j r hj
    exact ⟨cell_gr hg h2 a0, cell_gr hg h2 a1, cell_gr hg h2 a2, cell_gr hg h2 a3, cell_gr hg h2 a4, cell_gr hg h2 a5⟩
/-- A slice of days. -/
def DaysAt (w : World) (v : Value) (ms : List Int) : Prop :=
  (ms = [] ∧ ∃ a c, v = .slice a 0 c) ∨ ∃ b off c, v = .slice (some ⟨b, off, none⟩) ms.length c ∧ b < w.heap.size ∧ ∀ (j : Nat) x, ms[j]? = some x → w.cell? ⟨b, off + j, none⟩ = some (.int .i64 x)
theorem DaysAt.gr {w w' : World} {v : Value} {ms : List Int} (h : DaysAt w v ms) (hg : Gr w w') : DaysAt w' v ms := by
  rcases h with h | ⟨b, off, c, h1, h2, h3⟩
  · exact .inl h
  · exact .inr ⟨b, off, c, h1, Nat.lt_of_lt_of_le h2 hg.size, fun j r hj => cell_gr hg h2 (h3 j r hj)⟩
/-- No day. -/
def badD (d : Int) : Bool := !decide (0 ≤ d ∧ d ≤ 109572)
set_option maxRecDepth 100000 in
theorem new1_calls (r : Ru) (w : World) : Calls Tryz.prog 154 #[ruV r] w fun e w' => e = .returned (.bool (!mayR r)) ∧ Gr w w' := by
  have HM := Lib.hid (fun w => may_calls r w)
  have hga := Lib.hid (boxGr w r)
  generalize mayR r = b at HM ⊢
  unfold ruV at HM ⊢
  go_enter Tryz.func154, Tryz.ntmps154
  go_wp2_with (go_at_call 155; (with_reducible refine (HM.out _).mono ?_); rintro ev w1 ⟨rfl, hg1⟩)
  go_ret
  exact ⟨rfl, hga.out.tr hg1⟩
set_option maxRecDepth 100000 in
theorem new2_calls (d : Int) (w : World) : Calls Tryz.prog 157 #[.int .i64 d] w fun e w' => e = .returned (.bool (badD d)) ∧ w = w' := by
  unfold badD
  by_cases h : 0 ≤ d ∧ d ≤ 109572
  · have hw := fun w => weekday_calls d w h.1 h.2
    have hx0 := Int.emod_nonneg (d + 1) (show (7 : Int) ≠ 0 by decide)
    rw [decide_eq_true h]
    generalize (d + 1) % 7 = x at hw hx0
    have HW := Lib.hid hw
    have hx : decide (x < 0) = false := decide_eq_false (by omega)
    clear hw h
    go_enter Tryz.func157, Tryz.ntmps157
    go_wp2_with (go_at_call 108; (with_reducible refine (HW.out _).mono ?_); rintro ev w1 ⟨rfl, rfl⟩)
    go_ret
    exact ⟨rfl, rfl⟩
  · have HW := Lib.hid (fun w => weekday_no d w (by omega))
    rw [decide_eq_false h]
    clear h
    go_enter Tryz.func157, Tryz.ntmps157
    go_wp2_with (go_at_call 108; (with_reducible refine (HW.out _).mono ?_); rintro ev w1 ⟨rfl, rfl⟩)
    go_ret
    exact ⟨rfl, rfl⟩
/-- What IndexFunc answers: a place, or none. -/
def Found (bad : Bool) (w : World) (e : Ending) (w' : World) : Prop := ∃ z : Int, e = .returned (.int .i64 z) ∧ -1 ≤ z ∧ z ≤ 1000000000 ∧ decide (0 ≤ z) = bad ∧ Gr w w'
theorem any_hit {α : Type} {l : List α} {p : α → Bool} {j : Nat} {x : α} (h : l[j]? = some x) (hp : p x = true) : l.any p = true := List.any_eq_true.2 ⟨x, List.mem_of_getElem? h, hp⟩
theorem any_miss {α : Type} {l : List α} {p : α → Bool} (h : ∀ (j : Nat) x, l[j]? = some x → p x = false) : l.any p = false := by
  rw [Bool.eq_false_iff]
  intro e
  obtain ⟨x, hx, hp⟩ := List.any_eq_true.1 e
  obtain ⟨j, hj⟩ := List.mem_iff_getElem?.1 hx
  rw [h j x hj] at hp
  cases hp
set_option maxRecDepth 100000 in
set_option maxHeartbeats 1000000 in
theorem indexR_calls (rs : List Ru) (v : Value) (w : World) (h : RulesAt w v rs) (hn : rs.length ≤ 1000000) :
    Calls Tryz.prog 196 #[v, .func (.func 154) #[] #[]] w (Found (rs.any fun r => !mayR r) w) := by
  rcases h with ⟨rfl, a, c, rfl⟩ | ⟨b, off, c, rfl, hb, hc⟩
  · go_enter Tryz.func196, Tryz.ntmps196
    go_wp2
    go_loopg [8] 1 (fun _ s8 wr => s8 = .int .i64 0 ∧ wr = w)
    case atStart => exact ⟨rfl, rfl⟩
    case round =>
      obtain ⟨rfl, rfl⟩ := hrel
      go_wp2
      go_ret
      exact ⟨-1, rfl, by decide, by decide, rfl, Gr.rf _⟩
  · have HC := Lib.hid hc
    clear hc
    go_enter Tryz.func196, Tryz.ntmps196
    go_wp2
    go_loopg [5, 8] rs.length (fun gg _ s8 wr => ∃ kk : Nat, kk ≤ rs.length ∧ gg = rs.length - kk ∧ s8 = .int .i64 kk ∧ Hid (∀ (j : Nat) r, j < kk → rs[j]? = some r → mayR r = true) ∧ Hid (Gr w wr))
    case atStart => exact ⟨0, Nat.zero_le _, by omega, rfl, Lib.hid (fun j r hj => absurd hj (Nat.not_lt_zero _)), Lib.hid (Gr.rf w)⟩
    case round =>
      obtain ⟨kk, hkk, hg, rfl, HA, HG⟩ := hrel
      have HGG := Lib.hid hg
      clear hg
      by_cases hlt : kk < rs.length
      · have hltz : (kk : Int) < (rs.length : Int) := by omega
        have hj : rs[kk]? = some rs[kk] := List.getElem?_eq_getElem hlt
        obtain ⟨c0, c1, c2, c3, c4, c5⟩ := HC.out kk _ hj
        generalize rs[kk] = r at hj c0 c1 c2 c3 c4 c5
        have d0 := cell_gr HG.out hb c0
        have d1 := cell_gr HG.out hb c1
        have d2 := cell_gr HG.out hb c2
        have d3 := cell_gr HG.out hb c3
        have d4 := cell_gr HG.out hb c4
        have d5 := cell_gr HG.out hb c5
        clear c0 c1 c2 c3 c4 c5
        have hcall := fun w => new1_calls r w
        unfold ruV at hcall
        have HJ := Lib.hid hj
        clear hj
        cases hm : mayR r with
        | false =>
          simp only [hm] at hcall
          have HCALL := Lib.hid hcall
          have HM := Lib.hid hm
          clear hcall hm
          go_wp2_with (go_at_call 154; (with_reducible refine (HCALL.out _).mono ?_); rintro ev w1 ⟨rfl, hg1⟩)
          go_ret
          exact ⟨kk, rfl, by omega, by omega, by rw [any_hit HJ.out (by rw [HM.out]; rfl)]; simp, HG.out.tr hg1⟩
        | true =>
          simp only [hm] at hcall
          have HCALL := Lib.hid hcall
          have HM := Lib.hid hm
          clear hcall hm
          go_wp2_with (go_at_call 154; (with_reducible refine (HCALL.out _).mono ?_); rintro ev w1 ⟨rfl, hg1⟩)
          go_roundg (rs.length - (kk + 1))
          case measure => have := HGG.out; omega
          case rel =>
            refine ⟨kk + 1, by omega, rfl, by go_num, Lib.hid (fun j x a hx => ?_), Lib.hid (HG.out.tr hg1)⟩
            by_cases e : j = kk
            · subst e
              rw [HJ.out] at hx
              cases hx
              exact HM.out
            · exact HA.out j x (by omega) hx
      · have hltz : ¬ (kk : Int) < (rs.length : Int) := by omega
        have hke : kk = rs.length := by omega
        have HF : Hid ((rs.any fun r => !mayR r) = false) := Lib.hid (any_miss fun j x hx => by
          rw [HA.out j x (by rw [hke]; exact (List.getElem?_eq_some_iff.1 hx).1) hx]; rfl)
        go_wp2
        go_ret
        exact ⟨-1, rfl, by decide, by decide, by rw [HF.out]; rfl, HG.out⟩
set_option maxRecDepth 100000 in
set_option maxHeartbeats 1000000 in
theorem indexD_calls (rs : List Int) (v : Value) (w : World) (h : DaysAt w v rs) (hn : rs.length ≤ 1000000) :
    Calls Tryz.prog 198 #[v, .func (.func 157) #[] #[]] w (Found (rs.any fun r => badD r) w) := by
  rcases h with ⟨rfl, a, c, rfl⟩ | ⟨b, off, c, rfl, hb, hc⟩
  · go_enter Tryz.func198, Tryz.ntmps198
    go_wp2
    go_loopg [8] 1 (fun _ s8 wr => s8 = .int .i64 0 ∧ wr = w)
    case atStart => exact ⟨rfl, rfl⟩
    case round =>
      obtain ⟨rfl, rfl⟩ := hrel
      go_wp2
      go_ret
      exact ⟨-1, rfl, by decide, by decide, rfl, Gr.rf _⟩
  · have HC := Lib.hid hc
    clear hc
    go_enter Tryz.func198, Tryz.ntmps198
    go_wp2
    go_loopg [5, 8] rs.length (fun gg _ s8 wr => ∃ kk : Nat, kk ≤ rs.length ∧ gg = rs.length - kk ∧ s8 = .int .i64 kk ∧ Hid (∀ (j : Nat) r, j < kk → rs[j]? = some r → badD r = false) ∧ Hid (Gr w wr))
    case atStart => exact ⟨0, Nat.zero_le _, by omega, rfl, Lib.hid (fun j r hj => absurd hj (Nat.not_lt_zero _)), Lib.hid (Gr.rf w)⟩
    case round =>
      obtain ⟨kk, hkk, hg, rfl, HA, HG⟩ := hrel
      have HGG := Lib.hid hg
      clear hg
      by_cases hlt : kk < rs.length
      · have hltz : (kk : Int) < (rs.length : Int) := by omega
        have hj : rs[kk]? = some rs[kk] := List.getElem?_eq_getElem hlt
        have c0 := HC.out kk _ hj
        generalize rs[kk] = r at hj c0
        have d0 := cell_gr HG.out hb c0
        clear c0
        have hcall := fun w => new2_calls r w
        have HJ := Lib.hid hj
        clear hj
        cases hm : badD r with
        | true =>
          simp only [hm] at hcall
          have HCALL := Lib.hid hcall
          have HM := Lib.hid hm
          clear hcall hm
          go_wp2_with (go_at_call 157; (with_reducible refine (HCALL.out _).mono ?_); rintro ev w1 ⟨rfl, rfl⟩)
          go_ret
          exact ⟨kk, rfl, by omega, by omega, by rw [any_hit HJ.out HM.out]; simp, HG.out⟩
        | false =>
          simp only [hm] at hcall
          have HCALL := Lib.hid hcall
          have HM := Lib.hid hm
          clear hcall hm
          go_wp2_with (go_at_call 157; (with_reducible refine (HCALL.out _).mono ?_); rintro ev w1 ⟨rfl, rfl⟩)
          go_roundg (rs.length - (kk + 1))
          case measure => have := HGG.out; omega
          case rel =>
            refine ⟨kk + 1, by omega, rfl, by go_num, Lib.hid (fun j x a hx => ?_), Lib.hid (HG.out)⟩
            by_cases e : j = kk
            · subst e
              rw [HJ.out] at hx
              cases hx
              exact HM.out
            · exact HA.out j x (by omega) hx
      · have hltz : ¬ (kk : Int) < (rs.length : Int) := by omega
        have hke : kk = rs.length := by omega
        have HF : Hid ((rs.any fun r => badD r) = false) := Lib.hid (any_miss fun j x hx => by
          exact HA.out j x (by rw [hke]; exact (List.getElem?_eq_some_iff.1 hx).1) hx)
        go_wp2
        go_ret
        exact ⟨-1, rfl, by decide, by decide, by rw [HF.out]; rfl, HG.out⟩
set_option maxRecDepth 100000 in
theorem contR_calls (rs : List Ru) (v : Value) (w : World) (h : RulesAt w v rs) (hn : rs.length ≤ 1000000) :
    Calls Tryz.prog 153 #[v, .func (.func 154) #[] #[]] w fun e w' => e = .returned (.bool (rs.any fun r => !mayR r)) ∧ Gr w w' := by
  have HI := Lib.hid (indexR_calls rs v w h hn)
  generalize (rs.any fun r => !mayR r) = bad at HI ⊢
  clear h
  go_enter Tryz.func153, Tryz.ntmps153
  go_wp2_with (go_at_call 196; (with_reducible refine HI.out.mono ?_); rintro ev w1 ⟨z, rfl, h0, h1, hz, hg1⟩; have HZ := Lib.hid hz; clear hz)
  go_ret
  exact ⟨by rw [← HZ.out]; rfl, hg1⟩
set_option maxRecDepth 100000 in
theorem contD_calls (rs : List Int) (v : Value) (w : World) (h : DaysAt w v rs) (hn : rs.length ≤ 1000000) :
    Calls Tryz.prog 156 #[v, .func (.func 157) #[] #[]] w fun e w' => e = .returned (.bool (rs.any fun r => badD r)) ∧ Gr w w' := by
  have HI := Lib.hid (indexD_calls rs v w h hn)
  generalize (rs.any fun r => badD r) = bad at HI ⊢
  clear h
  go_enter Tryz.func156, Tryz.ntmps156
  go_wp2_with (go_at_call 198; (with_reducible refine HI.out.mono ?_); rintro ev w1 ⟨z, rfl, h0, h1, hz, hg1⟩; have HZ := Lib.hid hz; clear hz)
  go_ret
  exact ⟨by rw [← HZ.out]; rfl, hg1⟩
end
section
open Go.RowKit Go.Extern.Stop Go.Stop Go.Extern Go.Maps
set_option linter.unusedVariables false
set_option linter.unusedSimpArgs false

/-- A calendar's two blocks. -/
def CalIn (w : World) (p b n : Nat) (S : Int → Bool) : Prop := b < p ∧ w.heap[p]? = some (.cells #[.map (some b)] 193 (0, 0)) ∧ Shut w b n S
theorem CalIn.gr {w w' : World} {p b n : Nat} {S : Int → Bool} (h : CalIn w p b n S) (hg : Gr w w') : CalIn w' p b n S := ⟨h.1, hg.heap h.2.1, h.2.2.gr hg⟩
theorem CalIn.stored {w w' : World} {p b n m : Nat} {S S' : Int → Bool} (h : CalIn w p b n S) (hs : Shut w' b m S') (hg : w.grownBy w' (some b)) : CalIn w' p b m S' :=
  ⟨h.1, by rw [hg.block p (cells_lt h.2.1) (fun e => by have := Option.some.inj e; have := h.1; omega)]; exact h.2.1, hs⟩
theorem CalIn.at_ {w : World} {p b n : Nat} {S : Int → Bool} (h : CalIn w p b n S) : CalAt w (.pointer (some ⟨p, 0, none⟩)) S := .inr ⟨p, b, n, rfl, h.2.1, h.2.2⟩
theorem calIn_new (w : World) : CalIn ((w.alloc (.map #[] 0)).alloc (.cells #[.map (some w.heap.size)] 193)) (w.heap.size + 1) w.heap.size 0 (fun _ => false) := by
  have e : (w.alloc (.map #[] 0)).heap.size = w.heap.size + 1 := by simp
  refine ⟨by omega, ?_, (shut_made w).gr ((Gr.rf _).alloc (Nat.le_refl _) _)⟩
  rw [← e]
  exact heap_alloc_new _ _
/-- A day of one of the first rules. -/
def InR (rs : List Ru) (n : Nat) (k : Int) : Prop := ∃ i r, i < n ∧ rs[i]? = some r ∧ ∃ y, 1900 ≤ y ∧ y ≤ 2199 ∧ holD r y = some k
def InY (r : Ru) (j : Int) (k : Int) : Prop := ∃ y, 1900 ≤ y ∧ y < j ∧ holD r y = some k
/-- Which days a calendar of rules and days shuts. -/
def ShutBy (rs : List Ru) (ms : List Int) (S : Int → Bool) : Prop := ∀ k, S k = true ↔ (k ∈ ms ∨ ∃ r ∈ rs, ∃ y, 1900 ≤ y ∧ y ≤ 2199 ∧ holD r y = some k)
def Sh1 (ms : List Int) (kk n : Nat) (S : Int → Bool) : Prop := n ≤ kk ∧ ∀ k, S k = true ↔ k ∈ ms.take kk
def Sh2 (rs : List Ru) (ms : List Int) (kk n : Nat) (S : Int → Bool) : Prop := n ≤ 100 + 300 * kk ∧ ∀ k, S k = true ↔ (k ∈ ms ∨ InR rs kk k)
def Sh3 (rs : List Ru) (ms : List Int) (kk : Nat) (r : Ru) (j : Int) (n : Nat) (S : Int → Bool) : Prop := (n : Int) ≤ 100 + 300 * kk + (j - 1900) ∧ ∀ k, S k = true ↔ (k ∈ ms ∨ InR rs kk k ∨ InY r j k)
theorem sh1_start (ms : List Int) : Sh1 ms 0 0 (fun _ => false) := ⟨Nat.le_refl _, fun k => by simp⟩
theorem sh1_next {ms : List Int} {kk n : Nat} {S : Int → Bool} {x : Int} (h : Sh1 ms kk n S) (hx : ms[kk]? = some x) : Sh1 ms (kk + 1) (n + 1) (fun j => if j = x then true else S j) := by
  refine ⟨by have := h.1; omega, fun k => ?_⟩
  have hl := (List.getElem?_eq_some_iff.1 hx).1
  have he := (List.getElem?_eq_some_iff.1 hx).2
  rw [List.take_succ_eq_append_getElem hl, List.mem_append, List.mem_singleton, he, ← h.2 k]
  by_cases e : k = x
  · simp [e]
  · simp [e]
theorem sh1_end {rs : List Ru} {ms : List Int} {n kk : Nat} {S : Int → Bool} (h : Sh1 ms kk n S) (hk : kk = ms.length) (hm : ms.length ≤ 100) : Sh2 rs ms 0 n S := by
  subst hk
  refine ⟨by have := h.1; omega, fun k => ?_⟩
  rw [h.2 k, List.take_length]
  refine ⟨.inl, fun h => h.elim id fun h => ?_⟩
  obtain ⟨i, r, hi, _⟩ := h
  omega
theorem sh2_start {rs : List Ru} {ms : List Int} {kk n : Nat} {S : Int → Bool} (r : Ru) (h : Sh2 rs ms kk n S) : Sh3 rs ms kk r 1900 n S := by
  refine ⟨by have := h.1; omega, fun k => ?_⟩
  rw [h.2 k]
  refine ⟨fun h => h.elim .inl fun h => .inr (.inl h), fun h => h.elim .inl fun h => h.elim .inr fun h => ?_⟩
  obtain ⟨y, h1, h2, _⟩ := h
  omega
theorem sh3_none {rs : List Ru} {ms : List Int} {kk n : Nat} {S : Int → Bool} {r : Ru} {j : Int} (h : Sh3 rs ms kk r j n S) (hv : holD r j = none) : Sh3 rs ms kk r (j + 1) n S := by
  refine ⟨by have := h.1; omega, fun k => ?_⟩
  rw [h.2 k]
  refine ⟨fun h => h.elim .inl fun h => h.elim (fun h => .inr (.inl h)) fun ⟨y, h1, h2, h3⟩ => .inr (.inr ⟨y, h1, by omega, h3⟩), fun h => h.elim .inl fun h => h.elim (fun h => .inr (.inl h)) fun ⟨y, h1, h2, h3⟩ => .inr (.inr ⟨y, h1, ?_, h3⟩)⟩
  by_cases e : y = j
  · rw [e, hv] at h3; cases h3
  · omega
theorem sh3_some {rs : List Ru} {ms : List Int} {kk n : Nat} {S : Int → Bool} {r : Ru} {j x : Int} (h : Sh3 rs ms kk r j n S) (h0 : 1900 ≤ j) (hv : holD r j = some x) : Sh3 rs ms kk r (j + 1) (n + 1) (fun k => if k = x then true else S k) := by
  refine ⟨by have := h.1; omega, fun k => ?_⟩
  by_cases e : k = x
  · simp only [e, if_true, true_iff]
    exact .inr (.inr ⟨j, h0, by omega, hv⟩)
  · simp only [if_neg e]
    rw [h.2 k]
    refine ⟨fun h => h.elim .inl fun h => h.elim (fun h => .inr (.inl h)) fun ⟨y, h1, h2, h3⟩ => .inr (.inr ⟨y, h1, by omega, h3⟩), fun h => h.elim .inl fun h => h.elim (fun h => .inr (.inl h)) fun ⟨y, h1, h2, h3⟩ => .inr (.inr ⟨y, h1, ?_, h3⟩)⟩
    by_cases e2 : y = j
    · rw [e2, hv] at h3; exact absurd (Option.some.inj h3).symm e
    · omega
theorem sh3_end {rs : List Ru} {ms : List Int} {kk n : Nat} {S : Int → Bool} {r : Ru} {j : Int} (h : Sh3 rs ms kk r j n S) (hj : j = 2200) (hr : rs[kk]? = some r) : Sh2 rs ms (kk + 1) n S := by
  subst hj
  refine ⟨by have := h.1; omega, fun k => ?_⟩
  rw [h.2 k]
  refine ⟨fun h => h.elim .inl fun h => .inr (h.elim (fun ⟨i, r', h1, h2⟩ => ⟨i, r', by omega, h2⟩) fun ⟨y, h1, h2, h3⟩ => ⟨kk, r, by omega, hr, y, h1, by omega, h3⟩), fun h => h.elim .inl fun ⟨i, r', h1, h2, y, h3, h4, h5⟩ => ?_⟩
  by_cases e : i = kk
  · subst e
    rw [hr] at h2
    cases h2
    exact .inr (.inr ⟨y, h3, by omega, h5⟩)
  · exact .inr (.inl ⟨i, r', by omega, h2, y, h3, h4, h5⟩)
theorem sh2_end {rs : List Ru} {ms : List Int} {n kk : Nat} {S : Int → Bool} (h : Sh2 rs ms kk n S) (hk : kk = rs.length) : ShutBy rs ms S := by
  subst hk
  intro k
  rw [h.2 k]
  refine ⟨fun h => h.elim .inl fun ⟨i, r, h1, h2, h3⟩ => .inr ⟨r, List.mem_of_getElem? h2, h3⟩, fun h => h.elim .inl fun ⟨r, h1, h2⟩ => ?_⟩
  obtain ⟨i, hi⟩ := List.mem_iff_getElem?.1 h1
  exact .inr ⟨i, r, (List.getElem?_eq_some_iff.1 hi).1, hi, h2⟩
/-- What New answers. -/
def Newed (rs : List Ru) (ms : List Int) (w : World) (e : Ending) (w' : World) : Prop := (∃ p b n S, e = .returned (.tuple #[.pointer (some ⟨p, 0, none⟩), .nilIface]) ∧ CalIn w' p b n S ∧ ShutBy rs ms S ∧ n ≤ 6100) ∧ Gr w w'
set_option maxRecDepth 100000 in
set_option maxHeartbeats 4000000 in
/-- cal.New. -/
theorem calnew_calls (rs : List Ru) (v : Value) (ms : List Int) (u : Value) (w : World) (h : RulesAt w v rs) (h' : DaysAt w u ms) (hn : rs.length ≤ 20) (hm : ms.length ≤ 100) (hmay : ∀ r ∈ rs, mayR r = true) (hday : ∀ d ∈ ms, 0 ≤ d ∧ d ≤ 109572) :
    Calls Tryz.prog 102 #[v, u] w (Newed rs ms w) := by
  have hcr := fun w (hr : RulesAt w v rs) => contR_calls rs v w hr (by omega)
  have hcd := fun w (hd : DaysAt w u ms) => contD_calls ms u w hd (by omega)
  simp only [show (rs.any fun r => !mayR r) = false from any_miss fun j x hx => by rw [hmay x (List.mem_of_getElem? hx)]; rfl] at hcr
  simp only [show (ms.any fun r => badD r) = false from any_miss fun j x hx => by unfold badD; rw [decide_eq_true (hday x (List.mem_of_getElem? hx))]; rfl] at hcd
  have HCR := Lib.hid (hcr w h)
  have HCD := Lib.hid hcd
  have HRA := Lib.hid h
  have HDA := Lib.hid h'
  have HDY := Lib.hid (fun r (j : Int) (h0 : 0 ≤ j) (h1 : j ≤ 1000000) w => hday_calls r j h0 h1 w)
  have HDD := Lib.hid (fun (x : Int) j (hx : ms[j]? = some x) => hday x (List.mem_of_getElem? hx))
  clear hcr hcd hmay hday
  unfold ruV at HDY
  have hmm := @run_makeMap Tryz.prog
  rcases h with ⟨hrs, a, c, rfl⟩ | ⟨bb, off, c, rfl, hb, hc⟩
  · have HRS := Lib.hid hrs
    clear hrs
    rcases h' with ⟨hms, a', c', rfl⟩ | ⟨bb', off', c'', rfl, hb', hc'⟩
    · have HMS := Lib.hid hms
      clear hms
      go_enter Tryz.func102, Tryz.ntmps102
      go_wp2_with fail
      refine HCR.out.mono ?_
      rintro ev w1 ⟨rfl, hg1⟩
      have HC2 := Lib.hid (HCD.out w1 (HDA.out.gr hg1))
      have HG1 := Lib.hid hg1
      clear hg1
      go_wp2_with fail
      refine HC2.out.mono ?_
      rintro ev w2 ⟨rfl, hg2⟩
      have HG2 := Lib.hid (HG1.out.tr hg2)
      clear hg2
      go_wp2
      have HI0 := Lib.hid (calIn_new w2)
      have HGA := Lib.hid (HG2.out.tr (((Gr.rf w2).alloc (Nat.le_refl _) (.map #[] 0)).alloc (by simp) (.cells #[.map (some w2.heap.size)] 193)))
      have hbw : Hid (w.heap.size ≤ w2.heap.size) := Lib.hid HG2.out.size
      generalize (w2.alloc (.map #[] 0)).alloc (.cells #[.map (some w2.heap.size)] 193) = W0 at HI0 HGA ⊢
      obtain ⟨p, hp⟩ : ∃ p, w2.heap.size + 1 = p := ⟨_, rfl⟩
      rw [hp] at HI0 ⊢
      clear hp
      generalize w2.heap.size = b at HI0 hbw ⊢
      go_loopg [37] ms.length (fun gg s37 wr => ∃ (kk n : Nat) (S : Int → Bool), kk ≤ ms.length ∧ gg = ms.length - kk ∧ s37 = .int .i64 kk ∧ Hid (CalIn wr p b n S) ∧ Hid (Sh1 ms kk n S) ∧ Hid (Gr w wr))
      case atStart => exact ⟨0, 0, _, Nat.zero_le _, by omega, rfl, HI0, Lib.hid (sh1_start ms), HGA⟩
      case round =>
        obtain ⟨kk, n, S, hkk, hgg, rfl, HI, HS, HG⟩ := hrel
        have HGG := Lib.hid hgg
        clear hgg
        have hke : kk = ms.length := by rw [HMS.out] at hkk ⊢; exact Nat.le_antisymm hkk (Nat.zero_le _)
        have HS2 := Lib.hid (sh1_end (rs := rs) HS.out hke hm)
        have hk0 : kk = 0 := by rw [hke, HMS.out]; rfl
        subst hk0
        clear HS hke
        go_wp2
        go_loopg [49] rs.length (fun gg s49 wr => ∃ (kk n : Nat) (S : Int → Bool), kk ≤ rs.length ∧ gg = rs.length - kk ∧ s49 = .int .i64 kk ∧ Hid (CalIn wr p b n S) ∧ Hid (Sh2 rs ms kk n S) ∧ Hid (Gr w wr))
        case atStart => exact ⟨0, n, S, Nat.zero_le _, by omega, rfl, HI, HS2, HG⟩
        case round =>
          clear HI HS2 HG
          obtain ⟨kk, n, S, hkk, hgg, rfl, HI, HS, HG⟩ := hrel
          have HGG := Lib.hid hgg
          clear hgg
          have hke : kk = rs.length := by rw [HRS.out] at hkk ⊢; exact Nat.le_antisymm hkk (Nat.zero_le _)
          have HS2 := Lib.hid (sh2_end HS.out hke)
          have HN2 := Lib.hid (show n ≤ 6100 by have := HS.out.1; omega)
          have hk0 : kk = 0 := by rw [hke, HRS.out]; rfl
          subst hk0
          clear HS hke
          go_wp2
          go_ret2
          exact ⟨⟨p, b, n, S, rfl, HI.out, HS2.out, HN2.out⟩, HG.out⟩
    · have HDC := Lib.hid hc'
      clear hc'
      go_enter Tryz.func102, Tryz.ntmps102
      go_wp2_with fail
      refine HCR.out.mono ?_
      rintro ev w1 ⟨rfl, hg1⟩
      have HC2 := Lib.hid (HCD.out w1 (HDA.out.gr hg1))
      have HG1 := Lib.hid hg1
      clear hg1
      go_wp2_with fail
      refine HC2.out.mono ?_
      rintro ev w2 ⟨rfl, hg2⟩
      have HG2 := Lib.hid (HG1.out.tr hg2)
      clear hg2
      go_wp2
      have HI0 := Lib.hid (calIn_new w2)
      have HGA := Lib.hid (HG2.out.tr (((Gr.rf w2).alloc (Nat.le_refl _) (.map #[] 0)).alloc (by simp) (.cells #[.map (some w2.heap.size)] 193)))
      have hbw : Hid (w.heap.size ≤ w2.heap.size) := Lib.hid HG2.out.size
      generalize (w2.alloc (.map #[] 0)).alloc (.cells #[.map (some w2.heap.size)] 193) = W0 at HI0 HGA ⊢
      obtain ⟨p, hp⟩ : ∃ p, w2.heap.size + 1 = p := ⟨_, rfl⟩
      rw [hp] at HI0 ⊢
      clear hp
      generalize w2.heap.size = b at HI0 hbw ⊢
      go_loopg [37] ms.length (fun gg s37 wr => ∃ (kk n : Nat) (S : Int → Bool), kk ≤ ms.length ∧ gg = ms.length - kk ∧ s37 = .int .i64 kk ∧ Hid (CalIn wr p b n S) ∧ Hid (Sh1 ms kk n S) ∧ Hid (Gr w wr))
      case atStart => exact ⟨0, 0, _, Nat.zero_le _, by omega, rfl, HI0, Lib.hid (sh1_start ms), HGA⟩
      case round =>
        obtain ⟨kk, n, S, hkk, hgg, rfl, HI, HS, HG⟩ := hrel
        have HGG := Lib.hid hgg
        clear hgg
        by_cases hlt : kk < ms.length
        · have hltz : (kk : Int) < (ms.length : Int) := by omega
          have hj : ms[kk]? = some ms[kk] := List.getElem?_eq_getElem hlt
          have c0 := HDC.out kk _ hj
          have hxb := HDD.out _ _ hj
          generalize ms[kk] = x at hj c0 hxb
          have d0 := cell_gr HG.out hb' c0
          have p0 := heap_cell HI.out.2.1 0
          have HJ := Lib.hid hj
          have hnb : n < 1000000 := by have := HS.out.1; omega
          clear hj c0
          go_wp2_with (at_mapUpdate; refine wpList_shut_store rfl _ _ _ rfl b n S rfl HI.out.2.2 hnb x rfl rfl (by omega) (by omega) ?_; intro w3 hs3 hg3)
          have HI3 := Lib.hid (HI.out.stored hs3 hg3)
          have HG3 := Lib.hid (HG.out.grown hg3 hbw.out)
          clear hs3 hg3
          go_wp2
          go_roundg (ms.length - (kk + 1))
          case measure => have := HGG.out; omega
          case rel => exact ⟨kk + 1, n + 1, _, by omega, rfl, by go_num, HI3, Lib.hid (sh1_next HS.out HJ.out), HG3⟩
        · have hltz : ¬ (kk : Int) < (ms.length : Int) := by omega
          have hke : kk = ms.length := by omega
          have HS2 := Lib.hid (sh1_end (rs := rs) HS.out hke hm)
          clear hke HS
          go_wp2
          go_loopg [49] rs.length (fun gg s49 wr => ∃ (kk n : Nat) (S : Int → Bool), kk ≤ rs.length ∧ gg = rs.length - kk ∧ s49 = .int .i64 kk ∧ Hid (CalIn wr p b n S) ∧ Hid (Sh2 rs ms kk n S) ∧ Hid (Gr w wr))
          case atStart => exact ⟨0, n, S, Nat.zero_le _, by omega, rfl, HI, HS2, HG⟩
          case round =>
            clear HI HS2 HG
            obtain ⟨kk, n, S, hkk, hgg, rfl, HI, HS, HG⟩ := hrel
            have HGG := Lib.hid hgg
            clear hgg
            have hke : kk = rs.length := by rw [HRS.out] at hkk ⊢; exact Nat.le_antisymm hkk (Nat.zero_le _)
            have HS2 := Lib.hid (sh2_end HS.out hke)
            have HN2 := Lib.hid (show n ≤ 6100 by have := HS.out.1; omega)
            have hk0 : kk = 0 := by rw [hke, HRS.out]; rfl
            subst hk0
            clear HS hke
            go_wp2
            go_ret2
            exact ⟨⟨p, b, n, S, rfl, HI.out, HS2.out, HN2.out⟩, HG.out⟩
  · have HRC := Lib.hid hc
    clear hc
    rcases h' with ⟨hms, a', c', rfl⟩ | ⟨bb', off', c'', rfl, hb', hc'⟩
    · have HMS := Lib.hid hms
      clear hms
      go_enter Tryz.func102, Tryz.ntmps102
      go_wp2_with fail
      refine HCR.out.mono ?_
      rintro ev w1 ⟨rfl, hg1⟩
      have HC2 := Lib.hid (HCD.out w1 (HDA.out.gr hg1))
      have HG1 := Lib.hid hg1
      clear hg1
      go_wp2_with fail
      refine HC2.out.mono ?_
      rintro ev w2 ⟨rfl, hg2⟩
      have HG2 := Lib.hid (HG1.out.tr hg2)
      clear hg2
      go_wp2
      have HI0 := Lib.hid (calIn_new w2)
      have HGA := Lib.hid (HG2.out.tr (((Gr.rf w2).alloc (Nat.le_refl _) (.map #[] 0)).alloc (by simp) (.cells #[.map (some w2.heap.size)] 193)))
      have hbw : Hid (w.heap.size ≤ w2.heap.size) := Lib.hid HG2.out.size
      generalize (w2.alloc (.map #[] 0)).alloc (.cells #[.map (some w2.heap.size)] 193) = W0 at HI0 HGA ⊢
      obtain ⟨p, hp⟩ : ∃ p, w2.heap.size + 1 = p := ⟨_, rfl⟩
      rw [hp] at HI0 ⊢
      clear hp
      generalize w2.heap.size = b at HI0 hbw ⊢
      go_loopg [37] ms.length (fun gg s37 wr => ∃ (kk n : Nat) (S : Int → Bool), kk ≤ ms.length ∧ gg = ms.length - kk ∧ s37 = .int .i64 kk ∧ Hid (CalIn wr p b n S) ∧ Hid (Sh1 ms kk n S) ∧ Hid (Gr w wr))
      case atStart => exact ⟨0, 0, _, Nat.zero_le _, by omega, rfl, HI0, Lib.hid (sh1_start ms), HGA⟩
      case round =>
        obtain ⟨kk, n, S, hkk, hgg, rfl, HI, HS, HG⟩ := hrel
        have HGG := Lib.hid hgg
        clear hgg
        have hke : kk = ms.length := by rw [HMS.out] at hkk ⊢; exact Nat.le_antisymm hkk (Nat.zero_le _)
        have HS2 := Lib.hid (sh1_end (rs := rs) HS.out hke hm)
        have hk0 : kk = 0 := by rw [hke, HMS.out]; rfl
        subst hk0
        clear HS hke
        go_wp2
        go_loopg [49] rs.length (fun gg s49 wr => ∃ (kk n : Nat) (S : Int → Bool), kk ≤ rs.length ∧ gg = rs.length - kk ∧ s49 = .int .i64 kk ∧ Hid (CalIn wr p b n S) ∧ Hid (Sh2 rs ms kk n S) ∧ Hid (Gr w wr))
        case atStart => exact ⟨0, n, S, Nat.zero_le _, by omega, rfl, HI, HS2, HG⟩
        case round =>
          clear HI HS2 HG
          obtain ⟨kk, n, S, hkk, hgg, rfl, HI, HS, HG⟩ := hrel
          have HGG := Lib.hid hgg
          clear hgg
          by_cases hlt : kk < rs.length
          · have hltz : (kk : Int) < (rs.length : Int) := by omega
            have hj : rs[kk]? = some rs[kk] := List.getElem?_eq_getElem hlt
            obtain ⟨c0, c1, c2, c3, c4, c5⟩ := HRC.out kk _ hj
            generalize rs[kk] = r at hj c0 c1 c2 c3 c4 c5
            have d0 := cell_gr HG.out hb c0
            have d1 := cell_gr HG.out hb c1
            have d2 := cell_gr HG.out hb c2
            have d3 := cell_gr HG.out hb c3
            have d4 := cell_gr HG.out hb c4
            have d5 := cell_gr HG.out hb c5
            have HJ := Lib.hid hj
            clear hj c0 c1 c2 c3 c4 c5
            have HLB := Lib.hid (cells_lt HI.out.2.1)
            have HBX := Lib.hid (boxAt_new wr r)
            have hga := boxGr wr r
            have HIx := Lib.hid (HI.out.gr hga)
            have HGx := Lib.hid (HG.out.tr hga)
            have HS3 := Lib.hid (sh2_start r HS.out)
            clear hga
            go_wp2
            obtain ⟨q, hq⟩ : ∃ q, wr.heap.size = q := ⟨_, rfl⟩
            rw [hq] at HBX HLB ⊢
            clear hq
            go_loopg [11] 300 (fun g3 s11 wq => ∃ (j : Int) (n : Nat) (S : Int → Bool), j = 2200 - (g3 : Int) ∧ 1900 ≤ j ∧ j ≤ 2200 ∧ s11 = .int .i64 j ∧ Hid (CalIn wq p b n S) ∧ Hid (Sh3 rs ms kk r j n S) ∧ Hid (BoxAt wq q r) ∧ Hid (Gr w wq))
            case atStart => exact ⟨1900, n, S, by omega, by omega, by omega, rfl, HIx, HS3, HBX, HGx⟩
            case round =>
              clear d0 d1 d2 d3 d4 d5 HI HG HS HIx HGx HS3 HBX
              obtain ⟨j, n3, S3, hj, hj0, hj1, rfl, HI, HS, HBX, HG⟩ := hrel
              have HJ3 := Lib.hid hj
              clear hj
              obtain ⟨c0, c1, c2, c3, c4, c5⟩ := HBX.out.cells
              by_cases hlt3 : j ≤ 2199
              · have hd := fun w => HDY.out r j (by omega) (by omega) w
                cases hv : holD r j with
                | none =>
                  simp only [holR_none hv] at hd
                  have HDJ := Lib.hid hd
                  have HS4 := Lib.hid (sh3_none HS.out hv)
                  clear hd hv
                  go_wp2_with (go_at_call 158; (with_reducible refine (HDJ.out _).mono ?_); rintro ev w4 ⟨rfl, hg4⟩)
                  go_roundg (gk - 1)
                  case measure => have := HJ3.out; omega
                  case rel => exact ⟨j + 1, n3, S3, by have := HJ3.out; omega, by omega, by omega, rfl, Lib.hid (HI.out.gr hg4), HS4, Lib.hid (HBX.out.gr hg4), Lib.hid (HG.out.tr hg4)⟩
                | some x =>
                  have hxb := holD_range hv
                  simp only [holR_some hv] at hd
                  have HDJ := Lib.hid hd
                  have HS4 := Lib.hid (sh3_some HS.out hj0 hv)
                  have hnb : n3 < 1000000 := by have := HS.out.1; omega
                  clear hd hv
                  go_wp2_with fail
                  refine (HDJ.out _).mono ?_
                  rintro ev w4 ⟨rfl, hg4⟩
                  have HI4 := Lib.hid (HI.out.gr hg4)
                  have HG4 := Lib.hid (HG.out.tr hg4)
                  have HB4 := Lib.hid (HBX.out.gr hg4)
                  have p0 := heap_cell HI4.out.2.1 0
                  clear hg4 c0 c1 c2 c3 c4 c5
                  go_wp2_with (at_mapUpdate; refine wpList_shut_store rfl _ _ _ rfl b n3 S3 rfl HI4.out.2.2 hnb x rfl rfl (by omega) (by omega) ?_; intro w5 hs5 hg5)
                  have HI5 := Lib.hid (HI4.out.stored hs5 hg5)
                  have HG5 := Lib.hid (HG4.out.grown hg5 hbw.out)
                  have hne : some q ≠ some b := fun e => by have := Option.some.inj e; have := HI4.out.1; have := HLB.out; omega
                  have HB5 := Lib.hid (show BoxAt w5 q r by unfold BoxAt; rw [hg5.block _ (cells_lt HB4.out) hne]; exact HB4.out)
                  clear hs5 hg5 hne
                  go_wp2
                  go_roundg (gk - 1)
                  case measure => have := HJ3.out; omega
                  case rel => exact ⟨j + 1, n3 + 1, _, by have := HJ3.out; omega, by omega, by omega, rfl, HI5, HS4, HB5, HG5⟩
              · have hje : j = 2200 := by omega
                have hlf : decide (j ≤ 2199) = false := decide_eq_false hlt3
                have HS5 := Lib.hid (sh3_end HS.out hje HJ.out)
                clear hje
                go_wp2
                go_roundg (rs.length - (kk + 1))
                case measure => have := HGG.out; omega
                case rel => exact ⟨kk + 1, n3, S3, by omega, rfl, by go_num, HI, HS5, HG⟩
          · have hltz : ¬ (kk : Int) < (rs.length : Int) := by omega
            have hke : kk = rs.length := by omega
            have HS2 := Lib.hid (sh2_end HS.out hke)
            have HN2 := Lib.hid (show n ≤ 6100 by have := HS.out.1; omega)
            clear hke HS
            go_wp2
            go_ret2
            exact ⟨⟨p, b, n, S, rfl, HI.out, HS2.out, HN2.out⟩, HG.out⟩
    · have HDC := Lib.hid hc'
      clear hc'
      go_enter Tryz.func102, Tryz.ntmps102
      go_wp2_with fail
      refine HCR.out.mono ?_
      rintro ev w1 ⟨rfl, hg1⟩
      have HC2 := Lib.hid (HCD.out w1 (HDA.out.gr hg1))
      have HG1 := Lib.hid hg1
      clear hg1
      go_wp2_with fail
      refine HC2.out.mono ?_
      rintro ev w2 ⟨rfl, hg2⟩
      have HG2 := Lib.hid (HG1.out.tr hg2)
      clear hg2
      go_wp2
      have HI0 := Lib.hid (calIn_new w2)
      have HGA := Lib.hid (HG2.out.tr (((Gr.rf w2).alloc (Nat.le_refl _) (.map #[] 0)).alloc (by simp) (.cells #[.map (some w2.heap.size)] 193)))
      have hbw : Hid (w.heap.size ≤ w2.heap.size) := Lib.hid HG2.out.size
      generalize (w2.alloc (.map #[] 0)).alloc (.cells #[.map (some w2.heap.size)] 193) = W0 at HI0 HGA ⊢
      obtain ⟨p, hp⟩ : ∃ p, w2.heap.size + 1 = p := ⟨_, rfl⟩
      rw [hp] at HI0 ⊢
      clear hp
      generalize w2.heap.size = b at HI0 hbw ⊢
      go_loopg [37] ms.length (fun gg s37 wr => ∃ (kk n : Nat) (S : Int → Bool), kk ≤ ms.length ∧ gg = ms.length - kk ∧ s37 = .int .i64 kk ∧ Hid (CalIn wr p b n S) ∧ Hid (Sh1 ms kk n S) ∧ Hid (Gr w wr))
      case atStart => exact ⟨0, 0, _, Nat.zero_le _, by omega, rfl, HI0, Lib.hid (sh1_start ms), HGA⟩
      case round =>
        obtain ⟨kk, n, S, hkk, hgg, rfl, HI, HS, HG⟩ := hrel
        have HGG := Lib.hid hgg
        clear hgg
        by_cases hlt : kk < ms.length
        · have hltz : (kk : Int) < (ms.length : Int) := by omega
          have hj : ms[kk]? = some ms[kk] := List.getElem?_eq_getElem hlt
          have c0 := HDC.out kk _ hj
          have hxb := HDD.out _ _ hj
          generalize ms[kk] = x at hj c0 hxb
          have d0 := cell_gr HG.out hb' c0
          have p0 := heap_cell HI.out.2.1 0
          have HJ := Lib.hid hj
          have hnb : n < 1000000 := by have := HS.out.1; omega
          clear hj c0
          go_wp2_with (at_mapUpdate; refine wpList_shut_store rfl _ _ _ rfl b n S rfl HI.out.2.2 hnb x rfl rfl (by omega) (by omega) ?_; intro w3 hs3 hg3)
          have HI3 := Lib.hid (HI.out.stored hs3 hg3)
          have HG3 := Lib.hid (HG.out.grown hg3 hbw.out)
          clear hs3 hg3
          go_wp2
          go_roundg (ms.length - (kk + 1))
          case measure => have := HGG.out; omega
          case rel => exact ⟨kk + 1, n + 1, _, by omega, rfl, by go_num, HI3, Lib.hid (sh1_next HS.out HJ.out), HG3⟩
        · have hltz : ¬ (kk : Int) < (ms.length : Int) := by omega
          have hke : kk = ms.length := by omega
          have HS2 := Lib.hid (sh1_end (rs := rs) HS.out hke hm)
          clear hke HS
          go_wp2
          go_loopg [49] rs.length (fun gg s49 wr => ∃ (kk n : Nat) (S : Int → Bool), kk ≤ rs.length ∧ gg = rs.length - kk ∧ s49 = .int .i64 kk ∧ Hid (CalIn wr p b n S) ∧ Hid (Sh2 rs ms kk n S) ∧ Hid (Gr w wr))
          case atStart => exact ⟨0, n, S, Nat.zero_le _, by omega, rfl, HI, HS2, HG⟩
          case round =>
            clear HI HS2 HG
            obtain ⟨kk, n, S, hkk, hgg, rfl, HI, HS, HG⟩ := hrel
            have HGG := Lib.hid hgg
            clear hgg
            by_cases hlt : kk < rs.length
            · have hltz : (kk : Int) < (rs.length : Int) := by omega
              have hj : rs[kk]? = some rs[kk] := List.getElem?_eq_getElem hlt
              obtain ⟨c0, c1, c2, c3, c4, c5⟩ := HRC.out kk _ hj
              generalize rs[kk] = r at hj c0 c1 c2 c3 c4 c5
              have d0 := cell_gr HG.out hb c0
              have d1 := cell_gr HG.out hb c1
              have d2 := cell_gr HG.out hb c2
              have d3 := cell_gr HG.out hb c3
              have d4 := cell_gr HG.out hb c4
              have d5 := cell_gr HG.out hb c5
              have HJ := Lib.hid hj
              clear hj c0 c1 c2 c3 c4 c5
              have HLB := Lib.hid (cells_lt HI.out.2.1)
              have HBX := Lib.hid (boxAt_new wr r)
              have hga := boxGr wr r
              have HIx := Lib.hid (HI.out.gr hga)
              have HGx := Lib.hid (HG.out.tr hga)
              have HS3 := Lib.hid (sh2_start r HS.out)
              clear hga
              go_wp2
              obtain ⟨q, hq⟩ : ∃ q, wr.heap.size = q := ⟨_, rfl⟩
              rw [hq] at HBX HLB ⊢
              clear hq
              go_loopg [11] 300 (fun g3 s11 wq => ∃ (j : Int) (n : Nat) (S : Int → Bool), j = 2200 - (g3 : Int) ∧ 1900 ≤ j ∧ j ≤ 2200 ∧ s11 = .int .i64 j ∧ Hid (CalIn wq p b n S) ∧ Hid (Sh3 rs ms kk r j n S) ∧ Hid (BoxAt wq q r) ∧ Hid (Gr w wq))
              case atStart => exact ⟨1900, n, S, by omega, by omega, by omega, rfl, HIx, HS3, HBX, HGx⟩
              case round =>
                clear d0 d1 d2 d3 d4 d5 HI HG HS HIx HGx HS3 HBX
                obtain ⟨j, n3, S3, hj, hj0, hj1, rfl, HI, HS, HBX, HG⟩ := hrel
                have HJ3 := Lib.hid hj
                clear hj
                obtain ⟨c0, c1, c2, c3, c4, c5⟩ := HBX.out.cells
                by_cases hlt3 : j ≤ 2199
                · have hd := fun w => HDY.out r j (by omega) (by omega) w
                  cases hv : holD r j with
                  | none =>
                    simp only [holR_none hv] at hd
                    have HDJ := Lib.hid hd
                    have HS4 := Lib.hid (sh3_none HS.out hv)
                    clear hd hv
                    go_wp2_with (go_at_call 158; (with_reducible refine (HDJ.out _).mono ?_); rintro ev w4 ⟨rfl, hg4⟩)
                    go_roundg (gk - 1)
                    case measure => have := HJ3.out; omega
                    case rel => exact ⟨j + 1, n3, S3, by have := HJ3.out; omega, by omega, by omega, rfl, Lib.hid (HI.out.gr hg4), HS4, Lib.hid (HBX.out.gr hg4), Lib.hid (HG.out.tr hg4)⟩
                  | some x =>
                    have hxb := holD_range hv
                    simp only [holR_some hv] at hd
                    have HDJ := Lib.hid hd
                    have HS4 := Lib.hid (sh3_some HS.out hj0 hv)
                    have hnb : n3 < 1000000 := by have := HS.out.1; omega
                    clear hd hv
                    go_wp2_with fail
                    refine (HDJ.out _).mono ?_
                    rintro ev w4 ⟨rfl, hg4⟩
                    have HI4 := Lib.hid (HI.out.gr hg4)
                    have HG4 := Lib.hid (HG.out.tr hg4)
                    have HB4 := Lib.hid (HBX.out.gr hg4)
                    have p0 := heap_cell HI4.out.2.1 0
                    clear hg4 c0 c1 c2 c3 c4 c5
                    go_wp2_with (at_mapUpdate; refine wpList_shut_store rfl _ _ _ rfl b n3 S3 rfl HI4.out.2.2 hnb x rfl rfl (by omega) (by omega) ?_; intro w5 hs5 hg5)
                    have HI5 := Lib.hid (HI4.out.stored hs5 hg5)
                    have HG5 := Lib.hid (HG4.out.grown hg5 hbw.out)
                    have hne : some q ≠ some b := fun e => by have := Option.some.inj e; have := HI4.out.1; have := HLB.out; omega
                    have HB5 := Lib.hid (show BoxAt w5 q r by unfold BoxAt; rw [hg5.block _ (cells_lt HB4.out) hne]; exact HB4.out)
                    clear hs5 hg5 hne
                    go_wp2
                    go_roundg (gk - 1)
                    case measure => have := HJ3.out; omega
                    case rel => exact ⟨j + 1, n3 + 1, _, by have := HJ3.out; omega, by omega, by omega, rfl, HI5, HS4, HB5, HG5⟩
                · have hje : j = 2200 := by omega
                  have hlf : decide (j ≤ 2199) = false := decide_eq_false hlt3
                  have HS5 := Lib.hid (sh3_end HS.out hje HJ.out)
                  clear hje
                  go_wp2
                  go_roundg (rs.length - (kk + 1))
                  case measure => have := HGG.out; omega
                  case rel => exact ⟨kk + 1, n3, S3, by omega, rfl, by go_num, HI, HS5, HG⟩
            · have hltz : ¬ (kk : Int) < (rs.length : Int) := by omega
              have hke : kk = rs.length := by omega
              have HS2 := Lib.hid (sh2_end HS.out hke)
              have HN2 := Lib.hid (show n ≤ 6100 by have := HS.out.1; omega)
              clear hke HS
              go_wp2
              go_ret2
              exact ⟨⟨p, b, n, S, rfl, HI.out, HS2.out, HN2.out⟩, HG.out⟩
end
end Go.Proofs.YtcjjgdoafkdeaaaGreatDoor
