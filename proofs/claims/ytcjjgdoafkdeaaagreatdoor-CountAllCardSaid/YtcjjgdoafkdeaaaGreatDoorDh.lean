/- Layer 6: a calendar's map of shut days; Open by contract. -/
import Derived.Test.YtcjjgdoafkdeaaaGreatDoorHb
import Derived.Maps.OwnOps
import Derived.Maps.OwnSet
import Derived.Maps.RangeWalk
import Derived.Maps.Ext
namespace Go.Proofs.YtcjjgdoafkdeaaaGreatDoor
open Go.RowKit Go.Extern.Stop Go.Stop Go.Extern Go.Maps
set_option linter.unusedVariables false
set_option linter.unusedSimpArgs false

theorem underInt : Tryz.prog.underlying 3 = some (.int .i64) := by kernel_rfl
theorem underBool : Tryz.prog.underlying 4 = some .bool := by kernel_rfl
theorem underMap : Tryz.prog.underlying 191 = some (.map 3 4) := by kernel_rfl
theorem zeroBool (w : World) : (zeroValue 4).run Tryz.prog w = .ok (.bool false) w := by kernel_rfl
theorem lawInt : Keyed Tryz.prog 3 := int_keyed underInt
theorem wfInt {k : Int} (h0 : -9223372036854775808 ≤ k) (h1 : k ≤ 9223372036854775807) : (Lit.int .i64 k).wf = true := WalkArith.wf_i64 ⟨h0, h1⟩
theorem keyInt {k : Int} (h0 : -9223372036854775808 ≤ k) (h1 : k ≤ 9223372036854775807) : keyOf Tryz.prog 3 (.int .i64 k) = some (.int .i64 k) := keyOf_int_mk underInt (wfInt h0 h1)
/-- Block b is a map of at most n entries; S: which days it holds as shut. -/
def Shut (w : World) (b n : Nat) (S : Int → Bool) : Prop :=
  ∃ D : DataW Unit, w.ownsMap Tryz.prog 3 (plainElem Tryz.prog 4) b n D ∧
    ∀ k : Int, -9223372036854775808 ≤ k → k ≤ 9223372036854775807 → Maps.has D (.int .i64 k) = S k ∧ D.atKey (.int .i64 k) (.lit (.bool false)) = .lit (.bool (S k))
theorem Shut.lt {w : World} {b n : Nat} {S : Int → Bool} (h : Shut w b n S) : b < w.heap.size := by obtain ⟨D, h, _⟩ := h; exact h.lt
theorem Shut.kept {w w' : World} {b n : Nat} {S : Int → Bool} {row : Option Nat} (h : Shut w b n S) (hg : w.grownBy w' row) (hne : some b ≠ row) : Shut w' b n S := by
  obtain ⟨D, h, hS⟩ := h
  exact ⟨D, h.kept hg hne, hS⟩
theorem Shut.gr {w w' : World} {b n : Nat} {S : Int → Bool} (h : Shut w b n S) (hg : Gr w w') : Shut w' b n S := by
  obtain ⟨D, ⟨es, clock, hb, F, hs, hD⟩, hS⟩ := h
  exact ⟨D, ⟨es, clock, hg.heap hb, F, hs, hD⟩, hS⟩
theorem shut_made (w : World) : Shut (w.alloc (.map #[] 0)) w.heap.size 0 (fun _ => false) :=
  ⟨.map [], World.ownsMap_made _ _ _ _, fun k _ _ => ⟨rfl, rfl⟩⟩
theorem plainBool_inv {v : Value} {x : Bool} {ps : List MemPlace} (h : plainElem (H := Unit) Tryz.prog 4 v = some (.lit (.bool x), ps)) : v = .bool x := by
  unfold plainElem at h
  rw [underBool] at h
  cases v <;> simp at h
  rw [h.1]
theorem Shut.look {w : World} {b n : Nat} {S : Int → Bool} (h : Shut w b n S) (k : Int) (h0 : -9223372036854775808 ≤ k) (h1 : k ≤ 9223372036854775807) :
    (Instr.lookup 191 (.map (some b)) (.int .i64 k) false).run Tryz.prog w = .ok (.bool (S k)) w := by
  obtain ⟨D, hown, hS⟩ := h
  obtain ⟨v, ps, hrun, hv⟩ := hown.lookup lawInt underMap (zeroBool w) (plainElem_bool underBool false) (keyInt h0 h1)
  rw [(hS k h0 h1).2] at hv
  rw [hrun, plainBool_inv hv]
theorem Shut.store {w : World} {b n : Nat} {S : Int → Bool} (h : Shut w b n S) (hn : n < 1000000) (k : Int) (h0 : -9223372036854775808 ≤ k) (h1 : k ≤ 9223372036854775807) :
    ∃ w', (Instr.mapUpdate 191 (.map (some b)) (.int .i64 k) (.bool true)).run Tryz.prog w = .ok () w' ∧ Shut w' b (n + 1) (fun j => if j = k then true else S j) ∧ w.grownBy w' (some b) := by
  obtain ⟨D, hown, hS⟩ := h
  have hm := hown.isMap
  obtain ⟨w', hrun, ho, hg⟩ := hown.update lawInt underMap (by unfold maxLen; omega) (keyInt h0 h1) (plainElem_bool underBool true)
  have hl := lawInt.key (keyInt h0 h1)
  refine ⟨w', hrun, ⟨_, ho, fun j j0 j1 => ?_⟩, hg⟩
  by_cases hj : j = k
  · subst hj
    dsimp only
    rw [if_pos rfl]
    exact ⟨has_put_same hm hl _, atKey_put_same hm hl _ _⟩
  · dsimp only
    rw [if_neg hj]
    have hne : (Lit.int .i64 j) ≠ .int .i64 k := fun e => hj (by injection e)
    rw [has_put_other hne, atKey_put_other hne]
    exact hS j j0 j1
theorem Gr.grown {w w1 w2 : World} {b : Nat} (h : Gr w w1) (hg : w1.grownBy w2 (some b)) (hb : w.heap.size ≤ b) : Gr w w2 :=
  Below.grown h hg h.size (fun j hj => by cases hj; exact hb)
section
variable {w : World} {ops : Array Oper} {rest : List Oper} {o : Oper} {a : Act} {Q : Exit → Act → World → Prop}
/-- A store of a shut day, at the operation. -/
theorem wpList_shut_store (hg : o.guard = none) (m x v : Operand) (hop : o.op = Op.mapUpdate 191 m x v) (b n : Nat) (S : Int → Bool) (hm : a.eval m = .map (some b)) (h : Shut w b n S) (hn : n < 1000000)
    (k : Int) (hx : a.eval x = .int .i64 k) (hv : a.eval v = .bool true) (h0 : -9223372036854775808 ≤ k) (h1 : k ≤ 9223372036854775807)
    (hK : ∀ w', Shut w' b (n + 1) (fun j => if j = k then true else S j) → w.grownBy w' (some b) → wpList Tryz.prog ops Q rest (a.put o.dst undef) w') :
    wpList Tryz.prog ops Q (o :: rest) a w := by
  refine wpList_plain hg fun K' hK' => ?_
  obtain ⟨w', hrun, r1, r2⟩ := h.store hn k h0 h1
  unfold Oper.wp
  simp [execOp, hop, hm, hx, hv, hrun, Result.andThen]
  exact hK' _ _ (hK w' r1 r2)
end
/-- A calendar: none, or one that holds a map of shut days. -/
def CalAt (w : World) (v : Value) (S : Int → Bool) : Prop :=
  (v = .pointer none ∧ S = fun _ => false) ∨ ∃ p b n, v = .pointer (some ⟨p, 0, none⟩) ∧ w.heap[p]? = some (.cells #[.map (some b)] 193 (0, 0)) ∧ Shut w b n S
theorem CalAt.gr {w w' : World} {v : Value} {S : Int → Bool} (h : CalAt w v S) (hg : Gr w w') : CalAt w' v S := by
  rcases h with h | ⟨p, b, n, h1, h2, h3⟩
  · exact .inl h
  · exact .inr ⟨p, b, n, h1, hg.heap h2, h3.gr hg⟩
/-- Is a day open? -/
def openB (S : Int → Bool) (d : Int) : Bool := decide (0 ≤ d ∧ d ≤ 109572) && !((d + 1) % 7 == 0) && !((d + 1) % 7 == 6) && !S d
set_option maxRecDepth 100000 in
set_option maxHeartbeats 1000000 in
/-- (*Cal).Open. -/
theorem open_calls (v : Value) (S : Int → Bool) (d : Int) (h0 : -9223372036854775808 ≤ d) (h1 : d ≤ 9223372036854775807) (w : World) (h : CalAt w v S) :
    Calls Tryz.prog 107 #[v, .int .i64 d] w fun e w' => e = .returned (.bool (openB S d)) ∧ w = w' := by
  by_cases hr : 0 ≤ d ∧ d ≤ 109572
  · have hw := fun w => weekday_calls d w hr.1 hr.2
    have hx0 := Int.emod_nonneg (d + 1) (show (7 : Int) ≠ 0 by decide)
    unfold openB
    rw [decide_eq_true hr]
    generalize (d + 1) % 7 = x at hw hx0 ⊢
    have HW := Lib.hid hw
    clear hw
    have bm : (x == -1) = false := beq_eq_false_iff_ne.2 (by omega)
    by_cases a0 : x = 0
    · subst a0
      go_enter Tryz.func107, Tryz.ntmps107
      go_wp2_with (go_at_call 108; (with_reducible refine (HW.out _).mono ?_); rintro ev w1 ⟨rfl, rfl⟩)
      go_ret
      exact ⟨rfl, rfl⟩
    · by_cases a6 : x = 6
      · subst a6
        go_enter Tryz.func107, Tryz.ntmps107
        go_wp2_with (go_at_call 108; (with_reducible refine (HW.out _).mono ?_); rintro ev w1 ⟨rfl, rfl⟩)
        go_ret
        exact ⟨rfl, rfl⟩
      · have b0 : (x == 0) = false := beq_eq_false_iff_ne.2 a0
        have b6 : (x == 6) = false := beq_eq_false_iff_ne.2 a6
        rw [b0, b6]
        rcases h with ⟨rfl, rfl⟩ | ⟨p, b, n, rfl, hp, hs⟩
        · clear a0 a6
          go_enter Tryz.func107, Tryz.ntmps107
          go_wp2_with (go_at_call 108; (with_reducible refine (HW.out _).mono ?_); rintro ev w1 ⟨rfl, rfl⟩)
          go_ret
          exact ⟨rfl, rfl⟩
        · have hrun := hs.look d h0 h1
          have c0 := heap_cell hp 0
          generalize S d = sd at hrun ⊢
          clear a0 a6 hp hs
          go_enter Tryz.func107, Tryz.ntmps107
          go_wp2_with (go_at_call 108; (with_reducible refine (HW.out _).mono ?_); rintro ev w1 ⟨rfl, rfl⟩)
          go_ret
          exact ⟨by cases sd <;> rfl, rfl⟩
  · have hf : openB S d = false := by unfold openB; rw [decide_eq_false hr]; rfl
    rw [hf]
    have HW := Lib.hid (fun w => weekday_no d w (by omega))
    clear hf hr h
    go_enter Tryz.func107, Tryz.ntmps107
    go_wp2_with (go_at_call 108; (with_reducible refine (HW.out _).mono ?_); rintro ev w1 ⟨rfl, rfl⟩)
    go_ret
    exact ⟨rfl, rfl⟩
end Go.Proofs.YtcjjgdoafkdeaaaGreatDoor
