/- Layer 6: cal.New of whatever rules and days, by contract; a slice's head. -/
import Derived.Test.YtjgihjpckjdikaaGreatDoorKu
import Derived.Test.YtjgihjpckjdikaaGreatDoorKh
namespace Go.Proofs.YtjgihjpckjdikaaGreatDoor
open Go.RowKit Go.Extern.Stop Go.Stop Go.Extern
set_option linter.unusedVariables false
set_option linter.unusedSimpArgs false

/-- What New answers, as a number; as an error. -/
def wantN (rs : List Ru) (ms : List Int) : Int := if 20 < rs.length ∨ 100 < ms.length then 2 else if (rs.any fun r => !mayR r) = true then 1 else if (ms.any fun d => badD d) = true then 4 else 0
def errV (c : Int) : Value := if c = 0 then .nilIface else .iface 97 (.int .i64 c)
theorem errV_at {w : World} (c : Int) : ∃ e : Er, e.code = c ∧ ErAt w (errV c) e := by
  unfold errV
  by_cases h : c = 0
  · rw [if_pos h]; exact ⟨.nil, h.symm, .nil⟩
  · rw [if_neg h]; exact ⟨.plain c, rfl, .plain c⟩
set_option maxRecDepth 100000 in
theorem new_range (rs : List Ru) (v : Value) (ms : List Int) (u : Value) (w : World) (h : RulesAt w v rs) (h' : DaysAt w u ms) (hn : rs.length ≤ 1000000) (hm : ms.length ≤ 1000000) (hx : 20 < rs.length ∨ 100 < ms.length) :
    Calls Tryz.prog 19 #[v, u] w fun e w' => e = .returned (.tuple #[.pointer none, .iface 97 (.int .i64 2)]) ∧ Gr w w' := by
  have HE := Lib.hid (fun w => show Calls Tryz.prog 47 #[.int .i64 2] w fun e w' => e = .returned (.iface 97 (.int .i64 2)) ∧ w = w' from of_calls 2 (by decide) w)
  obtain ⟨ao, c, rfl, _⟩ := h.view
  obtain ⟨ao', c', rfl, _⟩ := h'.view
  clear h h'
  by_cases h20 : 20 < rs.length
  · have b1 : (20 : Int) < (rs.length : Int) := by omega
    go_enter Tryz.func19, Tryz.ntmps19
    go_wp2_with (go_at_call 47; (with_reducible refine (HE.out _).mono ?_); rintro ev w1 ⟨rfl, rfl⟩)
    go_ret2
    exact ⟨rfl, Gr.rf _⟩
  · have b1 : ¬ (20 : Int) < (rs.length : Int) := by omega
    have b2 : (100 : Int) < (ms.length : Int) := by omega
    go_enter Tryz.func19, Tryz.ntmps19
    go_wp2_with (go_at_call 47; (with_reducible refine (HE.out _).mono ?_); rintro ev w1 ⟨rfl, rfl⟩)
    go_ret2
    exact ⟨rfl, Gr.rf _⟩
set_option maxRecDepth 100000 in
theorem new_form (rs : List Ru) (v : Value) (ms : List Int) (u : Value) (w : World) (h : RulesAt w v rs) (h' : DaysAt w u ms) (hn : rs.length ≤ 20) (hm : ms.length ≤ 100) (hx : (rs.any fun r => !mayR r) = true) :
    Calls Tryz.prog 19 #[v, u] w fun e w' => e = .returned (.tuple #[.pointer none, .iface 97 (.int .i64 1)]) ∧ Gr w w' := by
  have HE := Lib.hid (fun w => show Calls Tryz.prog 47 #[.int .i64 1] w fun e w' => e = .returned (.iface 97 (.int .i64 1)) ∧ w = w' from of_calls 1 (by decide) w)
  have hcr := contR_calls rs v w h (by omega)
  simp only [hx] at hcr
  have HCR := Lib.hid hcr
  obtain ⟨ao, c, rfl, _⟩ := h.view
  obtain ⟨ao', c', rfl, _⟩ := h'.view
  have b1 : ¬ (20 : Int) < (rs.length : Int) := by omega
  have b2 : ¬ (100 : Int) < (ms.length : Int) := by omega
  clear h h' hcr hx
  go_enter Tryz.func19, Tryz.ntmps19
  go_wp2_with fail
  refine HCR.out.mono ?_
  rintro ev w1 ⟨rfl, hg1⟩
  go_wp2_with (go_at_call 47; (with_reducible refine (HE.out _).mono ?_); rintro ev w2 ⟨rfl, rfl⟩)
  go_ret2
  exact ⟨rfl, hg1⟩
set_option maxRecDepth 100000 in
theorem new_date (rs : List Ru) (v : Value) (ms : List Int) (u : Value) (w : World) (h : RulesAt w v rs) (h' : DaysAt w u ms) (hn : rs.length ≤ 20) (hm : ms.length ≤ 100) (hx : (rs.any fun r => !mayR r) = false) (hy : (ms.any fun d => badD d) = true) :
    Calls Tryz.prog 19 #[v, u] w fun e w' => e = .returned (.tuple #[.pointer none, .iface 97 (.int .i64 4)]) ∧ Gr w w' := by
  have HE := Lib.hid (fun w => errDate_calls w)
  have hcr := contR_calls rs v w h (by omega)
  simp only [hx] at hcr
  have HCR := Lib.hid hcr
  have hcd := fun w (hd : DaysAt w u ms) => contD_calls ms u w hd (by omega)
  simp only [hy] at hcd
  have HCD := Lib.hid hcd
  have HDA := Lib.hid h'
  obtain ⟨ao, c, rfl, _⟩ := h.view
  obtain ⟨ao', c', rfl, _⟩ := h'.view
  have b1 : ¬ (20 : Int) < (rs.length : Int) := by omega
  have b2 : ¬ (100 : Int) < (ms.length : Int) := by omega
  clear h h' hcr hcd hx hy
  go_enter Tryz.func19, Tryz.ntmps19
  go_wp2_with fail
  refine HCR.out.mono ?_
  rintro ev w1 ⟨rfl, hg1⟩
  have HC2 := Lib.hid (HCD.out w1 (HDA.out.gr hg1))
  go_wp2_with fail
  refine HC2.out.mono ?_
  rintro ev w2 ⟨rfl, hg2⟩
  go_wp2_with (go_at_call 47; (with_reducible refine (HE.out _).mono ?_); rintro ev w3 ⟨rfl, rfl⟩)
  go_ret2
  exact ⟨rfl, hg1.tr hg2⟩
/-- cal.New, of whatever rules and days. -/
theorem newAny_calls (rs : List Ru) (v : Value) (ms : List Int) (u : Value) (w : World) (h : RulesAt w v rs) (h' : DaysAt w u ms) (hn : rs.length ≤ 1000000) (hm : ms.length ≤ 1000000) :
    Calls Tryz.prog 19 #[v, u] w fun e w' => (∃ a : Option Addr, e = .returned (.tuple #[.pointer a, errV (wantN rs ms)]) ∧ (a.isSome = decide (wantN rs ms = 0))) ∧ Gr w w' := by
  unfold wantN
  by_cases hx : 20 < rs.length ∨ 100 < ms.length
  · rw [if_pos hx]
    exact (new_range rs v ms u w h h' hn hm hx).mono fun e w' hh => ⟨⟨none, hh.1, rfl⟩, hh.2⟩
  · rw [if_neg hx]
    cases hr : rs.any fun r => !mayR r with
    | true =>
      rw [if_pos rfl]
      exact (new_form rs v ms u w h h' (by omega) (by omega) hr).mono fun e w' hh => ⟨⟨none, hh.1, rfl⟩, hh.2⟩
    | false =>
      rw [if_neg (by decide)]
      cases hd : ms.any fun d => badD d with
      | true =>
        rw [if_pos rfl]
        exact (new_date rs v ms u w h h' (by omega) (by omega) hr hd).mono fun e w' hh => ⟨⟨none, hh.1, rfl⟩, hh.2⟩
      | false =>
        rw [if_neg (by decide)]
        refine (calnew_calls rs v ms u w h h' (by omega) (by omega) (fun r hm => ?_) (fun d hm => ?_)).mono fun e w' hh => ?_
        · have := List.any_eq_false.1 hr r hm
          cases hmr : mayR r
          · rw [hmr] at this; simp at this
          · rfl
        · have := List.any_eq_false.1 hd d hm
          unfold badD at this
          simpa using this
        · obtain ⟨⟨p, b, n, S, he, _⟩, hg⟩ := hh
          exact ⟨⟨some ⟨p, 0, none⟩, he, rfl⟩, hg⟩
theorem RulesAt.head {w : World} {ao : Option Addr} {rs : List Ru} {c : Nat} (h : RulesAt w (.slice ao rs.length c) rs) (k : Nat) (c' : Nat) : RulesAt w (.slice ao (rs.take k).length c') (rs.take k) := by
  rcases h with ⟨rfl, a, c2, _⟩ | ⟨b, off, c2, he, hb, hc⟩
  · exact .inl ⟨by simp, ao, c', by simp⟩
  · injection he with he _ _
    subst he
    refine .inr ⟨b, off, c', rfl, hb, fun j r hj => hc j r ?_⟩
    have hl := (List.getElem?_eq_some_iff.1 hj).1
    rw [List.length_take] at hl
    rw [List.getElem?_take_of_lt (by omega)] at hj
    exact hj
theorem DaysAt.head {w : World} {ao : Option Addr} {ms : List Int} {c : Nat} (h : DaysAt w (.slice ao ms.length c) ms) (k : Nat) (c' : Nat) : DaysAt w (.slice ao (ms.take k).length c') (ms.take k) := by
  rcases h with ⟨rfl, a, c2, _⟩ | ⟨b, off, c2, he, hb, hc⟩
  · exact .inl ⟨by simp, ao, c', by simp⟩
  · injection he with he _ _
    subst he
    refine .inr ⟨b, off, c', rfl, hb, fun j r hj => hc j r ?_⟩
    have hl := (List.getElem?_eq_some_iff.1 hj).1
    rw [List.length_take] at hl
    rw [List.getElem?_take_of_lt (by omega)] at hj
    exact hj
end Go.Proofs.YtjgihjpckjdikaaGreatDoor
