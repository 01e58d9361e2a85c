/- Layer 6: rentierlaw6.rules, days by contract. -/
import Derived.Test.YtglbdafcfcmffaaGreatDoorKq
import Derived.Test.YtglbdafcfcmffaaGreatDoorKo
namespace Go.Proofs.YtglbdafcfcmffaaGreatDoor
open Go.RowKit Go.Extern.Stop Go.Stop Go.Extern
set_option linter.unusedVariables false
set_option linter.unusedSimpArgs false

theorem infoRule : (Tryz.prog.info? 118).map (fun i => (i.zero, i.size, i.bytes)) = some (some (.agg #[.int .i64 0, .int .i64 0, .int .i64 0, .int .i64 0, .int .i64 0, .bool false]), 6, 48) := by kernel_rfl
theorem infoI64 : (Tryz.prog.info? 3).map (fun i => (i.zero, i.size, i.bytes)) = some (some (.int .i64 0), 1, 8) := by kernel_rfl
def ruCells (r : Ru) : List Value := [.int .i64 r.kind, .int .i64 r.month, .int .i64 r.day, .int .i64 r.n, .int .i64 r.wd, .bool r.sh]
def flatR (rs : List Ru) : List Value := rs.flatMap ruCells
theorem flatR_one (r : Ru) : flatR [r] = ruCells r := by unfold flatR; simp
theorem flatR_app (a b : List Ru) : flatR (a ++ b) = flatR a ++ flatR b := by unfold flatR; simp
theorem flatR_len (rs : List Ru) : (flatR rs).length = rs.length * 6 := by
  induction rs with
  | nil => rfl
  | cons r rs ih =>
    show (ruCells r ++ flatR rs).length = _
    rw [List.length_append, ih, List.length_cons, Nat.succ_mul]
    show 6 + _ = _
    omega
theorem flatR_at (i : Nat) (hi : i < 6) : ∀ (rs : List Ru) (j : Nat) (r : Ru), rs[j]? = some r → (flatR rs)[j * 6 + i]? = (ruCells r)[i]?
  | [], j, r, h => by simp at h
  | a :: rs, 0, r, h => by
    obtain rfl : a = r := by simpa using h
    show (ruCells a ++ flatR rs)[0 * 6 + i]? = _
    rw [Nat.zero_mul, Nat.zero_add, List.getElem?_append_left (show i < (ruCells a).length from hi)]
  | a :: rs, j + 1, r, h => by
    have h2 : rs[j]? = some r := by simpa using h
    show (ruCells a ++ flatR rs)[(j + 1) * 6 + i]? = _
    have e : (ruCells a).length = 6 := rfl
    rw [List.getElem?_append_right (by omega), e, show (j + 1) * 6 + i - 6 = j * 6 + i by omega]
    exact flatR_at i hi rs j r h2
theorem owns_gr {w w' : World} {base size n : Nat} {e : TypeId} {v : Value} {xs : List Value} (h : w.ownsRow base e size v n xs) (hg : Gr w w') : w'.ownsRow base e size v n xs := by
  refine ⟨h.1, ?_⟩
  rcases h.2 with h2 | ⟨g, cap, cur, h3, h4, h5, h6⟩
  · exact .inl h2
  · exact .inr ⟨g, cap, cur, h3, h4, hg.heap h5, h6⟩
theorem owns_rules {w : World} {base : Nat} {v : Value} {rs : List Ru} (h : w.ownsRow base 118 6 v rs.length (flatR rs)) : RulesAt w v rs := by
  rcases h.2 with ⟨rfl, h2⟩ | ⟨g, cap, cur, rfl, h4, h5, h6⟩
  · exact .inl ⟨List.length_eq_zero_iff.1 h2, none, 0, rfl⟩
  · refine .inr ⟨g, 0, cap, rfl, cells_lt h5, fun j r hj => ?_⟩
    have hl := (List.getElem?_eq_some_iff.1 hj).1
    have key : ∀ i, i < 6 → w.cell? ⟨g, j * 6 + i, none⟩ = (ruCells r)[i]? := fun i hi => by
      rw [h.cellAt (j * 6 + i) (by omega)]
      exact flatR_at i hi rs j r hj
    rw [Nat.zero_add]
    exact ⟨key 0 (by omega), key 1 (by omega), key 2 (by omega), key 3 (by omega), key 4 (by omega), key 5 (by omega)⟩
theorem owns_days {w : World} {base : Nat} {v : Value} {ms : List Int} (h : w.ownsRow base 3 1 v ms.length (ms.map (Value.int .i64))) : DaysAt w v ms := by
  rcases h.2 with ⟨rfl, h2⟩ | ⟨g, cap, cur, rfl, h4, h5, h6⟩
  · exact .inl ⟨List.length_eq_zero_iff.1 h2, none, 0, rfl⟩
  · refine .inr ⟨g, 0, cap, rfl, cells_lt h5, fun j x hj => ?_⟩
    have hl := (List.getElem?_eq_some_iff.1 hj).1
    rw [Nat.zero_add, h.cellAt j (by omega), List.getElem?_map, hj]
    rfl
theorem cell_six_new (w : World) (r : Ru) (t : TypeId) : ∀ j u, (ruCells r)[j]? = some u → (w.alloc (.cells #[.int .i64 r.kind, .int .i64 r.month, .int .i64 r.day, .int .i64 r.n, .int .i64 r.wd, .bool r.sh] t)).cell? ((⟨w.heap.size, 0, none⟩ : Addr).add j) = some u := by
  intro j u hj
  have hb := heap_alloc_new w (.cells #[.int .i64 r.kind, .int .i64 r.month, .int .i64 r.day, .int .i64 r.n, .int .i64 r.wd, .bool r.sh] t)
  have hl := (List.getElem?_eq_some_iff.1 hj).1
  have hl6 : j < 6 := hl
  have e : (⟨w.heap.size, 0, none⟩ : Addr).add j = ⟨w.heap.size, j, none⟩ := by rw [Go.WideShapes.add_plain, Nat.zero_add]
  rw [e, heap_cell hb j]
  rcases (by omega : j = 0 ∨ j = 1 ∨ j = 2 ∨ j = 3 ∨ j = 4 ∨ j = 5) with rfl | rfl | rfl | rfl | rfl | rfl <;> exact hj
/-- Of the first k rules those that may be. -/
def rulesK (rs : List Ru) (k : Nat) : List Ru := (rs.take k).filter mayR
def rulesL (rs : List Ru) : List Ru := rulesK rs 8
theorem rulesK_take {rs : List Ru} {k : Nat} {r : Ru} (h : rs[k]? = some r) : rs.take (k + 1) = rs.take k ++ [r] := by
  have hl := (List.getElem?_eq_some_iff.1 h).1
  have he := (List.getElem?_eq_some_iff.1 h).2
  rw [List.take_succ_eq_append_getElem hl, he]
theorem rulesK_hit {rs : List Ru} {k : Nat} {r : Ru} (h : rs[k]? = some r) (hm : mayR r = true) : rulesK rs (k + 1) = rulesK rs k ++ [r] := by
  unfold rulesK
  rw [rulesK_take h, List.filter_append]
  simp [hm]
theorem rulesK_miss {rs : List Ru} {k : Nat} {r : Ru} (h : rs[k]? = some r) (hm : mayR r = false) : rulesK rs (k + 1) = rulesK rs k := by
  unfold rulesK
  rw [rulesK_take h, List.filter_append]
  simp [hm]
theorem rulesK_le (rs : List Ru) (k : Nat) : (rulesK rs k).length ≤ k := by
  unfold rulesK
  have h1 := List.length_filter_le mayR (rs.take k)
  have h2 := List.length_take_le k rs
  omega
theorem rulesK_all {rs : List Ru} {k : Nat} (h : k = rs.length) (h8 : k ≤ 8) : rulesK rs k = rulesL rs := by
  unfold rulesL rulesK
  rw [List.take_of_length_le (by omega : rs.length ≤ k), List.take_of_length_le (by omega : rs.length ≤ 8)]
theorem rulesL_le (rs : List Ru) : (rulesL rs).length ≤ 8 := rulesK_le rs 8
theorem rulesL_may (rs : List Ru) : ∀ r ∈ rulesL rs, mayR r = true := fun r hr => (List.mem_filter.1 hr).2
def daysK (ms : List Int) (k : Nat) : List Int := (ms.take k).map fun x => x % 109573
def daysL (ms : List Int) : List Int := daysK ms 8
theorem daysK_next {ms : List Int} {k : Nat} {x : Int} (h : ms[k]? = some x) : daysK ms (k + 1) = daysK ms k ++ [x % 109573] := by
  have hl := (List.getElem?_eq_some_iff.1 h).1
  have he := (List.getElem?_eq_some_iff.1 h).2
  unfold daysK
  rw [List.take_succ_eq_append_getElem hl, he, List.map_append]
  rfl
theorem daysK_len {ms : List Int} {k : Nat} (h : k ≤ ms.length) : (daysK ms k).length = k := by
  unfold daysK
  rw [List.length_map, List.length_take]
  omega
theorem daysK_all {ms : List Int} {k : Nat} (h : k = ms.length) (h8 : k ≤ 8) : daysK ms k = daysL ms := by
  unfold daysL daysK
  rw [List.take_of_length_le (by omega : ms.length ≤ k), List.take_of_length_le (by omega : ms.length ≤ 8)]
theorem daysL_le (ms : List Int) : (daysL ms).length ≤ 8 := by
  unfold daysL daysK
  rw [List.length_map]
  exact List.length_take_le 8 ms
theorem daysL_in (ms : List Int) : ∀ d ∈ daysL ms, 0 ≤ d ∧ d ≤ 109572 := fun d hd => by
  obtain ⟨x, _, rfl⟩ := List.mem_map.1 hd
  omega
set_option maxRecDepth 100000 in
set_option maxHeartbeats 2000000 in
/-- rentierlaw6.rules. -/
theorem rules_calls (rs : List Ru) (v : Value) (w : World) (h : RulesAt w v rs) (hlen : rs.length ≤ 9223372036854775807) :
    Calls Tryz.prog 17 #[v] w fun e w' => (∃ u, e = .returned u ∧ RulesAt w' u (rulesL rs)) ∧ Gr w w' := by
  obtain ⟨i0, hi, hz0, hz1, hz2⟩ := info_parts infoRule
  have HMY := Lib.hid (fun r w => rmay_calls r w)
  unfold ruV at HMY
  rcases h with ⟨rfl, a, c, rfl⟩ | ⟨bb, off, c, rfl, hb, hc⟩
  · go_enter Tryz.func17, Tryz.ntmps17
    go_wp2
    refine wp_loop_rounds 1 ?_
    rw [rounds_succ]
    go_wp2
    go_ret
    exact ⟨⟨_, rfl, .inl ⟨rfl, none, 0, rfl⟩⟩, Gr.rf w⟩
  · have HC := Lib.hid hc
    have HB := Lib.hid hb
    clear hc hb
    go_enter Tryz.func17, Tryz.ntmps17
    go_wp2
    go_loopg [3, 4] 8 (fun g s3 s4 wr => ∃ k : Nat, k ≤ rs.length ∧ k ≤ 8 ∧ g = 8 - k ∧ s4 = .int .i64 k ∧ Hid (wr.ownsRow w.heap.size 118 6 s3 (rulesK rs k).length (flatR (rulesK rs k))) ∧ Hid (Gr w wr))
    case atStart => exact ⟨0, Nat.zero_le _, by omega, rfl, rfl, Lib.hid (World.ownsRow_nil _ _ _ _), Lib.hid (Gr.rf w)⟩
    case round =>
      obtain ⟨k, hk, hk8, hgg, rfl, HOW, HG⟩ := hrel
      have HGG := Lib.hid hgg
      clear hgg
      by_cases hlt : k < rs.length
      · have hltz : (k : Int) < (rs.length : Int) := by omega
        by_cases hlt8 : k < 8
        · have hlt8z : (k : Int) < 8 := by omega
          have hj : rs[k]? = some rs[k] := List.getElem?_eq_getElem hlt
          obtain ⟨c0, c1, c2, c3, c4, c5⟩ := HC.out k _ hj
          generalize rs[k] = r at hj c0 c1 c2 c3 c4 c5
          have HJ := Lib.hid hj
          have HCC := Lib.hid (And.intro c0 (And.intro c1 (And.intro c2 (And.intro c3 (And.intro c4 c5)))))
          have d0 := cell_gr HG.out HB.out c0
          have d1 := cell_gr HG.out HB.out c1
          have d2 := cell_gr HG.out HB.out c2
          have d3 := cell_gr HG.out HB.out c3
          have d4 := cell_gr HG.out HB.out c4
          have d5 := cell_gr HG.out HB.out c5
          clear hj c0 c1 c2 c3 c4 c5
          cases hm : mayR r with
          | false =>
            have hmy := fun w => HMY.out r w
            simp only [hm] at hmy
            have HMR := Lib.hid hmy
            have HK := Lib.hid (rulesK_miss HJ.out hm)
            clear hmy hm
            go_wp2_with (go_at_call 86; (with_reducible refine (HMR.out _).mono ?_); rintro ev w1 ⟨rfl, hg1⟩)
            go_roundg (8 - (k + 1))
            case measure => have := HGG.out; omega
            case rel => exact ⟨k + 1, by omega, by omega, rfl, by go_num, Lib.hid (by rw [HK.out]; exact owns_gr HOW.out hg1), Lib.hid (HG.out.tr hg1)⟩
          | true =>
            have hmy := fun w => HMY.out r w
            simp only [hm] at hmy
            have HMR := Lib.hid hmy
            have HK := Lib.hid (rulesK_hit HJ.out hm)
            have hkl := rulesK_le rs k
            clear hmy hm
            go_wp2_with fail
            refine (HMR.out _).mono ?_
            rintro ev w1 ⟨rfl, hg1⟩
            have HG1 := Lib.hid (HG.out.tr hg1)
            have HOW1 := Lib.hid (owns_gr HOW.out hg1)
            clear d0 d1 d2 d3 d4 d5 hg1
            have d0 := cell_gr HG1.out HB.out HCC.out.1
            have d1 := cell_gr HG1.out HB.out HCC.out.2.1
            have d2 := cell_gr HG1.out HB.out HCC.out.2.2.1
            have d3 := cell_gr HG1.out HB.out HCC.out.2.2.2.1
            have d4 := cell_gr HG1.out HB.out HCC.out.2.2.2.2.1
            have d5 := cell_gr HG1.out HB.out HCC.out.2.2.2.2.2
            go_wp2_with (at_builtin; refine wpList_append_own _ rfl _ _ 22 rfl w.heap.size 118 i0 (.agg #[.int .i64 0, .int .i64 0, .int .i64 0, .int .i64 0, .int .i64 0, .bool false]) 6 48 Tryz.underlying22 hi hz0 hz1 hz2 rfl (by decide) _ _ _ rfl (HOW1.out.alloc _) ⟨w1.heap.size, 0, none⟩ 1 1 (ruCells r) rfl rfl ?c1 ?c2 ?c3 ?c4 ?c5 ?_)
            case c1 => exact cell_six_new _ _ _
            case c2 => simp [ruCells, Value.oneCell']
            case c3 => simp only [maxLen]; omega
            case c4 => omega
            case c5 => have := HG1.out.size; simp; omega
            intro v' w2 hown1 hgrow _
            have HOW2 := Lib.hid hown1
            have HG2 := Lib.hid (show Gr w w2 from Below.grown (HG1.out.tr ((Gr.rf w1).alloc (Nat.le_refl _) _)) hgrow (by have := HG1.out.size; simp; omega) (fun j hj => (HOW1.out.lt j hj).1))
            clear hown1 hgrow d0 d1 d2 d3 d4 d5
            go_wp2
            go_roundg (8 - (k + 1))
            case measure => have := HGG.out; omega
            case rel => exact ⟨k + 1, by omega, by omega, rfl, by go_num, Lib.hid (by rw [HK.out, flatR_app, flatR_one, List.length_append]; exact HOW2.out), HG2⟩
        · have hlt8z : ¬ (k : Int) < 8 := by omega
          have hk8e : k = 8 := by omega
          subst hk8e
          have HRA := Lib.hid (owns_rules HOW.out)
          clear hlt8
          go_wp2
          go_ret
          exact ⟨⟨_, rfl, HRA.out⟩, HG.out⟩
      · have hltz : ¬ (k : Int) < (rs.length : Int) := by omega
        have hke : k = rs.length := by omega
        have HRA := Lib.hid (owns_rules HOW.out)
        rw [rulesK_all hke hk8] at HRA
        clear hlt hke
        go_wp2
        go_ret
        exact ⟨⟨_, rfl, HRA.out⟩, HG.out⟩
set_option maxRecDepth 100000 in
set_option maxHeartbeats 2000000 in
/-- rentierlaw6.days. -/
theorem days_calls (ms : List Int) (v : Value) (w : World) (h : DaysAt w v ms) (hlen : ms.length ≤ 9223372036854775807) :
    Calls Tryz.prog 18 #[v] w fun e w' => (∃ u, e = .returned u ∧ DaysAt w' u (daysL ms)) ∧ Gr w w' := by
  obtain ⟨i0, hi, hz0, hz1, hz2⟩ := info_parts infoI64
  have HDY := Lib.hid (fun x w => day6_calls x w)
  rcases h with ⟨rfl, a, c, rfl⟩ | ⟨bb, off, c, rfl, hb, hc⟩
  · go_enter Tryz.func18, Tryz.ntmps18
    go_wp2
    refine wp_loop_rounds 1 ?_
    rw [rounds_succ]
    go_wp2
    go_ret
    exact ⟨⟨_, rfl, .inl ⟨rfl, none, 0, rfl⟩⟩, Gr.rf w⟩
  · have HC := Lib.hid hc
    have HB := Lib.hid hb
    clear hc hb
    go_enter Tryz.func18, Tryz.ntmps18
    go_wp2
    go_loopg [3, 4] 8 (fun g s3 s4 wr => ∃ k : Nat, k ≤ ms.length ∧ k ≤ 8 ∧ g = 8 - k ∧ s4 = .int .i64 k ∧ Hid (wr.ownsRow w.heap.size 3 1 s3 (daysK ms k).length ((daysK ms k).map (Value.int .i64))) ∧ Hid (Gr w wr))
    case atStart => exact ⟨0, Nat.zero_le _, by omega, rfl, rfl, Lib.hid (World.ownsRow_nil _ _ _ _), Lib.hid (Gr.rf w)⟩
    case round =>
      obtain ⟨k, hk, hk8, hgg, rfl, HOW, HG⟩ := hrel
      have HGG := Lib.hid hgg
      clear hgg
      by_cases hlt : k < ms.length
      · have hltz : (k : Int) < (ms.length : Int) := by omega
        by_cases hlt8 : k < 8
        · have hlt8z : (k : Int) < 8 := by omega
          have hj : ms[k]? = some ms[k] := List.getElem?_eq_getElem hlt
          have c0 := HC.out k _ hj
          generalize ms[k] = x at hj c0
          have d0 := cell_gr HG.out HB.out c0
          have HK := Lib.hid (daysK_next hj)
          have HDX := Lib.hid (fun w => HDY.out x w)
          have hkl := daysK_len hk
          generalize hx : x % 109573 = q at HK HDX
          have hb1 := HG.out.size
          clear hj c0 hx
          go_wp2_with (first | (go_at_call 21; (with_reducible refine (HDX.out _).mono ?_); rintro ev w1 ⟨rfl, rfl⟩) | (at_builtin; refine wpList_append_own _ rfl _ _ 23 rfl w.heap.size 3 i0 (.int .i64 0) 1 8 Tryz.underlying23 hi hz0 hz1 hz2 rfl (by decide) _ _ _ rfl (HOW.out.alloc _) ⟨wr.heap.size, 0, none⟩ 1 1 [.int .i64 q] rfl rfl (cell_one_new _ _ _) (fun x hx => by simp at hx; subst hx; rfl) (by simp only [maxLen]; omega) (by omega) (by simp; omega) ?_; intro v' w2 hown1 hgrow _))
          have HOW2 := Lib.hid hown1
          have HG2 := Lib.hid (show Gr w w2 from Below.grown (HG.out.tr ((Gr.rf wr).alloc (Nat.le_refl _) _)) hgrow (by have := HG.out.size; simp; omega) (fun j hj => (HOW.out.lt j hj).1))
          clear hown1 hgrow d0
          go_wp2
          go_roundg (8 - (k + 1))
          case measure => have := HGG.out; omega
          case rel => exact ⟨k + 1, by omega, by omega, rfl, by go_num, Lib.hid (by rw [HK.out, List.map_append, List.length_append]; exact HOW2.out), HG2⟩
        · have hlt8z : ¬ (k : Int) < 8 := by omega
          have hk8e : k = 8 := by omega
          subst hk8e
          have HRA := Lib.hid (owns_days HOW.out)
          clear hlt8
          go_wp2
          go_ret
          exact ⟨⟨_, rfl, HRA.out⟩, HG.out⟩
      · have hltz : ¬ (k : Int) < (ms.length : Int) := by omega
        have hke : k = ms.length := by omega
        have HRA := Lib.hid (owns_days HOW.out)
        rw [daysK_all hke hk8] at HRA
        clear hlt hke
        go_wp2
        go_ret
        exact ⟨⟨_, rfl, HRA.out⟩, HG.out⟩
end Go.Proofs.YtglbdafcfcmffaaGreatDoor
