/- Layer 1: errors.as, errors.As and errors.Is of two errors that are joined. -/
import Derived.Test.YtepngojepaeikaaDoorFq
namespace Go.Proofs.YtepngojepaeikaaDoor
open Go.RowKit Go.Extern.Stop Go.Stop Go.Extern
set_option linter.unusedVariables false
set_option linter.unusedSimpArgs false

set_option maxHeartbeats 4000000 in
set_option maxRecDepth 100000 in
theorem as33_fault (b t a : Nat) (cs : Array Value) (c : Int) (old : Value) (w : World) (ha : w.cell? ⟨a, 0, none⟩ = some (.pointer (some ⟨t, 0, none⟩))) (ht : w.heap[t]? = some (.cells #[old] 34 (0, 0)))
    (hb : w.heap[b]? = some (.cells cs 48 (0, 0))) (hc : cs[0]? = some (.int .i64 c)) (hbt : b ≠ t) :
    Calls Tryd.prog 33 #[.iface 34 (.pointer (some ⟨b, 0, none⟩)), .iface 57 (.pointer (some ⟨t, 0, none⟩)), (.agg #[.pointer (some ⟨4, 57, none⟩), .pointer (some ⟨a, 0, none⟩), .int .u64 150]), (.iface 74 (.agg #[.pointer (some ⟨4, 34, none⟩)]))] w fun ev w' => ev = .returned (.bool true) ∧ AsLeft w w' t b c := by
  have h6 := @run_callFunc_extern Tryd.prog 30 _ (fun args => ReflectliteValue.unpack (args.getD 0 (.tuple #[]))) Tryd.func30 (by kernel_rfl) (by kernel_rfl) (by kernel_rfl) (by kernel_rfl)
  have h10 := @run_callFunc_extern Tryd.prog 24 _ ReflectliteType.typeOf Tryd.func24 (by kernel_rfl) (by kernel_rfl) (by kernel_rfl) (by kernel_rfl)
  have h35 := @run_callFunc_extern Tryd.prog 75 _ (ReflectliteType.relation "AssignableTo" ReflectliteType.assignableTo) Tryd.func75 (by kernel_rfl) (by kernel_rfl) (by kernel_rfl) (by kernel_rfl)
  have h11 := @run_callFunc_extern Tryd.prog 36 _ (ReflectliteValue.method (ReflectliteValue.valueError "reflectlite.Value.Elem" 0) ReflectliteValue.elem) Tryd.func36 (by kernel_rfl) (by kernel_rfl) (by kernel_rfl) (by kernel_rfl)
  have h12 := @run_callFunc_extern Tryd.prog 37 _ ReflectliteValue.set Tryd.func37 (by kernel_rfl) (by kernel_rfl) (by kernel_rfl) (by kernel_rfl)
  have tO := Tryd.typeOfF
  have a25 := Tryd.assignF
  have v25 := Tryd.valueOfF
  have htl : t < w.heap.size := (Array.getElem?_eq_some_iff.1 ht).1
  have hbl : b < w.heap.size := (Array.getElem?_eq_some_iff.1 hb).1
  have hal : a < w.heap.size := World.block_lt_of_cell? w _ ha
  have ht0 : w.cell? ⟨t, 0, none⟩ = some old := by rw [heap_cell ht]; rfl
  have hf0 : w.frozen? ⟨t, 0, none⟩ = false := by simp [World.frozen?, ht]
  have el := Tryd.elemVT ⟨a, 0, none⟩ ⟨t, 0, none⟩ (w.alloc (.cells #[.pointer (some ⟨4, 57, none⟩), .pointer (some ⟨a, 0, none⟩), .int .u64 150] 83)) (by rw [World.cell?_alloc_lt _ _ ⟨a, 0, none⟩ hal]; exact ha)
  have st := Tryd.setF ⟨t, 0, none⟩ ⟨w.heap.size + 1, 0, none⟩ ⟨b, 0, none⟩ old ((w.alloc (.cells #[.pointer (some ⟨4, 57, none⟩), .pointer (some ⟨a, 0, none⟩), .int .u64 150] 83)).alloc (.cells #[.pointer (some ⟨b, 0, none⟩)] 34))
    (by rw [World.cell?_alloc_at _ _ _ _ (by simp)]; rfl)
    (by rw [World.cell?_alloc_lt _ _ ⟨t, 0, none⟩ (by simp <;> omega), World.cell?_alloc_lt _ _ ⟨t, 0, none⟩ htl]; exact ht0)
    (by rw [World.frozen?_alloc_old _ _ ⟨t, 0, none⟩ (by simp <;> omega), World.frozen?_alloc_old _ _ ⟨t, 0, none⟩ (Nat.ne_of_lt htl)]; exact hf0)
  have Hb := Lib.hid hb
  have Hc := Lib.hid hc
  have Ht := Lib.hid ht
  have Hbt := Lib.hid hbt
  have H0 := Lib.hid ht0
  clear hb hc ht hbt ht0 hf0 ha
  go_enter Tryd.func33, Tryd.ntmps33
  go_wp2
  refine wp_loop_rounds 1 ?_
  rw [rounds_succ]
  go_wp2
  go_ret
  refine ⟨rfl, ?_, ?_, by go_grown⟩
  · rw [World.cell?_alloc_lt _ _ ⟨t, 0, none⟩ (by simp <;> omega), World.cell?_alloc_lt _ _ ⟨t, 0, none⟩ (by simpa using htl)]; exact World.cell?_setCell_same _ _ _ H0.out
  · have := Hbt.out; rw [World.cell?_alloc_lt _ _ ⟨b, 0, none⟩ (by simp <;> omega), World.cell?_alloc_lt _ _ ⟨b, 0, none⟩ (by simpa using hbl), World.cell?_setCell_other _ _ _ _ (by simp <;> omega), heap_cell Hb.out]; exact Hc.out

set_option maxHeartbeats 4000000 in
set_option maxRecDepth 100000 in
theorem as33_text (x : Value) (t a : Nat) (w : World) :
    Calls Tryd.prog 33 #[.iface 66 x, .iface 57 (.pointer (some ⟨t, 0, none⟩)), (.agg #[.pointer (some ⟨4, 57, none⟩), .pointer (some ⟨a, 0, none⟩), .int .u64 150]), (.iface 74 (.agg #[.pointer (some ⟨4, 34, none⟩)]))] w fun ev w' => ev = .returned (.bool false) ∧ Gr w w' := by
  have h10 := @run_callFunc_extern Tryd.prog 24 _ ReflectliteType.typeOf Tryd.func24 (by kernel_rfl) (by kernel_rfl) (by kernel_rfl) (by kernel_rfl)
  have h35 := @run_callFunc_extern Tryd.prog 75 _ (ReflectliteType.relation "AssignableTo" ReflectliteType.assignableTo) Tryd.func75 (by kernel_rfl) (by kernel_rfl) (by kernel_rfl) (by kernel_rfl)
  have tO := Tryd.typeOfX
  have a25 := Tryd.assignX
  have hA := Tryd.noAsX
  have hU := Tryd.noUnwrapX
  have hV := Tryd.noUnwrapsX
  go_enter Tryd.func33, Tryd.ntmps33
  go_wp2
  refine wp_loop_rounds 1 ?_
  rw [rounds_succ]
  go_wp2
  go_ret
  exact ⟨rfl, by go_grown⟩

theorem Tryd.typeOfJ (v : Value) (w : World) : (ReflectliteType.typeOf #[.iface 70 v]).run Tryd.prog w = .ok (.iface 74 (.agg #[.pointer (some ⟨4, 70, none⟩)])) w := by kernel_rfl
theorem Tryd.assignJ (w : World) : (ReflectliteType.relation "AssignableTo" ReflectliteType.assignableTo #[.agg #[.pointer (some ⟨4, 70, none⟩)], .iface 74 (.agg #[.pointer (some ⟨4, 34, none⟩)])]).run Tryd.prog w = .ok (.bool false) w := by kernel_rfl
theorem Tryd.noAsJ (v : Value) (xT : TypeId) (w : World) : (Instr.typeAssert (.iface 70 v) xT 94 true).run Tryd.prog w = .ok (.tuple #[.nilIface, .bool false]) w := run_typeAssert_lacksB Tryd.underlying94 (by kernel_rfl) (by kernel_rfl) v xT w
theorem Tryd.noIsJ (v : Value) (xT : TypeId) (w : World) : (Instr.typeAssert (.iface 70 v) xT 76 true).run Tryd.prog w = .ok (.tuple #[.nilIface, .bool false]) w := run_typeAssert_lacksB Tryd.underlying76 (by kernel_rfl) (by kernel_rfl) v xT w
theorem Tryd.noUnwrapJ (v : Value) (xT : TypeId) (w : World) : (Instr.typeAssert (.iface 70 v) xT 49 true).run Tryd.prog w = .ok (.tuple #[.nilIface, .bool false]) w := run_typeAssert_lacksB Tryd.underlying49 (by kernel_rfl) (by kernel_rfl) v xT w
theorem Tryd.hasUnwrapsJ (v : Value) (xT : TypeId) (w : World) : (Instr.typeAssert (.iface 70 v) xT 78 true).run Tryd.prog w = .ok (.tuple #[.iface 70 v, .bool true]) w := run_typeAssert_hasB Tryd.underlying78 (by kernel_rfl) v xT w
theorem joinUnwrap_calls (b : Nat) (r : Value) (w : World) (hc : w.cell? ⟨b, 0, none⟩ = some r) :
    Calls Tryd.prog 73 #[.pointer (some ⟨b, 0, none⟩)] w fun e w' => e = .returned r ∧ w = w' := by
  go_enter Tryd.func73, Tryd.ntmps73
  go_wp2
  go_ret
  exact ⟨rfl, rfl⟩
theorem eql_join (v tv : Value) (t : Tg) (w : World) (ht : TgAt w tv t) : (binOp .eql 24 (.iface 70 v) tv).run Tryd.prog w = .ok (.bool false) w := by
  cases ht <;> exact run_eql_iface_types _ _ _ _ Tryd.underlying24 (by decide) w

set_option maxHeartbeats 4000000 in
set_option maxRecDepth 100000 in
theorem is_join (v tv v1 v2 : Value) (e1 e2 : Er) (t : Tg) (w : World) (h : JoinAt w v v1 v2) (hx1 : ErAt w v1 e1) (hx2 : ErAt w v2 e2) (ht : TgAt w tv t) (hn1 : e1 ≠ .nil) (hn2 : e2 ≠ .nil) :
    Calls Tryd.prog 25 #[v, tv, .bool true] w fun ev w' => ev = .returned (.bool (e1.isT t || e2.isT t)) ∧ w = w' := by
  obtain ⟨b, r, B, rfl, hb, hown⟩ := h.at_
  obtain ⟨g, cap, rfl, hgB, hgl, hcell⟩ := owns_at hown (by omega)
  have c0 : w.cell? ⟨g, 0, none⟩ = some v1 := hcell 0 (by omega)
  have c1 : w.cell? ⟨g, 1, none⟩ = some v2 := hcell 1 (by omega)
  have hU := Lib.hid (joinUnwrap_calls b _ w (by rw [heap_cell hb]; rfl))
  have heq := eql_join (.pointer (some ⟨b, 0, none⟩)) tv t w ht
  have H1 := Lib.hid (is_calls v1 tv e1 t w hx1 ht hn1)
  have H2 := Lib.hid (is_calls v2 tv e2 t w hx2 ht hn2)
  have i1 := Tryd.noIsJ
  have i2 := Tryd.noUnwrapJ
  have i3 := Tryd.hasUnwrapsJ
  clear h hx1 hx2 ht hn1 hn2 hb hown hcell
  cases hr1 : e1.isT t
  all_goals
    rw [hr1] at H1
    have HR := Lib.hid hr1
    clear hr1
  · cases hr2 : e2.isT t
    all_goals
      rw [hr2] at H2
      have HR2 := Lib.hid hr2
      clear hr2
      go_enter Tryd.func25, Tryd.ntmps25
      go_wp2
      refine wp_loop_rounds 1 ?_
      rw [rounds_succ]
      go_wp2_with (go_at_call 73; (with_reducible refine hU.out.mono ?_); rintro ev w2 ⟨rfl, rfl⟩)
      refine wp_loop_rounds 3 ?_
      rw [rounds_succ]
      go_wp2_with (go_at_call 25; (with_reducible refine H1.out.mono ?_); rintro ev w2 ⟨rfl, rfl⟩)
      rw [rounds_succ]
      go_wp2_with (go_at_call 25; (with_reducible refine H2.out.mono ?_); rintro ev w2 ⟨rfl, rfl⟩)
      first
        | (rw [rounds_succ]; go_wp2; go_ret; exact ⟨ret_bool rfl, rfl⟩)
        | (go_ret; exact ⟨ret_bool rfl, rfl⟩)
  · go_enter Tryd.func25, Tryd.ntmps25
    go_wp2
    refine wp_loop_rounds 1 ?_
    rw [rounds_succ]
    go_wp2_with (go_at_call 73; (with_reducible refine hU.out.mono ?_); rintro ev w2 ⟨rfl, rfl⟩)
    refine wp_loop_rounds 3 ?_
    rw [rounds_succ]
    go_wp2_with (go_at_call 25; (with_reducible refine H1.out.mono ?_); rintro ev w2 ⟨rfl, rfl⟩)
    go_ret
    exact ⟨rfl, rfl⟩

set_option maxHeartbeats 4000000 in
set_option maxRecDepth 100000 in
theorem Is_join (v tv v1 v2 : Value) (e1 e2 : Er) (t : Tg) (w : World) (h : JoinAt w v v1 v2) (hx1 : ErAt w v1 e1) (hx2 : ErAt w v2 e2) (ht : TgAt w tv t) (hn1 : e1 ≠ .nil) (hn2 : e2 ≠ .nil) :
    Calls Tryd.prog 15 #[v, tv] w fun ev w' => ev = .returned (.bool (e1.isT t || e2.isT t)) ∧ w = w' := by
  have h24 := @run_callFunc_extern Tryd.prog 24 _ ReflectliteType.typeOf Tryd.func24 (by kernel_rfl) (by kernel_rfl) (by kernel_rfl) (by kernel_rfl)
  have c1 := Tryd.compP
  have c2 := Tryd.compF
  have c3 := Tryd.compX
  have t1 := Tryd.typeOfP
  have t2 := Tryd.typeOfF
  have t3 := Tryd.typeOfX
  have HI := Lib.hid (is_join v tv v1 v2 e1 e2 t w h hx1 hx2 ht hn1 hn2)
  obtain ⟨b, r, B, rfl, hb, hown⟩ := h.at_
  clear h hx1 hx2 hn1 hn2 hb hown
  cases ht with
  | code d =>
    go_enter Tryd.func15, Tryd.ntmps15
    go_wp2_with (go_at_call 25; (with_reducible refine HI.out.mono ?_); rintro ev w3 ⟨rfl, rfl⟩)
    go_ret
    exact ⟨rfl, rfl⟩
  | _ b2 cs2 hb2 =>
    clear hb2
    go_enter Tryd.func15, Tryd.ntmps15
    go_wp2_with (go_at_call 25; (with_reducible refine HI.out.mono ?_); rintro ev w3 ⟨rfl, rfl⟩)
    go_ret
    exact ⟨rfl, rfl⟩
end Go.Proofs.YtepngojepaeikaaDoor
