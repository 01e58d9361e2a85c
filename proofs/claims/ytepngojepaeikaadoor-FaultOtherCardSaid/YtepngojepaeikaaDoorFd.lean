/- Layer 1: errors.As at a fault.plain and at a text of another making; fault.Code by contract. -/
import Derived.Test.YtepngojepaeikaaDoorFc
namespace Go.Proofs.YtepngojepaeikaaDoor
open Go.RowKit Go.Extern.Stop Go.Stop Go.Extern
set_option linter.unusedVariables false
set_option linter.unusedSimpArgs false

/-! ### closed facts on method sets -/
theorem Tryd.hasAsP (v : Value) (xT : TypeId) (w : World) : (Instr.typeAssert (.iface 55 v) xT 94 true).run Tryd.prog w = .ok (.tuple #[.iface 55 v, .bool true]) w := run_typeAssert_hasB Tryd.underlying94 (by kernel_rfl) v xT w
theorem Tryd.noAsX (v : Value) (xT : TypeId) (w : World) : (Instr.typeAssert (.iface 66 v) xT 94 true).run Tryd.prog w = .ok (.tuple #[.nilIface, .bool false]) w := run_typeAssert_lacksB Tryd.underlying94 (by kernel_rfl) (by kernel_rfl) v xT w
theorem Tryd.noUnwrapX (v : Value) (xT : TypeId) (w : World) : (Instr.typeAssert (.iface 66 v) xT 49 true).run Tryd.prog w = .ok (.tuple #[.nilIface, .bool false]) w := run_typeAssert_lacksB Tryd.underlying49 (by kernel_rfl) (by kernel_rfl) v xT w
theorem Tryd.noUnwrapsX (v : Value) (xT : TypeId) (w : World) : (Instr.typeAssert (.iface 66 v) xT 78 true).run Tryd.prog w = .ok (.tuple #[.nilIface, .bool false]) w := run_typeAssert_lacksB Tryd.underlying78 (by kernel_rfl) (by kernel_rfl) v xT w

theorem Tryd.castTT (v : Value) (w : World) : (Instr.typeAssert (.iface 57 v) 20 57 true).run Tryd.prog w = .ok (.tuple #[v, .bool true]) w := by kernel_rfl
theorem Tryd.castFF (v : Value) (w : World) : (Instr.typeAssert (.iface 34 v) 24 34 true).run Tryd.prog w = .ok (.tuple #[v, .bool true]) w := by kernel_rfl
theorem Tryd.castPF (v : Value) (w : World) : (Instr.typeAssert (.iface 55 v) 24 34 true).run Tryd.prog w = .ok (.tuple #[.pointer none, .bool false]) w := by kernel_rfl
theorem Tryd.castXF (v : Value) (w : World) : (Instr.typeAssert (.iface 66 v) 24 34 true).run Tryd.prog w = .ok (.tuple #[.pointer none, .bool false]) w := by kernel_rfl
theorem Tryd.castPP (v : Value) (w : World) : (Instr.typeAssert (.iface 55 v) 24 55 true).run Tryd.prog w = .ok (.tuple #[v, .bool true]) w := by kernel_rfl
theorem Tryd.castFP (v : Value) (w : World) : (Instr.typeAssert (.iface 34 v) 24 55 true).run Tryd.prog w = .ok (.tuple #[.int .i64 0, .bool false]) w := by kernel_rfl
theorem Tryd.castXP (v : Value) (w : World) : (Instr.typeAssert (.iface 66 v) 24 55 true).run Tryd.prog w = .ok (.tuple #[.int .i64 0, .bool false]) w := by kernel_rfl

theorem plainAs_calls (c : Int) (t : Nat) (old : Value) (w : World) (ht : w.heap[t]? = some (.cells #[old] 34 (0, 0))) :
    Calls Tryd.prog 69 #[.int .i64 c, .iface 57 (.pointer (some ⟨t, 0, none⟩))] w fun ev w' => ev = .returned (.bool true) ∧ AsLeft w w' t w.heap.size c := by
  have htl : t < w.heap.size := (Array.getElem?_eq_some_iff.1 ht).1
  have ht0 : w.cell? ⟨t, 0, none⟩ = some old := by rw [heap_cell ht]; rfl
  have hf0 : w.frozen? ⟨t, 0, none⟩ = false := by simp [World.frozen?, ht]
  have Ht := Lib.hid ht
  have hcast := Tryd.castTT
  clear ht
  go_enter Tryd.func69, Tryd.ntmps69
  go_wp2
  go_ret
  refine ⟨rfl, ?_, ?_, by go_grown⟩
  · rw [World.cell?_alloc_lt _ _ ⟨t, 0, none⟩ (by simpa using htl)]; exact World.cell?_setCell_same _ _ _ ht0
  · rw [World.cell?_alloc_at _ _ _ _ (by simp)]; rfl

set_option maxHeartbeats 4000000 in
theorem as_plain (c : Int) (t : Nat) (old : Value) (w : World) (hg : Has w) (ht : w.heap[t]? = some (.cells #[old] 34 (0, 0))) :
    Calls Tryd.prog 26 #[.iface 55 (.int .i64 c), .iface 57 (.pointer (some ⟨t, 0, none⟩))] w fun ev w' => ev = .returned (.bool true) ∧ ∃ b, AsLeft w w' t b c := by
  unfold Has at hg
  have h6 := @run_callFunc_extern Tryd.prog 30 _ (fun args => ReflectliteValue.unpack (args.getD 0 (.tuple #[]))) Tryd.func30 (by kernel_rfl) (by kernel_rfl) (by kernel_rfl) (by kernel_rfl)
  have h7 := @run_callFunc_extern Tryd.prog 31 _ (ReflectliteValue.methodAny (ReflectliteValue.valueError "reflectlite.Value.Type" 0) (fun t _ _ _ => ReflectliteType.toType t)) Tryd.func31 (by kernel_rfl) (by kernel_rfl) (by kernel_rfl) (by kernel_rfl)
  have h8 := @run_callFunc_extern Tryd.prog 32 _ (ReflectliteValue.method (ReflectliteValue.valueError "reflectlite.Value.IsNil" 0) ReflectliteValue.isNil) Tryd.func32 (by kernel_rfl) (by kernel_rfl) (by kernel_rfl) (by kernel_rfl)
  have h27 := @run_callFunc_extern Tryd.prog 66 _ (ReflectliteType.abiMethod fun t => do pure (.int .u8 (← Rtype.kind t))) Tryd.func66 (by kernel_rfl) (by kernel_rfl) (by kernel_rfl) (by kernel_rfl)
  have h37 := @run_callFunc_extern Tryd.prog 77 _ (ReflectliteType.method ReflectliteType.elem) Tryd.func77 (by kernel_rfl) (by kernel_rfl) (by kernel_rfl) (by kernel_rfl)
  have h38 := @run_callFunc_extern Tryd.prog 78 _ (ReflectliteType.relation "Implements" ReflectliteType.implements_) Tryd.func78 (by kernel_rfl) (by kernel_rfl) (by kernel_rfl) (by kernel_rfl)
  have h10 := @run_callFunc_extern Tryd.prog 24 _ ReflectliteType.typeOf Tryd.func24 (by kernel_rfl) (by kernel_rfl) (by kernel_rfl) (by kernel_rfl)
  have h35 := @run_callFunc_extern Tryd.prog 75 _ (ReflectliteType.relation "AssignableTo" ReflectliteType.assignableTo) Tryd.func75 (by kernel_rfl) (by kernel_rfl) (by kernel_rfl) (by kernel_rfl)
  have h11 := @run_callFunc_extern Tryd.prog 36 _ (ReflectliteValue.method (ReflectliteValue.valueError "reflectlite.Value.Elem" 0) ReflectliteValue.elem) Tryd.func36 (by kernel_rfl) (by kernel_rfl) (by kernel_rfl) (by kernel_rfl)
  have h12 := @run_callFunc_extern Tryd.prog 37 _ ReflectliteValue.set Tryd.func37 (by kernel_rfl) (by kernel_rfl) (by kernel_rfl) (by kernel_rfl)
  have tO := Tryd.typeOfP
  have a25 := Tryd.assignP
  have v25 := Tryd.valueOfF
  have f6 := Tryd.valueOfT
  have f7 := Tryd.typeT
  have k27 := Tryd.kindT
  have k25 := Tryd.kindF
  have e27 := Tryd.elemTyT
  have i25 := Tryd.implementsF
  have hA := Tryd.hasAsP
  have htl : t < w.heap.size := (Array.getElem?_eq_some_iff.1 ht).1
  have hgl : 0 < w.heap.size := World.block_lt_of_cell? w _ hg
  have n8 := Tryd.isNilT ⟨w.heap.size, 0, none⟩ ⟨t, 0, none⟩ ((w.alloc (.cells #[.pointer (some ⟨t, 0, none⟩)] 57)).alloc (.cells #[.pointer (some ⟨4, 57, none⟩), .pointer (some ⟨w.heap.size, 0, none⟩), .int .u64 150] 83)) (by simp)
  have hg2 : ((w.alloc (.cells #[.pointer (some ⟨t, 0, none⟩)] 57)).alloc (.cells #[.pointer (some ⟨4, 57, none⟩), .pointer (some ⟨w.heap.size, 0, none⟩), .int .u64 150] 83)).cell? ⟨0, 0, none⟩ = some (.iface 74 (.agg #[.pointer (some ⟨4, 24, none⟩)])) := by
    rw [World.cell?_alloc_lt _ _ ⟨0, 0, none⟩ (by simp <;> omega), World.cell?_alloc_lt _ _ ⟨0, 0, none⟩ hgl]; exact hg
  have hP := fun W' (h : W'.heap[t]? = some (.cells #[old] 34 (0, 0))) => plainAs_calls c t old W' h
  have HP := Lib.hid hP
  have Ht := Lib.hid ht
  clear ht hg hP
  go_enter Tryd.func26, Tryd.ntmps26
  go_wp2
  refine wp_loop_rounds 1 ?_
  rw [rounds_succ]
  go_wp2_with (go_at_call 69; refine (HP.out _ ?_).mono ?_; rotate_left; rintro e w1 ⟨rfl, hl⟩)
  · go_ret
    obtain ⟨hl1, hl2, hl3⟩ := hl
    exact ⟨rfl, _, hl1, hl2, Below.trans (by go_grown) hl3⟩
  · have := Ht.out
    rw [Below.heap_alloc _ _ _ (by simp <;> omega), Below.heap_alloc _ _ _ (by simp <;> omega), Below.heap_alloc _ _ _ htl]; exact Ht.out
end Go.Proofs.YtepngojepaeikaaDoor
