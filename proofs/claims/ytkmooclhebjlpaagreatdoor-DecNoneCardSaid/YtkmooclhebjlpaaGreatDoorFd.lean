/- Layer 1: errors.As at a fault.plain and at a text of another making; fault.Code by contract. -/
import Derived.Test.YtkmooclhebjlpaaGreatDoorFc
namespace Go.Proofs.YtkmooclhebjlpaaGreatDoor
open Go.RowKit Go.Extern.Stop Go.Stop Go.Extern
set_option linter.unusedVariables false
set_option linter.unusedSimpArgs false

/-! ### closed facts on method sets -/
theorem Tryz.hasAsP (v : Value) (xT : TypeId) (w : World) : (Instr.typeAssert (.iface 107 v) xT 187 true).run Tryz.prog w = .ok (.tuple #[.iface 107 v, .bool true]) w := run_typeAssert_hasB Tryz.underlying187 (by kernel_rfl) v xT w
theorem Tryz.noAsX (v : Value) (xT : TypeId) (w : World) : (Instr.typeAssert (.iface 210 v) xT 187 true).run Tryz.prog w = .ok (.tuple #[.nilIface, .bool false]) w := run_typeAssert_lacksB Tryz.underlying187 (by kernel_rfl) (by kernel_rfl) v xT w
theorem Tryz.noUnwrapX (v : Value) (xT : TypeId) (w : World) : (Instr.typeAssert (.iface 210 v) xT 190 true).run Tryz.prog w = .ok (.tuple #[.nilIface, .bool false]) w := run_typeAssert_lacksB Tryz.underlying190 (by kernel_rfl) (by kernel_rfl) v xT w
theorem Tryz.noUnwrapsX (v : Value) (xT : TypeId) (w : World) : (Instr.typeAssert (.iface 210 v) xT 192 true).run Tryz.prog w = .ok (.tuple #[.nilIface, .bool false]) w := run_typeAssert_lacksB Tryz.underlying192 (by kernel_rfl) (by kernel_rfl) v xT w

theorem Tryz.castTT (v : Value) (w : World) : (Instr.typeAssert (.iface 128 v) 20 128 true).run Tryz.prog w = .ok (.tuple #[v, .bool true]) w := by kernel_rfl
theorem Tryz.castFF (v : Value) (w : World) : (Instr.typeAssert (.iface 126 v) 26 126 true).run Tryz.prog w = .ok (.tuple #[v, .bool true]) w := by kernel_rfl
theorem Tryz.castPF (v : Value) (w : World) : (Instr.typeAssert (.iface 107 v) 26 126 true).run Tryz.prog w = .ok (.tuple #[.pointer none, .bool false]) w := by kernel_rfl
theorem Tryz.castXF (v : Value) (w : World) : (Instr.typeAssert (.iface 210 v) 26 126 true).run Tryz.prog w = .ok (.tuple #[.pointer none, .bool false]) w := by kernel_rfl
theorem Tryz.castPP (v : Value) (w : World) : (Instr.typeAssert (.iface 107 v) 26 107 true).run Tryz.prog w = .ok (.tuple #[v, .bool true]) w := by kernel_rfl
theorem Tryz.castFP (v : Value) (w : World) : (Instr.typeAssert (.iface 126 v) 26 107 true).run Tryz.prog w = .ok (.tuple #[.int .i64 0, .bool false]) w := by kernel_rfl
theorem Tryz.castXP (v : Value) (w : World) : (Instr.typeAssert (.iface 210 v) 26 107 true).run Tryz.prog w = .ok (.tuple #[.int .i64 0, .bool false]) w := by kernel_rfl

theorem plainAs_calls (c : Int) (t : Nat) (old : Value) (w : World) (ht : w.heap[t]? = some (.cells #[old] 126 (0, 0))) :
    Calls Tryz.prog 172 #[.int .i64 c, .iface 128 (.pointer (some ⟨t, 0, none⟩))] w fun ev w' => ev = .returned (.bool true) ∧ AsLeft w w' t w.heap.size c := by
  have htl : t < w.heap.size := (Array.getElem?_eq_some_iff.1 ht).1
  have ht0 : w.cell? ⟨t, 0, none⟩ = some old := by rw [heap_cell ht]; rfl
  have hf0 : w.frozen? ⟨t, 0, none⟩ = false := by simp [World.frozen?, ht]
  have Ht := Lib.hid ht
  have hcast := Tryz.castTT
  clear ht
  go_enter Tryz.func172, Tryz.ntmps172
  go_wp2
  go_ret
  refine ⟨rfl, ?_, ?_, by go_grown⟩
  · rw [World.cell?_alloc_lt _ _ ⟨t, 0, none⟩ (by simpa using htl)]; exact World.cell?_setCell_same _ _ _ ht0
  · rw [World.cell?_alloc_at _ _ _ _ (by simp)]; rfl

set_option maxHeartbeats 4000000 in
theorem as_plain (c : Int) (t : Nat) (old : Value) (w : World) (hg : Has w) (ht : w.heap[t]? = some (.cells #[old] 126 (0, 0))) :
    Calls Tryz.prog 94 #[.iface 107 (.int .i64 c), .iface 128 (.pointer (some ⟨t, 0, none⟩))] w fun ev w' => ev = .returned (.bool true) ∧ ∃ b, AsLeft w w' t b c := by
  unfold Has at hg
  have h6 := @run_callFunc_extern Tryz.prog 117 _ (fun args => ReflectliteValue.unpack (args.getD 0 (.tuple #[]))) Tryz.func117 (by kernel_rfl) (by kernel_rfl) (by kernel_rfl) (by kernel_rfl)
  have h7 := @run_callFunc_extern Tryz.prog 118 _ (ReflectliteValue.methodAny (ReflectliteValue.valueError "reflectlite.Value.Type" 0) (fun t _ _ _ => ReflectliteType.toType t)) Tryz.func118 (by kernel_rfl) (by kernel_rfl) (by kernel_rfl) (by kernel_rfl)
  have h8 := @run_callFunc_extern Tryz.prog 119 _ (ReflectliteValue.method (ReflectliteValue.valueError "reflectlite.Value.IsNil" 0) ReflectliteValue.isNil) Tryz.func119 (by kernel_rfl) (by kernel_rfl) (by kernel_rfl) (by kernel_rfl)
  have h27 := @run_callFunc_extern Tryz.prog 169 _ (ReflectliteType.abiMethod fun t => do pure (.int .u8 (← Rtype.kind t))) Tryz.func169 (by kernel_rfl) (by kernel_rfl) (by kernel_rfl) (by kernel_rfl)
  have h37 := @run_callFunc_extern Tryz.prog 197 _ (ReflectliteType.method ReflectliteType.elem) Tryz.func197 (by kernel_rfl) (by kernel_rfl) (by kernel_rfl) (by kernel_rfl)
  have h38 := @run_callFunc_extern Tryz.prog 198 _ (ReflectliteType.relation "Implements" ReflectliteType.implements_) Tryz.func198 (by kernel_rfl) (by kernel_rfl) (by kernel_rfl) (by kernel_rfl)
  have h10 := @run_callFunc_extern Tryz.prog 135 _ ReflectliteType.typeOf Tryz.func135 (by kernel_rfl) (by kernel_rfl) (by kernel_rfl) (by kernel_rfl)
  have h35 := @run_callFunc_extern Tryz.prog 195 _ (ReflectliteType.relation "AssignableTo" ReflectliteType.assignableTo) Tryz.func195 (by kernel_rfl) (by kernel_rfl) (by kernel_rfl) (by kernel_rfl)
  have h11 := @run_callFunc_extern Tryz.prog 143 _ (ReflectliteValue.method (ReflectliteValue.valueError "reflectlite.Value.Elem" 0) ReflectliteValue.elem) Tryz.func143 (by kernel_rfl) (by kernel_rfl) (by kernel_rfl) (by kernel_rfl)
  have h12 := @run_callFunc_extern Tryz.prog 144 _ ReflectliteValue.set Tryz.func144 (by kernel_rfl) (by kernel_rfl) (by kernel_rfl) (by kernel_rfl)
  have tO := Tryz.typeOfP
  have a25 := Tryz.assignP
  have v25 := Tryz.valueOfF
  have f6 := Tryz.valueOfT
  have f7 := Tryz.typeT
  have k27 := Tryz.kindT
  have k25 := Tryz.kindF
  have e27 := Tryz.elemTyT
  have i25 := Tryz.implementsF
  have hA := Tryz.hasAsP
  have htl : t < w.heap.size := (Array.getElem?_eq_some_iff.1 ht).1
  have hgl : 2 < w.heap.size := World.block_lt_of_cell? w _ hg
  have n8 := Tryz.isNilT ⟨w.heap.size, 0, none⟩ ⟨t, 0, none⟩ ((w.alloc (.cells #[.pointer (some ⟨t, 0, none⟩)] 128)).alloc (.cells #[.pointer (some ⟨16, 128, none⟩), .pointer (some ⟨w.heap.size, 0, none⟩), .int .u64 150] 153)) (by simp)
  have hg2 : ((w.alloc (.cells #[.pointer (some ⟨t, 0, none⟩)] 128)).alloc (.cells #[.pointer (some ⟨16, 128, none⟩), .pointer (some ⟨w.heap.size, 0, none⟩), .int .u64 150] 153)).cell? ⟨2, 0, none⟩ = some (.iface 183 (.agg #[.pointer (some ⟨16, 26, none⟩)])) := by
    rw [World.cell?_alloc_lt _ _ ⟨2, 0, none⟩ (by simp <;> omega), World.cell?_alloc_lt _ _ ⟨2, 0, none⟩ hgl]; exact hg
  have hP := fun W' (h : W'.heap[t]? = some (.cells #[old] 126 (0, 0))) => plainAs_calls c t old W' h
  have HP := Lib.hid hP
  have Ht := Lib.hid ht
  clear ht hg hP
  go_enter Tryz.func94, Tryz.ntmps94
  go_wp2
  refine wp_loop_rounds 1 ?_
  rw [rounds_succ]
  go_wp2_with (go_at_call 172; refine (HP.out _ ?_).mono ?_; rotate_left; rintro e w1 ⟨rfl, hl⟩)
  · go_ret
    obtain ⟨hl1, hl2, hl3⟩ := hl
    exact ⟨rfl, _, hl1, hl2, Below.trans (by go_grown) hl3⟩
  · have := Ht.out
    rw [Below.heap_alloc _ _ _ (by simp <;> omega), Below.heap_alloc _ _ _ (by simp <;> omega), Below.heap_alloc _ _ _ htl]; exact Ht.out
end Go.Proofs.YtkmooclhebjlpaaGreatDoor
