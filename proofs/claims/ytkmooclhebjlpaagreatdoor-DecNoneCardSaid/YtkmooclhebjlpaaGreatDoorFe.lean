/- Layer 1: errors.As at a text of another making; fault.Code, Wrap, Unwrap, Where by contract. -/
import Derived.Test.YtkmooclhebjlpaaGreatDoorFd
namespace Go.Proofs.YtkmooclhebjlpaaGreatDoor
open Go.RowKit Go.Extern.Stop Go.Stop Go.Extern
set_option linter.unusedVariables false
set_option linter.unusedSimpArgs false

theorem Tryz.typeOfX (v : Value) (w : World) : (ReflectliteType.typeOf #[.iface 210 v]).run Tryz.prog w = .ok (.iface 183 (.agg #[.pointer (some ⟨16, 210, none⟩)])) w := by kernel_rfl
theorem Tryz.assignX (w : World) : (ReflectliteType.relation "AssignableTo" ReflectliteType.assignableTo #[.agg #[.pointer (some ⟨16, 210, none⟩)], .iface 183 (.agg #[.pointer (some ⟨16, 126, none⟩)])]).run Tryz.prog w = .ok (.bool false) w := by kernel_rfl

set_option maxHeartbeats 4000000 in
theorem as_text (a : Value) (t : Nat) (old : Value) (w : World) (hg : Has w) (ht : w.heap[t]? = some (.cells #[old] 126 (0, 0))) :
    Calls Tryz.prog 94 #[.iface 210 a, .iface 128 (.pointer (some ⟨t, 0, none⟩))] w fun ev w' => ev = .returned (.bool false) ∧ Gr w w' := by
  unfold Has at hg
  have h6 := @run_callFunc_extern Tryz.prog 117 _ (fun args => ReflectliteValue.unpack (args.getD 0 (.tuple #[]))) Tryz.func117 (by kernel_rfl) (by kernel_rfl) (by kernel_rfl) (by kernel_rfl)
  have h7 := @run_callFunc_extern Tryz.prog 118 _ (ReflectliteValue.methodAny (ReflectliteValue.valueError "reflectlite.Value.Type" 0) (fun t _ _ _ => ReflectliteType.toType t)) Tryz.func118 (by kernel_rfl) (by kernel_rfl) (by kernel_rfl) (by kernel_rfl)
  have h8 := @run_callFunc_extern Tryz.prog 119 _ (ReflectliteValue.method (ReflectliteValue.valueError "reflectlite.Value.IsNil" 0) ReflectliteValue.isNil) Tryz.func119 (by kernel_rfl) (by kernel_rfl) (by kernel_rfl) (by kernel_rfl)
  have h27 := @run_callFunc_extern Tryz.prog 169 _ (ReflectliteType.abiMethod fun t => do pure (.int .u8 (← Rtype.kind t))) Tryz.func169 (by kernel_rfl) (by kernel_rfl) (by kernel_rfl) (by kernel_rfl)
  have h37 := @run_callFunc_extern Tryz.prog 197 _ (ReflectliteType.method ReflectliteType.elem) Tryz.func197 (by kernel_rfl) (by kernel_rfl) (by kernel_rfl) (by kernel_rfl)
  have h38 := @run_callFunc_extern Tryz.prog 198 _ (ReflectliteType.relation "Implements" ReflectliteType.implements_) Tryz.func198 (by kernel_rfl) (by kernel_rfl) (by kernel_rfl) (by kernel_rfl)
  have h10 := @run_callFunc_extern Tryz.prog 135 _ ReflectliteType.typeOf Tryz.func135 (by kernel_rfl) (by kernel_rfl) (by kernel_rfl) (by kernel_rfl)
  have h35 := @run_callFunc_extern Tryz.prog 195 _ (ReflectliteType.relation "AssignableTo" ReflectliteType.assignableTo) Tryz.func195 (by kernel_rfl) (by kernel_rfl) (by kernel_rfl) (by kernel_rfl)
  have h11 := @run_callFunc_extern Tryz.prog 143 _ (ReflectliteValue.method (ReflectliteValue.valueError "reflectlite.Value.Elem" 0) ReflectliteValue.elem) Tryz.func143 (by kernel_rfl) (by kernel_rfl) (by kernel_rfl) (by kernel_rfl)
  have h12 := @run_callFunc_extern Tryz.prog 144 _ ReflectliteValue.set Tryz.func144 (by kernel_rfl) (by kernel_rfl) (by kernel_rfl) (by kernel_rfl)
  have tO := Tryz.typeOfX
  have a25 := Tryz.assignX
  have f6 := Tryz.valueOfT
  have f7 := Tryz.typeT
  have k27 := Tryz.kindT
  have k25 := Tryz.kindF
  have e27 := Tryz.elemTyT
  have i25 := Tryz.implementsF
  have hA := Tryz.noAsX
  have hU := Tryz.noUnwrapX
  have hV := Tryz.noUnwrapsX
  have htl : t < w.heap.size := (Array.getElem?_eq_some_iff.1 ht).1
  have hgl : 2 < w.heap.size := World.block_lt_of_cell? w _ hg
  have n8 := Tryz.isNilT ⟨w.heap.size, 0, none⟩ ⟨t, 0, none⟩ ((w.alloc (.cells #[.pointer (some ⟨t, 0, none⟩)] 128)).alloc (.cells #[.pointer (some ⟨16, 128, none⟩), .pointer (some ⟨w.heap.size, 0, none⟩), .int .u64 150] 153)) (by simp)
  have hg2 : ((w.alloc (.cells #[.pointer (some ⟨t, 0, none⟩)] 128)).alloc (.cells #[.pointer (some ⟨16, 128, none⟩), .pointer (some ⟨w.heap.size, 0, none⟩), .int .u64 150] 153)).cell? ⟨2, 0, none⟩ = some (.iface 183 (.agg #[.pointer (some ⟨16, 26, none⟩)])) := by
    rw [World.cell?_alloc_lt _ _ ⟨2, 0, none⟩ (by simp <;> omega), World.cell?_alloc_lt _ _ ⟨2, 0, none⟩ hgl]; exact hg
  clear ht hg
  go_enter Tryz.func94, Tryz.ntmps94
  go_wp2
  refine wp_loop_rounds 1 ?_
  rw [rounds_succ]
  go_wp2
  go_ret
  exact ⟨rfl, by go_grown⟩

set_option maxHeartbeats 4000000 in
/-- fault.Code tells an error's code. -/
theorem code_calls (v : Value) (e : Er) (w : World) (hg : Has w) (h : ErAt w v e) :
    Calls Tryz.prog 61 #[v] w fun ev w' => ev = .returned (.int .i64 e.code) ∧ Gr w w' := by
  have hg1 : Has (w.alloc (.cells #[.pointer none] 126)) := hg.gr ((Gr.rf w).alloc (Nat.le_refl _) _)
  have ht1 : (w.alloc (.cells #[.pointer none] 126)).heap[w.heap.size]? = some (.cells #[.pointer none] 126 (0, 0)) := heap_alloc_new w _
  have HG := Lib.hid hg1
  have HT := Lib.hid ht1
  clear hg1 ht1 hg
  cases h with
  | nil =>
    go_enter Tryz.func61, Tryz.ntmps61
    go_wp2
    go_ret
    exact ⟨rfl, by go_grown⟩
  | plain c =>
    go_enter Tryz.func61, Tryz.ntmps61
    go_wp2_with (go_at_call 94; refine (as_plain c _ _ _ HG.out HT.out).mono ?_; rintro ev w1 ⟨rfl, b, h1, h2, h3⟩)
    go_ret
    exact ⟨rfl, Below.trans (by go_grown) h3⟩
  | fault b c s x e hb hx =>
    have hbl : b < w.heap.size := (Array.getElem?_eq_some_iff.1 hb).1
    have hb1 : (w.alloc (.cells #[.pointer none] 126)).heap[b]? = some (.cells #[.int .i64 c, .string s, x] 130 (0, 0)) := by rw [Below.heap_alloc _ _ _ hbl]; exact hb
    have HB := Lib.hid hb1
    clear hb hb1 hx
    go_enter Tryz.func61, Tryz.ntmps61
    go_wp2_with (go_at_call 94; refine (as_fault b _ _ c _ _ HG.out HT.out HB.out rfl (by omega)).mono ?_; rintro ev w1 ⟨rfl, h1, h2, h3⟩)
    go_ret
    exact ⟨rfl, Below.trans (by go_grown) h3⟩
  | text b s hb =>
    clear hb
    go_enter Tryz.func61, Tryz.ntmps61
    go_wp2_with (go_at_call 94; refine (as_text _ _ _ _ HG.out HT.out).mono ?_; rintro ev w1 ⟨rfl, h3⟩)
    go_ret
    exact ⟨rfl, Below.trans (by go_grown) (h3.mono (by simp))⟩
end Go.Proofs.YtkmooclhebjlpaaGreatDoor
