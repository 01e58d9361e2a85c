/- Layer 1: errors.As at a text of another making; fault.Code, Wrap, Unwrap, Where by contract. -/
import Derived.Test.YtepngojepaeikaaDoorFd
namespace Go.Proofs.YtepngojepaeikaaDoor
open Go.RowKit Go.Extern.Stop Go.Stop Go.Extern
set_option linter.unusedVariables false
set_option linter.unusedSimpArgs false

theorem Tryd.typeOfX (v : Value) (w : World) : (ReflectliteType.typeOf #[.iface 66 v]).run Tryd.prog w = .ok (.iface 74 (.agg #[.pointer (some ⟨4, 66, none⟩)])) w := by kernel_rfl
theorem Tryd.assignX (w : World) : (ReflectliteType.relation "AssignableTo" ReflectliteType.assignableTo #[.agg #[.pointer (some ⟨4, 66, none⟩)], .iface 74 (.agg #[.pointer (some ⟨4, 34, none⟩)])]).run Tryd.prog w = .ok (.bool false) w := by kernel_rfl

set_option maxHeartbeats 4000000 in
theorem as_text (a : Value) (t : Nat) (old : Value) (w : World) (hg : Has w) (ht : w.heap[t]? = some (.cells #[old] 34 (0, 0))) :
    Calls Tryd.prog 26 #[.iface 66 a, .iface 57 (.pointer (some ⟨t, 0, none⟩))] w fun ev w' => ev = .returned (.bool false) ∧ Gr w w' := by
  unfold Has at hg
  have h6 := @run_callFunc_extern Tryd.prog 30 _ (fun args => ReflectliteValue.unpack (args.getD 0 (.tuple #[]))) Tryd.func30 (by kernel_rfl) (by kernel_rfl) (by kernel_rfl) (by kernel_rfl)
  have h7 := @run_callFunc_extern Tryd.prog 31 _ (ReflectliteValue.methodAny (ReflectliteValue.valueError "reflectlite.Value.Type" 0) (fun t _ _ _ => ReflectliteType.toType t)) Tryd.func31 (by kernel_rfl) (by kernel_rfl) (by kernel_rfl) (by kernel_rfl)
  have h8 := @run_callFunc_extern Tryd.prog 32 _ (ReflectliteValue.method (ReflectliteValue.valueError "reflectlite.Value.IsNil" 0) ReflectliteValue.isNil) Tryd.func32 (by kernel_rfl) (by kernel_rfl) (by kernel_rfl) (by kernel_rfl)
  have h27 := @run_callFunc_extern Tryd.prog 66 _ (ReflectliteType.abiMethod fun t => do pure (.int .u8 (← Rtype.kind t))) Tryd.func66 (by kernel_rfl) (by kernel_rfl) (by kernel_rfl) (by kernel_rfl)
  have h37 := @run_callFunc_extern Tryd.prog 77 _ (ReflectliteType.method ReflectliteType.elem) Tryd.func77 (by kernel_rfl) (by kernel_rfl) (by kernel_rfl) (by kernel_rfl)
  have h38 := @run_callFunc_extern Tryd.prog 78 _ (ReflectliteType.relation "Implements" ReflectliteType.implements_) Tryd.func78 (by kernel_rfl) (by kernel_rfl) (by kernel_rfl) (by kernel_rfl)
  have h10 := @run_callFunc_extern Tryd.prog 24 _ ReflectliteType.typeOf Tryd.func24 (by kernel_rfl) (by kernel_rfl) (by kernel_rfl) (by kernel_rfl)
  have h35 := @run_callFunc_extern Tryd.prog 75 _ (ReflectliteType.relation "AssignableTo" ReflectliteType.assignableTo) Tryd.func75 (by kernel_rfl) (by kernel_rfl) (by kernel_rfl) (by kernel_rfl)
  have h11 := @run_callFunc_extern Tryd.prog 36 _ (ReflectliteValue.method (ReflectliteValue.valueError "reflectlite.Value.Elem" 0) ReflectliteValue.elem) Tryd.func36 (by kernel_rfl) (by kernel_rfl) (by kernel_rfl) (by kernel_rfl)
  have h12 := @run_callFunc_extern Tryd.prog 37 _ ReflectliteValue.set Tryd.func37 (by kernel_rfl) (by kernel_rfl) (by kernel_rfl) (by kernel_rfl)
  have tO := Tryd.typeOfX
  have a25 := Tryd.assignX
  have f6 := Tryd.valueOfT
  have f7 := Tryd.typeT
  have k27 := Tryd.kindT
  have k25 := Tryd.kindF
  have e27 := Tryd.elemTyT
  have i25 := Tryd.implementsF
  have hA := Tryd.noAsX
  have hU := Tryd.noUnwrapX
  have hV := Tryd.noUnwrapsX
  have htl : t < w.heap.size := (Array.getElem?_eq_some_iff.1 ht).1
  have hgl : 0 < w.heap.size := World.block_lt_of_cell? w _ hg
  have n8 := Tryd.isNilT ⟨w.heap.size, 0, none⟩ ⟨t, 0, none⟩ ((w.alloc (.cells #[.pointer (some ⟨t, 0, none⟩)] 57)).alloc (.cells #[.pointer (some ⟨4, 57, none⟩), .pointer (some ⟨w.heap.size, 0, none⟩), .int .u64 150] 83)) (by simp)
  have hg2 : ((w.alloc (.cells #[.pointer (some ⟨t, 0, none⟩)] 57)).alloc (.cells #[.pointer (some ⟨4, 57, none⟩), .pointer (some ⟨w.heap.size, 0, none⟩), .int .u64 150] 83)).cell? ⟨0, 0, none⟩ = some (.iface 74 (.agg #[.pointer (some ⟨4, 24, none⟩)])) := by
    rw [World.cell?_alloc_lt _ _ ⟨0, 0, none⟩ (by simp <;> omega), World.cell?_alloc_lt _ _ ⟨0, 0, none⟩ hgl]; exact hg
  clear ht hg
  go_enter Tryd.func26, Tryd.ntmps26
  go_wp2
  refine wp_loop_rounds 1 ?_
  rw [rounds_succ]
  go_wp2
  go_ret
  exact ⟨rfl, by go_grown⟩

set_option maxHeartbeats 4000000 in
/-- fault.Code tells an error's code. -/
theorem code_calls (v : Value) (e : Er) (w : World) (hg : Has w) (h : ErAt w v e) :
    Calls Tryd.prog 17 #[v] w fun ev w' => ev = .returned (.int .i64 e.code) ∧ Gr w w' := by
  have hg1 : Has (w.alloc (.cells #[.pointer none] 34)) := hg.gr ((Gr.rf w).alloc (Nat.le_refl _) _)
  have ht1 : (w.alloc (.cells #[.pointer none] 34)).heap[w.heap.size]? = some (.cells #[.pointer none] 34 (0, 0)) := heap_alloc_new w _
  have HG := Lib.hid hg1
  have HT := Lib.hid ht1
  clear hg1 ht1 hg
  cases h with
  | nil =>
    go_enter Tryd.func17, Tryd.ntmps17
    go_wp2
    go_ret
    exact ⟨rfl, by go_grown⟩
  | plain c =>
    go_enter Tryd.func17, Tryd.ntmps17
    go_wp2_with (go_at_call 26; refine (as_plain c _ _ _ HG.out HT.out).mono ?_; rintro ev w1 ⟨rfl, b, h1, h2, h3⟩)
    go_ret
    exact ⟨rfl, Below.trans (by go_grown) h3⟩
  | fault b c s x e hb hx =>
    have hbl : b < w.heap.size := (Array.getElem?_eq_some_iff.1 hb).1
    have hb1 : (w.alloc (.cells #[.pointer none] 34)).heap[b]? = some (.cells #[.int .i64 c, .string s, x] 48 (0, 0)) := by rw [Below.heap_alloc _ _ _ hbl]; exact hb
    have HB := Lib.hid hb1
    clear hb hb1 hx
    go_enter Tryd.func17, Tryd.ntmps17
    go_wp2_with (go_at_call 26; refine (as_fault b _ _ c _ _ HG.out HT.out HB.out rfl (by omega)).mono ?_; rintro ev w1 ⟨rfl, h1, h2, h3⟩)
    go_ret
    exact ⟨rfl, Below.trans (by go_grown) h3⟩
  | text b s hb =>
    clear hb
    go_enter Tryd.func17, Tryd.ntmps17
    go_wp2_with (go_at_call 26; refine (as_text _ _ _ _ HG.out HT.out).mono ?_; rintro ev w1 ⟨rfl, h3⟩)
    go_ret
    exact ⟨rfl, Below.trans (by go_grown) (h3.mono (by simp))⟩
end Go.Proofs.YtepngojepaeikaaDoor
