/- Layer 1: errors.As at a *fault.Fault, by what the error is; fault.Code by contract. -/
import Derived.Test.YtkmooclhebjlpaaGreatDoorFb
namespace Go.Proofs.YtkmooclhebjlpaaGreatDoor
open Go.RowKit Go.Extern.Stop Go.Stop Go.Extern
set_option linter.unusedVariables false
set_option linter.unusedSimpArgs false

theorem as_nil (t : Value) (w : World) : Calls Tryz.prog 94 #[.nilIface, t] w fun e w' => e = .returned (.bool false) ∧ w = w' := by
  go_enter Tryz.func94, Tryz.ntmps94
  go_wp2
  go_ret
  exact ⟨rfl, rfl⟩

/-- What errors.As leaves: the target's cell, and all else as it was. -/
structure AsLeft (w w' : World) (t b : Nat) (c : Int) : Prop where
  cell : w'.cell? ⟨t, 0, none⟩ = some (.pointer (some ⟨b, 0, none⟩))
  code : w'.cell? ⟨b, 0, none⟩ = some (.int .i64 c)
  below : Below t w w'

set_option maxHeartbeats 4000000 in
theorem as_fault (b t : Nat) (cs : Array Value) (c : Int) (old : Value) (w : World) (hg : Has w) (ht : w.heap[t]? = some (.cells #[old] 126 (0, 0)))
    (hb : w.heap[b]? = some (.cells cs 130 (0, 0))) (hc : cs[0]? = some (.int .i64 c)) (hbt : b ≠ t) :
    Calls Tryz.prog 94 #[.iface 126 (.pointer (some ⟨b, 0, none⟩)), .iface 128 (.pointer (some ⟨t, 0, none⟩))] w fun ev w' => ev = .returned (.bool true) ∧ AsLeft w w' t b c := by
  unfold Has at hg
  have h6 := @run_callFunc_extern Tryz.prog 117 _ (fun args => ReflectliteValue.unpack (args.getD 0 (.tuple #[]))) Tryz.func117 (by kernel_rfl) (by kernel_rfl) (by kernel_rfl) (by kernel_rfl)
  have h7 := @run_callFunc_extern Tryz.prog 118 _ (ReflectliteValue.methodAny (ReflectliteValue.valueError "reflectlite.Value.Type" 0) (fun t _ _ _ => ReflectliteType.toType t)) Tryz.func118 (by kernel_rfl) (by kernel_rfl) (by kernel_rfl) (by kernel_rfl)
  have h8 := @run_callFunc_extern Tryz.prog 119 _ (ReflectliteValue.method (ReflectliteValue.valueError "reflectlite.Value.IsNil" 0) ReflectliteValue.isNil) Tryz.func119 (by kernel_rfl) (by kernel_rfl) (by kernel_rfl) (by kernel_rfl)
  have h27 := @run_callFunc_extern Tryz.prog 169 _ (ReflectliteType.abiMethod fun t => do pure (.int .u8 (← Rtype.kind t))) Tryz.func169 (by kernel_rfl) (by kernel_rfl) (by kernel_rfl) (by kernel_rfl)
  have h37 := @run_callFunc_extern Tryz.prog 197 _ (ReflectliteType.method ReflectliteType.elem) Tryz.func197 (by kernel_rfl) (by kernel_rfl) (by kernel_rfl) (by kernel_rfl)
  have h38 := @run_callFunc_extern Tryz.prog 198 _ (ReflectliteType.relation "Implements" ReflectliteType.implements_) Tryz.func198 (by kernel_rfl) (by kernel_rfl) (by kernel_rfl) (by kernel_rfl)
  have h10 := @run_callFunc_extern Tryz.prog 135 _ ReflectliteType.typeOf Tryz.func135 (by kernel_rfl) (by kernel_rfl) (by kernel_rfl) (by kernel_rfl)
  have h35 := @run_callFunc_extern Tryz.prog 195 _ (ReflectliteType.relation "AssignableTo" ReflectliteType.assignableTo) Tryz.func195 (by kernel_rfl) (by kernel_rfl) (by kernel_rfl) (by kernel_rfl)
  have h11 := @run_callFunc_extern Tryz.prog 143 _ (ReflectliteValue.method (ReflectliteValue.valueError "reflectlite.Value.Elem" 0) ReflectliteValue.elem) Tryz.func143 (by kernel_rfl) (by kernel_rfl) (by kernel_rfl) (by kernel_rfl)
  have h12 := @run_callFunc_extern Tryz.prog 144 _ ReflectliteValue.set Tryz.func144 (by kernel_rfl) (by kernel_rfl) (by kernel_rfl) (by kernel_rfl)
  have tO := Tryz.typeOfF
  have a25 := Tryz.assignF
  have v25 := Tryz.valueOfF
  have f6 := Tryz.valueOfT
  have f7 := Tryz.typeT
  have k27 := Tryz.kindT
  have k25 := Tryz.kindF
  have e27 := Tryz.elemTyT
  have i25 := Tryz.implementsF
  have htl : t < w.heap.size := (Array.getElem?_eq_some_iff.1 ht).1
  have hbl : b < w.heap.size := (Array.getElem?_eq_some_iff.1 hb).1
  have hgl : 2 < w.heap.size := World.block_lt_of_cell? w _ hg
  have n8 := Tryz.isNilT ⟨w.heap.size, 0, none⟩ ⟨t, 0, none⟩ ((w.alloc (.cells #[.pointer (some ⟨t, 0, none⟩)] 128)).alloc (.cells #[.pointer (some ⟨16, 128, none⟩), .pointer (some ⟨w.heap.size, 0, none⟩), .int .u64 150] 153)) (by simp)
  have hg2 : ((w.alloc (.cells #[.pointer (some ⟨t, 0, none⟩)] 128)).alloc (.cells #[.pointer (some ⟨16, 128, none⟩), .pointer (some ⟨w.heap.size, 0, none⟩), .int .u64 150] 153)).cell? ⟨2, 0, none⟩ = some (.iface 183 (.agg #[.pointer (some ⟨16, 26, none⟩)])) := by
    rw [World.cell?_alloc_lt _ _ ⟨2, 0, none⟩ (by simp <;> omega), World.cell?_alloc_lt _ _ ⟨2, 0, none⟩ hgl]; exact hg
  have ht0 : w.cell? ⟨t, 0, none⟩ = some old := by rw [heap_cell ht]; rfl
  have hf0 : w.frozen? ⟨t, 0, none⟩ = false := by simp [World.frozen?, ht]
  have el := Tryz.elemVT ⟨w.heap.size, 0, none⟩ ⟨t, 0, none⟩ (((w.alloc (.cells #[.pointer (some ⟨t, 0, none⟩)] 128)).alloc (.cells #[.pointer (some ⟨16, 128, none⟩), .pointer (some ⟨w.heap.size, 0, none⟩), .int .u64 150] 153)).alloc (.cells #[.pointer (some ⟨16, 128, none⟩), .pointer (some ⟨w.heap.size, 0, none⟩), .int .u64 150] 153)) (by rw [World.cell?_alloc_lt _ _ ⟨w.heap.size, 0, none⟩ (by simp <;> omega)]; simp)
  have st := Tryz.setF ⟨t, 0, none⟩ ⟨w.heap.size + 1 + 1 + 1, 0, none⟩ ⟨b, 0, none⟩ old ((((w.alloc (.cells #[.pointer (some ⟨t, 0, none⟩)] 128)).alloc (.cells #[.pointer (some ⟨16, 128, none⟩), .pointer (some ⟨w.heap.size, 0, none⟩), .int .u64 150] 153)).alloc (.cells #[.pointer (some ⟨16, 128, none⟩), .pointer (some ⟨w.heap.size, 0, none⟩), .int .u64 150] 153)).alloc (.cells #[.pointer (some ⟨b, 0, none⟩)] 126))
    (by rw [World.cell?_alloc_at _ _ _ _ (by simp)]; rfl)
    (by rw [World.cell?_alloc_lt _ _ ⟨t, 0, none⟩ (by simp <;> omega), World.cell?_alloc_lt _ _ ⟨t, 0, none⟩ (by simp <;> omega), World.cell?_alloc_lt _ _ ⟨t, 0, none⟩ (by simp <;> omega), World.cell?_alloc_lt _ _ ⟨t, 0, none⟩ htl]; exact ht0)
    (by rw [World.frozen?_alloc_old _ _ ⟨t, 0, none⟩ (by simp <;> omega), World.frozen?_alloc_old _ _ ⟨t, 0, none⟩ (by simp <;> omega), World.frozen?_alloc_old _ _ ⟨t, 0, none⟩ (by simp <;> omega), World.frozen?_alloc_old _ _ ⟨t, 0, none⟩ (Nat.ne_of_lt htl)]; exact hf0)
  have Hb := Lib.hid hb
  have Hc := Lib.hid hc
  have Ht := Lib.hid ht
  have Hbt := Lib.hid hbt
  clear hb hc ht hbt ht0 hf0 hg
  go_enter Tryz.func94, Tryz.ntmps94
  go_wp2
  refine wp_loop_rounds 1 ?_
  rw [rounds_succ]
  go_wp2
  go_ret
  refine ⟨rfl, ?_, ?_, by go_grown⟩
  · refine World.cell?_setCell_same _ _ _ (u := old) ?_
    rw [World.cell?_alloc_lt _ _ ⟨t, 0, none⟩ (by simp <;> omega), World.cell?_alloc_lt _ _ ⟨t, 0, none⟩ (by simp <;> omega), World.cell?_alloc_lt _ _ ⟨t, 0, none⟩ (by simp <;> omega), World.cell?_alloc_lt _ _ ⟨t, 0, none⟩ htl, heap_cell Ht.out]; rfl
  · have := Hbt.out; rw [World.cell?_setCell_other _ _ _ _ (by simp <;> omega), World.cell?_alloc_lt _ _ ⟨b, 0, none⟩ (by simp <;> omega), World.cell?_alloc_lt _ _ ⟨b, 0, none⟩ (by simp <;> omega), World.cell?_alloc_lt _ _ ⟨b, 0, none⟩ (by simp <;> omega), World.cell?_alloc_lt _ _ ⟨b, 0, none⟩ hbl, heap_cell Hb.out]; exact Hc.out

end Go.Proofs.YtkmooclhebjlpaaGreatDoor
