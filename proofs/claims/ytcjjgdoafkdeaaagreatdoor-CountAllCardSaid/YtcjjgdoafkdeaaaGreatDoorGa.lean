/- Layer 1, the values: what an error value is in memory, and what fault's own functions answer for it; Layer 1: errors.As at a *fault.Fault, and fault.Code, by contract; Layer 1: errors.As at a *fault.Fault, by what the error is; fault.Code by contract; Layer 1: errors.As at a fault.plain and at a text of another making; fault.Code by contract; Layer 1: errors.As at a text of another making; fault.Code, Wrap, Unwrap, Where by contract; Layer 1: fault.Wrap, errors.Unwrap, fault.Where by contract. -/
import Derived.Test.YtcjjgdoafkdeaaaGreatDoorProg
import Derived.WalkKit
import Derived.Handy
import Derived.LaidEql
import Derived.WideLaws
import Derived.Stop.Asserts
import Derived.RowKitTokens
import Derived.Lib.Hide
import Derived.Deep.LoopGhost
import Derived.KernelRfl
import Derived.Maps.AppendAt
namespace Go.Proofs.YtcjjgdoafkdeaaaGreatDoor
section
open Go.RowKit Go.Extern.Stop Go.Stop Go.Extern

/-- What a world has grown to: all that was is as it was. -/
abbrev Gr (w w' : World) : Prop := Below w.heap.size w w'
theorem Gr.tr {a b c : World} (h : Gr a b) (k : Gr b c) : Gr a c := Below.trans h (Below.mono k h.size)
theorem Gr.rf (w : World) : Gr w w := Below.refl _ _
theorem Gr.heap {w w' : World} (h : Gr w w') {b : Nat} {o : Obj} (hb : w.heap[b]? = some o) : w'.heap[b]? = some o := by
  rw [h.block b (Array.getElem?_eq_some_iff.1 hb).1]; exact hb
theorem heap_cell {w : World} {b : Nat} {cs : Array Value} {t : TypeId} {f : Nat × Nat} (h : w.heap[b]? = some (.cells cs t f)) (i : Nat) : w.cell? ⟨b, i, none⟩ = cs[i]? := by
  simp [World.cell?, h]

/-- An error: none; a code alone; one at a place, around another one; a text of another making. -/
inductive Er where
  | nil
  | plain (c : Int)
  | fault (b : Nat) (c : Int) (s : ByteArray) (e : Er)
  | text (b : Nat)

inductive ErAt (w : World) : Value → Er → Prop
  | nil : ErAt w .nilIface .nil
  | plain (c : Int) : ErAt w (.iface 169 (.int .i64 c)) (.plain c)
  | fault (b : Nat) (c : Int) (s : ByteArray) (v : Value) (e : Er) : w.heap[b]? = some (.cells #[.int .i64 c, .string s, v] 182 (0, 0)) → ErAt w v e →
      ErAt w (.iface 178 (.pointer (some ⟨b, 0, none⟩))) (.fault b c s e)
  | text (b : Nat) (s : ByteArray) : w.heap[b]? = some (.cells #[.string s] 296 (0, 0)) → ErAt w (.iface 294 (.pointer (some ⟨b, 0, none⟩))) (.text b)

theorem ErAt.gr {w w' : World} (hg : Gr w w') {v : Value} {e : Er} (h : ErAt w v e) : ErAt w' v e := by
  induction h with
  | nil => exact .nil
  | plain c => exact .plain c
  | fault b c s v e hb _ ih => exact .fault b c s v e (hg.heap hb) ih
  | text b s hb => exact .text b s (hg.heap hb)

def Er.code : Er → Int
  | .nil => 0
  | .plain c => c
  | .fault _ c _ _ => c
  | .text _ => 1
def Er.places : Er → List ByteArray
  | .fault _ _ s e => (if s.toList.isEmpty then [] else [s]) ++ e.places
  | _ => []
def Er.len : Er → Nat
  | .nil => 0
  | .fault _ _ _ e => e.len + 1
  | _ => 1

/-! ### the small functions -/
theorem of_ok (w : World) : Calls Tryz.prog 68 #[.int .i64 0] w fun e w' => e = .returned .nilIface ∧ w = w' := by
  go_enter Tryz.func68, Tryz.ntmps68
  go_wp2
  go_ret
  exact ⟨rfl, rfl⟩
theorem of_calls (c : Int) (hc : (c == 0) = false) (w : World) : Calls Tryz.prog 68 #[.int .i64 c] w fun e w' => e = .returned (.iface 169 (.int .i64 c)) ∧ w = w' := by
  go_enter Tryz.func68, Tryz.ntmps68
  go_wp2
  go_ret
  exact ⟨rfl, rfl⟩
theorem new_ok (v : Value) (w : World) : Calls Tryz.prog 173 #[.int .i64 0, v] w fun e w' => e = .returned .nilIface ∧ w = w' := by
  go_enter Tryz.func173, Tryz.ntmps173
  go_wp2
  go_ret
  exact ⟨rfl, rfl⟩
theorem new_calls (c : Int) (hc : (c == 0) = false) (s : ByteArray) (w : World) : Calls Tryz.prog 173 #[.int .i64 c, .string s] w fun e w' =>
    e = .returned (.iface 178 (.pointer (some ⟨w.heap.size, 0, none⟩))) ∧ ErAt w' (.iface 178 (.pointer (some ⟨w.heap.size, 0, none⟩))) (.fault w.heap.size c s .nil) ∧ Gr w w' := by
  go_enter Tryz.func173, Tryz.ntmps173
  go_wp2
  go_ret
  exact ⟨rfl, .fault _ _ _ _ _ (heap_alloc_new w _) .nil, by go_grown⟩
end
section
open Go.RowKit Go.Extern.Stop Go.Stop Go.Extern

/-- The one package variable that errors.As reads. -/
def Has (w : World) : Prop := w.cell? ⟨0, 0, none⟩ = some (.iface 261 (.agg #[.pointer (some ⟨16, 33, none⟩)]))
theorem Has.gr {w w' : World} (h : Has w) (hg : Gr w w') : Has w' := (hg.cell (World.block_lt_of_cell? w _ h)).trans h

/-! ### closed facts on reflectlite's entries -/
theorem Tryz.valueOfT (t : Addr) (w : World) : (ReflectliteValue.unpack (.iface 180 (.pointer (some t)))).run Tryz.prog w
    = .ok (.agg #[.pointer (some ⟨16, 180, none⟩), .pointer (some ⟨w.heap.size, 0, none⟩), .int .u64 150]) (w.alloc (.cells #[.pointer (some t)] 180)) := by kernel_rfl
theorem Tryz.typeT (a : Addr) (w : World) : (ReflectliteValue.methodAny (ReflectliteValue.valueError "reflectlite.Value.Type" 0) (fun t _ _ _ => ReflectliteType.toType t) #[.agg #[.pointer (some ⟨16, 180, none⟩), .pointer (some a), .int .u64 150]]).run Tryz.prog w
    = .ok (.iface 261 (.agg #[.pointer (some ⟨16, 180, none⟩)])) w := by kernel_rfl
theorem Tryz.kindT (w : World) : ((ReflectliteType.abiMethod fun t => (fun a : Nat => Value.int IntKind.u8 (a : Int)) <$> Rtype.kind t) #[.pointer (some ⟨16, 180, none⟩)]).run Tryz.prog w = .ok (.int .u8 22) w := by kernel_rfl
theorem Tryz.kindF (w : World) : ((ReflectliteType.abiMethod fun t => (fun a : Nat => Value.int IntKind.u8 (a : Int)) <$> Rtype.kind t) #[.pointer (some ⟨16, 178, none⟩)]).run Tryz.prog w = .ok (.int .u8 22) w := by kernel_rfl
theorem rlm (z : Sem Value) (f : TypeId → Addr → Nat → Nat → Sem Value) (v : Value) :
    ReflectliteValue.method z f #[v] = (do match ← ReflectliteValue.parts v with | none => z | some (t, a, fl) => f t a fl (fl % 32)) := rfl
theorem Tryz.partsT (a : Addr) (w : World) : (ReflectliteValue.parts (.agg #[.pointer (some ⟨16, 180, none⟩), .pointer (some a), .int .u64 150])).run Tryz.prog w = .ok (some (180, a, 150)) w := by kernel_rfl
theorem Tryz.isNilT (a p : Addr) (W : World) (ha : W.cell? a = some (.pointer (some p))) :
    (ReflectliteValue.method (ReflectliteValue.valueError "reflectlite.Value.IsNil" 0) ReflectliteValue.isNil #[.agg #[.pointer (some ⟨16, 180, none⟩), .pointer (some a), .int .u64 150]]).run Tryz.prog W = .ok (.bool false) W := by
  rw [rlm]
  simp only [Sem.run_bind, Tryz.partsT, Result.andThen]
  simp [ReflectliteValue.isNil, loadVar, isAgg, underlying, Tryz.underlying180, ha, Result.andThen]
theorem Tryz.elemTyT (w : World) : (ReflectliteType.method ReflectliteType.elem #[.agg #[.pointer (some ⟨16, 180, none⟩)]]).run Tryz.prog w = .ok (.iface 261 (.agg #[.pointer (some ⟨16, 178, none⟩)])) w := by kernel_rfl
theorem Tryz.implementsF (w : World) : (ReflectliteType.relation "Implements" ReflectliteType.implements_ #[.agg #[.pointer (some ⟨16, 178, none⟩)], .iface 261 (.agg #[.pointer (some ⟨16, 33, none⟩)])]).run Tryz.prog w = .ok (.bool true) w := by kernel_rfl
theorem Tryz.typeOfF (v : Value) (w : World) : (ReflectliteType.typeOf #[.iface 178 v]).run Tryz.prog w = .ok (.iface 261 (.agg #[.pointer (some ⟨16, 178, none⟩)])) w := by kernel_rfl
theorem Tryz.typeOfP (v : Value) (w : World) : (ReflectliteType.typeOf #[.iface 169 v]).run Tryz.prog w = .ok (.iface 261 (.agg #[.pointer (some ⟨16, 169, none⟩)])) w := by kernel_rfl
theorem Tryz.assignF (w : World) : (ReflectliteType.relation "AssignableTo" ReflectliteType.assignableTo #[.agg #[.pointer (some ⟨16, 178, none⟩)], .iface 261 (.agg #[.pointer (some ⟨16, 178, none⟩)])]).run Tryz.prog w = .ok (.bool true) w := by kernel_rfl
theorem Tryz.assignP (w : World) : (ReflectliteType.relation "AssignableTo" ReflectliteType.assignableTo #[.agg #[.pointer (some ⟨16, 169, none⟩)], .iface 261 (.agg #[.pointer (some ⟨16, 178, none⟩)])]).run Tryz.prog w = .ok (.bool false) w := by kernel_rfl
theorem Tryz.valueOfF (e : Addr) (w : World) : (ReflectliteValue.unpack (.iface 178 (.pointer (some e)))).run Tryz.prog w
    = .ok (.agg #[.pointer (some ⟨16, 178, none⟩), .pointer (some ⟨w.heap.size, 0, none⟩), .int .u64 150]) (w.alloc (.cells #[.pointer (some e)] 178)) := by kernel_rfl
theorem Tryz.elemOfT (w : World) : (Rtype.elem? 180).run Tryz.prog w = .ok (some 178) w := by kernel_rfl
theorem Tryz.mkF (p : Addr) (w : World) : (ReflectliteValue.mk 178 p ReflectliteValue.flagAddr).run Tryz.prog w = .ok (.agg #[.pointer (some ⟨16, 178, none⟩), .pointer (some p), .int .u64 406]) w := by kernel_rfl
theorem Tryz.elemVT (a p : Addr) (W : World) (ha : W.cell? a = some (.pointer (some p))) :
    (ReflectliteValue.method (ReflectliteValue.valueError "reflectlite.Value.Elem" 0) ReflectliteValue.elem #[.agg #[.pointer (some ⟨16, 180, none⟩), .pointer (some a), .int .u64 150]]).run Tryz.prog W
      = .ok (.agg #[.pointer (some ⟨16, 178, none⟩), .pointer (some p), .int .u64 406]) W := by
  rw [rlm]
  simp only [Sem.run_bind, Tryz.partsT, Result.andThen]
  simp [ReflectliteValue.elem, loadVar, isAgg, underlying, Tryz.underlying180, ha, Result.andThen, Tryz.elemOfT, Tryz.mkF]
theorem rls (v x : Value) : ReflectliteValue.set #[v, x] = (do
    let (some (dst, a, fl), some (src, b, _)) := (← ReflectliteValue.parts v, ← ReflectliteValue.parts x)
      | unsupported (.noEntry "extern/(internal/reflectlite.Value).Set.zeroValue")
    if fl / ReflectliteValue.flagAddr % 2 == 0 then unsupported (.noEntry "extern/(internal/reflectlite.Value).Set.unaddressable")
    let val ← loadVar src b
    if ← Rtype.directlyAssignable dst src then storeVar dst a val
    else if ← Rtype.implements dst src then
      if (← Rtype.kind src) == 20 then
        match val with
        | .nilIface => unsupported (.noEntry "extern/reflectlite: a nil value of one interface type handed on as a value of another")
        | _ => storeVar dst a val
      else storeVar dst a (.iface src val)
    else panicString ("reflectlite.Set: value of type " ++ (← Rtype.spelt src) ++ " is not assignable to type " ++ (← Rtype.spelt dst))
    pure (.tuple #[])) := rfl
theorem Tryz.partsFa (a : Addr) (w : World) : (ReflectliteValue.parts (.agg #[.pointer (some ⟨16, 178, none⟩), .pointer (some a), .int .u64 406])).run Tryz.prog w = .ok (some (178, a, 406)) w := by kernel_rfl
theorem Tryz.partsF (a : Addr) (w : World) : (ReflectliteValue.parts (.agg #[.pointer (some ⟨16, 178, none⟩), .pointer (some a), .int .u64 150])).run Tryz.prog w = .ok (some (178, a, 150)) w := by kernel_rfl
theorem Tryz.directF (w : World) : (Rtype.directlyAssignable 178 178).run Tryz.prog w = .ok true w := by kernel_rfl
theorem Tryz.setF (ta b e : Addr) (old : Value) (W : World) (hb : W.cell? b = some (.pointer (some e))) (ht : W.cell? ta = some old) (hf : W.frozen? ta = false) :
    (ReflectliteValue.set #[.agg #[.pointer (some ⟨16, 178, none⟩), .pointer (some ta), .int .u64 406], .agg #[.pointer (some ⟨16, 178, none⟩), .pointer (some b), .int .u64 150]]).run Tryz.prog W
      = .ok (.tuple #[]) (W.setCell ta (.pointer (some e))) := by
  rw [rls]
  simp only [Sem.run_bind, Tryz.partsFa, Tryz.partsF, Result.andThen]
  simp [ReflectliteValue.flagAddr, loadVar, isAgg, underlying, Tryz.underlying178, hb, Result.andThen, Tryz.directF, storeVar, Value.cells, storeCells, Addr.add]
  rw [run_store Tryz.prog W ta _ _ (by rfl)]
  simp [ht, hf]
end
section
open Go.RowKit Go.Extern.Stop Go.Stop Go.Extern
set_option linter.unusedVariables false
set_option linter.unusedSimpArgs false

theorem as_nil (t : Value) (w : World) : Calls Tryz.prog 142 #[.nilIface, t] w fun e w' => e = .returned (.bool false) ∧ w = w' := by
  go_enter Tryz.func142, Tryz.ntmps142
  go_wp2
  go_ret
  exact ⟨rfl, rfl⟩

/-- What errors.As leaves: the target's cell, and all else as it was. -/
structure AsLeft (w w' : World) (t b : Nat) (c : Int) : Prop where
  cell : w'.cell? ⟨t, 0, none⟩ = some (.pointer (some ⟨b, 0, none⟩))
  code : w'.cell? ⟨b, 0, none⟩ = some (.int .i64 c)
  below : Below t w w'

set_option maxHeartbeats 4000000 in
theorem as_fault (b t : Nat) (cs : Array Value) (c : Int) (old : Value) (w : World) (hg : Has w) (ht : w.heap[t]? = some (.cells #[old] 178 (0, 0)))
    (hb : w.heap[b]? = some (.cells cs 182 (0, 0))) (hc : cs[0]? = some (.int .i64 c)) (hbt : b ≠ t) :
    Calls Tryz.prog 142 #[.iface 178 (.pointer (some ⟨b, 0, none⟩)), .iface 180 (.pointer (some ⟨t, 0, none⟩))] w fun ev w' => ev = .returned (.bool true) ∧ AsLeft w w' t b c := by
  unfold Has at hg
  have h6 := @run_callFunc_extern Tryz.prog 190 _ (fun args => ReflectliteValue.unpack (args.getD 0 (.tuple #[]))) Tryz.func190 (by kernel_rfl) (by kernel_rfl) (by kernel_rfl) (by kernel_rfl)
  have h7 := @run_callFunc_extern Tryz.prog 191 _ (ReflectliteValue.methodAny (ReflectliteValue.valueError "reflectlite.Value.Type" 0) (fun t _ _ _ => ReflectliteType.toType t)) Tryz.func191 (by kernel_rfl) (by kernel_rfl) (by kernel_rfl) (by kernel_rfl)
  have h8 := @run_callFunc_extern Tryz.prog 192 _ (ReflectliteValue.method (ReflectliteValue.valueError "reflectlite.Value.IsNil" 0) ReflectliteValue.isNil) Tryz.func192 (by kernel_rfl) (by kernel_rfl) (by kernel_rfl) (by kernel_rfl)
  have h27 := @run_callFunc_extern Tryz.prog 262 _ (ReflectliteType.abiMethod fun t => do pure (.int .u8 (← Rtype.kind t))) Tryz.func262 (by kernel_rfl) (by kernel_rfl) (by kernel_rfl) (by kernel_rfl)
  have h37 := @run_callFunc_extern Tryz.prog 291 _ (ReflectliteType.method ReflectliteType.elem) Tryz.func291 (by kernel_rfl) (by kernel_rfl) (by kernel_rfl) (by kernel_rfl)
  have h38 := @run_callFunc_extern Tryz.prog 292 _ (ReflectliteType.relation "Implements" ReflectliteType.implements_) Tryz.func292 (by kernel_rfl) (by kernel_rfl) (by kernel_rfl) (by kernel_rfl)
  have h10 := @run_callFunc_extern Tryz.prog 211 _ ReflectliteType.typeOf Tryz.func211 (by kernel_rfl) (by kernel_rfl) (by kernel_rfl) (by kernel_rfl)
  have h35 := @run_callFunc_extern Tryz.prog 289 _ (ReflectliteType.relation "AssignableTo" ReflectliteType.assignableTo) Tryz.func289 (by kernel_rfl) (by kernel_rfl) (by kernel_rfl) (by kernel_rfl)
  have h11 := @run_callFunc_extern Tryz.prog 230 _ (ReflectliteValue.method (ReflectliteValue.valueError "reflectlite.Value.Elem" 0) ReflectliteValue.elem) Tryz.func230 (by kernel_rfl) (by kernel_rfl) (by kernel_rfl) (by kernel_rfl)
  have h12 := @run_callFunc_extern Tryz.prog 231 _ ReflectliteValue.set Tryz.func231 (by kernel_rfl) (by kernel_rfl) (by kernel_rfl) (by kernel_rfl)
  have tO := Tryz.typeOfF
  have a25 := Tryz.assignF
  have v25 := Tryz.valueOfF
  have f6 := Tryz.valueOfT
  have f7 := Tryz.typeT
  have k27 := Tryz.kindT
  have k25 := Tryz.kindF
  have e27 := Tryz.elemTyT
  have i25 := Tryz.implementsF
  have htl : t < w.heap.size := (Array.getElem?_eq_some_iff.1 ht).1
  have hbl : b < w.heap.size := (Array.getElem?_eq_some_iff.1 hb).1
  have hgl : 0 < w.heap.size := World.block_lt_of_cell? w _ hg
  have n8 := Tryz.isNilT ⟨w.heap.size, 0, none⟩ ⟨t, 0, none⟩ ((w.alloc (.cells #[.pointer (some ⟨t, 0, none⟩)] 180)).alloc (.cells #[.pointer (some ⟨16, 180, none⟩), .pointer (some ⟨w.heap.size, 0, none⟩), .int .u64 150] 227)) (by simp)
  have hg2 : ((w.alloc (.cells #[.pointer (some ⟨t, 0, none⟩)] 180)).alloc (.cells #[.pointer (some ⟨16, 180, none⟩), .pointer (some ⟨w.heap.size, 0, none⟩), .int .u64 150] 227)).cell? ⟨0, 0, none⟩ = some (.iface 261 (.agg #[.pointer (some ⟨16, 33, none⟩)])) := by
    rw [World.cell?_alloc_lt _ _ ⟨0, 0, none⟩ (by simp <;> omega), World.cell?_alloc_lt _ _ ⟨0, 0, none⟩ hgl]; exact hg
  have ht0 : w.cell? ⟨t, 0, none⟩ = some old := by rw [heap_cell ht]; rfl
  have hf0 : w.frozen? ⟨t, 0, none⟩ = false := by simp [World.frozen?, ht]
  have el := Tryz.elemVT ⟨w.heap.size, 0, none⟩ ⟨t, 0, none⟩ (((w.alloc (.cells #[.pointer (some ⟨t, 0, none⟩)] 180)).alloc (.cells #[.pointer (some ⟨16, 180, none⟩), .pointer (some ⟨w.heap.size, 0, none⟩), .int .u64 150] 227)).alloc (.cells #[.pointer (some ⟨16, 180, none⟩), .pointer (some ⟨w.heap.size, 0, none⟩), .int .u64 150] 227)) (by rw [World.cell?_alloc_lt _ _ ⟨w.heap.size, 0, none⟩ (by simp <;> omega)]; simp)
  have st := Tryz.setF ⟨t, 0, none⟩ ⟨w.heap.size + 1 + 1 + 1, 0, none⟩ ⟨b, 0, none⟩ old ((((w.alloc (.cells #[.pointer (some ⟨t, 0, none⟩)] 180)).alloc (.cells #[.pointer (some ⟨16, 180, none⟩), .pointer (some ⟨w.heap.size, 0, none⟩), .int .u64 150] 227)).alloc (.cells #[.pointer (some ⟨16, 180, none⟩), .pointer (some ⟨w.heap.size, 0, none⟩), .int .u64 150] 227)).alloc (.cells #[.pointer (some ⟨b, 0, none⟩)] 178))
    (by rw [World.cell?_alloc_at _ _ _ _ (by simp)]; rfl)
    (by rw [World.cell?_alloc_lt _ _ ⟨t, 0, none⟩ (by simp <;> omega), World.cell?_alloc_lt _ _ ⟨t, 0, none⟩ (by simp <;> omega), World.cell?_alloc_lt _ _ ⟨t, 0, none⟩ (by simp <;> omega), World.cell?_alloc_lt _ _ ⟨t, 0, none⟩ htl]; exact ht0)
    (by rw [World.frozen?_alloc_old _ _ ⟨t, 0, none⟩ (by simp <;> omega), World.frozen?_alloc_old _ _ ⟨t, 0, none⟩ (by simp <;> omega), World.frozen?_alloc_old _ _ ⟨t, 0, none⟩ (by simp <;> omega), World.frozen?_alloc_old _ _ ⟨t, 0, none⟩ (Nat.ne_of_lt htl)]; exact hf0)
  have Hb := Lib.hid hb
  have Hc := Lib.hid hc
  have Ht := Lib.hid ht
  have Hbt := Lib.hid hbt
  clear hb hc ht hbt ht0 hf0 hg
  go_enter Tryz.func142, Tryz.ntmps142
  go_wp2
  refine wp_loop_rounds 1 ?_
  rw [rounds_succ]
  go_wp2
  go_ret
  refine ⟨rfl, ?_, ?_, by go_grown⟩
  · refine World.cell?_setCell_same _ _ _ (u := old) ?_
    rw [World.cell?_alloc_lt _ _ ⟨t, 0, none⟩ (by simp <;> omega), World.cell?_alloc_lt _ _ ⟨t, 0, none⟩ (by simp <;> omega), World.cell?_alloc_lt _ _ ⟨t, 0, none⟩ (by simp <;> omega), World.cell?_alloc_lt _ _ ⟨t, 0, none⟩ htl, heap_cell Ht.out]; rfl
  · have := Hbt.out; rw [World.cell?_setCell_other _ _ _ _ (by simp <;> omega), World.cell?_alloc_lt _ _ ⟨b, 0, none⟩ (by simp <;> omega), World.cell?_alloc_lt _ _ ⟨b, 0, none⟩ (by simp <;> omega), World.cell?_alloc_lt _ _ ⟨b, 0, none⟩ (by simp <;> omega), World.cell?_alloc_lt _ _ ⟨b, 0, none⟩ hbl, heap_cell Hb.out]; exact Hc.out
end
section
open Go.RowKit Go.Extern.Stop Go.Stop Go.Extern
set_option linter.unusedVariables false
set_option linter.unusedSimpArgs false

/-! ### closed facts on method sets -/
theorem Tryz.hasAsP (v : Value) (xT : TypeId) (w : World) : (Instr.typeAssert (.iface 169 v) xT 265 true).run Tryz.prog w = .ok (.tuple #[.iface 169 v, .bool true]) w := run_typeAssert_hasB Tryz.underlying265 (by kernel_rfl) v xT w
theorem Tryz.noAsX (v : Value) (xT : TypeId) (w : World) : (Instr.typeAssert (.iface 294 v) xT 265 true).run Tryz.prog w = .ok (.tuple #[.nilIface, .bool false]) w := run_typeAssert_lacksB Tryz.underlying265 (by kernel_rfl) (by kernel_rfl) v xT w
theorem Tryz.noUnwrapX (v : Value) (xT : TypeId) (w : World) : (Instr.typeAssert (.iface 294 v) xT 268 true).run Tryz.prog w = .ok (.tuple #[.nilIface, .bool false]) w := run_typeAssert_lacksB Tryz.underlying268 (by kernel_rfl) (by kernel_rfl) v xT w
theorem Tryz.noUnwrapsX (v : Value) (xT : TypeId) (w : World) : (Instr.typeAssert (.iface 294 v) xT 270 true).run Tryz.prog w = .ok (.tuple #[.nilIface, .bool false]) w := run_typeAssert_lacksB Tryz.underlying270 (by kernel_rfl) (by kernel_rfl) v xT w

theorem Tryz.castTT (v : Value) (w : World) : (Instr.typeAssert (.iface 180 v) 20 180 true).run Tryz.prog w = .ok (.tuple #[v, .bool true]) w := by kernel_rfl
theorem Tryz.castFF (v : Value) (w : World) : (Instr.typeAssert (.iface 178 v) 33 178 true).run Tryz.prog w = .ok (.tuple #[v, .bool true]) w := by kernel_rfl
theorem Tryz.castPF (v : Value) (w : World) : (Instr.typeAssert (.iface 169 v) 33 178 true).run Tryz.prog w = .ok (.tuple #[.pointer none, .bool false]) w := by kernel_rfl
theorem Tryz.castXF (v : Value) (w : World) : (Instr.typeAssert (.iface 294 v) 33 178 true).run Tryz.prog w = .ok (.tuple #[.pointer none, .bool false]) w := by kernel_rfl
theorem Tryz.castPP (v : Value) (w : World) : (Instr.typeAssert (.iface 169 v) 33 169 true).run Tryz.prog w = .ok (.tuple #[v, .bool true]) w := by kernel_rfl
theorem Tryz.castFP (v : Value) (w : World) : (Instr.typeAssert (.iface 178 v) 33 169 true).run Tryz.prog w = .ok (.tuple #[.int .i64 0, .bool false]) w := by kernel_rfl
theorem Tryz.castXP (v : Value) (w : World) : (Instr.typeAssert (.iface 294 v) 33 169 true).run Tryz.prog w = .ok (.tuple #[.int .i64 0, .bool false]) w := by kernel_rfl

theorem plainAs_calls (c : Int) (t : Nat) (old : Value) (w : World) (ht : w.heap[t]? = some (.cells #[old] 178 (0, 0))) :
    Calls Tryz.prog 266 #[.int .i64 c, .iface 180 (.pointer (some ⟨t, 0, none⟩))] w fun ev w' => ev = .returned (.bool true) ∧ AsLeft w w' t w.heap.size c := by
  have htl : t < w.heap.size := (Array.getElem?_eq_some_iff.1 ht).1
  have ht0 : w.cell? ⟨t, 0, none⟩ = some old := by rw [heap_cell ht]; rfl
  have hf0 : w.frozen? ⟨t, 0, none⟩ = false := by simp [World.frozen?, ht]
  have Ht := Lib.hid ht
  have hcast := Tryz.castTT
  clear ht
  go_enter Tryz.func266, Tryz.ntmps266
  go_wp2
  go_ret
  refine ⟨rfl, ?_, ?_, by go_grown⟩
  · rw [World.cell?_alloc_lt _ _ ⟨t, 0, none⟩ (by simpa using htl)]; exact World.cell?_setCell_same _ _ _ ht0
  · rw [World.cell?_alloc_at _ _ _ _ (by simp)]; rfl

set_option maxHeartbeats 4000000 in
theorem as_plain (c : Int) (t : Nat) (old : Value) (w : World) (hg : Has w) (ht : w.heap[t]? = some (.cells #[old] 178 (0, 0))) :
    Calls Tryz.prog 142 #[.iface 169 (.int .i64 c), .iface 180 (.pointer (some ⟨t, 0, none⟩))] w fun ev w' => ev = .returned (.bool true) ∧ ∃ b, AsLeft w w' t b c := by
  unfold Has at hg
  have h6 := @run_callFunc_extern Tryz.prog 190 _ (fun args => ReflectliteValue.unpack (args.getD 0 (.tuple #[]))) Tryz.func190 (by kernel_rfl) (by kernel_rfl) (by kernel_rfl) (by kernel_rfl)
  have h7 := @run_callFunc_extern Tryz.prog 191 _ (ReflectliteValue.methodAny (ReflectliteValue.valueError "reflectlite.Value.Type" 0) (fun t _ _ _ => ReflectliteType.toType t)) Tryz.func191 (by kernel_rfl) (by kernel_rfl) (by kernel_rfl) (by kernel_rfl)
  have h8 := @run_callFunc_extern Tryz.prog 192 _ (ReflectliteValue.method (ReflectliteValue.valueError "reflectlite.Value.IsNil" 0) ReflectliteValue.isNil) Tryz.func192 (by kernel_rfl) (by kernel_rfl) (by kernel_rfl) (by kernel_rfl)
  have h27 := @run_callFunc_extern Tryz.prog 262 _ (ReflectliteType.abiMethod fun t => do pure (.int .u8 (← Rtype.kind t))) Tryz.func262 (by kernel_rfl) (by kernel_rfl) (by kernel_rfl) (by kernel_rfl)
  have h37 := @run_callFunc_extern Tryz.prog 291 _ (ReflectliteType.method ReflectliteType.elem) Tryz.func291 (by kernel_rfl) (by kernel_rfl) (by kernel_rfl) (by kernel_rfl)
  have h38 := @run_callFunc_extern Tryz.prog 292 _ (ReflectliteType.relation "Implements" ReflectliteType.implements_) Tryz.func292 (by kernel_rfl) (by kernel_rfl) (by kernel_rfl) (by kernel_rfl)
  have h10 := @run_callFunc_extern Tryz.prog 211 _ ReflectliteType.typeOf Tryz.func211 (by kernel_rfl) (by kernel_rfl) (by kernel_rfl) (by kernel_rfl)
  have h35 := @run_callFunc_extern Tryz.prog 289 _ (ReflectliteType.relation "AssignableTo" ReflectliteType.assignableTo) Tryz.func289 (by kernel_rfl) (by kernel_rfl) (by kernel_rfl) (by kernel_rfl)
  have h11 := @run_callFunc_extern Tryz.prog 230 _ (ReflectliteValue.method (ReflectliteValue.valueError "reflectlite.Value.Elem" 0) ReflectliteValue.elem) Tryz.func230 (by kernel_rfl) (by kernel_rfl) (by kernel_rfl) (by kernel_rfl)
  have h12 := @run_callFunc_extern Tryz.prog 231 _ ReflectliteValue.set Tryz.func231 (by kernel_rfl) (by kernel_rfl) (by kernel_rfl) (by kernel_rfl)
  have tO := Tryz.typeOfP
  have a25 := Tryz.assignP
  have v25 := Tryz.valueOfF
  have f6 := Tryz.valueOfT
  have f7 := Tryz.typeT
  have k27 := Tryz.kindT
  have k25 := Tryz.kindF
  have e27 := Tryz.elemTyT
  have i25 := Tryz.implementsF
  have hA := Tryz.hasAsP
  have htl : t < w.heap.size := (Array.getElem?_eq_some_iff.1 ht).1
  have hgl : 0 < w.heap.size := World.block_lt_of_cell? w _ hg
  have n8 := Tryz.isNilT ⟨w.heap.size, 0, none⟩ ⟨t, 0, none⟩ ((w.alloc (.cells #[.pointer (some ⟨t, 0, none⟩)] 180)).alloc (.cells #[.pointer (some ⟨16, 180, none⟩), .pointer (some ⟨w.heap.size, 0, none⟩), .int .u64 150] 227)) (by simp)
  have hg2 : ((w.alloc (.cells #[.pointer (some ⟨t, 0, none⟩)] 180)).alloc (.cells #[.pointer (some ⟨16, 180, none⟩), .pointer (some ⟨w.heap.size, 0, none⟩), .int .u64 150] 227)).cell? ⟨0, 0, none⟩ = some (.iface 261 (.agg #[.pointer (some ⟨16, 33, none⟩)])) := by
    rw [World.cell?_alloc_lt _ _ ⟨0, 0, none⟩ (by simp <;> omega), World.cell?_alloc_lt _ _ ⟨0, 0, none⟩ hgl]; exact hg
  have hP := fun W' (h : W'.heap[t]? = some (.cells #[old] 178 (0, 0))) => plainAs_calls c t old W' h
  have HP := Lib.hid hP
  have Ht := Lib.hid ht
  clear ht hg hP
  go_enter Tryz.func142, Tryz.ntmps142
  go_wp2
  refine wp_loop_rounds 1 ?_
  rw [rounds_succ]
  go_wp2_with (go_at_call 266; refine (HP.out _ ?_).mono ?_; rotate_left; rintro e w1 ⟨rfl, hl⟩)
  · go_ret
    obtain ⟨hl1, hl2, hl3⟩ := hl
    exact ⟨rfl, _, hl1, hl2, Below.trans (by go_grown) hl3⟩
  · have := Ht.out
    rw [Below.heap_alloc _ _ _ (by simp <;> omega), Below.heap_alloc _ _ _ (by simp <;> omega), Below.heap_alloc _ _ _ htl]; exact Ht.out
end
section
open Go.RowKit Go.Extern.Stop Go.Stop Go.Extern
set_option linter.unusedVariables false
set_option linter.unusedSimpArgs false

theorem Tryz.typeOfX (v : Value) (w : World) : (ReflectliteType.typeOf #[.iface 294 v]).run Tryz.prog w = .ok (.iface 261 (.agg #[.pointer (some ⟨16, 294, none⟩)])) w := by kernel_rfl
theorem Tryz.assignX (w : World) : (ReflectliteType.relation "AssignableTo" ReflectliteType.assignableTo #[.agg #[.pointer (some ⟨16, 294, none⟩)], .iface 261 (.agg #[.pointer (some ⟨16, 178, none⟩)])]).run Tryz.prog w = .ok (.bool false) w := by kernel_rfl

set_option maxHeartbeats 4000000 in
theorem as_text (a : Value) (t : Nat) (old : Value) (w : World) (hg : Has w) (ht : w.heap[t]? = some (.cells #[old] 178 (0, 0))) :
    Calls Tryz.prog 142 #[.iface 294 a, .iface 180 (.pointer (some ⟨t, 0, none⟩))] w fun ev w' => ev = .returned (.bool false) ∧ Gr w w' := by
  unfold Has at hg
  have h6 := @run_callFunc_extern Tryz.prog 190 _ (fun args => ReflectliteValue.unpack (args.getD 0 (.tuple #[]))) Tryz.func190 (by kernel_rfl) (by kernel_rfl) (by kernel_rfl) (by kernel_rfl)
  have h7 := @run_callFunc_extern Tryz.prog 191 _ (ReflectliteValue.methodAny (ReflectliteValue.valueError "reflectlite.Value.Type" 0) (fun t _ _ _ => ReflectliteType.toType t)) Tryz.func191 (by kernel_rfl) (by kernel_rfl) (by kernel_rfl) (by kernel_rfl)
  have h8 := @run_callFunc_extern Tryz.prog 192 _ (ReflectliteValue.method (ReflectliteValue.valueError "reflectlite.Value.IsNil" 0) ReflectliteValue.isNil) Tryz.func192 (by kernel_rfl) (by kernel_rfl) (by kernel_rfl) (by kernel_rfl)
  have h27 := @run_callFunc_extern Tryz.prog 262 _ (ReflectliteType.abiMethod fun t => do pure (.int .u8 (← Rtype.kind t))) Tryz.func262 (by kernel_rfl) (by kernel_rfl) (by kernel_rfl) (by kernel_rfl)
  have h37 := @run_callFunc_extern Tryz.prog 291 _ (ReflectliteType.method ReflectliteType.elem) Tryz.func291 (by kernel_rfl) (by kernel_rfl) (by kernel_rfl) (by kernel_rfl)
  have h38 := @run_callFunc_extern Tryz.prog 292 _ (ReflectliteType.relation "Implements" ReflectliteType.implements_) Tryz.func292 (by kernel_rfl) (by kernel_rfl) (by kernel_rfl) (by kernel_rfl)
  have h10 := @run_callFunc_extern Tryz.prog 211 _ ReflectliteType.typeOf Tryz.func211 (by kernel_rfl) (by kernel_rfl) (by kernel_rfl) (by kernel_rfl)
  have h35 := @run_callFunc_extern Tryz.prog 289 _ (ReflectliteType.relation "AssignableTo" ReflectliteType.assignableTo) Tryz.func289 (by kernel_rfl) (by kernel_rfl) (by kernel_rfl) (by kernel_rfl)
  have h11 := @run_callFunc_extern Tryz.prog 230 _ (ReflectliteValue.method (ReflectliteValue.valueError "reflectlite.Value.Elem" 0) ReflectliteValue.elem) Tryz.func230 (by kernel_rfl) (by kernel_rfl) (by kernel_rfl) (by kernel_rfl)
  have h12 := @run_callFunc_extern Tryz.prog 231 _ ReflectliteValue.set Tryz.func231 (by kernel_rfl) (by kernel_rfl) (by kernel_rfl) (by kernel_rfl)
  have tO := Tryz.typeOfX
  have a25 := Tryz.assignX
  have f6 := Tryz.valueOfT
  have f7 := Tryz.typeT
  have k27 := Tryz.kindT
  have k25 := Tryz.kindF
  have e27 := Tryz.elemTyT
  have i25 := Tryz.implementsF
  have hA := Tryz.noAsX
  have hU := Tryz.noUnwrapX
  have hV := Tryz.noUnwrapsX
  have htl : t < w.heap.size := (Array.getElem?_eq_some_iff.1 ht).1
  have hgl : 0 < w.heap.size := World.block_lt_of_cell? w _ hg
  have n8 := Tryz.isNilT ⟨w.heap.size, 0, none⟩ ⟨t, 0, none⟩ ((w.alloc (.cells #[.pointer (some ⟨t, 0, none⟩)] 180)).alloc (.cells #[.pointer (some ⟨16, 180, none⟩), .pointer (some ⟨w.heap.size, 0, none⟩), .int .u64 150] 227)) (by simp)
  have hg2 : ((w.alloc (.cells #[.pointer (some ⟨t, 0, none⟩)] 180)).alloc (.cells #[.pointer (some ⟨16, 180, none⟩), .pointer (some ⟨w.heap.size, 0, none⟩), .int .u64 150] 227)).cell? ⟨0, 0, none⟩ = some (.iface 261 (.agg #[.pointer (some ⟨16, 33, none⟩)])) := by
    rw [World.cell?_alloc_lt _ _ ⟨0, 0, none⟩ (by simp <;> omega), World.cell?_alloc_lt _ _ ⟨0, 0, none⟩ hgl]; exact hg
  clear ht hg
  go_enter Tryz.func142, Tryz.ntmps142
  go_wp2
  refine wp_loop_rounds 1 ?_
  rw [rounds_succ]
  go_wp2
  go_ret
  exact ⟨rfl, by go_grown⟩

set_option maxHeartbeats 4000000 in
/-- fault.Code tells an error's code. -/
theorem code_calls (v : Value) (e : Er) (w : World) (hg : Has w) (h : ErAt w v e) :
    Calls Tryz.prog 82 #[v] w fun ev w' => ev = .returned (.int .i64 e.code) ∧ Gr w w' := by
  have hg1 : Has (w.alloc (.cells #[.pointer none] 178)) := hg.gr ((Gr.rf w).alloc (Nat.le_refl _) _)
  have ht1 : (w.alloc (.cells #[.pointer none] 178)).heap[w.heap.size]? = some (.cells #[.pointer none] 178 (0, 0)) := heap_alloc_new w _
  have HG := Lib.hid hg1
  have HT := Lib.hid ht1
  clear hg1 ht1 hg
  cases h with
  | nil =>
    go_enter Tryz.func82, Tryz.ntmps82
    go_wp2
    go_ret
    exact ⟨rfl, by go_grown⟩
  | plain c =>
    go_enter Tryz.func82, Tryz.ntmps82
    go_wp2_with (go_at_call 142; refine (as_plain c _ _ _ HG.out HT.out).mono ?_; rintro ev w1 ⟨rfl, b, h1, h2, h3⟩)
    go_ret
    exact ⟨rfl, Below.trans (by go_grown) h3⟩
  | fault b c s x e hb hx =>
    have hbl : b < w.heap.size := (Array.getElem?_eq_some_iff.1 hb).1
    have hb1 : (w.alloc (.cells #[.pointer none] 178)).heap[b]? = some (.cells #[.int .i64 c, .string s, x] 182 (0, 0)) := by rw [Below.heap_alloc _ _ _ hbl]; exact hb
    have HB := Lib.hid hb1
    clear hb hb1 hx
    go_enter Tryz.func82, Tryz.ntmps82
    go_wp2_with (go_at_call 142; refine (as_fault b _ _ c _ _ HG.out HT.out HB.out rfl (by omega)).mono ?_; rintro ev w1 ⟨rfl, h1, h2, h3⟩)
    go_ret
    exact ⟨rfl, Below.trans (by go_grown) h3⟩
  | text b s hb =>
    clear hb
    go_enter Tryz.func82, Tryz.ntmps82
    go_wp2_with (go_at_call 142; refine (as_text _ _ _ _ HG.out HT.out).mono ?_; rintro ev w1 ⟨rfl, h3⟩)
    go_ret
    exact ⟨rfl, Below.trans (by go_grown) (h3.mono (by simp))⟩
end
section
open Go.RowKit Go.Extern.Stop Go.Stop Go.Extern
set_option linter.unusedVariables false
set_option linter.unusedSimpArgs false

theorem wrap_calls (s : ByteArray) (v : Value) (e : Er) (w : World) (hg : Has w) (h : ErAt w v e) (hne : e ≠ .nil) :
    Calls Tryz.prog 172 #[.string s, v] w fun ev w' => ∃ b, w.heap.size ≤ b ∧ ev = .returned (.iface 178 (.pointer (some ⟨b, 0, none⟩))) ∧
      ErAt w' (.iface 178 (.pointer (some ⟨b, 0, none⟩))) (.fault b e.code s e) ∧ Gr w w' := by
  obtain ⟨u, x, rfl⟩ : ∃ u x, v = .iface u x := by cases h <;> first | exact absurd rfl hne | exact ⟨_, _, rfl⟩
  have H := Lib.hid h
  have HC := Lib.hid (code_calls (.iface u x) e w hg h)
  clear h hne
  go_enter Tryz.func172, Tryz.ntmps172
  go_wp2_with (go_at_call 82; refine HC.out.mono ?_; rintro ev w1 ⟨rfl, h1⟩)
  go_ret
  exact ⟨w1.heap.size, h1.size, rfl, .fault _ _ _ _ _ (heap_alloc_new w1 _) ((H.out.gr h1).gr ((Gr.rf w1).alloc (Nat.le_refl _) _)), h1.alloc h1.size _⟩
theorem wrap_nil (s : ByteArray) (w : World) : Calls Tryz.prog 172 #[.string s, .nilIface] w fun ev w' => ev = .returned .nilIface ∧ w = w' := by
  go_enter Tryz.func172, Tryz.ntmps172
  go_wp2
  go_ret
  exact ⟨rfl, rfl⟩

/-- What an error is wrapped around. -/
def Er.sub : Er → Er
  | .fault _ _ _ e => e
  | _ => .nil
theorem Tryz.hasUnwrapF (v : Value) (xT : TypeId) (w : World) : (Instr.typeAssert (.iface 178 v) xT 268 true).run Tryz.prog w = .ok (.tuple #[.iface 178 v, .bool true]) w := run_typeAssert_hasB Tryz.underlying268 (by kernel_rfl) v xT w
theorem Tryz.noUnwrapP (v : Value) (xT : TypeId) (w : World) : (Instr.typeAssert (.iface 169 v) xT 268 true).run Tryz.prog w = .ok (.tuple #[.nilIface, .bool false]) w := run_typeAssert_lacksB Tryz.underlying268 (by kernel_rfl) (by kernel_rfl) v xT w
theorem Tryz.noUnwrapsP (v : Value) (xT : TypeId) (w : World) : (Instr.typeAssert (.iface 169 v) xT 270 true).run Tryz.prog w = .ok (.tuple #[.nilIface, .bool false]) w := run_typeAssert_lacksB Tryz.underlying270 (by kernel_rfl) (by kernel_rfl) v xT w

theorem erAt_nil {w : World} {x : Value} (h : ErAt w x .nil) : x = .nilIface := by cases h; rfl
theorem unwrap_fault (b : Nat) (cs : Array Value) (x : Value) (t : TypeId) (w : World) (hb : w.heap[b]? = some (.cells cs t (0, 0))) (hx : cs[2]? = some x) :
    Calls Tryz.prog 210 #[.iface 178 (.pointer (some ⟨b, 0, none⟩))] w fun ev w' => ev = .returned x ∧ w = w' := by
  have u1 := Tryz.hasUnwrapF
  have h2 : w.cell? ⟨b, 2, none⟩ = some x := by rw [heap_cell hb]; exact hx
  clear hb hx
  go_enter Tryz.func210, Tryz.ntmps210
  go_wp2
  go_ret
  exact ⟨rfl, rfl⟩

set_option maxRecDepth 100000 in
theorem unwrap_calls (v : Value) (e : Er) (w : World) (h : ErAt w v e) (hne : e ≠ .nil) :
    Calls Tryz.prog 210 #[v] w fun ev w' => ∃ v', ev = .returned v' ∧ ErAt w v' e.sub ∧ w = w' := by
  have u1 := Tryz.hasUnwrapF
  have u2 := Tryz.noUnwrapP
  have u3 := Tryz.noUnwrapX
  cases h with
  | nil => exact absurd rfl hne
  | plain c =>
    clear hne
    go_enter Tryz.func210, Tryz.ntmps210
    go_wp2
    go_ret
    exact ⟨_, rfl, .nil, rfl⟩
  | fault b c s x e hb hx =>
    have h2 : w.cell? ⟨b, 2, none⟩ = some x := by rw [heap_cell hb]; rfl
    have HX := Lib.hid hx
    clear hb hx hne
    go_enter Tryz.func210, Tryz.ntmps210
    go_wp2
    go_ret
    exact ⟨_, rfl, HX.out, rfl⟩
  | text b s hb =>
    clear hb hne
    go_enter Tryz.func210, Tryz.ntmps210
    go_wp2
    go_ret
    exact ⟨_, rfl, .nil, rfl⟩

theorem Tryz.infoStr : (Tryz.prog.info? 9).map (fun i => (i.zero, i.size, i.bytes)) = some (some (.string ⟨#[]⟩), 1, 16) := by kernel_rfl

set_option maxRecDepth 100000 in
set_option maxHeartbeats 1000000 in
/-- fault.Where tells the places, in memory of its own. -/
theorem where_calls (v : Value) (e : Er) (w : World) (h : ErAt w v e) (hd : e.len ≤ 1000000) :
    Calls Tryz.prog 174 #[v] w fun ev w' => ∃ r, ev = .returned r ∧ w'.ownsRow w.heap.size 9 1 r e.places.length (e.places.map Value.string) ∧ Gr w w' := by
  obtain ⟨i0, hi, hz0, hz1, hz2⟩ := info_parts Tryz.infoStr
  have c1 := Tryz.castFF
  have c2 := Tryz.castPF
  have c3 := Tryz.castXF
  have H := Lib.hid h
  clear h
  go_enter Tryz.func174, Tryz.ntmps174
  go_wp2
  go_loopg [0, 3] e.len (fun k x l wr => ∃ e' pre, k = e'.len ∧ ErAt w x e' ∧ wr.ownsRow w.heap.size 9 1 l pre.length (pre.map Value.string) ∧ pre ++ e'.places = e.places ∧ pre.length + e'.len ≤ e.len ∧ Gr w wr)
  case atStart => exact ⟨e, [], rfl, H.out, World.ownsRow_nil _ _ _ _, rfl, by simp, Gr.rf w⟩
  case round =>
    obtain ⟨e', pre, hk, hx, hown, hpre, hlen, hgr⟩ := hrel
    have HP := Lib.hid hpre
    have HK := Lib.hid hk
    clear hpre hk
    cases hx with
    | nil =>
      go_wp2
      go_ret
      have hp := HP.out
      simp only [Er.places, List.append_nil] at hp
      subst hp
      exact ⟨_, rfl, hown, hgr⟩
    | plain c =>
      go_wp2_with (go_at_call 210; refine (unwrap_calls _ _ _ (.plain c) (by simp)).mono ?_; rintro ev w1 ⟨x1, rfl, hx1, rfl⟩; obtain rfl := erAt_nil hx1; clear hx1)
      go_roundg 0
      case measure => have := HK.out; simp [Er.len] at this; omega
      case rel => exact ⟨.nil, pre, rfl, .nil, hown, by have := HP.out; simpa [Er.places] using this, by simp [Er.len] at hlen ⊢; omega, hgr⟩
    | text b s hb =>
      have HB := Lib.hid (hgr.heap hb)
      clear hb
      go_wp2_with (go_at_call 210; refine (unwrap_calls _ _ _ (.text b s HB.out) (by simp)).mono ?_; rintro ev w1 ⟨x1, rfl, hx1, rfl⟩; obtain rfl := erAt_nil hx1; clear hx1)
      go_roundg 0
      case measure => have := HK.out; simp [Er.len] at this; omega
      case rel => exact ⟨.nil, pre, rfl, .nil, hown, by have := HP.out; simpa [Er.places] using this, by simp [Er.len] at hlen ⊢; omega, hgr⟩
    | fault b c s x e1 hb hx =>
      have h1 : wr.cell? ⟨b, 1, none⟩ = some (.string s) := by rw [heap_cell (hgr.heap hb)]; rfl
      have HB := Lib.hid hb
      have HX := Lib.hid hx
      clear hb hx
      by_cases hs : s.toList.isEmpty = true
      · have hs1 : (!s.toList.isEmpty) = false := by rw [hs]; rfl
        have HS := Lib.hid hs
        clear hs
        go_wp2_with (go_at_call 210; refine (unwrap_fault b _ x _ _ (hgr.heap HB.out) rfl).mono ?_; rintro ev w1 ⟨rfl, rfl⟩)
        go_roundg e1.len
        case measure => have := HK.out; simp [Er.len] at this; omega
        case rel => exact ⟨e1, pre, rfl, HX.out, hown, by have := HP.out; simpa [Er.places, HS.out] using this, by simp [Er.len] at hlen ⊢; omega, hgr⟩
      · have hs1 : (!s.toList.isEmpty) = true := by simpa using hs
        have HS := Lib.hid hs
        clear hs
        have hm : pre.length + 1 ≤ 1000001 := by simp [Er.len] at hlen; omega
        go_wp2_with (first
          | (at_builtin; refine wpList_append_own _ rfl _ _ 40 rfl w.heap.size 9 i0 (.string ⟨#[]⟩) 1 16 Tryz.underlying40 hi hz0 hz1 hz2 rfl (by decide) _ _ _ rfl (hown.alloc _) ⟨wr.heap.size, 0, none⟩ 1 1 [.string s] rfl rfl ?c1 ?c2 ?c3 ?c4 ?c5 ?_) | fail)
        case c1 => exact cell_one_new _ _ _
        case c2 => simp [Value.oneCell']
        case c3 => simp only [maxLen]; omega
        case c4 => omega
        case c5 => have := hgr.size; simp; omega
        intro v' w1 hown1 hgrow _
        have hg1 : Gr w w1 := (hgr.alloc hgr.size _).grown hgrow (by have := hgr.size; simp; omega) (fun k hk => (hown.lt k hk).1)
        go_wp2_with (go_at_call 210; refine (unwrap_fault b _ x _ _ (hg1.heap HB.out) rfl).mono ?_; rintro ev w2 ⟨rfl, rfl⟩)
        go_roundg e1.len
        case measure => have := HK.out; simp [Er.len] at this; omega
        case rel => exact ⟨e1, pre ++ [s], rfl, HX.out, by simpa using hown1, by have := HP.out; have h2 := HS.out; simpa [Er.places, h2] using this, by simp [Er.len] at hlen ⊢; omega, hg1⟩
end
end Go.Proofs.YtcjjgdoafkdeaaaGreatDoor
