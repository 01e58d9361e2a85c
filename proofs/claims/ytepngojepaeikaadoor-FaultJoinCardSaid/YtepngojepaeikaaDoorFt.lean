/- Layer 1: errors.As and fault.Code of two errors that are joined. -/
import Derived.Test.YtepngojepaeikaaDoorFs
namespace Go.Proofs.YtepngojepaeikaaDoor
open Go.RowKit Go.Extern.Stop Go.Stop Go.Extern
set_option linter.unusedVariables false
set_option linter.unusedSimpArgs false

set_option maxHeartbeats 4000000 in
set_option maxRecDepth 100000 in
/-- The first that is a Fault is what errors.as finds, of two: the first one, or the second one behind a text. -/
theorem as33_join (v v1 v2 : Value) (b t a : Nat) (cs : Array Value) (c : Int) (old : Value) (w : World) (hj : JoinAt w v v1 v2)
    (h12 : v1 = .iface 34 (.pointer (some ⟨b, 0, none⟩)) ∨ (∃ x, v1 = .iface 66 x) ∧ v2 = .iface 34 (.pointer (some ⟨b, 0, none⟩)))
    (ha : w.cell? ⟨a, 0, none⟩ = some (.pointer (some ⟨t, 0, none⟩))) (ht : w.heap[t]? = some (.cells #[old] 34 (0, 0)))
    (hb : w.heap[b]? = some (.cells cs 48 (0, 0))) (hc : cs[0]? = some (.int .i64 c)) (hbt : b ≠ t) (hn2 : v2 ≠ .nilIface) :
    Calls Tryd.prog 33 #[v, .iface 57 (.pointer (some ⟨t, 0, none⟩)), (.agg #[.pointer (some ⟨4, 57, none⟩), .pointer (some ⟨a, 0, none⟩), .int .u64 150]), (.iface 74 (.agg #[.pointer (some ⟨4, 34, none⟩)]))] w fun ev w' => ev = .returned (.bool true) ∧ AsLeft w w' t b c := by
  have h10 := @run_callFunc_extern Tryd.prog 24 _ ReflectliteType.typeOf Tryd.func24 (by kernel_rfl) (by kernel_rfl) (by kernel_rfl) (by kernel_rfl)
  have h35 := @run_callFunc_extern Tryd.prog 75 _ (ReflectliteType.relation "AssignableTo" ReflectliteType.assignableTo) Tryd.func75 (by kernel_rfl) (by kernel_rfl) (by kernel_rfl) (by kernel_rfl)
  have tO := Tryd.typeOfJ
  have a25 := Tryd.assignJ
  have i0 := Tryd.noAsJ
  have i2 := Tryd.noUnwrapJ
  have i3 := Tryd.hasUnwrapsJ
  have hw0 : Gr w (w.alloc (.cells #[.pointer (some ⟨4, 57, none⟩), .pointer (some ⟨a, 0, none⟩), .int .u64 150] 83)) := (Gr.rf w).alloc (Nat.le_refl _) _
  obtain ⟨bj, r, B, rfl, hbj, hown⟩ := (hj.gr hw0).at_
  obtain ⟨g, cap, rfl, hgB, hgl, hcell⟩ := owns_at hown (by omega)
  have hal : a < w.heap.size := World.block_lt_of_cell? w _ ha
  have htl : t < w.heap.size := (Array.getElem?_eq_some_iff.1 ht).1
  have c0 : (w.alloc (.cells #[.pointer (some ⟨4, 57, none⟩), .pointer (some ⟨a, 0, none⟩), .int .u64 150] 83)).cell? ⟨g, 0, none⟩ = some v1 := hcell 0 (by omega)
  have c1 : (w.alloc (.cells #[.pointer (some ⟨4, 57, none⟩), .pointer (some ⟨a, 0, none⟩), .int .u64 150] 83)).cell? ⟨g, 1, none⟩ = some v2 := hcell 1 (by omega)
  have hU := Lib.hid (joinUnwrap_calls bj _ (w.alloc (.cells #[.pointer (some ⟨4, 57, none⟩), .pointer (some ⟨a, 0, none⟩), .int .u64 150] 83)) (by rw [heap_cell hbj]; rfl))
  have HA := Lib.hid ((hw0.cell (p := ⟨a, 0, none⟩) hal).trans ha)
  have HT := Lib.hid (hw0.heap ht)
  have HB := Lib.hid (hw0.heap hb)
  have HC := Lib.hid hc
  have HN := Lib.hid hbt
  have HG := Lib.hid hw0
  clear hj ha ht hb hc hbt hown hbj hcell hw0
  rcases h12 with rfl | ⟨⟨x, rfl⟩, rfl⟩
  · · go_enter Tryd.func33, Tryd.ntmps33
      go_wp2
      refine wp_loop_rounds 1 ?_
      rw [rounds_succ]
      go_wp2_with (go_at_call 73; (with_reducible refine hU.out.mono ?_); rintro ev w2 ⟨rfl, rfl⟩)
      refine wp_loop_rounds 3 ?_
      rw [rounds_succ]
      go_wp2_with (go_at_call 33; (with_reducible refine (as33_fault b t a cs c old _ HA.out HT.out HB.out HC.out HN.out).mono ?_); rintro ev w2 ⟨rfl, h1, h2, h3⟩)
      go_ret
      exact ⟨rfl, h1, h2, (Below.mono HG.out (by omega)).trans h3⟩
  · go_enter Tryd.func33, Tryd.ntmps33
    go_wp2
    refine wp_loop_rounds 1 ?_
    rw [rounds_succ]
    go_wp2_with (go_at_call 73; (with_reducible refine hU.out.mono ?_); rintro ev w2 ⟨rfl, rfl⟩)
    refine wp_loop_rounds 3 ?_
    rw [rounds_succ]
    go_wp2_with (go_at_call 33; (with_reducible refine (as33_text x t a _).mono ?_); rintro ev w2 ⟨rfl, hg2⟩; have HG2 := Lib.hid hg2; have d1 : w2.cell? ⟨g, 1, none⟩ = some (.iface 34 (.pointer (some ⟨b, 0, none⟩))) := (Below.cell hg2 (p := ⟨g, 1, none⟩) hgl).trans c1; have d2 : w2.cell? ⟨w.heap.size, 0, none⟩ = some (.pointer (some ⟨4, 57, none⟩)) := (Below.cell hg2 (p := ⟨w.heap.size, 0, none⟩) (by simp)).trans (by simp); have d3 : w2.cell? ⟨w.heap.size, 1, none⟩ = some (.pointer (some ⟨a, 0, none⟩)) := (Below.cell hg2 (p := ⟨w.heap.size, 1, none⟩) (by simp)).trans (by simp); have d4 : w2.cell? ⟨w.heap.size, 2, none⟩ = some (.int .u64 150) := (Below.cell hg2 (p := ⟨w.heap.size, 2, none⟩) (by simp)).trans (by simp); clear hg2)
    rw [rounds_succ]
    have e1 : w2.cell? ⟨a, 0, none⟩ = some (.pointer (some ⟨t, 0, none⟩)) := (Below.cell HG2.out (p := ⟨a, 0, none⟩) (by simp; omega)).trans HA.out
    have e2 := HG2.out.heap HT.out
    have e3 := HG2.out.heap HB.out
    have E1 := Lib.hid e1
    have E2 := Lib.hid e2
    have E3 := Lib.hid e3
    clear e1 e2 e3
    go_wp2_with (go_at_call 33; (with_reducible refine (as33_fault b t a cs c old _ E1.out E2.out E3.out HC.out HN.out).mono ?_); rintro ev w3 ⟨rfl, h1, h2, h3⟩)
    go_ret
    exact ⟨rfl, h1, h2, ((Below.mono HG.out (by omega)).trans (Below.mono HG2.out (by simp; omega))).trans h3⟩

set_option maxHeartbeats 4000000 in
set_option maxRecDepth 100000 in
theorem as_join (v v1 v2 : Value) (b t : Nat) (cs : Array Value) (c : Int) (old : Value) (w : World) (hj : JoinAt w v v1 v2)
    (h12 : v1 = .iface 34 (.pointer (some ⟨b, 0, none⟩)) ∨ (∃ x, v1 = .iface 66 x) ∧ v2 = .iface 34 (.pointer (some ⟨b, 0, none⟩)))
    (hg : Has w) (ht : w.heap[t]? = some (.cells #[old] 34 (0, 0)))
    (hb : w.heap[b]? = some (.cells cs 48 (0, 0))) (hc : cs[0]? = some (.int .i64 c)) (hbt : b ≠ t) (hn2 : v2 ≠ .nilIface) :
    Calls Tryd.prog 26 #[v, .iface 57 (.pointer (some ⟨t, 0, none⟩))] w fun ev w' => ev = .returned (.bool true) ∧ AsLeft w w' t b c := by
  have h6 := @run_callFunc_extern Tryd.prog 30 _ (fun args => ReflectliteValue.unpack (args.getD 0 (.tuple #[]))) Tryd.func30 (by kernel_rfl) (by kernel_rfl) (by kernel_rfl) (by kernel_rfl)
  have h7 := @run_callFunc_extern Tryd.prog 31 _ (ReflectliteValue.methodAny (ReflectliteValue.valueError "reflectlite.Value.Type" 0) (fun t _ _ _ => ReflectliteType.toType t)) Tryd.func31 (by kernel_rfl) (by kernel_rfl) (by kernel_rfl) (by kernel_rfl)
  have h8 := @run_callFunc_extern Tryd.prog 32 _ (ReflectliteValue.method (ReflectliteValue.valueError "reflectlite.Value.IsNil" 0) ReflectliteValue.isNil) Tryd.func32 (by kernel_rfl) (by kernel_rfl) (by kernel_rfl) (by kernel_rfl)
  have h27 := @run_callFunc_extern Tryd.prog 66 _ (ReflectliteType.abiMethod fun t => do pure (.int .u8 (← Rtype.kind t))) Tryd.func66 (by kernel_rfl) (by kernel_rfl) (by kernel_rfl) (by kernel_rfl)
  have h37 := @run_callFunc_extern Tryd.prog 77 _ (ReflectliteType.method ReflectliteType.elem) Tryd.func77 (by kernel_rfl) (by kernel_rfl) (by kernel_rfl) (by kernel_rfl)
  have h38 := @run_callFunc_extern Tryd.prog 78 _ (ReflectliteType.relation "Implements" ReflectliteType.implements_) Tryd.func78 (by kernel_rfl) (by kernel_rfl) (by kernel_rfl) (by kernel_rfl)
  have f6 := Tryd.valueOfT
  have f7 := Tryd.typeT
  have k27 := Tryd.kindT
  have k25 := Tryd.kindF
  have e27 := Tryd.elemTyT
  have i25 := Tryd.implementsF
  have htl : t < w.heap.size := (Array.getElem?_eq_some_iff.1 ht).1
  have hgl : 0 < w.heap.size := World.block_lt_of_cell? w _ hg
  have n8 := Tryd.isNilT ⟨w.heap.size, 0, none⟩ ⟨t, 0, none⟩ ((w.alloc (.cells #[.pointer (some ⟨t, 0, none⟩)] 57)).alloc (.cells #[.pointer (some ⟨4, 57, none⟩), .pointer (some ⟨w.heap.size, 0, none⟩), .int .u64 150] 83)) (by simp)
  have hg1 : Gr w ((w.alloc (.cells #[.pointer (some ⟨t, 0, none⟩)] 57)).alloc (.cells #[.pointer (some ⟨4, 57, none⟩), .pointer (some ⟨w.heap.size, 0, none⟩), .int .u64 150] 83)) := by go_grown
  have hg2 : ((w.alloc (.cells #[.pointer (some ⟨t, 0, none⟩)] 57)).alloc (.cells #[.pointer (some ⟨4, 57, none⟩), .pointer (some ⟨w.heap.size, 0, none⟩), .int .u64 150] 83)).cell? ⟨0, 0, none⟩ = some (.iface 74 (.agg #[.pointer (some ⟨4, 24, none⟩)])) := hg.gr hg1
  have HJ := Lib.hid (as33_join v v1 v2 b t w.heap.size cs c old _ (hj.gr hg1) h12 (by rw [World.cell?_alloc_lt _ _ ⟨w.heap.size, 0, none⟩ (by simp)]; simp) (hg1.heap ht) (hg1.heap hb) hc hbt hn2)
  have HG := Lib.hid hg1
  obtain ⟨bj, r, B, rfl, _⟩ := hj.at_
  clear hj ht hb hc hbt hn2 hg h12 hg1
  go_enter Tryd.func26, Tryd.ntmps26
  go_wp2_with (go_at_call 33; (with_reducible refine HJ.out.mono ?_); rintro ev w3 ⟨rfl, h1, h2, h3⟩)
  go_ret
  exact ⟨rfl, h1, h2, (Below.mono HG.out (by omega)).trans h3⟩

set_option maxHeartbeats 4000000 in
set_option maxRecDepth 100000 in
theorem code_join (v v1 v2 : Value) (b : Nat) (cs : Array Value) (c : Int) (w : World) (hj : JoinAt w v v1 v2)
    (h12 : v1 = .iface 34 (.pointer (some ⟨b, 0, none⟩)) ∨ (∃ x, v1 = .iface 66 x) ∧ v2 = .iface 34 (.pointer (some ⟨b, 0, none⟩)))
    (hg : Has w) (hb : w.heap[b]? = some (.cells cs 48 (0, 0))) (hc : cs[0]? = some (.int .i64 c)) (hn2 : v2 ≠ .nilIface) :
    Calls Tryd.prog 17 #[v] w fun ev w' => ev = .returned (.int .i64 c) ∧ Gr w w' := by
  have hw0 : Gr w (w.alloc (.cells #[.pointer none] 34)) := (Gr.rf w).alloc (Nat.le_refl _) _
  have hbl : b < w.heap.size := (Array.getElem?_eq_some_iff.1 hb).1
  have HJ := Lib.hid (as_join v v1 v2 b w.heap.size cs c _ _ (hj.gr hw0) h12 (hg.gr hw0) (heap_alloc_new w (.cells #[.pointer none] 34)) (hw0.heap hb) hc (by omega) hn2)
  have HG := Lib.hid hw0
  obtain ⟨bj, r, B, rfl, _⟩ := hj.at_
  clear hj hb hc hn2 hg h12 hw0
  go_enter Tryd.func17, Tryd.ntmps17
  go_wp2_with (go_at_call 26; (with_reducible refine HJ.out.mono ?_); rintro ev w1 ⟨rfl, h1, h2, h3⟩)
  go_ret
  exact ⟨rfl, HG.out.trans h3⟩
end Go.Proofs.YtepngojepaeikaaDoor
