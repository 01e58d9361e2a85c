/- Layer 1: fault.Wrap, errors.Unwrap, fault.Where by contract. -/
import Derived.Test.YtkmooclhebjlpaaGreatDoorFe
import Derived.Maps.AppendAt
namespace Go.Proofs.YtkmooclhebjlpaaGreatDoor
open Go.RowKit Go.Extern.Stop Go.Stop Go.Extern
set_option linter.unusedVariables false
set_option linter.unusedSimpArgs false

theorem wrap_calls (s : ByteArray) (v : Value) (e : Er) (w : World) (hg : Has w) (h : ErAt w v e) (hne : e ≠ .nil) :
    Calls Tryz.prog 105 #[.string s, v] w fun ev w' => ∃ b, w.heap.size ≤ b ∧ ev = .returned (.iface 126 (.pointer (some ⟨b, 0, none⟩))) ∧
      ErAt w' (.iface 126 (.pointer (some ⟨b, 0, none⟩))) (.fault b e.code s e) ∧ Gr w w' := by
  obtain ⟨u, x, rfl⟩ : ∃ u x, v = .iface u x := by cases h <;> first | exact absurd rfl hne | exact ⟨_, _, rfl⟩
  have H := Lib.hid h
  have HC := Lib.hid (code_calls (.iface u x) e w hg h)
  clear h hne
  go_enter Tryz.func105, Tryz.ntmps105
  go_wp2_with (go_at_call 61; refine HC.out.mono ?_; rintro ev w1 ⟨rfl, h1⟩)
  go_ret
  exact ⟨w1.heap.size, h1.size, rfl, .fault _ _ _ _ _ (heap_alloc_new w1 _) ((H.out.gr h1).gr ((Gr.rf w1).alloc (Nat.le_refl _) _)), h1.alloc h1.size _⟩
theorem wrap_nil (s : ByteArray) (w : World) : Calls Tryz.prog 105 #[.string s, .nilIface] w fun ev w' => ev = .returned .nilIface ∧ w = w' := by
  go_enter Tryz.func105, Tryz.ntmps105
  go_wp2
  go_ret
  exact ⟨rfl, rfl⟩

/-- What an error is wrapped around. -/
def Er.sub : Er → Er
  | .fault _ _ _ e => e
  | _ => .nil
theorem Tryz.hasUnwrapF (v : Value) (xT : TypeId) (w : World) : (Instr.typeAssert (.iface 126 v) xT 190 true).run Tryz.prog w = .ok (.tuple #[.iface 126 v, .bool true]) w := run_typeAssert_hasB Tryz.underlying190 (by kernel_rfl) v xT w
theorem Tryz.noUnwrapP (v : Value) (xT : TypeId) (w : World) : (Instr.typeAssert (.iface 107 v) xT 190 true).run Tryz.prog w = .ok (.tuple #[.nilIface, .bool false]) w := run_typeAssert_lacksB Tryz.underlying190 (by kernel_rfl) (by kernel_rfl) v xT w
theorem Tryz.noUnwrapsP (v : Value) (xT : TypeId) (w : World) : (Instr.typeAssert (.iface 107 v) xT 192 true).run Tryz.prog w = .ok (.tuple #[.nilIface, .bool false]) w := run_typeAssert_lacksB Tryz.underlying192 (by kernel_rfl) (by kernel_rfl) v xT w

theorem erAt_nil {w : World} {x : Value} (h : ErAt w x .nil) : x = .nilIface := by cases h; rfl
theorem unwrap_fault (b : Nat) (cs : Array Value) (x : Value) (t : TypeId) (w : World) (hb : w.heap[b]? = some (.cells cs t (0, 0))) (hx : cs[2]? = some x) :
    Calls Tryz.prog 134 #[.iface 126 (.pointer (some ⟨b, 0, none⟩))] w fun ev w' => ev = .returned x ∧ w = w' := by
  have u1 := Tryz.hasUnwrapF
  have h2 : w.cell? ⟨b, 2, none⟩ = some x := by rw [heap_cell hb]; exact hx
  clear hb hx
  go_enter Tryz.func134, Tryz.ntmps134
  go_wp2
  go_ret
  exact ⟨rfl, rfl⟩

set_option maxRecDepth 100000 in
theorem unwrap_calls (v : Value) (e : Er) (w : World) (h : ErAt w v e) (hne : e ≠ .nil) :
    Calls Tryz.prog 134 #[v] w fun ev w' => ∃ v', ev = .returned v' ∧ ErAt w v' e.sub ∧ w = w' := by
  have u1 := Tryz.hasUnwrapF
  have u2 := Tryz.noUnwrapP
  have u3 := Tryz.noUnwrapX
  cases h with
  | nil => exact absurd rfl hne
  | plain c =>
    clear hne
    go_enter Tryz.func134, Tryz.ntmps134
    go_wp2
    go_ret
    exact ⟨_, rfl, .nil, rfl⟩
  | fault b c s x e hb hx =>
    have h2 : w.cell? ⟨b, 2, none⟩ = some x := by rw [heap_cell hb]; rfl
    have HX := Lib.hid hx
    clear hb hx hne
    go_enter Tryz.func134, Tryz.ntmps134
    go_wp2
    go_ret
    exact ⟨_, rfl, HX.out, rfl⟩
  | text b s hb =>
    clear hb hne
    go_enter Tryz.func134, Tryz.ntmps134
    go_wp2
    go_ret
    exact ⟨_, rfl, .nil, rfl⟩

theorem Tryz.infoStr : (Tryz.prog.info? 9).map (fun i => (i.zero, i.size, i.bytes)) = some (some (.string ⟨#[]⟩), 1, 16) := by kernel_rfl

set_option maxRecDepth 100000 in
set_option maxHeartbeats 1000000 in
/-- fault.Where tells the places, in memory of its own. -/
theorem where_calls (v : Value) (e : Er) (w : World) (h : ErAt w v e) (hd : e.len ≤ 1000000) :
    Calls Tryz.prog 107 #[v] w fun ev w' => ∃ r, ev = .returned r ∧ w'.ownsRow w.heap.size 9 1 r e.places.length (e.places.map Value.string) ∧ Gr w w' := by
  obtain ⟨i0, hi, hz0, hz1, hz2⟩ := info_parts Tryz.infoStr
  have c1 := Tryz.castFF
  have c2 := Tryz.castPF
  have c3 := Tryz.castXF
  have H := Lib.hid h
  clear h
  go_enter Tryz.func107, Tryz.ntmps107
  go_wp2
  go_loopg [0, 3] e.len (fun k x l wr => ∃ e' pre, k = e'.len ∧ ErAt w x e' ∧ wr.ownsRow w.heap.size 9 1 l pre.length (pre.map Value.string) ∧ pre ++ e'.places = e.places ∧ pre.length + e'.len ≤ e.len ∧ Gr w wr)
  case atStart => exact ⟨e, [], rfl, H.out, World.ownsRow_nil _ _ _ _, rfl, by simp, Gr.rf w⟩
  case round =>
    obtain ⟨e', pre, hk, hx, hown, hpre, hlen, hgr⟩ := hrel
    have HP := Lib.hid hpre
    have HK := Lib.hid hk
    clear hpre hk
    cases hx with
    | nil =>
      go_wp2
      go_ret
      have hp := HP.out
      simp only [Er.places, List.append_nil] at hp
      subst hp
      exact ⟨_, rfl, hown, hgr⟩
    | plain c =>
      go_wp2_with (go_at_call 134; refine (unwrap_calls _ _ _ (.plain c) (by simp)).mono ?_; rintro ev w1 ⟨x1, rfl, hx1, rfl⟩; obtain rfl := erAt_nil hx1; clear hx1)
      go_roundg 0
      case measure => have := HK.out; simp [Er.len] at this; omega
      case rel => exact ⟨.nil, pre, rfl, .nil, hown, by have := HP.out; simpa [Er.places] using this, by simp [Er.len] at hlen ⊢; omega, hgr⟩
    | text b s hb =>
      have HB := Lib.hid (hgr.heap hb)
      clear hb
      go_wp2_with (go_at_call 134; refine (unwrap_calls _ _ _ (.text b s HB.out) (by simp)).mono ?_; rintro ev w1 ⟨x1, rfl, hx1, rfl⟩; obtain rfl := erAt_nil hx1; clear hx1)
      go_roundg 0
      case measure => have := HK.out; simp [Er.len] at this; omega
      case rel => exact ⟨.nil, pre, rfl, .nil, hown, by have := HP.out; simpa [Er.places] using this, by simp [Er.len] at hlen ⊢; omega, hgr⟩
    | fault b c s x e1 hb hx =>
      have h1 : wr.cell? ⟨b, 1, none⟩ = some (.string s) := by rw [heap_cell (hgr.heap hb)]; rfl
      have HB := Lib.hid hb
      have HX := Lib.hid hx
      clear hb hx
      by_cases hs : s.toList.isEmpty = true
      · have hs1 : (!s.toList.isEmpty) = false := by rw [hs]; rfl
        have HS := Lib.hid hs
        clear hs
        go_wp2_with (go_at_call 134; refine (unwrap_fault b _ x _ _ (hgr.heap HB.out) rfl).mono ?_; rintro ev w1 ⟨rfl, rfl⟩)
        go_roundg e1.len
        case measure => have := HK.out; simp [Er.len] at this; omega
        case rel => exact ⟨e1, pre, rfl, HX.out, hown, by have := HP.out; simpa [Er.places, HS.out] using this, by simp [Er.len] at hlen ⊢; omega, hgr⟩
      · have hs1 : (!s.toList.isEmpty) = true := by simpa using hs
        have HS := Lib.hid hs
        clear hs
        have hm : pre.length + 1 ≤ 1000001 := by simp [Er.len] at hlen; omega
        go_wp2_with (first
          | (at_builtin; refine wpList_append_own _ rfl _ _ 78 rfl w.heap.size 9 i0 (.string ⟨#[]⟩) 1 16 Tryz.underlying78 hi hz0 hz1 hz2 rfl (by decide) _ _ _ rfl (hown.alloc _) ⟨wr.heap.size, 0, none⟩ 1 1 [.string s] rfl rfl ?c1 ?c2 ?c3 ?c4 ?c5 ?_) | fail)
        case c1 => exact cell_one_new _ _ _
        case c2 => simp [Value.oneCell']
        case c3 => simp only [maxLen]; omega
        case c4 => omega
        case c5 => have := hgr.size; simp; omega
        intro v' w1 hown1 hgrow _
        have hg1 : Gr w w1 := (hgr.alloc hgr.size _).grown hgrow (by have := hgr.size; simp; omega) (fun k hk => (hown.lt k hk).1)
        go_wp2_with (go_at_call 134; refine (unwrap_fault b _ x _ _ (hg1.heap HB.out) rfl).mono ?_; rintro ev w2 ⟨rfl, rfl⟩)
        go_roundg e1.len
        case measure => have := HK.out; simp [Er.len] at this; omega
        case rel => exact ⟨e1, pre ++ [s], rfl, HX.out, by simpa using hown1, by have := HP.out; have h2 := HS.out; simpa [Er.places, h2] using this, by simp [Er.len] at hlen ⊢; omega, hg1⟩
end Go.Proofs.YtkmooclhebjlpaaGreatDoor
