/- Layer 1: '==' of two codes that are errors; (*Fault).Is; errors.is over a chain, by what is asked for. -/
import Derived.Test.YtkmooclhebjlpaaGreatDoorFh
namespace Go.Proofs.YtkmooclhebjlpaaGreatDoor
open Go.RowKit Go.Extern.Stop Go.Stop Go.Extern
set_option linter.unusedVariables false
set_option linter.unusedSimpArgs false

theorem eql_codes (w : World) (x y : Int) : (binOp .eql 26 (.iface 107 (.int .i64 x)) (.iface 107 (.int .i64 y))).run Tryz.prog w = .ok (.bool (x == y)) w := by
  obtain ⟨i, hi, hc⟩ := Option.map_eq_some_iff.1 (show (Tryz.prog.info? 107).map (·.comparable) = some true by kernel_rfl)
  have h : ∀ d : Nat, (Op.equalIn (d + 2) 26 (.iface 107 (.int .i64 x)) (.iface 107 (.int .i64 y))).run Tryz.prog w = .ok (x == y) w := fun d => by
    simp [Op.equalIn, run_underlying Tryz.underlying26, run_underlying Tryz.underlying107, typeInfo, hi, hc]
  simp only [binOp]
  simp [Op.equal, Op.maxDepth, h 9998]

/-- What is asked for: a code; the error at a block. -/
inductive Tg where
  | code (c : Int)
  | fault (b : Nat)
  | text (b : Nat)
inductive TgAt (w : World) : Value → Tg → Prop
  | code (c : Int) : TgAt w (.iface 107 (.int .i64 c)) (.code c)
  | fault (b : Nat) (cs : Array Value) : w.heap[b]? = some (.cells cs 130 (0, 0)) → TgAt w (.iface 126 (.pointer (some ⟨b, 0, none⟩))) (.fault b)
  | text (b : Nat) (cs : Array Value) : w.heap[b]? = some (.cells cs 212 (0, 0)) → TgAt w (.iface 210 (.pointer (some ⟨b, 0, none⟩))) (.text b)
theorem TgAt.gr {w w' : World} (hg : Gr w w') {v : Value} {t : Tg} (h : TgAt w v t) : TgAt w' v t := by
  cases h with
  | code c => exact .code c
  | fault b cs hb => exact .fault b cs (hg.heap hb)
  | text b cs hb => exact .text b cs (hg.heap hb)
/-- '==' of an error of a chain and what is asked for. -/
def Er.eqT (t : Tg) : Er → Bool
  | .nil => false
  | .plain c => match t with | .code d => c == d | _ => false
  | .text b => match t with | .text d => b == d | _ => false
  | .fault b _ _ _ => match t with | .fault d => b == d | _ => false
/-- Is it that code? -/
def Tg.isCode (c : Int) : Tg → Bool
  | .code d => d == c
  | _ => false
/-- Is an error that, or one beneath it? -/
def Er.isT (t : Tg) : Er → Bool
  | .fault b c s e => (Er.fault b c s e).eqT t || t.isCode c || e.isT t
  | e => e.eqT t

theorem isT_fault (b : Nat) (c : Int) (s : ByteArray) (e : Er) (t : Tg) : (Er.fault b c s e).isT t = ((Er.fault b c s e).eqT t || t.isCode c || e.isT t) := rfl
theorem Tryz.hasIsF (v : Value) (xT : TypeId) (w : World) : (Instr.typeAssert (.iface 126 v) xT 206 true).run Tryz.prog w = .ok (.tuple #[.iface 126 v, .bool true]) w := run_typeAssert_hasB Tryz.underlying206 (by kernel_rfl) v xT w
theorem Tryz.noIsP (v : Value) (xT : TypeId) (w : World) : (Instr.typeAssert (.iface 107 v) xT 206 true).run Tryz.prog w = .ok (.tuple #[.nilIface, .bool false]) w := run_typeAssert_lacksB Tryz.underlying206 (by kernel_rfl) (by kernel_rfl) v xT w
theorem Tryz.noIsX (v : Value) (xT : TypeId) (w : World) : (Instr.typeAssert (.iface 210 v) xT 206 true).run Tryz.prog w = .ok (.tuple #[.nilIface, .bool false]) w := run_typeAssert_lacksB Tryz.underlying206 (by kernel_rfl) (by kernel_rfl) v xT w

set_option maxRecDepth 100000 in
theorem faultIs_code (b : Nat) (c d : Int) (w : World) (hc : w.cell? ⟨b, 0, none⟩ = some (.int .i64 c)) :
    Calls Tryz.prog 176 #[.pointer (some ⟨b, 0, none⟩), .iface 107 (.int .i64 d)] w fun e w' => e = .returned (.bool (d == c)) ∧ w = w' := by
  have c1 := Tryz.castPP
  go_enter Tryz.func176, Tryz.ntmps176
  go_wp2
  go_ret
  exact ⟨rfl, rfl⟩
set_option maxRecDepth 100000 in
theorem faultIs_other (b : Nat) (v : Value) (t : Tg) (w : World) (h : TgAt w v t) (hn : ∀ c, t ≠ .code c) :
    Calls Tryz.prog 176 #[.pointer (some ⟨b, 0, none⟩), v] w fun e w' => e = .returned (.bool false) ∧ w = w' := by
  have c1 := Tryz.castFP
  have c2 := Tryz.castXP
  cases h with
  | code c => exact absurd rfl (hn c)
  | fault b cs hb =>
    clear hb hn
    go_enter Tryz.func176, Tryz.ntmps176
    go_wp2
    go_ret
    exact ⟨rfl, rfl⟩
  | text b cs hb =>
    clear hb hn
    go_enter Tryz.func176, Tryz.ntmps176
    go_wp2
    go_ret
    exact ⟨rfl, rfl⟩
set_option maxRecDepth 100000 in
theorem faultIs_nil (d : Int) (w : World) : Calls Tryz.prog 176 #[.pointer none, .iface 107 (.int .i64 d)] w fun e w' => e = .returned (.bool false) ∧ w = w' := by
  have c1 := Tryz.castPP
  go_enter Tryz.func176, Tryz.ntmps176
  go_wp2
  go_ret
  exact ⟨rfl, rfl⟩
theorem eql_tg (v tv : Value) (e : Er) (t : Tg) (w : World) (h : ErAt w v e) (ht : TgAt w tv t) (hne : e ≠ .nil) : (binOp .eql 26 v tv).run Tryz.prog w = .ok (.bool (e.eqT t)) w := by
  obtain ⟨i, hi, hc⟩ := Option.map_eq_some_iff.1 (show (Tryz.prog.info? 126).map (·.comparable) = some true by kernel_rfl)
  obtain ⟨i2, hi2, hc2⟩ := Option.map_eq_some_iff.1 (show (Tryz.prog.info? 210).map (·.comparable) = some true by kernel_rfl)
  obtain ⟨j, hj, hjs⟩ := Option.map_eq_some_iff.1 (show (Tryz.prog.info? 130).map (·.size) = some 3 by kernel_rfl)
  obtain ⟨j2, hj2, hjs2⟩ := Option.map_eq_some_iff.1 (show (Tryz.prog.info? 212).map (·.size) = some 1 by kernel_rfl)
  cases h with
  | nil => exact absurd rfl hne
  | plain c =>
    cases ht with
    | code d => exact eql_codes w c d
    | fault b cs hb => exact run_eql_iface_types _ _ _ _ Tryz.underlying26 (by decide) w
    | text b cs hb => exact run_eql_iface_types _ _ _ _ Tryz.underlying26 (by decide) w
  | fault b c s x e hb hx =>
    cases ht with
    | code d => exact run_eql_iface_types _ _ _ _ Tryz.underlying26 (by decide) w
    | fault b2 cs hb2 =>
      by_cases hbb : b = b2
      · subst hbb
        rw [show (Er.fault b c s e).eqT (.fault b) = true from beq_self_eq_true b]
        exact run_eql_iface_ptr_same (P := Tryz.prog) w ⟨b, 0, none⟩ Tryz.underlying26 Tryz.underlying126 hi hc hj
      · have := run_eql_iface_ptr_other (P := Tryz.prog) w (a := ⟨b, 0, none⟩) (b := ⟨b2, 0, none⟩) Tryz.underlying26 Tryz.underlying126 hi hc hj (by rw [hjs]; decide) (fun h => hbb (congrArg Addr.block h)) hb hb2
        rw [show (Er.fault b c s e).eqT (.fault b2) = false from beq_eq_false_iff_ne.2 hbb]
        exact this
    | text b cs hb => exact run_eql_iface_types _ _ _ _ Tryz.underlying26 (by decide) w
  | text b s hb =>
    cases ht with
    | code d => exact run_eql_iface_types _ _ _ _ Tryz.underlying26 (by decide) w
    | fault b2 cs hb2 => exact run_eql_iface_types _ _ _ _ Tryz.underlying26 (by decide) w
    | text b2 cs hb2 =>
      by_cases hbb : b = b2
      · subst hbb
        rw [show (Er.text b).eqT (.text b) = true from beq_self_eq_true b]
        exact run_eql_iface_ptr_same (P := Tryz.prog) w ⟨b, 0, none⟩ Tryz.underlying26 Tryz.underlying210 hi2 hc2 hj2
      · have := run_eql_iface_ptr_other (P := Tryz.prog) w (a := ⟨b, 0, none⟩) (b := ⟨b2, 0, none⟩) Tryz.underlying26 Tryz.underlying210 hi2 hc2 hj2 (by rw [hjs2]; decide) (fun h => hbb (congrArg Addr.block h)) hb hb2
        rw [show (Er.text b).eqT (.text b2) = false from beq_eq_false_iff_ne.2 hbb]
        exact this

theorem faultIs_calls (b : Nat) (c : Int) (tv : Value) (t : Tg) (w : World) (hc : w.cell? ⟨b, 0, none⟩ = some (.int .i64 c)) (h : TgAt w tv t) :
    Calls Tryz.prog 176 #[.pointer (some ⟨b, 0, none⟩), tv] w fun e w' => e = .returned (.bool (t.isCode c)) ∧ w = w' := by
  cases h with
  | code d => exact faultIs_code b c d w hc
  | fault b2 cs hb => exact faultIs_other b _ (.fault b2) w (.fault b2 cs hb) (by simp)
  | text b2 cs hb => exact faultIs_other b _ (.text b2) w (.text b2 cs hb) (by simp)
set_option maxRecDepth 100000 in
theorem faultUnwrap_calls (b : Nat) (x : Value) (w : World) (hc : w.cell? ⟨b, 2, none⟩ = some x) :
    Calls Tryz.prog 177 #[.pointer (some ⟨b, 0, none⟩)] w fun e w' => e = .returned x ∧ w = w' := by
  go_enter Tryz.func177, Tryz.ntmps177
  go_wp2
  go_ret
  exact ⟨rfl, rfl⟩
theorem faultUnwrap_nil (w : World) :
    Calls Tryz.prog 177 #[.pointer none] w fun e w' => e = .returned .nilIface ∧ w = w' := by
  go_enter Tryz.func177, Tryz.ntmps177
  go_wp2
  go_ret
  exact ⟨rfl, rfl⟩

theorem ret_bool {a b : Bool} (h : a = b) : Ending.returned (.bool a) = .returned (.bool b) := by rw [h]

set_option maxHeartbeats 4000000 in
set_option maxRecDepth 100000 in
/-- errors.is: down a chain. -/
theorem is_calls (v tv : Value) (e : Er) (t : Tg) (w : World) (h : ErAt w v e) (ht : TgAt w tv t) (hne : e ≠ .nil) :
    Calls Tryz.prog 136 #[v, tv, .bool true] w fun ev w' => ev = .returned (.bool (e.isT t)) ∧ w = w' := by
  have i1 := Tryz.hasIsF
  have i2 := Tryz.noIsP
  have i3 := Tryz.noIsX
  have u1 := Tryz.hasUnwrapF
  have u2 := Tryz.noUnwrapP
  have u3 := Tryz.noUnwrapX
  have u4 := Tryz.noUnwrapsP
  have u5 := Tryz.noUnwrapsX
  have H := Lib.hid h
  have HT := Lib.hid ht
  have HN := Lib.hid hne
  clear h ht hne
  go_enter Tryz.func136, Tryz.ntmps136
  go_wp2
  go_loopg [0] e.len (fun k x wr => ∃ e', e'.len ≤ k ∧ e' ≠ .nil ∧ ErAt w x e' ∧ e'.isT t = e.isT t ∧ w = wr)
  case atStart => exact ⟨e, Nat.le_refl _, HN.out, H.out, rfl, rfl⟩
  case round =>
    obtain ⟨e', hk, hne, hx, hst, rfl⟩ := hrel
    have heq := eql_tg _ _ e' t w hx HT.out hne
    have HS := Lib.hid hst
    have HK := Lib.hid hk
    have HE := Lib.hid hne
    clear hst hne hk
    cases hx with
    | nil => exact absurd rfl HE.out
    | plain c =>
      cases hq : (Er.plain c).eqT t
      all_goals
        rw [hq] at heq
        have HQ := Lib.hid hq
        clear hq
        go_wp2
        go_ret
        exact ⟨ret_bool (HQ.out.symm.trans HS.out), rfl⟩
    | text b s hb =>
      clear hb
      cases hq : (Er.text b).eqT t
      all_goals
        rw [hq] at heq
        have HQ := Lib.hid hq
        clear hq
        go_wp2
        go_ret
        exact ⟨ret_bool (HQ.out.symm.trans HS.out), rfl⟩
    | fault b c s x e1 hb hx =>
      have h0 : w.cell? ⟨b, 0, none⟩ = some (.int .i64 c) := by rw [heap_cell hb]; rfl
      have h2 : w.cell? ⟨b, 2, none⟩ = some x := by rw [heap_cell hb]; rfl
      have HF := Lib.hid (faultIs_calls b c _ t w h0 HT.out)
      have HX := Lib.hid hx
      clear hb hx h0
      cases hq : (Er.fault b c s e1).eqT t
      · rw [hq] at heq
        have HQ := Lib.hid hq
        clear hq
        cases hr : t.isCode c
        · rw [hr] at HF
          have HR := Lib.hid hr
          clear hr
          cases HX.out with
          | nil =>
            have HU := Lib.hid (faultUnwrap_calls b _ w h2)
            clear h2
            go_wp2_with (first
              | (go_at_call 176; (with_reducible refine HF.out.mono ?_); rintro ev w3 ⟨rfl, rfl⟩)
              | (go_at_call 177; (with_reducible refine HU.out.mono ?_); rintro ev w3 ⟨rfl, rfl⟩))
            go_ret
            exact ⟨ret_bool (by rw [← HS.out, Er.isT, HQ.out, HR.out]; rfl), rfl⟩
          | _ =>
            have HU := Lib.hid (faultUnwrap_calls b _ w h2)
            clear h2
            go_wp2_with (first
              | (go_at_call 176; (with_reducible refine HF.out.mono ?_); rintro ev w3 ⟨rfl, rfl⟩)
              | (go_at_call 177; (with_reducible refine HU.out.mono ?_); rintro ev w3 ⟨rfl, rfl⟩))
            go_roundg (gk - 1)
            case measure => have := HK.out; simp [Er.len] at this; omega
            case rel => exact ⟨_, by have := HK.out; simp [Er.len] at this ⊢; omega, by simp, HX.out, by have h := HS.out; rw [isT_fault, HQ.out, HR.out, Bool.false_or, Bool.false_or] at h; exact h, rfl⟩
        · rw [hr] at HF
          have HR := Lib.hid hr
          clear hr
          go_wp2_with (go_at_call 176; (with_reducible refine HF.out.mono ?_); rintro ev w3 ⟨rfl, rfl⟩)
          go_ret
          exact ⟨ret_bool (by rw [← HS.out, Er.isT, HR.out, Bool.or_true, Bool.true_or]), rfl⟩
      · rw [hq] at heq
        have HQ := Lib.hid hq
        clear hq
        go_wp2
        go_ret
        exact ⟨ret_bool (by rw [← HS.out, Er.isT, HQ.out, Bool.true_or, Bool.true_or]), rfl⟩
end Go.Proofs.YtkmooclhebjlpaaGreatDoor
