/- Layer 1: '==' of two codes that are errors; (*Fault).Is; errors.is over a chain, by what is asked for. -/
import Derived.Test.YtepngojepaeikaaDoorFh
namespace Go.Proofs.YtepngojepaeikaaDoor
open Go.RowKit Go.Extern.Stop Go.Stop Go.Extern
set_option linter.unusedVariables false
set_option linter.unusedSimpArgs false

theorem eql_codes (w : World) (x y : Int) : (binOp .eql 24 (.iface 55 (.int .i64 x)) (.iface 55 (.int .i64 y))).run Tryd.prog w = .ok (.bool (x == y)) w := by
  obtain ⟨i, hi, hc⟩ := Option.map_eq_some_iff.1 (show (Tryd.prog.info? 55).map (·.comparable) = some true by kernel_rfl)
  have h : ∀ d : Nat, (Op.equalIn (d + 2) 24 (.iface 55 (.int .i64 x)) (.iface 55 (.int .i64 y))).run Tryd.prog w = .ok (x == y) w := fun d => by
    simp [Op.equalIn, run_underlying Tryd.underlying24, run_underlying Tryd.underlying55, typeInfo, hi, hc]
  simp only [binOp]
  simp [Op.equal, Op.maxDepth, h 9998]

/-- What is asked for: a code; the error at a block. -/
inductive Tg where
  | code (c : Int)
  | fault (b : Nat)
  | text (b : Nat)
inductive TgAt (w : World) : Value → Tg → Prop
  | code (c : Int) : TgAt w (.iface 55 (.int .i64 c)) (.code c)
  | fault (b : Nat) (cs : Array Value) : w.heap[b]? = some (.cells cs 48 (0, 0)) → TgAt w (.iface 34 (.pointer (some ⟨b, 0, none⟩))) (.fault b)
  | text (b : Nat) (cs : Array Value) : w.heap[b]? = some (.cells cs 68 (0, 0)) → TgAt w (.iface 66 (.pointer (some ⟨b, 0, none⟩))) (.text b)
theorem TgAt.gr {w w' : World} (hg : Gr w w') {v : Value} {t : Tg} (h : TgAt w v t) : TgAt w' v t := by
  cases h with
  | code c => exact .code c
  | fault b cs hb => exact .fault b cs (hg.heap hb)
  | text b cs hb => exact .text b cs (hg.heap hb)
/-- '==' of an error of a chain and what is asked for. -/
def Er.eqT (t : Tg) : Er → Bool
  | .nil => false
  | .plain c => match t with | .code d => c == d | _ => false
  | .text b => match t with | .text d => b == d | _ => false
  | .fault b _ _ _ => match t with | .fault d => b == d | _ => false
/-- Is it that code? -/
def Tg.isCode (c : Int) : Tg → Bool
  | .code d => d == c
  | _ => false
/-- Is an error that, or one beneath it? -/
def Er.isT (t : Tg) : Er → Bool
  | .fault b c s e => (Er.fault b c s e).eqT t || t.isCode c || e.isT t
  | e => e.eqT t

theorem isT_fault (b : Nat) (c : Int) (s : ByteArray) (e : Er) (t : Tg) : (Er.fault b c s e).isT t = ((Er.fault b c s e).eqT t || t.isCode c || e.isT t) := rfl
theorem Tryd.hasIsF (v : Value) (xT : TypeId) (w : World) : (Instr.typeAssert (.iface 34 v) xT 76 true).run Tryd.prog w = .ok (.tuple #[.iface 34 v, .bool true]) w := run_typeAssert_hasB Tryd.underlying76 (by kernel_rfl) v xT w
theorem Tryd.noIsP (v : Value) (xT : TypeId) (w : World) : (Instr.typeAssert (.iface 55 v) xT 76 true).run Tryd.prog w = .ok (.tuple #[.nilIface, .bool false]) w := run_typeAssert_lacksB Tryd.underlying76 (by kernel_rfl) (by kernel_rfl) v xT w
theorem Tryd.noIsX (v : Value) (xT : TypeId) (w : World) : (Instr.typeAssert (.iface 66 v) xT 76 true).run Tryd.prog w = .ok (.tuple #[.nilIface, .bool false]) w := run_typeAssert_lacksB Tryd.underlying76 (by kernel_rfl) (by kernel_rfl) v xT w

set_option maxRecDepth 100000 in
theorem faultIs_code (b : Nat) (c d : Int) (w : World) (hc : w.cell? ⟨b, 0, none⟩ = some (.int .i64 c)) :
    Calls Tryd.prog 21 #[.pointer (some ⟨b, 0, none⟩), .iface 55 (.int .i64 d)] w fun e w' => e = .returned (.bool (d == c)) ∧ w = w' := by
  have c1 := Tryd.castPP
  go_enter Tryd.func21, Tryd.ntmps21
  go_wp2
  go_ret
  exact ⟨rfl, rfl⟩
set_option maxRecDepth 100000 in
theorem faultIs_other (b : Nat) (v : Value) (t : Tg) (w : World) (h : TgAt w v t) (hn : ∀ c, t ≠ .code c) :
    Calls Tryd.prog 21 #[.pointer (some ⟨b, 0, none⟩), v] w fun e w' => e = .returned (.bool false) ∧ w = w' := by
  have c1 := Tryd.castFP
  have c2 := Tryd.castXP
  cases h with
  | code c => exact absurd rfl (hn c)
  | fault b cs hb =>
    clear hb hn
    go_enter Tryd.func21, Tryd.ntmps21
    go_wp2
    go_ret
    exact ⟨rfl, rfl⟩
  | text b cs hb =>
    clear hb hn
    go_enter Tryd.func21, Tryd.ntmps21
    go_wp2
    go_ret
    exact ⟨rfl, rfl⟩
set_option maxRecDepth 100000 in
theorem faultIs_nil (d : Int) (w : World) : Calls Tryd.prog 21 #[.pointer none, .iface 55 (.int .i64 d)] w fun e w' => e = .returned (.bool false) ∧ w = w' := by
  have c1 := Tryd.castPP
  go_enter Tryd.func21, Tryd.ntmps21
  go_wp2
  go_ret
  exact ⟨rfl, rfl⟩
theorem eql_tg (v tv : Value) (e : Er) (t : Tg) (w : World) (h : ErAt w v e) (ht : TgAt w tv t) (hne : e ≠ .nil) : (binOp .eql 24 v tv).run Tryd.prog w = .ok (.bool (e.eqT t)) w := by
  obtain ⟨i, hi, hc⟩ := Option.map_eq_some_iff.1 (show (Tryd.prog.info? 34).map (·.comparable) = some true by kernel_rfl)
  obtain ⟨i2, hi2, hc2⟩ := Option.map_eq_some_iff.1 (show (Tryd.prog.info? 66).map (·.comparable) = some true by kernel_rfl)
  obtain ⟨j, hj, hjs⟩ := Option.map_eq_some_iff.1 (show (Tryd.prog.info? 48).map (·.size) = some 3 by kernel_rfl)
  obtain ⟨j2, hj2, hjs2⟩ := Option.map_eq_some_iff.1 (show (Tryd.prog.info? 68).map (·.size) = some 1 by kernel_rfl)
  cases h with
  | nil => exact absurd rfl hne
  | plain c =>
    cases ht with
    | code d => exact eql_codes w c d
    | fault b cs hb => exact run_eql_iface_types _ _ _ _ Tryd.underlying24 (by decide) w
    | text b cs hb => exact run_eql_iface_types _ _ _ _ Tryd.underlying24 (by decide) w
  | fault b c s x e hb hx =>
    cases ht with
    | code d => exact run_eql_iface_types _ _ _ _ Tryd.underlying24 (by decide) w
    | fault b2 cs hb2 =>
      by_cases hbb : b = b2
      · subst hbb
        rw [show (Er.fault b c s e).eqT (.fault b) = true from beq_self_eq_true b]
        exact run_eql_iface_ptr_same (P := Tryd.prog) w ⟨b, 0, none⟩ Tryd.underlying24 Tryd.underlying34 hi hc hj
      · have := run_eql_iface_ptr_other (P := Tryd.prog) w (a := ⟨b, 0, none⟩) (b := ⟨b2, 0, none⟩) Tryd.underlying24 Tryd.underlying34 hi hc hj (by rw [hjs]; decide) (fun h => hbb (congrArg Addr.block h)) hb hb2
        rw [show (Er.fault b c s e).eqT (.fault b2) = false from beq_eq_false_iff_ne.2 hbb]
        exact this
    | text b cs hb => exact run_eql_iface_types _ _ _ _ Tryd.underlying24 (by decide) w
  | text b s hb =>
    cases ht with
    | code d => exact run_eql_iface_types _ _ _ _ Tryd.underlying24 (by decide) w
    | fault b2 cs hb2 => exact run_eql_iface_types _ _ _ _ Tryd.underlying24 (by decide) w
    | text b2 cs hb2 =>
      by_cases hbb : b = b2
      · subst hbb
        rw [show (Er.text b).eqT (.text b) = true from beq_self_eq_true b]
        exact run_eql_iface_ptr_same (P := Tryd.prog) w ⟨b, 0, none⟩ Tryd.underlying24 Tryd.underlying66 hi2 hc2 hj2
      · have := run_eql_iface_ptr_other (P := Tryd.prog) w (a := ⟨b, 0, none⟩) (b := ⟨b2, 0, none⟩) Tryd.underlying24 Tryd.underlying66 hi2 hc2 hj2 (by rw [hjs2]; decide) (fun h => hbb (congrArg Addr.block h)) hb hb2
        rw [show (Er.text b).eqT (.text b2) = false from beq_eq_false_iff_ne.2 hbb]
        exact this

theorem faultIs_calls (b : Nat) (c : Int) (tv : Value) (t : Tg) (w : World) (hc : w.cell? ⟨b, 0, none⟩ = some (.int .i64 c)) (h : TgAt w tv t) :
    Calls Tryd.prog 21 #[.pointer (some ⟨b, 0, none⟩), tv] w fun e w' => e = .returned (.bool (t.isCode c)) ∧ w = w' := by
  cases h with
  | code d => exact faultIs_code b c d w hc
  | fault b2 cs hb => exact faultIs_other b _ (.fault b2) w (.fault b2 cs hb) (by simp)
  | text b2 cs hb => exact faultIs_other b _ (.text b2) w (.text b2 cs hb) (by simp)
set_option maxRecDepth 100000 in
theorem faultUnwrap_calls (b : Nat) (x : Value) (w : World) (hc : w.cell? ⟨b, 2, none⟩ = some x) :
    Calls Tryd.prog 20 #[.pointer (some ⟨b, 0, none⟩)] w fun e w' => e = .returned x ∧ w = w' := by
  go_enter Tryd.func20, Tryd.ntmps20
  go_wp2
  go_ret
  exact ⟨rfl, rfl⟩
theorem faultUnwrap_nil (w : World) :
    Calls Tryd.prog 20 #[.pointer none] w fun e w' => e = .returned .nilIface ∧ w = w' := by
  go_enter Tryd.func20, Tryd.ntmps20
  go_wp2
  go_ret
  exact ⟨rfl, rfl⟩

theorem ret_bool {a b : Bool} (h : a = b) : Ending.returned (.bool a) = .returned (.bool b) := by rw [h]

set_option maxHeartbeats 4000000 in
set_option maxRecDepth 100000 in
/-- errors.is: down a chain. -/
theorem is_calls (v tv : Value) (e : Er) (t : Tg) (w : World) (h : ErAt w v e) (ht : TgAt w tv t) (hne : e ≠ .nil) :
    Calls Tryd.prog 25 #[v, tv, .bool true] w fun ev w' => ev = .returned (.bool (e.isT t)) ∧ w = w' := by
  have i1 := Tryd.hasIsF
  have i2 := Tryd.noIsP
  have i3 := Tryd.noIsX
  have u1 := Tryd.hasUnwrapF
  have u2 := Tryd.noUnwrapP
  have u3 := Tryd.noUnwrapX
  have u4 := Tryd.noUnwrapsP
  have u5 := Tryd.noUnwrapsX
  have H := Lib.hid h
  have HT := Lib.hid ht
  have HN := Lib.hid hne
  clear h ht hne
  go_enter Tryd.func25, Tryd.ntmps25
  go_wp2
  go_loopg [0] e.len (fun k x wr => ∃ e', e'.len ≤ k ∧ e' ≠ .nil ∧ ErAt w x e' ∧ e'.isT t = e.isT t ∧ w = wr)
  case atStart => exact ⟨e, Nat.le_refl _, HN.out, H.out, rfl, rfl⟩
  case round =>
    obtain ⟨e', hk, hne, hx, hst, rfl⟩ := hrel
    have heq := eql_tg _ _ e' t w hx HT.out hne
    have HS := Lib.hid hst
    have HK := Lib.hid hk
    have HE := Lib.hid hne
    clear hst hne hk
    cases hx with
    | nil => exact absurd rfl HE.out
    | plain c =>
      cases hq : (Er.plain c).eqT t
      all_goals
        rw [hq] at heq
        have HQ := Lib.hid hq
        clear hq
        go_wp2
        go_ret
        exact ⟨ret_bool (HQ.out.symm.trans HS.out), rfl⟩
    | text b s hb =>
      clear hb
      cases hq : (Er.text b).eqT t
      all_goals
        rw [hq] at heq
        have HQ := Lib.hid hq
        clear hq
        go_wp2
        go_ret
        exact ⟨ret_bool (HQ.out.symm.trans HS.out), rfl⟩
    | fault b c s x e1 hb hx =>
      have h0 : w.cell? ⟨b, 0, none⟩ = some (.int .i64 c) := by rw [heap_cell hb]; rfl
      have h2 : w.cell? ⟨b, 2, none⟩ = some x := by rw [heap_cell hb]; rfl
      have HF := Lib.hid (faultIs_calls b c _ t w h0 HT.out)
      have HX := Lib.hid hx
      clear hb hx h0
      cases hq : (Er.fault b c s e1).eqT t
      · rw [hq] at heq
        have HQ := Lib.hid hq
        clear hq
        cases hr : t.isCode c
        · rw [hr] at HF
          have HR := Lib.hid hr
          clear hr
          cases HX.out with
          | nil =>
            have HU := Lib.hid (faultUnwrap_calls b _ w h2)
            clear h2
            go_wp2_with (first
              | (go_at_call 21; (with_reducible refine HF.out.mono ?_); rintro ev w3 ⟨rfl, rfl⟩)
              | (go_at_call 20; (with_reducible refine HU.out.mono ?_); rintro ev w3 ⟨rfl, rfl⟩))
            go_ret
            exact ⟨ret_bool (by rw [← HS.out, Er.isT, HQ.out, HR.out]; rfl), rfl⟩
          | _ =>
            have HU := Lib.hid (faultUnwrap_calls b _ w h2)
            clear h2
            go_wp2_with (first
              | (go_at_call 21; (with_reducible refine HF.out.mono ?_); rintro ev w3 ⟨rfl, rfl⟩)
              | (go_at_call 20; (with_reducible refine HU.out.mono ?_); rintro ev w3 ⟨rfl, rfl⟩))
            go_roundg (gk - 1)
            case measure => have := HK.out; simp [Er.len] at this; omega
            case rel => exact ⟨_, by have := HK.out; simp [Er.len] at this ⊢; omega, by simp, HX.out, by have h := HS.out; rw [isT_fault, HQ.out, HR.out, Bool.false_or, Bool.false_or] at h; exact h, rfl⟩
        · rw [hr] at HF
          have HR := Lib.hid hr
          clear hr
          go_wp2_with (go_at_call 21; (with_reducible refine HF.out.mono ?_); rintro ev w3 ⟨rfl, rfl⟩)
          go_ret
          exact ⟨ret_bool (by rw [← HS.out, Er.isT, HR.out, Bool.or_true, Bool.true_or]), rfl⟩
      · rw [hq] at heq
        have HQ := Lib.hid hq
        clear hq
        go_wp2
        go_ret
        exact ⟨ret_bool (by rw [← HS.out, Er.isT, HQ.out, Bool.true_or, Bool.true_or]), rfl⟩
end Go.Proofs.YtepngojepaeikaaDoor
