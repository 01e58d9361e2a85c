/- Layer 1: the law FaultDeep comes to true, whatever comes in. -/
import Derived.Test.YtepngojepaeikaaDoorFn
namespace Go.Proofs.YtepngojepaeikaaDoor
open Go.RowKit Go.Extern.Stop Go.Stop Go.Extern
set_option linter.unusedVariables false
set_option linter.unusedSimpArgs false

/-- A chain of empty places above one. -/
inductive Above (c : Int) (at0 : ByteArray) : Nat → Er → Prop
  | zero (b : Nat) : Above c at0 0 (.fault b c at0 .nil)
  | succ (k : Nat) (e : Er) (b : Nat) : Above c at0 k e → Above c at0 (k + 1) (.fault b c ⟨#[]⟩ e)
theorem Above.facts {c : Int} {a : ByteArray} {k : Nat} {e : Er} (h : Above c a k e) : e.code = c ∧ e.len = k + 1 ∧ e.places = (if a.toList.isEmpty then [] else [a]) ∧ e.isT (.code c) = true ∧ ∃ b s e0, e = .fault b c s e0 := by
  induction h with
  | zero b => exact ⟨rfl, rfl, by simp [Er.places], by simp [Er.isT, Er.eqT, Tg.isCode], _, _, _, rfl⟩
  | succ k e b h ih => exact ⟨rfl, by simp [Er.len, ih.2.1], by simp [Er.places, ih.2.2.1, ByteArray.toList_eq], by simp [Er.isT, Er.eqT, Tg.isCode], _, _, _, rfl⟩

set_option maxHeartbeats 4000000 in
set_option maxRecDepth 100000 in
theorem faultDeep_calls (n m : Int) (a : ByteArray) (h0 : -9223372036854775808 ≤ n) (h1 : n ≤ 9223372036854775807) (h2 : -9223372036854775808 ≤ m) (h3 : m ≤ 9223372036854775807) (ha : a.size ≤ 9223372036854775807) (w : World) (hg : Has w) :
    Calls Tryd.prog 6 #[.int .i64 n, .int .i64 m, .string a] w fun e w' => e = .returned (.bool true) ∧ Gr w w' := by
  have HG := Lib.hid hg
  have HC := Lib.hid (codeOf_calls n h0 h1)
  have hbd := codeN_bd n
  obtain ⟨c, hcn⟩ : ∃ c : Nat, n % 11 + 1 = (c : Int) := ⟨(n % 11 + 1).toNat, by omega⟩
  rw [hcn] at HC hbd
  have hc0 : ((c : Int) == 0) = false := beq_eq_false_iff_ne.2 (by omega)
  have HZ := Lib.hid hc0
  have hb : -29 ≤ m.tmod 30 ∧ m.tmod 30 ≤ 29 := by
    by_cases h : 0 ≤ m
    · rw [tmod_nn _ _ h]; omega
    · rw [tmod_neg _ _ (by omega)]; omega
  have HT := Lib.hid (text_calls a 10 (by omega) (by omega) ha)
  have htsz : (a.extract 0 (min a.size (10 : Int).toNat)).size ≤ 10 := by simp; omega
  generalize a.extract 0 (min a.size (10 : Int).toNat) = t at HT htsz
  clear hg hc0 h0 h1 h2 h3 hcn
  go_enter Tryd.func6, Tryd.ntmps6
  go_wp2_with (go_at_call 9; (with_reducible refine (begun1_calls _ HG.out).mono ?_); rintro ev w1 ⟨rfl, hg1⟩)
  have HN := Lib.hid (new_calls c HZ.out t w1)
  go_wp2_with (first
    | (go_at_call 11; (with_reducible refine (HC.out _).mono ?_); rintro ev w2 ⟨rfl, rfl⟩)
    | (go_at_call 12; (with_reducible refine (HT.out _).mono ?_); rintro ev w2 ⟨rfl, rfl⟩)
    | (go_at_call 10; (with_reducible refine HN.out.mono ?_); rintro ev w2 ⟨rfl, hx2, hg2⟩; have HX2 := Lib.hid hx2; clear hx2))
  have hg12 := hg1.tr hg2
  obtain ⟨D, hD⟩ : ∃ D : Int, m.tmod 30 % 30 = D := ⟨_, rfl⟩
  have hD0 : 0 ≤ D ∧ D ≤ 29 := by omega
  rw [hD]
  clear hD hb
  go_loopg [9, 10] D.toNat (fun k x i wr => ∃ (j : Nat) (e : Er), k = D.toNat - j ∧ (j : Int) ≤ D ∧ i = .int .i64 j ∧ Above c t j e ∧ ErAt wr x e ∧ Gr w wr)
  case atStart => exact ⟨0, _, by omega, by omega, rfl, .zero _, HX2.out, hg12⟩
  case round =>
    obtain ⟨j, e, hk, hj, rfl, hab, hx, hgr⟩ := hrel
    obtain ⟨f1, f2, f3, f4, b, s, e0, rfl⟩ := hab.facts
    obtain rfl := erAt_fault hx
    have HX := Lib.hid hx
    have HA := Lib.hid hab
    have HK := Lib.hid hk
    have F1 := Lib.hid f1
    have F2 := Lib.hid f2
    have F3 := Lib.hid f3
    clear hx hab hk f1 f2 f3
    by_cases hlt : (j : Int) < D
    · have HW := Lib.hid (wrap_calls ⟨#[]⟩ _ _ wr (HG.out.gr hgr) HX.out (by simp))
      rw [F1.out] at HW
      go_wp2_with (go_at_call 13; (with_reducible refine HW.out.mono ?_); rintro ev w3 ⟨b3, hb3, rfl, hx3, hg3⟩; have HX3 := Lib.hid hx3; clear hx3)
      go_roundg (D.toNat - (j + 1))
      case measure => have := HK.out; omega
      case rel => exact ⟨j + 1, _, rfl, by omega, by go_num, .succ _ _ _ HA.out, HX3.out, hgr.tr hg3⟩
    · have hjd : (j : Int) = D := by omega
      have HCo := Lib.hid (code_calls _ _ wr (HG.out.gr hgr) HX.out)
      rw [F1.out] at HCo
      have hl : (Er.fault b c s e0).len ≤ 1000000 := by have := F2.out; omega
      have hpt : (placesText (Er.fault b c s e0).places).length ≤ 1000000000 := by
        rw [F3.out]; split
        · simp [placesText]
        · simp [placesText]; omega
      have hnt : (placesText (Er.fault w1.heap.size c t .nil).places).length ≤ 1000000000 := by
        rw [show (Er.fault w1.heap.size c t .nil).places = (if t.toList.isEmpty then [] else [t]) by simp [Er.places]]; split
        · simp [placesText]
        · simp [placesText]; omega
      have HL := Lib.hid hl
      have HP := Lib.hid hpt
      have HNT := Lib.hid hnt
      clear hl hpt hnt
      have hje : decide ((j : Int) < D) = false := decide_eq_false hlt
      clear hlt
      cases hte : t.toList.isEmpty
      all_goals
        have HTE := Lib.hid hte
        go_wp2_with (first
          | (go_at_call 17; (with_reducible refine HCo.out.mono ?_); rintro ev w3 ⟨rfl, hg3⟩))
        have hx3 := HX.out.gr hg3
        have HO := Lib.hid (of_calls c HZ.out w3)
        have HI := Lib.hid (Is_calls _ _ _ _ w3 hx3 (.code c) (by simp))
        rw [f4] at HI
        have HW := Lib.hid (where_calls _ _ w3 hx3 HL.out)
        rw [F3.out, HTE.out] at HW
        have HX3 := Lib.hid hx3
        clear hx3
        go_wp2_with (first
          | (go_at_call 16; (with_reducible refine HO.out.mono ?_); rintro ev w4 ⟨rfl, rfl⟩)
          | (go_at_call 15; (with_reducible refine HI.out.mono ?_); rintro ev w4 ⟨rfl, rfl⟩)
          | (go_at_call 18; (with_reducible refine HW.out.mono ?_); rintro ev w4 ⟨r, rfl, hown, hg4⟩; obtain ⟨ao, cap, rfl⟩ := owns_slice hown; clear hown))
        have HE := Lib.hid (faultError_calls b c (by omega) s e0 w4 (HX3.out.gr hg4) HL.out HP.out)
        unfold Er.says at HE
        rw [F3.out, HTE.out] at HE
        go_wp2_with (go_at_call 19; (with_reducible refine HE.out.mono ?_); rintro ev w5 ⟨rfl, hg5⟩)
        have HN5 := Lib.hid (new_calls c HZ.out t w5)
        go_wp2_with (go_at_call 10; (with_reducible refine HN5.out.mono ?_); rintro ev w6 ⟨rfl, hx6, hg6⟩; have HX6 := Lib.hid hx6; clear hx6)
        have HE6 := Lib.hid (faultError_calls w5.heap.size c (by omega) t .nil w6 HX6.out (by simp [Er.len]) (by
          rw [show (Er.fault w5.heap.size c t .nil).places = (if t.toList.isEmpty then [] else [t]) by simp [Er.places], HTE.out]
          first | (simp [placesText]; done) | (simp [placesText]; omega)))
        unfold Er.says at HE6
        rw [show (Er.fault w5.heap.size c t .nil).places = (if t.toList.isEmpty then [] else [t]) by simp [Er.places], HTE.out] at HE6
        go_wp2_with (go_at_call 19; (with_reducible refine HE6.out.mono ?_); rintro ev w7 ⟨rfl, hg7⟩)
        go_ret
        exact ⟨ret_bool (by first | rfl | simp), ((((hgr.tr hg3).tr hg4).tr hg5).tr hg6).tr hg7⟩
end Go.Proofs.YtepngojepaeikaaDoor
