/- Layer 6: the reference's Next, Roll by contract. -/
import Derived.Test.YtjgihjpckjdikaaGreatDoorKu
namespace Go.Proofs.YtjgihjpckjdikaaGreatDoor
open Go.RowKit Go.Extern.Stop Go.Stop Go.Extern
set_option linter.unusedVariables false
set_option linter.unusedSimpArgs false

/-- What the reference's Next answers. -/
def nextE (r : Int) : Ending := if r = -1 then .returned (.tuple #[.int .i64 0, .bool false]) else .returned (.tuple #[.int .i64 r, .bool true])
theorem nextE_no : nextE (-1) = .returned (.tuple #[.int .i64 0, .bool false]) := rfl
theorem nextE_ok {r : Int} (h : r ≠ -1) : nextE r = .returned (.tuple #[.int .i64 r, .bool true]) := if_neg h
set_option maxRecDepth 100000 in
set_option maxHeartbeats 2000000 in
theorem rnext_up (cs : List (List Ru × List Int)) (v : Value) (S : Int → Bool) (hS : ShutC cs S) (d : Int) (h0 : 0 ≤ d) (h1 : d ≤ 109573) (w : World) (hr : RCals w v cs) (hl : cs.length ≤ 100) :
    Calls Tryz.prog 41 #[v, .int .i64 d, .int .i64 1] w fun e w' => (∃ r, e = nextE r ∧ UpR S d r) ∧ Gr w w' := by
  have HO := Lib.hid (fun (x : Int) w hr => ropen_calls cs v S hS x w hr hl)
  have HI := Lib.hid (fun (x : Int) w => refIs_calls x w)
  have HR := Lib.hid hr
  clear hr hS
  go_enter Tryz.func41, Tryz.ntmps41
  go_wp2
  go_loopg [1] (109573 - d).toNat (fun g s1 wr => ∃ x : Int, g = (109573 - x).toNat ∧ d ≤ x ∧ x ≤ 109573 ∧ s1 = .int .i64 x ∧ Hid (opU S x = opU S d) ∧ Hid (Gr w wr))
  case atStart => exact ⟨d, rfl, Int.le_refl _, h1, rfl, Lib.hid rfl, Lib.hid (Gr.rf w)⟩
  case round =>
    obtain ⟨x, hg, hx0, hx1, rfl, HN, HG⟩ := hrel
    have HGG := Lib.hid hg
    clear hg
    have hi := fun w => HI.out x w
    by_cases hr : x ≤ 109572
    · rw [decide_eq_true (show 0 ≤ x ∧ x ≤ 109572 by omega)] at hi
      have HIX := Lib.hid hi
      have ho := HO.out x wr (HR.out.gr HG.out)
      clear hi
      cases hop : openB S x with
      | true =>
        rw [hop] at ho
        have HOX := Lib.hid ho
        have HU := Lib.hid (show UpR S d x from .inr ⟨hx0, hr, hop, HN.out⟩)
        have HNE := Lib.hid (show x ≠ -1 by omega)
        clear ho hop
        go_wp2_with (first | (go_at_call 20; (with_reducible refine (HIX.out _).mono ?_); rintro ev w1 ⟨rfl, rfl⟩) | (go_at_call 28; (with_reducible refine HOX.out.mono ?_); rintro ev w1 ⟨rfl, hg1⟩))
        go_ret2
        exact ⟨⟨x, (nextE_ok HNE.out).symm, HU.out⟩, HG.out.tr hg1⟩
      | false =>
        rw [hop] at ho
        have HOX := Lib.hid ho
        have HN2 := Lib.hid (show opU S (x + 1) = opU S d by rw [opU_off hop]; exact HN.out)
        clear ho hop
        go_wp2_with (first | (go_at_call 20; (with_reducible refine (HIX.out _).mono ?_); rintro ev w1 ⟨rfl, rfl⟩) | (go_at_call 28; (with_reducible refine HOX.out.mono ?_); rintro ev w1 ⟨rfl, hg1⟩))
        go_roundg (gk - 1)
        case measure => have := HGG.out; omega
        case rel => exact ⟨x + 1, by have := HGG.out; omega, by omega, by omega, rfl, HN2, Lib.hid (HG.out.tr hg1)⟩
    · rw [decide_eq_false (show ¬ (0 ≤ x ∧ x ≤ 109572) by omega)] at hi
      have HIX := Lib.hid hi
      have hxe : x = 109573 := by omega
      subst hxe
      have HU := Lib.hid (show UpR S d (-1) from .inl ⟨rfl, HN.out⟩)
      clear hi
      go_wp2_with (go_at_call 20; (with_reducible refine (HIX.out _).mono ?_); rintro ev w1 ⟨rfl, rfl⟩)
      go_ret2
      exact ⟨⟨-1, rfl, HU.out⟩, HG.out⟩
set_option maxRecDepth 100000 in
set_option maxHeartbeats 2000000 in
theorem rnext_dn (cs : List (List Ru × List Int)) (v : Value) (S : Int → Bool) (hS : ShutC cs S) (d : Int) (h0 : -1 ≤ d) (h1 : d ≤ 109572) (w : World) (hr : RCals w v cs) (hl : cs.length ≤ 100) :
    Calls Tryz.prog 41 #[v, .int .i64 d, .int .i64 (-1)] w fun e w' => (∃ r, e = nextE r ∧ DnR S d r) ∧ Gr w w' := by
  have HO := Lib.hid (fun (x : Int) w hr => ropen_calls cs v S hS x w hr hl)
  have HI := Lib.hid (fun (x : Int) w => refIs_calls x w)
  have HR := Lib.hid hr
  clear hr hS
  go_enter Tryz.func41, Tryz.ntmps41
  go_wp2
  go_loopg [1] (d + 1).toNat (fun g s1 wr => ∃ x : Int, g = (x + 1).toNat ∧ x ≤ d ∧ -1 ≤ x ∧ s1 = .int .i64 x ∧ Hid (opU S (x + 1) = opU S (d + 1)) ∧ Hid (Gr w wr))
  case atStart => exact ⟨d, rfl, Int.le_refl _, h0, rfl, Lib.hid rfl, Lib.hid (Gr.rf w)⟩
  case round =>
    obtain ⟨x, hg, hx0, hx1, rfl, HN, HG⟩ := hrel
    have HGG := Lib.hid hg
    clear hg
    have hi := fun w => HI.out x w
    by_cases hr : 0 ≤ x
    · rw [decide_eq_true (show 0 ≤ x ∧ x ≤ 109572 by omega)] at hi
      have HIX := Lib.hid hi
      have ho := HO.out x wr (HR.out.gr HG.out)
      clear hi
      cases hop : openB S x with
      | true =>
        rw [hop] at ho
        have HOX := Lib.hid ho
        have HU := Lib.hid (show DnR S d x from .inr ⟨hr, hx0, hop, HN.out⟩)
        have HNE := Lib.hid (show x ≠ -1 by omega)
        clear ho hop
        go_wp2_with (first | (go_at_call 20; (with_reducible refine (HIX.out _).mono ?_); rintro ev w1 ⟨rfl, rfl⟩) | (go_at_call 28; (with_reducible refine HOX.out.mono ?_); rintro ev w1 ⟨rfl, hg1⟩))
        go_ret2
        exact ⟨⟨x, (nextE_ok HNE.out).symm, HU.out⟩, HG.out.tr hg1⟩
      | false =>
        rw [hop] at ho
        have HOX := Lib.hid ho
        have HN2 := Lib.hid (show opU S (x - 1 + 1) = opU S (d + 1) by rw [show x - 1 + 1 = x by omega, ← opU_off hop]; exact HN.out)
        clear ho hop
        go_wp2_with (first | (go_at_call 20; (with_reducible refine (HIX.out _).mono ?_); rintro ev w1 ⟨rfl, rfl⟩) | (go_at_call 28; (with_reducible refine HOX.out.mono ?_); rintro ev w1 ⟨rfl, hg1⟩))
        go_roundg (gk - 1)
        case measure => have := HGG.out; omega
        case rel => exact ⟨x - 1, by have := HGG.out; omega, by omega, by omega, rfl, HN2, Lib.hid (HG.out.tr hg1)⟩
    · rw [decide_eq_false (show ¬ (0 ≤ x ∧ x ≤ 109572) by omega)] at hi
      have HIX := Lib.hid hi
      have hxe : x = -1 := by omega
      subst hxe
      have HU := Lib.hid (show DnR S d (-1) from .inl ⟨rfl, by rw [← HN.out, opU_zero S (-1 + 1) (by omega)]⟩)
      clear hi
      go_wp2_with (go_at_call 20; (with_reducible refine (HIX.out _).mono ?_); rintro ev w1 ⟨rfl, rfl⟩)
      go_ret2
      exact ⟨⟨-1, rfl, HU.out⟩, HG.out⟩
end Go.Proofs.YtjgihjpckjdikaaGreatDoor
