/- Layer 1: the law's begin comes to true, whatever the world. -/
import Derived.Test.YtkmooclhebjlpaaGreatDoorFj
namespace Go.Proofs.YtkmooclhebjlpaaGreatDoor
open Go.RowKit Go.Extern.Stop Go.Stop Go.Extern
set_option linter.unusedVariables false
set_option linter.unusedSimpArgs false

set_option maxHeartbeats 4000000 in
set_option maxRecDepth 100000 in
theorem begun1_calls (w : World) (hg : Has w) : Calls Tryz.prog 80 #[] w fun e w' => e = .returned (.bool true) ∧ Gr w w' := by
  have HG := Lib.hid hg
  have HN := Lib.hid (new_calls 4 rfl ⟨#[98]⟩ w)
  clear hg
  go_enter Tryz.func80, Tryz.ntmps80
  go_wp2_with (go_at_call 106; (with_reducible refine HN.out.mono ?_); rintro ev w1 ⟨rfl, hx1, hg1⟩; have HX1 := Lib.hid hx1; clear hx1)
  have HW := Lib.hid (wrap_calls ⟨#[97]⟩ _ _ w1 (HG.out.gr hg1) HX1.out (by simp))
  go_wp2_with (go_at_call 105; (with_reducible refine HW.out.mono ?_); rintro ev w2 ⟨b, hb, rfl, hx2, hg2⟩; have HX2 := Lib.hid hx2; clear hx2)
  have HH := Lib.hid (where_calls _ _ w2 HX2.out (by simp [Er.len]))
  have hgg := hg1.tr hg2
  have hpl : (Er.fault b (Er.fault w.heap.size 4 { data := #[98] } Er.nil).code { data := #[97] } (Er.fault w.heap.size 4 { data := #[98] } Er.nil)).places = [⟨#[97]⟩, ⟨#[98]⟩] := by simp [Er.places, ByteArray.toList_eq]
  rw [hpl] at HH
  have HPL := Lib.hid hpl
  clear hpl
  go_wp2_with (go_at_call 107; (with_reducible refine HH.out.mono ?_); rintro ev w3 ⟨r, rfl, hown, hg3⟩; obtain ⟨g, cap, rfl, hgb, hgl, hcell⟩ := owns_at hown (by simp); have c0 : w3.cell? ⟨g, 0, none⟩ = some (.string ⟨#[97]⟩) := hcell 0 (by simp); have c1 : w3.cell? ⟨g, 1, none⟩ = some (.string ⟨#[98]⟩) := hcell 1 (by simp); clear hcell hown)
  have hg13 := hgg.tr hg3
  have hx3 := HX2.out.gr hg3
  have HC := Lib.hid (code_calls _ _ w3 (HG.out.gr hg13) hx3)
  have hx4 : ErAt w3 (.iface 126 (.pointer (some ⟨b, 0, none⟩))) (.fault b ((4 : Nat) : Int) ⟨#[97]⟩ (.fault w.heap.size 4 ⟨#[98]⟩ .nil)) := hx3
  have HX3 := Lib.hid hx4
  clear hx3 hx4
  go_wp2_with (go_at_call 61; (with_reducible refine HC.out.mono ?_); rintro ev w4 ⟨rfl, hg4⟩)
  have hsays : (Er.fault b ((4 : Nat) : Int) ⟨#[97]⟩ (.fault w.heap.size 4 ⟨#[98]⟩ .nil)).says 4 = ⟨#[97, 58, 32, 98, 58, 32, 101, 114, 114, 111, 114, 32, 52]⟩ := by
    unfold Er.says
    rw [show (Er.fault b ((4 : Nat) : Int) ⟨#[97]⟩ (.fault w.heap.size 4 ⟨#[98]⟩ .nil)).places = [⟨#[97]⟩, ⟨#[98]⟩] from HPL.out]
    decide +kernel
  have HE := Lib.hid (faultError_calls b 4 (by omega) _ _ w4 (HX3.out.gr hg4) (by simp [Er.len]) (by
    rw [show (Er.fault b ((4 : Nat) : Int) ⟨#[97]⟩ (.fault w.heap.size 4 ⟨#[98]⟩ .nil)).places = [⟨#[97]⟩, ⟨#[98]⟩] from HPL.out]
    simp [placesText]))
  rw [hsays] at HE
  clear hsays
  go_wp2_with (go_at_call 175; (with_reducible refine HE.out.mono ?_); rintro ev w5 ⟨rfl, hg5⟩)
  have hg35 := hg4.tr hg5
  have HO4 := Lib.hid (of_calls 4 rfl w5)
  have HI4 := Lib.hid (Is_calls _ _ _ _ w5 (HX3.out.gr hg35) (.code 4) (by simp))
  have HO1 := Lib.hid (of_calls 1 rfl w5)
  have HI1 := Lib.hid (Is_calls _ _ _ _ w5 (HX3.out.gr hg35) (.code 1) (by simp))
  have HO0 := Lib.hid (of_ok w5)
  have HO3 := Lib.hid (of_calls 3 rfl w5)
  have heq := eql_codes w5 3 3
  go_wp2_with (first
    | (go_at_call 33; (first | (with_reducible refine HO4.out.mono ?_) | (with_reducible refine HO1.out.mono ?_) | (with_reducible refine HO0.out.mono ?_) | (with_reducible refine HO3.out.mono ?_)); rintro ev w6 ⟨rfl, rfl⟩)
    | (go_at_call 108; (first | (with_reducible refine HI4.out.mono ?_) | (with_reducible refine HI1.out.mono ?_)); rintro ev w6 ⟨rfl, rfl⟩))
  go_ret
  exact ⟨rfl, hg13.tr hg35⟩
end Go.Proofs.YtkmooclhebjlpaaGreatDoor
