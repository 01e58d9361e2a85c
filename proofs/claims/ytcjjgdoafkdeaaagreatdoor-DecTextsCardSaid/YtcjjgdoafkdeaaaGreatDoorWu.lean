/- Layer 5: 'decimals of other forms are none', walked. -/
import Derived.Test.YtcjjgdoafkdeaaaGreatDoorWz
import Derived.Test.YtcjjgdoafkdeaaaGreatDoorQk
namespace Go.Proofs.YtcjjgdoafkdeaaaGreatDoor
open Go.RowKit Go.Extern.Stop Go.Stop Go.Extern Go.Sort
set_option linter.unusedVariables false
set_option linter.unusedSimpArgs false

theorem dtexts_sel (X : ByteArray) (hX : X.size ≤ 100) (R : Nat) (hR : R < 12) : ∃ Z : ByteArray, Z.size ≤ 240 ∧ (#[.string (⟨#[43]⟩ ++ X), .string (⟨#[48]⟩ ++ X), .string (X ++ ⟨#[46]⟩), .string (⟨#[46]⟩ ++ X), .string (⟨#[45]⟩ ++ X ++ ⟨#[46, 48]⟩), .string (⟨#[45, 45]⟩ ++ X), .string (X ++ ⟨#[101, 49]⟩), .string (X ++ ⟨#[46, 49, 46, 50]⟩), .string (⟨#[32]⟩ ++ X), .string (X ++ ⟨#[32]⟩), .string ⟨#[45, 48, 46, 48]⟩, .string (X ++ ⟨#[46, 48, 48, 48, 48, 48, 48, 48, 48, 48, 48, 48, 48, 48, 48, 48, 48, 48, 48, 48, 48, 48]⟩)] : Array Value)[R]? = some (.string Z) := by
  have h2 : ∀ a b : UInt8, (⟨#[a, b]⟩ : ByteArray).size = 2 := fun _ _ => rfl
  have h1 : ∀ a : UInt8, (⟨#[a]⟩ : ByteArray).size = 1 := fun _ => rfl
  have h4 : ∀ a b c d : UInt8, (⟨#[a, b, c, d]⟩ : ByteArray).size = 4 := fun _ _ _ _ => rfl
  have h22 : (⟨#[46, 48, 48, 48, 48, 48, 48, 48, 48, 48, 48, 48, 48, 48, 48, 48, 48, 48, 48, 48, 48, 48]⟩ : ByteArray).size = 22 := rfl
  rcases (show R = 0 ∨ R = 1 ∨ R = 2 ∨ R = 3 ∨ R = 4 ∨ R = 5 ∨ R = 6 ∨ R = 7 ∨ R = 8 ∨ R = 9 ∨ R = 10 ∨ R = 11 by omega) with rfl | rfl | rfl | rfl | rfl | rfl | rfl | rfl | rfl | rfl | rfl | rfl
  all_goals
    refine ⟨_, ?_, rfl⟩
    simp only [ByteArray.size_append, h1, h2, h4, h22]
    omega
set_option maxRecDepth 100000 in
set_option maxHeartbeats 16000000 in
theorem decTexts_calls (s : ByteArray) (q : Int) (hs : s.size ≤ 9223372036854775807) (q0 : -9223372036854775808 ≤ q) (q1 : q ≤ 9223372036854775807) (w : World) (hM : Met2 w) :
    Calls Tryz.prog 4 #[.string s, .int .i64 q] w fun e w' => e = .returned (.bool true) ∧ Gr w w' := by
  have HM := Lib.hid hM
  have HBG := Lib.hid (begun_met w hM)
  have HDG : Hid (∀ w, Calls Tryz.prog 15 #[.string s, .int .i64 12] w fun e w' => (∃ T : ByteArray, e = .returned (.string T) ∧ NumT T ∧ T.size ≤ 12) ∧ w = w') := Lib.hid (fun w => digits_calls s 12 (by decide) (by decide) hs w)
  obtain ⟨K, k1, k2, k3, k4, k5⟩ := rem_nat q 12 (by decide)
  clear hM hs q0 q1
  go_enter Tryz.func4, Tryz.ntmps4
  go_wp2_with (go_at_call 11; (with_reducible refine HBG.out.mono ?_); rintro ev w1 ⟨rfl, hg1⟩; have HG1 := Lib.hid hg1; clear hg1)
  go_wp2_with fail
  refine (HDG.out _).mono ?_
  rintro ev w2 ⟨⟨X, rfl, _, hXs⟩, rfl⟩
  obtain ⟨Z, hZs, hZ⟩ := dtexts_sel X (by omega) K (by omega)
  have hcell : (w1.alloc (.cells #[.string (⟨#[43]⟩ ++ X), .string (⟨#[48]⟩ ++ X), .string (X ++ ⟨#[46]⟩), .string (⟨#[46]⟩ ++ X), .string (⟨#[45]⟩ ++ X ++ ⟨#[46, 48]⟩), .string (⟨#[45, 45]⟩ ++ X), .string (X ++ ⟨#[101, 49]⟩), .string (X ++ ⟨#[46, 49, 46, 50]⟩), .string (⟨#[32]⟩ ++ X), .string (X ++ ⟨#[32]⟩), .string ⟨#[45, 48, 46, 48]⟩, .string (X ++ ⟨#[46, 48, 48, 48, 48, 48, 48, 48, 48, 48, 48, 48, 48, 48, 48, 48, 48, 48, 48, 48, 48, 48]⟩)] 9)).cell? ⟨w1.heap.size, K, none⟩ = some (.string Z) := (heap_cell (heap_alloc_new w1 (.cells #[.string (⟨#[43]⟩ ++ X), .string (⟨#[48]⟩ ++ X), .string (X ++ ⟨#[46]⟩), .string (⟨#[46]⟩ ++ X), .string (⟨#[45]⟩ ++ X ++ ⟨#[46, 48]⟩), .string (⟨#[45, 45]⟩ ++ X), .string (X ++ ⟨#[101, 49]⟩), .string (X ++ ⟨#[46, 49, 46, 50]⟩), .string (⟨#[32]⟩ ++ X), .string (X ++ ⟨#[32]⟩), .string ⟨#[45, 48, 46, 48]⟩, .string (X ++ ⟨#[46, 48, 48, 48, 48, 48, 48, 48, 48, 48, 48, 48, 48, 48, 48, 48, 48, 48, 48, 48, 48, 48]⟩)] 9)) K).trans hZ
  have hga : Gr w1 (w1.alloc (.cells #[.string (⟨#[43]⟩ ++ X), .string (⟨#[48]⟩ ++ X), .string (X ++ ⟨#[46]⟩), .string (⟨#[46]⟩ ++ X), .string (⟨#[45]⟩ ++ X ++ ⟨#[46, 48]⟩), .string (⟨#[45, 45]⟩ ++ X), .string (X ++ ⟨#[101, 49]⟩), .string (X ++ ⟨#[46, 49, 46, 50]⟩), .string (⟨#[32]⟩ ++ X), .string (X ++ ⟨#[32]⟩), .string ⟨#[45, 48, 46, 48]⟩, .string (X ++ ⟨#[46, 48, 48, 48, 48, 48, 48, 48, 48, 48, 48, 48, 48, 48, 48, 48, 48, 48, 48, 48, 48, 48]⟩)] 9)) := (Gr.rf w1).alloc (Nat.le_refl _) _
  have HG2 := Lib.hid (HG1.out.tr hga)
  have HTC := Lib.hid (fun w => text_calls Z 70 (by decide) (by decide) (by omega) w)
  obtain ⟨T, hT⟩ : ∃ T, Z.extract 0 (min Z.size (70 : Int).toNat) = T := ⟨_, rfl⟩
  have hTs : T.size ≤ 240 := by rw [← hT, ByteArray.size_extract]; omega
  rw [hT] at HTC
  clear hT hga hZ
  obtain ⟨t, neg, hp⟩ := parts_ex T
  obtain ⟨a, r, pt, hc⟩ := cutP_ex t
  have HA := Lib.hid (fun w hB => decGet_calls T t a r neg pt hTs hp hc w hB)
  have HB := Lib.hid (fun w => rgetDec_calls T t a r neg pt hTs hp hc w)
  have HVX := Lib.hid (fun hd => dec_bd hp hc (neg := neg) hd)
  clear hp hc
  go_wp2_with fail
  clear hcell
  generalize w1.alloc (.cells #[.string (⟨#[43]⟩ ++ X), .string (⟨#[48]⟩ ++ X), .string (X ++ ⟨#[46]⟩), .string (⟨#[46]⟩ ++ X), .string (⟨#[45]⟩ ++ X ++ ⟨#[46, 48]⟩), .string (⟨#[45, 45]⟩ ++ X), .string (X ++ ⟨#[101, 49]⟩), .string (X ++ ⟨#[46, 49, 46, 50]⟩), .string (⟨#[32]⟩ ++ X), .string (X ++ ⟨#[32]⟩), .string ⟨#[45, 48, 46, 48]⟩, .string (X ++ ⟨#[46, 48, 48, 48, 48, 48, 48, 48, 48, 48, 48, 48, 48, 48, 48, 48, 48, 48, 48, 48, 48, 48]⟩)] 9) = w2 at *
  refine (HTC.out _).mono ?_
  rintro ev wq ⟨rfl, rfl⟩
  have HA1 := Lib.hid (HA.out w2 (HM.out.gr HG2.out).2.1)
  go_wp2_with fail
  refine HA1.out.mono ?_
  by_cases hd : DecT T a r neg pt
  case neg =>
    have HD := Lib.hid hd
    clear hd
    rintro ev w3 ⟨⟨_, hr⟩, hg3⟩
    obtain rfl := hr HD.out
    have HG3 := Lib.hid (HG2.out.tr hg3)
    clear hr hg3
    go_wp2_with fail
    refine (HB.out _).mono ?_
    rintro ev w4 ⟨⟨_, hr⟩, hg4⟩
    obtain rfl := hr HD.out
    have HG4 := Lib.hid (HG3.out.tr hg4)
    clear hr hg4
    go_wp2_with fail
    go_quiet (fail)
    go_wp2
    go_ret
    exact ⟨by first | rfl | simp, Gr.drew (Gr.tr HG4.out (gr_al (Gr.rf _))) _⟩
  case pos =>
    have HD := Lib.hid hd
    have HVB := Lib.hid (HVX.out hd)
    clear hd
    rintro ev w2b ⟨⟨hr, _⟩, hg2⟩
    obtain ⟨b2, rfl, hr2⟩ := hr HD.out
    have HR2 := Lib.hid hr2
    have HG2b := Lib.hid (HG2.out.tr hg2)
    clear hr hr2 hg2
    go_wp2_with fail
    refine (HB.out _).mono ?_
    rintro ev w3 ⟨⟨hr, _⟩, hg3⟩
    obtain ⟨va, vb, rfl, hva, hvb⟩ := hr HD.out
    have HVV := Lib.hid (And.intro hva hvb)
    obtain ⟨aa, la, ca, rfl⟩ := rn_sl hva
    obtain ⟨ab, lb, cb, rfl⟩ := rn_sl hvb
    have hblk := heap_alloc_new w3 (.cells #[.bool neg, .slice aa la ca, .slice ab lb cb] 29)
    have hga : Gr w3 (w3.alloc (.cells #[.bool neg, .slice aa la ca, .slice ab lb cb] 29)) := gr_al (Gr.rf w3)
    have HG13 := Lib.hid (HG2b.out.tr (hg3.tr hga))
    have HR4 := Lib.hid (HR2.out.gr (hg3.tr hga))
    have HV4 := Lib.hid (And.intro (HVV.out.1.gr hga) (HVV.out.2.gr hga))
    have HBK := Lib.hid hblk
    clear hr hg3 hva hvb hblk hga
    go_wp2_with fail
    generalize w3.alloc (.cells #[.bool neg, .slice aa la ca, .slice ab lb cb] 29) = w5 at *
    have HTX : Hid (∀ w', Gr w5 w' → (Gr w5 w' ∧ w'.cell? ⟨w3.heap.size, 0, none⟩ = some (.bool neg) ∧ w'.cell? ⟨w3.heap.size, 1, none⟩ = some (.slice aa la ca) ∧ w'.cell? ⟨w3.heap.size, 2, none⟩ = some (.slice ab lb cb))) := Lib.hid (fun w' hg => ⟨hg, heap_cell (hg.heap HBK.out) 0, heap_cell (hg.heap HBK.out) 1, heap_cell (hg.heap HBK.out) 2⟩)
    have hgd : Gr w5 w5.drew := Gr.drew (Gr.rf w5) 1
    obtain ⟨Y, hY⟩ : ∃ Y : ByteArray, Y = ⟨(ratText (sgn neg (dv (a.data.toList ++ r.data.toList) / Nat.gcd (dv (a.data.toList ++ r.data.toList)) (10 ^ r.size))) (10 ^ r.size / Nat.gcd (dv (a.data.toList ++ r.data.toList)) (10 ^ r.size))).toArray⟩ := ⟨_, rfl⟩
    have HT1 : Hid (∀ w', Gr w5 w' → Calls Tryz.prog 18 #[.pointer (some ⟨b2, 0, none⟩)] w' fun e w2 => e = .returned (.string Y) ∧ Gr w' w2) := Lib.hid (fun w' hg => dec_text (HR4.out.gr hg) HVB.out.1 HVB.out.2.1 (HM.out.gr (HG13.out.tr hg)).2.2 hY)
    have HT2 : Hid (∀ w', Gr w5 w' → Calls Tryz.prog 19 #[.agg #[.bool neg, .slice aa la ca, .slice ab lb cb]] w' fun e w2 => e = .returned (.string Y) ∧ Gr w' w2) := Lib.hid (fun w' hg => rdec_text (HV4.out.1.gr hg) (HV4.out.2.gr hg) HVB.out.2.2 HVB.out.1 HVB.out.2.1 hY)
    clear hY
    go_wp2_with fail
    refine wp_region_noPanic ?_
    refine wp_region_held_drew (S := (fun w' => Gr w5 w' ∧ w'.cell? ⟨w3.heap.size, 0, none⟩ = some (.bool neg) ∧ w'.cell? ⟨w3.heap.size, 1, none⟩ = some (.slice aa la ca) ∧ w'.cell? ⟨w3.heap.size, 2, none⟩ = some (.slice ab lb cb))) (by kernel_rfl) ?hS (fun hHeld => ?_)
    case hS => ((try dsimp only); (first | exact HTX.out _ hgd | exact HTX.out _ hs6 | exact HTX.out _ hs7))
    refine wpAnyH_take (i := 0) (v := ?vv1) rfl (by kernel_rfl) (by kernel_rfl) (by kernel_rfl) (fun _ _ _ h => h) (Or.inl ⟨by rfl, ?hy1⟩) (by assumption) ?_
    case hy1 => (intro w hSw; (try dsimp only at hSw); go_split_ands; go_simp; try with_reducible rfl)
    try simp only [List.getElem_toArray, List.getElem_cons_succ, List.getElem_cons_zero, Act.put, List.setIfInBounds_toArray, List.set_cons_zero, List.set_cons_succ]
    refine wpAnyH_take (i := 1) (v := ?vv2) rfl (by kernel_rfl) (by kernel_rfl) (by kernel_rfl) (fun _ _ _ h => h) (Or.inl ⟨by rfl, ?hy2⟩) (by assumption) ?_
    case hy2 => (intro w hSw; (try dsimp only at hSw); go_split_ands; go_simp; try with_reducible rfl)
    try simp only [List.getElem_toArray, List.getElem_cons_succ, List.getElem_cons_zero, Act.put, List.setIfInBounds_toArray, List.set_cons_zero, List.set_cons_succ]
    refine wpAnyH_take (i := 2) (v := ?vv3) rfl (by kernel_rfl) (by kernel_rfl) (by kernel_rfl) (fun _ _ _ h => h) (Or.inl ⟨by rfl, ?hy3⟩) (by assumption) ?_
    case hy3 => (intro w hSw; (try dsimp only at hSw); go_split_ands; go_simp; try with_reducible rfl)
    try simp only [List.getElem_toArray, List.getElem_cons_succ, List.getElem_cons_zero, Act.put, List.setIfInBounds_toArray, List.set_cons_zero, List.set_cons_succ]
    refine wpAnyH_take (i := 3) (v := ?vv4) rfl (by kernel_rfl) (by kernel_rfl) (by kernel_rfl) (fun _ _ _ h => h) (Or.inl ⟨by rfl, ?hy4⟩) (by assumption) ?_
    case hy4 => (intro w hSw; (try dsimp only at hSw); go_split_ands; go_simp; try with_reducible rfl)
    try simp only [List.getElem_toArray, List.getElem_cons_succ, List.getElem_cons_zero, Act.put, List.setIfInBounds_toArray, List.set_cons_zero, List.set_cons_succ]
    refine wpAnyH_take (i := 4) (v := ?vv5) rfl (by kernel_rfl) (by kernel_rfl) (by kernel_rfl) (fun _ _ _ h => h) (Or.inl ⟨by rfl, ?hy5⟩) (by assumption) ?_
    case hy5 => (intro w hSw; (try dsimp only at hSw); go_split_ands; go_simp; try with_reducible rfl)
    try simp only [List.getElem_toArray, List.getElem_cons_succ, List.getElem_cons_zero, Act.put, List.setIfInBounds_toArray, List.set_cons_zero, List.set_cons_succ]
    refine wpAnyH_take (i := 5) (v := ?vv6) rfl (by kernel_rfl) (by kernel_rfl) (by kernel_rfl) (fun _ _ _ h => h) (Or.inl ⟨by rfl, ?hy6⟩) (by assumption) ?_
    case hy6 => (intro w hSw; (try dsimp only at hSw); go_split_ands; go_simp; try with_reducible rfl)
    try simp only [List.getElem_toArray, List.getElem_cons_succ, List.getElem_cons_zero, Act.put, List.setIfInBounds_toArray, List.set_cons_zero, List.set_cons_succ]
    refine wpAnyH_take (i := 6) (v := ?vv7) rfl (by kernel_rfl) (by kernel_rfl) (by kernel_rfl) (fun _ _ _ h => h) (Or.inl ⟨by rfl, ?hy7⟩) (by assumption) ?_
    case hy7 => (intro w hSw; (try dsimp only at hSw); go_split_ands; go_simp; try with_reducible rfl)
    try simp only [List.getElem_toArray, List.getElem_cons_succ, List.getElem_cons_zero, Act.put, List.setIfInBounds_toArray, List.set_cons_zero, List.set_cons_succ]
    refine wpAnyH_take (i := 7) (v := ?vv8) rfl (by kernel_rfl) (by kernel_rfl) (by kernel_rfl) (fun _ _ _ h => h) (Or.inl ⟨by rfl, ?hy8⟩) (by assumption) ?_
    case hy8 => (intro w hSw; (try dsimp only at hSw); go_split_ands; go_simp; try with_reducible rfl)
    try simp only [List.getElem_toArray, List.getElem_cons_succ, List.getElem_cons_zero, Act.put, List.setIfInBounds_toArray, List.set_cons_zero, List.set_cons_succ]
    refine wpAnyH_take (i := 8) (v := ?vv9) rfl (by kernel_rfl) (by kernel_rfl) (by kernel_rfl) (fun _ _ _ h => h) (Or.inl ⟨by rfl, ?hy9⟩) (by assumption) ?_
    case hy9 => (intro w hSw; (try dsimp only at hSw); go_split_ands; go_simp; try with_reducible rfl)
    try simp only [List.getElem_toArray, List.getElem_cons_succ, List.getElem_cons_zero, Act.put, List.setIfInBounds_toArray, List.set_cons_zero, List.set_cons_succ]
    refine wpAnyH_take (i := 9) (v := ?vv10) rfl (by kernel_rfl) (by kernel_rfl) (by kernel_rfl) (fun _ _ _ h => h) (Or.inl ⟨by rfl, ?hy10⟩) (by assumption) ?_
    case hy10 => (intro w hSw; (try dsimp only at hSw); go_split_ands; go_simp; try with_reducible rfl)
    try simp only [List.getElem_toArray, List.getElem_cons_succ, List.getElem_cons_zero, Act.put, List.setIfInBounds_toArray, List.set_cons_zero, List.set_cons_succ]
    refine wpAnyH_take (i := 10) (v := ?vv11) rfl (by kernel_rfl) (by kernel_rfl) (by kernel_rfl) (fun _ _ _ h => h) (Or.inl ⟨by rfl, ?hy11⟩) (by assumption) ?_
    case hy11 => (intro w hSw; (try dsimp only at hSw); go_split_ands; go_simp; try with_reducible rfl)
    try simp only [List.getElem_toArray, List.getElem_cons_succ, List.getElem_cons_zero, Act.put, List.setIfInBounds_toArray, List.set_cons_zero, List.set_cons_succ]
    refine wpAnyH_take (i := 11) (v := ?vv12) rfl (by kernel_rfl) (by kernel_rfl) (by kernel_rfl) (fun _ _ _ h => h) (Or.inl ⟨by rfl, ?hy12⟩) (by assumption) ?_
    case hy12 => (intro w hSw; (try dsimp only at hSw); go_split_ands; go_simp; try with_reducible rfl)
    try simp only [List.getElem_toArray, List.getElem_cons_succ, List.getElem_cons_zero, Act.put, List.setIfInBounds_toArray, List.set_cons_zero, List.set_cons_succ]
    refine wpAnyH_take (i := 12) (v := ?vv13) rfl (by kernel_rfl) (by kernel_rfl) (by kernel_rfl) (fun _ _ _ h => h) (Or.inl ⟨by rfl, ?hy13⟩) (by assumption) ?_
    case hy13 => (intro w hSw; (try dsimp only at hSw); go_split_ands; go_simp; try with_reducible rfl)
    try simp only [List.getElem_toArray, List.getElem_cons_succ, List.getElem_cons_zero, Act.put, List.setIfInBounds_toArray, List.set_cons_zero, List.set_cons_succ]
    refine wpAnyH_take (i := 13) (v := undef) rfl (by kernel_rfl) (by kernel_rfl) (by kernel_rfl) (fun _ _ _ h => h) (Or.inr ⟨by rfl, rfl⟩) (by assumption) ?_
    try simp only [List.getElem_toArray, List.getElem_cons_succ, List.getElem_cons_zero, Act.put, List.setIfInBounds_toArray, List.set_cons_zero, List.set_cons_succ]
    refine wpAnyH_take (i := 14) (v := undef) rfl (by kernel_rfl) (by kernel_rfl) (by kernel_rfl) (fun _ _ _ h => h) (Or.inr ⟨by rfl, rfl⟩) (by assumption) ?_
    try simp only [List.getElem_toArray, List.getElem_cons_succ, List.getElem_cons_zero, Act.put, List.setIfInBounds_toArray, List.set_cons_zero, List.set_cons_succ]
    refine wpAnyH_take (i := 15) (v := ?vv14) rfl (by kernel_rfl) (by kernel_rfl) (by kernel_rfl) (fun _ _ _ h => h) (Or.inl ⟨by rfl, ?hy14⟩) (by assumption) ?_
    case hy14 => (intro w hSw; (try dsimp only at hSw); go_split_ands; go_simp; try with_reducible rfl)
    try simp only [List.getElem_toArray, List.getElem_cons_succ, List.getElem_cons_zero, Act.put, List.setIfInBounds_toArray, List.set_cons_zero, List.set_cons_succ]
    refine wpAnyH_take (i := 16) (v := ?vv15) rfl (by kernel_rfl) (by kernel_rfl) (by kernel_rfl) (fun _ _ _ h => h) (Or.inl ⟨by rfl, ?hy15⟩) (by assumption) ?_
    case hy15 => (intro w hSw; (try dsimp only at hSw); go_split_ands; go_simp; try with_reducible rfl)
    try simp only [List.getElem_toArray, List.getElem_cons_succ, List.getElem_cons_zero, Act.put, List.setIfInBounds_toArray, List.set_cons_zero, List.set_cons_succ]
    refine wpAnyH_take (i := 17) (v := ?vv16) rfl (by kernel_rfl) (by kernel_rfl) (by kernel_rfl) (fun _ _ _ h => h) (Or.inl ⟨by rfl, ?hy16⟩) (by assumption) ?_
    case hy16 => (intro w hSw; (try dsimp only at hSw); go_split_ands; go_simp; try with_reducible rfl)
    try simp only [List.getElem_toArray, List.getElem_cons_succ, List.getElem_cons_zero, Act.put, List.setIfInBounds_toArray, List.set_cons_zero, List.set_cons_succ]
    refine wpAnyH_take (i := 18) (v := ?vv17) rfl (by kernel_rfl) (by kernel_rfl) (by kernel_rfl) (fun _ _ _ h => h) (Or.inl ⟨by rfl, ?hy17⟩) (by assumption) ?_
    case hy17 => (intro w hSw; (try dsimp only at hSw); go_split_ands; go_simp; try with_reducible rfl)
    try simp only [List.getElem_toArray, List.getElem_cons_succ, List.getElem_cons_zero, Act.put, List.setIfInBounds_toArray, List.set_cons_zero, List.set_cons_succ]
    refine wpAnyH_take (i := 19) (v := ?vv18) rfl (by kernel_rfl) (by kernel_rfl) (by kernel_rfl) (fun _ _ _ h => h) (Or.inl ⟨by rfl, ?hy18⟩) (by assumption) ?_
    case hy18 => (intro w hSw; (try dsimp only at hSw); go_split_ands; go_simp; try with_reducible rfl)
    try simp only [List.getElem_toArray, List.getElem_cons_succ, List.getElem_cons_zero, Act.put, List.setIfInBounds_toArray, List.set_cons_zero, List.set_cons_succ]
    refine wpAnyH_take (i := 21) (v := ?vv19) rfl (by kernel_rfl) (by kernel_rfl) (by kernel_rfl) (fun _ _ _ h => h) (Or.inl ⟨by rfl, ?hy19⟩) (by assumption) ?_
    case hy19 => (intro w hSw; (try dsimp only at hSw); go_split_ands; go_simp; try with_reducible rfl)
    try simp only [List.getElem_toArray, List.getElem_cons_succ, List.getElem_cons_zero, Act.put, List.setIfInBounds_toArray, List.set_cons_zero, List.set_cons_succ]
    refine wpAnyH_ready (rs := [20]) (by kernel_rfl) (by simp) ?_
    refine AllReadyH.cons rfl (fun K hK => ?_) AllReadyH.nil
    go_simp
    go_at_call 18; go_split_ands; refine (HT1.out _ (by assumption)).mono ?_; rintro ev w6 ⟨rfl, hg6⟩; have hs6 : Gr w5 w6 := Gr.tr (by assumption) hg6
    try (go_wp2_with fail)
    try clear hHeld
    refine hK.out _ _ ?hS (fun hHeld => ?_)
    case hS => ((try dsimp only); (first | exact HTX.out _ hgd | exact HTX.out _ hs6 | exact HTX.out _ hs7))
    clear hK K
    try simp only [List.getElem_toArray, List.getElem_cons_succ, List.getElem_cons_zero, Act.put, List.setIfInBounds_toArray, List.set_cons_zero, List.set_cons_succ]
    refine wpAnyH_ready (rs := [22]) (by kernel_rfl) (by simp) ?_
    refine AllReadyH.cons rfl (fun K hK => ?_) AllReadyH.nil
    go_simp
    go_at_call 19; go_split_ands; refine (HT2.out _ (by assumption)).mono ?_; rintro ev w7 ⟨rfl, hg7⟩; have hs7 : Gr w5 w7 := Gr.tr (by assumption) hg7
    try (go_wp2_with fail)
    try clear hHeld
    refine hK.out _ _ ?hS (fun hHeld => ?_)
    case hS => ((try dsimp only); (first | exact HTX.out _ hgd | exact HTX.out _ hs6 | exact HTX.out _ hs7))
    clear hK K
    try simp only [List.getElem_toArray, List.getElem_cons_succ, List.getElem_cons_zero, Act.put, List.setIfInBounds_toArray, List.set_cons_zero, List.set_cons_succ]
    refine wpAnyH_take (i := 23) (v := ?vv20) rfl (by kernel_rfl) (by kernel_rfl) (by kernel_rfl) (fun _ _ _ h => h) (Or.inl ⟨by rfl, ?hy20⟩) (by assumption) ?_
    case hy20 => (intro w hSw; (try dsimp only at hSw); go_split_ands; go_simp; try with_reducible rfl)
    try simp only [List.getElem_toArray, List.getElem_cons_succ, List.getElem_cons_zero, Act.put, List.setIfInBounds_toArray, List.set_cons_zero, List.set_cons_succ]
    refine wpAnyH_take (i := 24) (v := ?vv21) rfl (by kernel_rfl) (by kernel_rfl) (by kernel_rfl) (fun _ _ _ h => h) (Or.inl ⟨by rfl, ?hy21⟩) (by assumption) ?_
    case hy21 => (intro w hSw; (try dsimp only at hSw); go_split_ands; go_simp; try with_reducible rfl)
    try simp only [List.getElem_toArray, List.getElem_cons_succ, List.getElem_cons_zero, Act.put, List.setIfInBounds_toArray, List.set_cons_zero, List.set_cons_succ]
    refine wpAnyH_take (i := 25) (v := ?vv22) rfl (by kernel_rfl) (by kernel_rfl) (by kernel_rfl) (fun _ _ _ h => h) (Or.inl ⟨by rfl, ?hy22⟩) (by assumption) ?_
    case hy22 => (intro w hSw; (try dsimp only at hSw); go_split_ands; go_simp; try with_reducible rfl)
    try simp only [List.getElem_toArray, List.getElem_cons_succ, List.getElem_cons_zero, Act.put, List.setIfInBounds_toArray, List.set_cons_zero, List.set_cons_succ]
    refine wpAnyH_take (i := 26) (v := ?vv23) rfl (by kernel_rfl) (by kernel_rfl) (by kernel_rfl) (fun _ _ _ h => h) (Or.inl ⟨by rfl, ?hy23⟩) (by assumption) ?_
    case hy23 => (intro w hSw; (try dsimp only at hSw); go_split_ands; go_simp; try with_reducible rfl)
    try simp only [List.getElem_toArray, List.getElem_cons_succ, List.getElem_cons_zero, Act.put, List.setIfInBounds_toArray, List.set_cons_zero, List.set_cons_succ]
    refine wpAnyH_take (i := 27) (v := ?vv24) rfl (by kernel_rfl) (by kernel_rfl) (by kernel_rfl) (fun _ _ _ h => h) (Or.inl ⟨by rfl, ?hy24⟩) (by assumption) ?_
    case hy24 => (intro w hSw; (try dsimp only at hSw); go_split_ands; go_simp; try with_reducible rfl)
    try simp only [List.getElem_toArray, List.getElem_cons_succ, List.getElem_cons_zero, Act.put, List.setIfInBounds_toArray, List.set_cons_zero, List.set_cons_succ]
    refine wpAnyH_done (by kernel_rfl) ?_ _
    refine NoPanic.normal ?_
    go_wp2
    go_ret
    exact ⟨by first | rfl | simp, HG13.out.tr hs7⟩
end Go.Proofs.YtcjjgdoafkdeaaaGreatDoor
