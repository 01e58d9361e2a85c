/- Layer 6: 'calendars joined in any order, or one by one, are one', walked. -/
import Derived.Test.YtjgihjpckjdikaaGreatDoorKh
import Derived.Test.YtjgihjpckjdikaaGreatDoorHg
namespace Go.Proofs.YtjgihjpckjdikaaGreatDoor
open Go.RowKit Go.Extern.Stop Go.Stop Go.Extern
set_option linter.unusedVariables false
set_option linter.unusedSimpArgs false

theorem cals_two (w : World) {v1 v2 : Value} {S1 S2 : Int → Bool} {N : Nat} (h1 : CalLe w v1 S1 N) (h2 : CalLe w v2 S2 N) :
    CalsAt (w.alloc (.cells #[v1, v2] 34)) (.slice (some ⟨w.heap.size, 0, none⟩) 2 2) [S1, S2] N := by
  have hb := heap_alloc_new w (.cells #[v1, v2] 34)
  have hg : Gr w (w.alloc (.cells #[v1, v2] 34)) := (Gr.rf w).alloc (Nat.le_refl _) _
  refine .inr ⟨w.heap.size, 0, 2, rfl, by simp, fun j S hj => ?_⟩
  have hl := (List.getElem?_eq_some_iff.1 hj).1
  rcases (by simp at hl; omega : j = 0 ∨ j = 1) with rfl | rfl
  · obtain rfl : S1 = S := by simpa using hj
    exact ⟨v1, heap_cell hb 0, h1.gr hg⟩
  · obtain rfl : S2 = S := by simpa using hj
    exact ⟨v2, heap_cell hb 1, h2.gr hg⟩
theorem cals_three (w : World) {v1 v2 v3 : Value} {S1 S2 S3 : Int → Bool} {N : Nat} (h1 : CalLe w v1 S1 N) (h2 : CalLe w v2 S2 N) (h3 : CalLe w v3 S3 N) :
    CalsAt (w.alloc (.cells #[v1, v2, v3] 34)) (.slice (some ⟨w.heap.size, 0, none⟩) 3 3) [S1, S2, S3] N := by
  have hb := heap_alloc_new w (.cells #[v1, v2, v3] 34)
  have hg : Gr w (w.alloc (.cells #[v1, v2, v3] 34)) := (Gr.rf w).alloc (Nat.le_refl _) _
  refine .inr ⟨w.heap.size, 0, 3, rfl, by simp, fun j S hj => ?_⟩
  have hl := (List.getElem?_eq_some_iff.1 hj).1
  rcases (by simp at hl; omega : j = 0 ∨ j = 1 ∨ j = 2) with rfl | rfl | rfl
  · obtain rfl : S1 = S := by simpa using hj
    exact ⟨v1, heap_cell hb 0, h1.gr hg⟩
  · obtain rfl : S2 = S := by simpa using hj
    exact ⟨v2, heap_cell hb 1, h2.gr hg⟩
  · obtain rfl : S3 = S := by simpa using hj
    exact ⟨v3, heap_cell hb 2, h3.gr hg⟩
theorem calLe_in {w : World} {p b n N : Nat} {S : Int → Bool} (h : CalIn w p b n S) (hn : n ≤ N) : CalLe w (.pointer (some ⟨p, 0, none⟩)) S N := .inr ⟨p, b, n, hn, rfl, h⟩
theorem CalLe.at_ {w : World} {v : Value} {S : Int → Bool} {N : Nat} (h : CalLe w v S N) : CalAt w v S := by
  rcases h with h | ⟨p, b, n, _, rfl, h⟩
  · exact .inl h
  · exact h.at_
theorem CalLe.le {w : World} {v : Value} {S : Int → Bool} {N M : Nat} (h : CalLe w v S N) (hl : N ≤ M) : CalLe w v S M := by
  rcases h with h | ⟨p, b, n, h1, h2, h3⟩
  · exact .inl h
  · exact .inr ⟨p, b, n, Nat.le_trans h1 hl, h2, h3⟩
/-- What a join gives: a calendar at a pointer of its own. -/
def JoinOf (w' : World) (p : Nat) (Ss : List (Int → Bool)) (S : Int → Bool) (N : Nat) : Prop := CalLe w' (.pointer (some ⟨p, 0, none⟩)) S N ∧ ∀ k, inI k → S k = anyS Ss k
theorem joinP_calls (Ss : List (Int → Bool)) (v : Value) (N : Nat) (w : World) (h : CalsAt w v Ss N) (hn : Ss.length ≤ 8) (hN : N ≤ 50000) :
    Calls Tryz.prog 25 #[v] w fun e w' => (∃ p S, e = .returned (.pointer (some ⟨p, 0, none⟩)) ∧ JoinOf w' p Ss S (N * Ss.length)) ∧ Gr w w' :=
  (join_calls Ss v N w h hn hN).mono fun e w' hh => by
    obtain ⟨⟨p, b, n, S, rfl, h1, h2⟩, hg⟩ := hh
    refine ⟨⟨p, S, rfl, calLe_in h1 h2.1, fun k hk => ?_⟩, hg⟩
    rw [h2.2 k hk, List.take_length]
theorem openB_congr {S S' : Int → Bool} {d : Int} (h : S d = S' d) : openB S d = openB S' d := by unfold openB; rw [h]
theorem dayOne (w : World) (D : Int) : DaysAt (w.alloc (.cells #[.int .i64 D] 3)) (.slice (some ⟨w.heap.size, 0, none⟩) 1 1) [D] := by
  have hb := heap_alloc_new w (.cells #[.int .i64 D] 3)
  refine .inr ⟨w.heap.size, 0, 1, rfl, by simp, fun j x hj => ?_⟩
  have hl := (List.getElem?_eq_some_iff.1 hj).1
  obtain rfl : j = 0 := by simpa using hl
  obtain rfl : D = x := by simpa using hj
  exact heap_cell hb 0
theorem newOne_calls (v u : Value) (D : Int) (w : World) (h : RulesAt w v []) (h' : DaysAt w u [D]) (h0 : 0 ≤ D) (h1 : D ≤ 109572) :
    Calls Tryz.prog 19 #[v, u] w fun e w' => (∃ p b n S, e = .returned (.tuple #[.pointer (some ⟨p, 0, none⟩), .nilIface]) ∧ CalIn w' p b n S ∧ ShutBy [] [D] S ∧ n ≤ 6100) ∧ Gr w w' :=
  calnew_calls [] v [D] u w h h' (by decide) (by simp) (fun r hr => absurd hr List.not_mem_nil) (fun d hd => by rw [List.mem_singleton.1 hd]; exact ⟨h0, h1⟩)
set_option maxRecDepth 100000 in
set_option maxHeartbeats 16000000 in
theorem calJoin_calls (rs : List Ru) (v : Value) (ss : List Ru) (v2 : Value) (ms : List Int) (v3 : Value) (n : Int) (n0 : -9223372036854775808 ≤ n) (n1 : n ≤ 9223372036854775807) (w : World) (hM : Met2 w)
    (hr : RulesAt w v rs) (hi : ∀ r ∈ rs, RuIn r) (hl : rs.length ≤ 9223372036854775807) (hr2 : RulesAt w v2 ss) (hi2 : ∀ r ∈ ss, RuIn r) (hl2 : ss.length ≤ 9223372036854775807) (hr3 : DaysAt w v3 ms) (hi3 : ∀ x ∈ ms, in64 x) (hl3 : ms.length ≤ 9223372036854775807) :
    Calls Tryz.prog 7 #[v, v2, v3, .int .i64 n] w fun e w' => e = .returned (.bool true) ∧ Gr w w' := by
  have HBG := Lib.hid (begun6_calls w hM)
  have HR := Lib.hid hr
  have HR2 := Lib.hid hr2
  have HR3 := Lib.hid hr3
  have HL := Lib.hid hl
  have HL2 := Lib.hid hl2
  have HL3 := Lib.hid hl3
  have hd := day6_bd n
  have hdy := fun w => day6_calls n w
  generalize n % 109573 = d at hd hdy
  have HDY := Lib.hid hdy
  have hd0 := hd.1
  have hd1 := hd.2
  clear hdy hd hM hr hi hl hr2 hi2 hl2 hr3 hi3 hl3
  go_enter Tryz.func7, Tryz.ntmps7
  go_wp2_with (go_at_call 18; (with_reducible refine HBG.out.mono ?_); rintro ev w1 ⟨rfl, hg1⟩)
  refine (rules_calls rs v w1 (HR.out.gr hg1) HL.out).mono ?_
  rintro ev w2 ⟨⟨u, rfl, hu⟩, hg2⟩
  have HU := Lib.hid hu
  have HG2 := Lib.hid (hg1.tr hg2)
  clear hu hg1 hg2
  go_wp2_with fail
  refine (days_calls ms v3 w2 (HR3.out.gr HG2.out) HL3.out).mono ?_
  rintro ev w3 ⟨⟨u3, rfl, hu3⟩, hg3⟩
  have HU3 := Lib.hid hu3
  have HU2 := Lib.hid (HU.out.gr hg3)
  have HG3 := Lib.hid (HG2.out.tr hg3)
  clear hu3 hg3
  go_wp2_with fail
  refine (newL_calls rs ms u u3 w3 HU2.out HU3.out).mono ?_
  rintro ev w4 ⟨⟨pa, ba, na, Sa, rfl, hca, hsa, hna⟩, hg4⟩
  have HLA := Lib.hid (calLe_in hca hna)
  have HG4 := Lib.hid (HG3.out.tr hg4)
  clear hca hsa hna hg4
  go_wp2_with fail
  refine (rules_calls ss v2 w4 (HR2.out.gr HG4.out) HL2.out).mono ?_
  rintro ev w5 ⟨⟨u5, rfl, hu5⟩, hg5⟩
  have HU5 := Lib.hid hu5
  have HG45 := Lib.hid hg5
  have HG5 := Lib.hid (HG4.out.tr hg5)
  clear hu5 hg5
  go_wp2_with fail
  refine (newR_calls ss u5 w5 HU5.out).mono ?_
  rintro ev w6 ⟨⟨pb, bb, nb, Sb, rfl, hcb, hsb, hnb⟩, hg6⟩
  have HLB := Lib.hid (calLe_in hcb hnb)
  have HLA6 := Lib.hid (HLA.out.gr (HG45.out.tr hg6))
  have HG6 := Lib.hid (HG5.out.tr hg6)
  clear hcb hsb hnb hg6
  go_wp2_with (go_at_call 26; (with_reducible refine (HDY.out _).mono ?_); rintro ev w7 ⟨rfl, rfl⟩)
  have hgd : Gr w6 (w6.alloc (.cells #[.int .i64 d] 3)) := (Gr.rf w6).alloc (Nat.le_refl _) _
  have hdo := dayOne w6 d
  generalize w6.alloc (.cells #[.int .i64 d] 3) = W7 at hgd hdo ⊢
  generalize w6.heap.size = bd at hdo ⊢
  have HG7 := Lib.hid (HG6.out.tr hgd)
  have HG67 := Lib.hid hgd
  have HDO := Lib.hid hdo
  clear hgd hdo
  refine (newOne_calls _ _ d W7 (.inl ⟨rfl, none, 0, rfl⟩) HDO.out hd0 hd1).mono ?_
  rintro ev w8 ⟨⟨pc, bc, nc, Sc, rfl, hcc, hsc, hnc⟩, hg8⟩
  have HLC := Lib.hid (calLe_in hcc hnc)
  have HLA8 := Lib.hid (HLA6.out.gr (HG67.out.tr hg8))
  have HLB8 := Lib.hid (HLB.out.gr (HG67.out.tr hg8))
  have HSC := Lib.hid ((hsc d).2 (.inl (List.mem_singleton.2 rfl)))
  have HG8 := Lib.hid (HG7.out.tr hg8)
  clear hcc hsc hnc hg8
  go_wp2_with fail
  refine (joinP_calls _ _ 6100 _ (cals_three w8 HLA8.out HLB8.out HLC.out) (by simp) (by decide)).mono ?_
  rintro ev w9 ⟨⟨px, Sx, rfl, hjx⟩, hg9⟩
  have HGA9 := Lib.hid (Gr.tr ((Gr.rf w8).alloc (Nat.le_refl _) (.cells #[.pointer (some ⟨pa, 0, none⟩), .pointer (some ⟨pb, 0, none⟩), .pointer (some ⟨pc, 0, none⟩)] 34)) hg9)
  have HJX := Lib.hid hjx
  have HLA9 := Lib.hid (HLA8.out.gr HGA9.out)
  have HLB9 := Lib.hid (HLB8.out.gr HGA9.out)
  have HLC9 := Lib.hid (HLC.out.gr HGA9.out)
  have HG9 := Lib.hid (HG8.out.tr HGA9.out)
  clear hjx hg9
  go_wp2_with fail
  refine (joinP_calls _ _ 6100 _ (cals_two w9 HLB9.out HLA9.out) (by simp) (by decide)).mono ?_
  rintro ev w10 ⟨⟨pq, Sq, rfl, hjq⟩, hg10⟩
  have HGA10 := Lib.hid (Gr.tr ((Gr.rf w9).alloc (Nat.le_refl _) (.cells #[.pointer (some ⟨pb, 0, none⟩), .pointer (some ⟨pa, 0, none⟩)] 34)) hg10)
  have HJQ := Lib.hid hjq
  have HLA10 := Lib.hid (HLA9.out.gr HGA10.out)
  have HLC10 := Lib.hid (HLC9.out.gr HGA10.out)
  have HG10 := Lib.hid (HG9.out.tr HGA10.out)
  clear hjq hg10
  go_wp2_with fail
  refine (joinP_calls _ _ 12200 _ (cals_two w10 (HLC10.out.le (by decide)) HJQ.out.1) (by simp) (by decide)).mono ?_
  rintro ev w11 ⟨⟨py, Sy, rfl, hjy⟩, hg11⟩
  have HGA11 := Lib.hid (Gr.tr ((Gr.rf w10).alloc (Nat.le_refl _) (.cells #[.pointer (some ⟨pc, 0, none⟩), .pointer (some ⟨pq, 0, none⟩)] 34)) hg11)
  have HLX := Lib.hid (HJX.out.1.gr (HGA10.out.tr HGA11.out))
  have HLY := Lib.hid hjy.1
  have HLA11 := Lib.hid (HLA10.out.gr HGA11.out)
  have HXY := Lib.hid (fun k (hk : inI k) => show Sx k = Sy k by
    rw [HJX.out.2 k hk, hjy.2 k hk]
    show (Sa k || (Sb k || (Sc k || false))) = (Sc k || (Sq k || false))
    rw [HJQ.out.2 k hk]
    show _ = (Sc k || ((Sb k || (Sa k || false)) || false))
    cases Sa k <;> cases Sb k <;> cases Sc k <;> rfl)
  have HXD := Lib.hid (show Sx d = true by
    rw [HJX.out.2 d ⟨by omega, by omega⟩]
    show (Sa d || (Sb d || (Sc d || false))) = true
    rw [HSC.out]
    cases Sa d <;> cases Sb d <;> rfl)
  have HG11 := Lib.hid (HG10.out.tr HGA11.out)
  clear hjy hg11
  go_wp2_with (go_at_call 26; (with_reducible refine (HDY.out _).mono ?_); rintro ev w7 ⟨rfl, rfl⟩)
  go_loopg [18] 11 (fun g s18 wr => ∃ x : Int, (g : Int) = d + 6 - x ∧ d - 5 ≤ x ∧ x ≤ d + 6 ∧ s18 = .int .i64 x ∧ Hid (Gr w11 wr))
  case atStart => exact ⟨d - 5, by omega, by omega, by omega, rfl, Lib.hid (Gr.rf _)⟩
  case round =>
    obtain ⟨x, hg, hx0, hx1, rfl, HGR⟩ := hrel
    have HGX := Lib.hid hg
    clear hg
    by_cases hlt : x < d + 6
    · have bl : decide (x < d + 6) = true := decide_eq_true hlt
      have hox := open_calls _ Sx x (by omega) (by omega) wr (HLX.out.at_.gr HGR.out)
      have hoy := open_calls _ Sy x (by omega) (by omega) wr (HLY.out.at_.gr HGR.out)
      rw [openB_congr (HXY.out x ⟨by omega, by omega⟩)] at hox
      generalize openB Sy x = oy at hox hoy
      have HOX := Lib.hid hox
      have HOY := Lib.hid hoy
      clear hox hoy
      go_wp2_with (first | (go_at_call 26; (with_reducible refine (HDY.out _).mono ?_); rintro ev w7 ⟨rfl, rfl⟩) | (go_at_call 27; (with_reducible refine HOX.out.mono ?_); rintro ev w6 ⟨rfl, rfl⟩) | (go_at_call 27; (with_reducible refine HOY.out.mono ?_); rintro ev w6 ⟨rfl, rfl⟩))
      refine (joinP_calls _ _ 6100 _ (cals_two wr (HLA11.out.gr HGR.out) (HLA11.out.gr HGR.out)) (by simp) (by decide)).mono ?_
      rintro ev w12 ⟨⟨pz, Sz, rfl, hjz⟩, hg12⟩
      have HGA12 := Lib.hid (Gr.tr ((Gr.rf wr).alloc (Nat.le_refl _) (.cells #[.pointer (some ⟨pa, 0, none⟩), .pointer (some ⟨pa, 0, none⟩)] 34)) hg12)
      have hoz := open_calls _ Sz x (by omega) (by omega) w12 hjz.1.at_
      have hoa := open_calls _ Sa x (by omega) (by omega) w12 (HLA11.out.at_.gr (HGR.out.tr HGA12.out))
      rw [openB_congr (show Sz x = Sa x by rw [hjz.2 x ⟨by omega, by omega⟩]; show (Sa x || (Sa x || false)) = Sa x; cases Sa x <;> rfl)] at hoz
      generalize openB Sa x = oa at hoz hoa
      have HOZ := Lib.hid hoz
      have HOA := Lib.hid hoa
      clear hoz hoa hjz hg12
      go_wp2_with (first | (go_at_call 27; (with_reducible refine HOZ.out.mono ?_); rintro ev w6 ⟨rfl, rfl⟩) | (go_at_call 27; (with_reducible refine HOA.out.mono ?_); rintro ev w6 ⟨rfl, rfl⟩))
      go_roundg (gk - 1)
      case measure => have := HGX.out; omega
      case rel => exact ⟨x + 1, by have := HGX.out; omega, by omega, by omega, rfl, Lib.hid (HGR.out.tr HGA12.out)⟩
    · have bl : decide (x < d + 6) = false := decide_eq_false hlt
      have hox := open_calls _ Sx d (by omega) (by omega) wr (HLX.out.at_.gr HGR.out)
      rw [show openB Sx d = false by unfold openB; rw [HXD.out]; simp] at hox
      have HOX := Lib.hid hox
      clear hox
      go_wp2_with (first | (go_at_call 26; (with_reducible refine (HDY.out _).mono ?_); rintro ev w7 ⟨rfl, rfl⟩) | (go_at_call 27; (with_reducible refine HOX.out.mono ?_); rintro ev w6 ⟨rfl, rfl⟩))
      go_ret
      exact ⟨by first | rfl | simp, HG11.out.tr HGR.out⟩
end Go.Proofs.YtjgihjpckjdikaaGreatDoor
