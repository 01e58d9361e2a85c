/- Layer 6: 'which days are open, of two calendars, of both', walked. -/
import Derived.Test.YtglbdafcfcmffaaGreatDoorPi
import Derived.Test.YtglbdafcfcmffaaGreatDoorPy
import Derived.Deep.RegionHeld3
namespace Go.Proofs.YtglbdafcfcmffaaGreatDoor
open Go.RowKit Go.Extern.Stop Go.Stop Go.Extern
set_option linter.unusedVariables false
set_option linter.unusedSimpArgs false

theorem gr_alloc_of {W w : World} {o : Obj} (h : Gr W w) : Gr W (w.alloc o) := h.tr ((Gr.rf w).alloc (Nat.le_refl _) _)
theorem gr_drew_of {W w : World} (h : Gr W w) : Gr W w.drew := grOne h
theorem gr_same {W w w' : World} (h : Gr W w) (e : w = w') : Gr W w' := e ▸ h
/-- One calendar, two calendars of the reference, laid in a block. -/
theorem rcal_blk1 {w : World} {b : Nat} {u u' : Value} {rs : List Ru} {ms : List Int} (hb : w.heap[b]? = some (.cells #[u, u'] 34 (0, 0))) (h : RulesAt w u rs) (h' : DaysAt w u' ms) (hn : rs.length ≤ 100) (hm : ms.length ≤ 100) :
    RCals w (.slice (some ⟨b, 0, none⟩) 1 1) [(rs, ms)] := by
  refine ⟨_, 1, rfl, fun j x hj => ?_⟩
  have hl := (List.getElem?_eq_some_iff.1 hj).1
  obtain rfl : j = 0 := by simpa using hl
  obtain rfl : (rs, ms) = x := by simpa using hj
  exact ⟨b, 0, u, u', rfl, cells_lt hb, heap_cell hb 0, heap_cell hb 1, h, h', hn, hm⟩
theorem rcal_blk2 {w : World} {b : Nat} {u u' s s' : Value} {rs ss : List Ru} {ms ns : List Int} (hb : w.heap[b]? = some (.cells #[u, u', s, s'] 34 (0, 0))) (h : RulesAt w u rs) (h' : DaysAt w u' ms) (k : RulesAt w s ss) (k' : DaysAt w s' ns) (hn : rs.length ≤ 100) (hm : ms.length ≤ 100) (hn2 : ss.length ≤ 100) (hm2 : ns.length ≤ 100) :
    RCals w (.slice (some ⟨b, 0, none⟩) 2 2) [(rs, ms), (ss, ns)] := by
  refine ⟨_, 2, rfl, fun j x hj => ?_⟩
  have hl := (List.getElem?_eq_some_iff.1 hj).1
  rcases (by simp at hl; omega : j = 0 ∨ j = 1) with rfl | rfl
  · obtain rfl : (rs, ms) = x := by simpa using hj
    exact ⟨b, 0, u, u', rfl, cells_lt hb, heap_cell hb 0, heap_cell hb 1, h, h', hn, hm⟩
  · obtain rfl : (ss, ns) = x := by simpa using hj
    exact ⟨b, 0, s, s', rfl, cells_lt hb, heap_cell hb 2, heap_cell hb 3, k, k', hn2, hm2⟩
theorem shutC_two {rs ss : List Ru} {ms ns : List Int} {Sa Sb : Int → Bool} (h : ShutBy rs ms Sa) (h' : ShutBy ss ns Sb) : ShutC [(rs, ms), (ss, ns)] (fun k => Sa k || Sb k) := fun d y m k hd => by
  show (shutR rs ms y d || (shutR ss ns y d || false)) = (Sa d || Sb d)
  rw [shut_is h hd, shut_is h' hd, Bool.or_false]
theorem openB_or (Sa Sb : Int → Bool) (d : Int) : openB (fun k => Sa k || Sb k) d = (openB Sa d && openB Sb d) := by
  show (decide (0 ≤ d ∧ d ≤ 109572) && !((d + 1) % 7 == 0) && !((d + 1) % 7 == 6) && !(Sa d || Sb d)) = (decide (0 ≤ d ∧ d ≤ 109572) && !((d + 1) % 7 == 0) && !((d + 1) % 7 == 6) && !Sa d && (decide (0 ≤ d ∧ d ≤ 109572) && !((d + 1) % 7 == 0) && !((d + 1) % 7 == 6) && !Sb d))
  cases decide (0 ≤ d ∧ d ≤ 109572) <;> cases ((d + 1) % 7 == 0) <;> cases ((d + 1) % 7 == 6) <;> cases Sa d <;> cases Sb d <;> rfl
/-- What the round's calls answer, from a world W on. -/
structure Rnd (W : World) (pa pb pj : Nat) (u u3 s : Value) (i : Int) (oa ob o0 : Bool) : Prop where
  oA : ∀ w, Gr W w → Calls Tryz.prog 22 #[.pointer (some ⟨pa, 0, none⟩), .int .i64 i] w fun e w' => e = .returned (.bool oa) ∧ w = w'
  oB : ∀ w, Gr W w → Calls Tryz.prog 22 #[.pointer (some ⟨pb, 0, none⟩), .int .i64 i] w fun e w' => e = .returned (.bool ob) ∧ w = w'
  oJ : ∀ w, Gr W w → Calls Tryz.prog 22 #[.pointer (some ⟨pj, 0, none⟩), .int .i64 i] w fun e w' => e = .returned (.bool (oa && ob)) ∧ w = w'
  ref1 : ∀ w (b : Nat), Gr W w → w.heap[b]? = some (.cells #[u, u3] 34 (0, 0)) → Calls Tryz.prog 23 #[.slice (some ⟨b, 0, none⟩) 1 1, .int .i64 i] w fun e w' => e = .returned (.bool oa) ∧ Gr W w'
  ref2 : ∀ w (b : Nat), Gr W w → w.heap[b]? = some (.cells #[u, u3, s, .slice none 0 0] 34 (0, 0)) → Calls Tryz.prog 23 #[.slice (some ⟨b, 0, none⟩) 2 2, .int .i64 i] w fun e w' => e = .returned (.bool (oa && ob)) ∧ Gr W w'
  join0 : ∀ w, Gr W w → Calls Tryz.prog 20 #[.slice none 0 0] w fun e w' => (∃ p S, e = .returned (.pointer (some ⟨p, 0, none⟩)) ∧ CalAt w' (.pointer (some ⟨p, 0, none⟩)) S ∧ openB S i = o0) ∧ Gr W w'
  open0 : ∀ w p S, CalAt w (.pointer (some ⟨p, 0, none⟩)) S → openB S i = o0 → Calls Tryz.prog 22 #[.pointer (some ⟨p, 0, none⟩), .int .i64 i] w fun e w' => e = .returned (.bool o0) ∧ w = w'
  ref0 : ∀ w, Gr W w → Calls Tryz.prog 23 #[.slice none 0 0, .int .i64 i] w fun e w' => e = .returned (.bool o0) ∧ Gr W w'
theorem rnd_of {W : World} {pa pb pj : Nat} {u u3 s : Value} {rs ss : List Ru} {ms : List Int} {Sa Sb Sj : Int → Bool} {N : Nat} (hu : RulesAt W u rs) (hu3 : DaysAt W u3 ms) (hs : RulesAt W s ss) (hn : rs.length ≤ 100) (hm : ms.length ≤ 100) (hn2 : ss.length ≤ 100)
    (ha : CalAt W (.pointer (some ⟨pa, 0, none⟩)) Sa) (hb : CalAt W (.pointer (some ⟨pb, 0, none⟩)) Sb) (hj : JoinOf W pj [Sa, Sb] Sj N) (hsa : ShutBy rs ms Sa) (hsb : ShutBy ss [] Sb) (i : Int) (i0 : -1000000 ≤ i) (i1 : i ≤ 1000000) :
    Rnd W pa pb pj u u3 s i (openB Sa i) (openB Sb i) (openB (fun _ => false) i) where
  oA := fun w hg => open_calls _ Sa i (by omega) (by omega) w (ha.gr hg)
  oB := fun w hg => open_calls _ Sb i (by omega) (by omega) w (hb.gr hg)
  oJ := fun w hg => by
    have h := open_calls _ Sj i (by omega) (by omega) w (hj.1.at_.gr hg)
    rw [openB_congr (S' := fun k => Sa k || Sb k) (by rw [hj.2 i ⟨by omega, by omega⟩]; show (Sa i || (Sb i || false)) = _; rw [Bool.or_false]), openB_or] at h
    exact h
  ref1 := fun w b hg hb => (ropen_calls _ _ Sa (shutC_one hsa) i _ (rcal_blk1 hb (hu.gr hg) (hu3.gr hg) hn hm) (by simp)).mono fun e w' hh => ⟨hh.1, hg.tr hh.2⟩
  ref2 := fun w b hg hb => by
    have h := ropen_calls _ _ _ (shutC_two hsa hsb) i _ (rcal_blk2 hb (hu.gr hg) (hu3.gr hg) (hs.gr hg) (.inl ⟨rfl, none, 0, rfl⟩ : DaysAt w (.slice none 0 0) []) hn hm hn2 (by decide)) (by simp)
    rw [openB_or] at h
    exact h.mono fun e w' hh => ⟨hh.1, hg.tr hh.2⟩
  join0 := fun w hg => (joinP_calls [] (.slice none 0 0) 0 w (.inl ⟨rfl, none, 0, rfl⟩) (by decide) (by decide)).mono fun e w' hh => by
    obtain ⟨⟨p, S, he, hp⟩, h2⟩ := hh
    exact ⟨⟨p, S, he, hp.1.at_, openB_congr (hp.2 i ⟨by omega, by omega⟩)⟩, hg.tr h2⟩
  open0 := fun w p S h he => by
    have h2 := open_calls _ S i (by omega) (by omega) w h
    rw [he] at h2
    exact h2
  ref0 := fun w hg => (ropen_calls [] (.slice none 0 0) (fun _ => false) (fun d y m k hd => rfl) i w ⟨none, 0, rfl, fun j x hj => by simp at hj⟩ (by decide)).mono fun e w' hh => ⟨hh.1, hg.tr hh.2⟩
set_option maxRecDepth 100000 in
set_option maxHeartbeats 64000000 in
theorem calAll_calls (rs : List Ru) (v : Value) (ss : List Ru) (v2 : Value) (ms : List Int) (v3 : Value) (n : Int) (n0 : -9223372036854775808 ≤ n) (n1 : n ≤ 9223372036854775807) (w : World) (hM : Met2 w)
    (hr : RulesAt w v rs) (hi : ∀ r ∈ rs, RuIn r) (hl : rs.length ≤ 9223372036854775807) (hr2 : RulesAt w v2 ss) (hi2 : ∀ r ∈ ss, RuIn r) (hl2 : ss.length ≤ 9223372036854775807) (hr3 : DaysAt w v3 ms) (hi3 : ∀ x ∈ ms, in64 x) (hl3 : ms.length ≤ 9223372036854775807) :
    Calls Tryz.prog 3 #[v, v2, v3, .int .i64 n] w fun e w' => e = .returned (.bool true) ∧ Gr w w' := by
  have HBG := Lib.hid (begun6_calls w hM)
  have HR := Lib.hid hr
  have HR2 := Lib.hid hr2
  have HR3 := Lib.hid hr3
  have HL := Lib.hid hl
  have HL2 := Lib.hid hl2
  have HL3 := Lib.hid hl3
  have hd := day6_bd n
  have hdy := fun w => day6_calls n w
  generalize n % 109573 = d at hd hdy
  have HDY := Lib.hid hdy
  have hd0 := hd.1
  have hd1 := hd.2
  clear hdy hd hM hr hi hl hr2 hi2 hl2 hr3 hi3 hl3
  go_enter Tryz.func3, Tryz.ntmps3
  go_wp2_with (go_at_call 16; (with_reducible refine HBG.out.mono ?_); rintro ev w1 ⟨rfl, hg1⟩)
  refine (rules_calls rs v w1 (HR.out.gr hg1) HL.out).mono ?_
  rintro ev w2 ⟨⟨u, rfl, hu⟩, hg2⟩
  have HU := Lib.hid hu
  have HG2 := Lib.hid (hg1.tr hg2)
  clear hu hg1 hg2
  go_wp2_with fail
  refine (rules_calls ss v2 w2 (HR2.out.gr HG2.out) HL2.out).mono ?_
  rintro ev w3 ⟨⟨s, rfl, hs⟩, hg3⟩
  have HS := Lib.hid hs
  have HU3 := Lib.hid (HU.out.gr hg3)
  have HG3 := Lib.hid (HG2.out.tr hg3)
  clear hs hg3
  go_wp2_with fail
  refine (days_calls ms v3 w3 (HR3.out.gr HG3.out) HL3.out).mono ?_
  rintro ev w4 ⟨⟨u3, rfl, hu3⟩, hg4⟩
  have hu2 := HU3.out.gr hg4
  have hs2 := HS.out.gr hg4
  obtain ⟨ao, uc, hue, _⟩ := hu2.view
  obtain ⟨ao3, uc3, hue3, _⟩ := hu3.view
  obtain ⟨ao2, uc2, hse, _⟩ := hs2.view
  have HU4 := Lib.hid hu2
  have HV4 := Lib.hid hu3
  have HS4 := Lib.hid hs2
  subst hue hue3 hse
  have HG4 := Lib.hid (HG3.out.tr hg4)
  clear hu3 hg4 hu2 hs2
  go_wp2_with fail
  refine (newL_calls rs ms _ _ w4 HU4.out HV4.out).mono ?_
  rintro ev w5 ⟨⟨pa, ba, na, Sa, rfl, hca, hsa, hna⟩, hg5⟩
  have HLA := Lib.hid (calLe_in hca hna)
  have HSA := Lib.hid hsa
  have HS5 := Lib.hid (HS4.out.gr hg5)
  have HU5 := Lib.hid (HU4.out.gr hg5)
  have HV5 := Lib.hid (HV4.out.gr hg5)
  have HG5 := Lib.hid (HG4.out.tr hg5)
  clear hca hsa hna hg5
  go_wp2_with fail
  refine (newR_calls ss _ w5 HS5.out).mono ?_
  rintro ev w6 ⟨⟨pb, bb, nb, Sb, rfl, hcb, hsb, hnb⟩, hg6⟩
  have HLB := Lib.hid (calLe_in hcb hnb)
  have HSB := Lib.hid hsb
  have HLA6 := Lib.hid (HLA.out.gr hg6)
  have HS6 := Lib.hid (HS5.out.gr hg6)
  have HU6 := Lib.hid (HU5.out.gr hg6)
  have HV6 := Lib.hid (HV5.out.gr hg6)
  have HG6 := Lib.hid (HG5.out.tr hg6)
  clear hcb hsb hnb hg6
  go_wp2_with fail
  refine (joinP_calls _ _ 6100 _ (cals_two w6 HLA6.out HLB.out) (by simp) (by decide)).mono ?_
  rintro ev w7 ⟨⟨pj, Sj, rfl, hj⟩, hg7⟩
  have HGA7 := Lib.hid (Gr.tr ((Gr.rf w6).alloc (Nat.le_refl _) (.cells #[.pointer (some ⟨pa, 0, none⟩), .pointer (some ⟨pb, 0, none⟩)] 27)) hg7)
  have HJ := Lib.hid hj
  have HLA7 := Lib.hid (HLA6.out.gr HGA7.out)
  have HLB7 := Lib.hid (HLB.out.gr HGA7.out)
  have HS7 := Lib.hid (HS6.out.gr HGA7.out)
  have HU7 := Lib.hid (HU6.out.gr HGA7.out)
  have HV7 := Lib.hid (HV6.out.gr HGA7.out)
  have HG7 := Lib.hid (HG6.out.tr HGA7.out)
  clear hj hg7
  go_wp2_with (go_at_call 21; (with_reducible refine (HDY.out _).mono ?_); rintro ev w9 ⟨rfl, rfl⟩)
  have hgx : Gr w7 ((w7.alloc (.cells #[(.slice ao (rulesL rs).length uc), (.slice ao3 (daysL ms).length uc3)] 34)).alloc (.cells #[(.slice ao2 (rulesL ss).length uc2), (.slice none 0 0)] 34)) := gr_alloc_of (gr_alloc_of (Gr.rf w7))
  have hx : ((w7.alloc (.cells #[(.slice ao (rulesL rs).length uc), (.slice ao3 (daysL ms).length uc3)] 34)).alloc (.cells #[(.slice ao2 (rulesL ss).length uc2), (.slice none 0 0)] 34)).heap[w7.heap.size]? = some (.cells #[(.slice ao (rulesL rs).length uc), (.slice ao3 (daysL ms).length uc3)] 34 (0, 0)) := by
    have h0 := heap_alloc_new w7 (.cells #[(.slice ao (rulesL rs).length uc), (.slice ao3 (daysL ms).length uc3)] 34)
    exact Gr.heap (w := w7.alloc (.cells #[.slice ao (rulesL rs).length uc, .slice ao3 (daysL ms).length uc3] 34)) ((Gr.rf (w7.alloc (.cells #[(.slice ao (rulesL rs).length uc), (.slice ao3 (daysL ms).length uc3)] 34))).alloc (Nat.le_refl _) (.cells #[(.slice ao2 (rulesL ss).length uc2), (.slice none 0 0)] 34)) h0
  have hy : ((w7.alloc (.cells #[(.slice ao (rulesL rs).length uc), (.slice ao3 (daysL ms).length uc3)] 34)).alloc (.cells #[(.slice ao2 (rulesL ss).length uc2), (.slice none 0 0)] 34)).heap[w7.heap.size + 1]? = some (.cells #[(.slice ao2 (rulesL ss).length uc2), (.slice none 0 0)] 34 (0, 0)) := by
    have h0 := heap_alloc_new (w7.alloc (.cells #[(.slice ao (rulesL rs).length uc), (.slice ao3 (daysL ms).length uc3)] 34)) (.cells #[(.slice ao2 (rulesL ss).length uc2), (.slice none 0 0)] 34)
    rw [show (w7.alloc (.cells #[(.slice ao (rulesL rs).length uc), (.slice ao3 (daysL ms).length uc3)] 34)).heap.size = w7.heap.size + 1 by simp] at h0
    exact h0
  generalize (w7.alloc (.cells #[(.slice ao (rulesL rs).length uc), (.slice ao3 (daysL ms).length uc3)] 34)).alloc (.cells #[(.slice ao2 (rulesL ss).length uc2), (.slice none 0 0)] 34) = W0 at hgx hx hy ⊢
  obtain ⟨by', hby⟩ : ∃ by', w7.heap.size + 1 = by' := ⟨_, rfl⟩
  rw [hby] at hy ⊢
  clear hby
  generalize w7.heap.size = bx at hx ⊢
  have HRNA := Lib.hid (fun i q1 q2 => rnd_of (HU7.out.gr hgx) (HV7.out.gr hgx) (HS7.out.gr hgx) (by have := rulesL_le rs; omega) (by have := daysL_le ms; omega) (by have := rulesL_le ss; omega) (HLA7.out.at_.gr hgx) (HLB7.out.at_.gr hgx) (show JoinOf W0 pj [Sa, Sb] Sj _ from ⟨HJ.out.1.gr hgx, HJ.out.2⟩) HSA.out HSB.out i q1 q2)
  have HG0 := Lib.hid (HG7.out.tr hgx)
  have HK := Lib.hid (fun w' (hg : Gr W0 w') => show w'.cell? ⟨bx, 0, none⟩ = some (.slice ao (rulesL rs).length uc) ∧ w'.cell? ⟨bx, 1, none⟩ = some (.slice ao3 (daysL ms).length uc3) ∧ w'.cell? ⟨by', 0, none⟩ = some (.slice ao2 (rulesL ss).length uc2) ∧ w'.cell? ⟨by', 1, none⟩ = some (.slice none 0 0) from ⟨heap_cell (hg.heap hx) 0, heap_cell (hg.heap hx) 1, heap_cell (hg.heap hy) 0, heap_cell (hg.heap hy) 1⟩)
  clear hx hy hgx
  go_loopg [18] 11 (fun g s18 wr => ∃ x : Int, (g : Int) = d + 8 - x ∧ d - 3 ≤ x ∧ x ≤ d + 8 ∧ s18 = .int .i64 x ∧ Hid (Gr W0 wr))
  case atStart => exact ⟨d - 3, by omega, by omega, by omega, rfl, Lib.hid (Gr.rf _)⟩
  case round =>
    obtain ⟨x, hg, hx0, hx1, rfl, HGR⟩ := hrel
    have HGX := Lib.hid hg
    clear hg
    by_cases hlt : x < d + 8
    · have bl : decide (x < d + 8) = true := decide_eq_true hlt
      have hrn := HRNA.out x (by omega) (by omega)
      have hgw := HGR.out
      obtain ⟨c0, c1, c2, c3⟩ := HK.out _ hgw
      generalize openB Sa x = oa at hrn
      generalize openB Sb x = ob at hrn
      generalize openB (fun _ => false) x = o0 at hrn
      have HRND := Lib.hid hrn
      clear hrn
      cases oa
      case true =>
        go_wp2_with fail
        go_region_held3 (fun w' => w'.cell? ⟨bx, 0, none⟩ = some (.slice ao (rulesL rs).length uc) ∧ w'.cell? ⟨bx, 1, none⟩ = some (.slice ao3 (daysL ms).length uc3) ∧ w'.cell? ⟨by', 0, none⟩ = some (.slice ao2 (rulesL ss).length uc2) ∧ w'.cell? ⟨by', 1, none⟩ = some (.slice none 0 0))
          (first | (refine HK.out _ ?_; repeat' (first | assumption | exact Gr.rf _ | refine gr_alloc_of ?_ | refine gr_drew_of ?_)))
          (first | (go_at_call 22; (with_reducible refine (HRND.out.oA _ ?hh).mono ?_); (case hh => repeat' (first | assumption | exact Gr.rf _ | refine gr_alloc_of ?_ | refine gr_drew_of ?_)); rintro ev wz ⟨rfl, rfl⟩) | (go_at_call 22; (with_reducible refine (HRND.out.oJ _ ?hh).mono ?_); (case hh => repeat' (first | assumption | exact Gr.rf _ | refine gr_alloc_of ?_ | refine gr_drew_of ?_)); rintro ev wz ⟨rfl, rfl⟩) | (go_at_call 22; (with_reducible refine (HRND.out.oB _ ?hh).mono ?_); (case hh => repeat' (first | assumption | exact Gr.rf _ | refine gr_alloc_of ?_ | refine gr_drew_of ?_)); rintro ev wz ⟨rfl, rfl⟩) | (go_at_call 23; (with_reducible refine (HRND.out.ref1 _ _ ?hh ?hb).mono ?_); (case hb => exact heap_alloc_new _ _); (case hh => repeat' (first | assumption | exact Gr.rf _ | refine gr_alloc_of ?_ | refine gr_drew_of ?_)); rintro ev wz ⟨rfl, hgz⟩) | (go_at_call 23; (with_reducible refine (HRND.out.ref2 _ _ ?hh ?hb).mono ?_); (case hb => exact heap_alloc_new _ _); (case hh => repeat' (first | assumption | exact Gr.rf _ | refine gr_alloc_of ?_ | refine gr_drew_of ?_)); rintro ev wz ⟨rfl, hgz⟩) | (go_at_call 23; (with_reducible refine (HRND.out.ref0 _ ?hh).mono ?_); (case hh => repeat' (first | assumption | exact Gr.rf _ | refine gr_alloc_of ?_ | refine gr_drew_of ?_)); rintro ev wz ⟨rfl, hgz⟩) | (go_at_call 20; (with_reducible refine (HRND.out.join0 _ ?hh).mono ?_); (case hh => repeat' (first | assumption | exact Gr.rf _ | refine gr_alloc_of ?_ | refine gr_drew_of ?_)); rintro ev wz ⟨⟨pz, Sz, rfl, hcz, hez⟩, hgz⟩) | (go_at_call 22; (with_reducible refine (HRND.out.open0 _ _ _ (by assumption) (by assumption)).mono ?_); rintro ev wz ⟨rfl, rfl⟩))
        all_goals
          go_wp2
          go_roundg (gk - 1)
          case measure => have := HGX.out; omega
          case rel => exact ⟨x + 1, by have := HGX.out; omega, by omega, by omega, rfl, Lib.hid (by repeat' (first | assumption | exact Gr.rf _ | refine gr_alloc_of ?_ | refine gr_drew_of ?_))⟩
      case false =>
        go_wp2_with fail
        refine wp_region_noPanic ?_
        refine wp_region_held_drew (S := (fun w' => w'.cell? ⟨bx, 0, none⟩ = some (.slice ao (rulesL rs).length uc) ∧ w'.cell? ⟨bx, 1, none⟩ = some (.slice ao3 (daysL ms).length uc3) ∧ w'.cell? ⟨by', 0, none⟩ = some (.slice ao2 (rulesL ss).length uc2) ∧ w'.cell? ⟨by', 1, none⟩ = some (.slice none 0 0))) (by kernel_rfl) ?hS (fun hHeld => ?_)
        case hS => ((try dsimp only); (first | (refine HK.out _ ?_; repeat' (first | assumption | exact Gr.rf _ | refine gr_alloc_of ?_ | refine gr_drew_of ?_))))
        refine wpAnyH_take (i := 0) (v := ?vv1) rfl (by kernel_rfl) (by kernel_rfl) (by kernel_rfl) (fun _ _ _ h => h) (Or.inl ⟨by rfl, ?hy1⟩) (by assumption) ?_
        case hy1 => (intro w hSw; (try dsimp only at hSw); go_simp; try with_reducible rfl)
        try simp only [Act.put, List.setIfInBounds_toArray, List.set_cons_zero, List.set_cons_succ]
        refine wpAnyH_take (i := 1) (v := ?vv2) rfl (by kernel_rfl) (by kernel_rfl) (by kernel_rfl) (fun _ _ _ h => h) (Or.inl ⟨by rfl, ?hy2⟩) (by assumption) ?_
        case hy2 => (intro w hSw; (try dsimp only at hSw); go_simp; try with_reducible rfl)
        try simp only [Act.put, List.setIfInBounds_toArray, List.set_cons_zero, List.set_cons_succ]
        refine wpAnyH_take (i := 3) (v := ?vv3) rfl (by kernel_rfl) (by kernel_rfl) (by kernel_rfl) (fun _ _ _ h => h) (Or.inl ⟨by rfl, ?hy3⟩) (by assumption) ?_
        case hy3 => (intro w hSw; (try dsimp only at hSw); go_simp; try with_reducible rfl)
        try simp only [Act.put, List.setIfInBounds_toArray, List.set_cons_zero, List.set_cons_succ]
        refine wpAnyH_take (i := 5) (v := ?vv4) rfl (by kernel_rfl) (by kernel_rfl) (by kernel_rfl) (fun _ _ _ h => h) (Or.inl ⟨by rfl, ?hy4⟩) (by assumption) ?_
        case hy4 => (intro w hSw; (try dsimp only at hSw); go_simp; try with_reducible rfl)
        try simp only [Act.put, List.setIfInBounds_toArray, List.set_cons_zero, List.set_cons_succ]
        refine wpAnyH_ready (rs := [2, 4]) (by kernel_rfl) (by simp) ?_
        refine AllReadyH.cons rfl (fun K hK => ?_) (AllReadyH.cons rfl (fun K hK => ?_) AllReadyH.nil)
        · go_simp
          (first | (go_at_call 22; (with_reducible refine (HRND.out.oA _ ?hh).mono ?_); (case hh => repeat' (first | assumption | exact Gr.rf _ | refine gr_alloc_of ?_ | refine gr_drew_of ?_)); rintro ev wz ⟨rfl, rfl⟩) | (go_at_call 22; (with_reducible refine (HRND.out.oJ _ ?hh).mono ?_); (case hh => repeat' (first | assumption | exact Gr.rf _ | refine gr_alloc_of ?_ | refine gr_drew_of ?_)); rintro ev wz ⟨rfl, rfl⟩) | (go_at_call 22; (with_reducible refine (HRND.out.oB _ ?hh).mono ?_); (case hh => repeat' (first | assumption | exact Gr.rf _ | refine gr_alloc_of ?_ | refine gr_drew_of ?_)); rintro ev wz ⟨rfl, rfl⟩) | (go_at_call 23; (with_reducible refine (HRND.out.ref1 _ _ ?hh ?hb).mono ?_); (case hb => exact heap_alloc_new _ _); (case hh => repeat' (first | assumption | exact Gr.rf _ | refine gr_alloc_of ?_ | refine gr_drew_of ?_)); rintro ev wz ⟨rfl, hgz⟩) | (go_at_call 23; (with_reducible refine (HRND.out.ref2 _ _ ?hh ?hb).mono ?_); (case hb => exact heap_alloc_new _ _); (case hh => repeat' (first | assumption | exact Gr.rf _ | refine gr_alloc_of ?_ | refine gr_drew_of ?_)); rintro ev wz ⟨rfl, hgz⟩) | (go_at_call 23; (with_reducible refine (HRND.out.ref0 _ ?hh).mono ?_); (case hh => repeat' (first | assumption | exact Gr.rf _ | refine gr_alloc_of ?_ | refine gr_drew_of ?_)); rintro ev wz ⟨rfl, hgz⟩) | (go_at_call 20; (with_reducible refine (HRND.out.join0 _ ?hh).mono ?_); (case hh => repeat' (first | assumption | exact Gr.rf _ | refine gr_alloc_of ?_ | refine gr_drew_of ?_)); rintro ev wz ⟨⟨pz, Sz, rfl, hcz, hez⟩, hgz⟩) | (go_at_call 22; (with_reducible refine (HRND.out.open0 _ _ _ (by assumption) (by assumption)).mono ?_); rintro ev wz ⟨rfl, rfl⟩))
          try (go_wp2_with fail)
          clear hHeld
          refine hK.out _ _ ?hS (fun hHeld => ?_)
          case hS => ((try dsimp only); (first | (refine HK.out _ ?_; repeat' (first | assumption | exact Gr.rf _ | refine gr_alloc_of ?_ | refine gr_drew_of ?_))))
          clear hK K
          try simp only [Act.put, List.setIfInBounds_toArray, List.set_cons_zero, List.set_cons_succ]
          refine wpAnyH_ready (rs := [4]) (by kernel_rfl) (by simp) ?_
          refine AllReadyH.cons rfl (fun K hK => ?_) AllReadyH.nil
          go_simp
          clear hHeld
          refine hK.out _ _ ?hS (fun hHeld => ?_)
          case hS => ((try dsimp only); (first | (refine HK.out _ ?_; repeat' (first | assumption | exact Gr.rf _ | refine gr_alloc_of ?_ | refine gr_drew_of ?_))))
          clear hK K
          try simp only [Act.put, List.setIfInBounds_toArray, List.set_cons_zero, List.set_cons_succ]
          refine wpAnyH_ready (rs := [6]) (by kernel_rfl) (by simp) ?_
          refine AllReadyH.cons rfl (fun K hK => ?_) AllReadyH.nil
          go_simp
          (first | (go_at_call 22; (with_reducible refine (HRND.out.oA _ ?hh).mono ?_); (case hh => repeat' (first | assumption | exact Gr.rf _ | refine gr_alloc_of ?_ | refine gr_drew_of ?_)); rintro ev wz ⟨rfl, rfl⟩) | (go_at_call 22; (with_reducible refine (HRND.out.oJ _ ?hh).mono ?_); (case hh => repeat' (first | assumption | exact Gr.rf _ | refine gr_alloc_of ?_ | refine gr_drew_of ?_)); rintro ev wz ⟨rfl, rfl⟩) | (go_at_call 22; (with_reducible refine (HRND.out.oB _ ?hh).mono ?_); (case hh => repeat' (first | assumption | exact Gr.rf _ | refine gr_alloc_of ?_ | refine gr_drew_of ?_)); rintro ev wz ⟨rfl, rfl⟩) | (go_at_call 23; (with_reducible refine (HRND.out.ref1 _ _ ?hh ?hb).mono ?_); (case hb => exact heap_alloc_new _ _); (case hh => repeat' (first | assumption | exact Gr.rf _ | refine gr_alloc_of ?_ | refine gr_drew_of ?_)); rintro ev wz ⟨rfl, hgz⟩) | (go_at_call 23; (with_reducible refine (HRND.out.ref2 _ _ ?hh ?hb).mono ?_); (case hb => exact heap_alloc_new _ _); (case hh => repeat' (first | assumption | exact Gr.rf _ | refine gr_alloc_of ?_ | refine gr_drew_of ?_)); rintro ev wz ⟨rfl, hgz⟩) | (go_at_call 23; (with_reducible refine (HRND.out.ref0 _ ?hh).mono ?_); (case hh => repeat' (first | assumption | exact Gr.rf _ | refine gr_alloc_of ?_ | refine gr_drew_of ?_)); rintro ev wz ⟨rfl, hgz⟩) | (go_at_call 20; (with_reducible refine (HRND.out.join0 _ ?hh).mono ?_); (case hh => repeat' (first | assumption | exact Gr.rf _ | refine gr_alloc_of ?_ | refine gr_drew_of ?_)); rintro ev wz ⟨⟨pz, Sz, rfl, hcz, hez⟩, hgz⟩) | (go_at_call 22; (with_reducible refine (HRND.out.open0 _ _ _ (by assumption) (by assumption)).mono ?_); rintro ev wz ⟨rfl, rfl⟩))
          try (go_wp2_with fail)
          clear hHeld
          refine hK.out _ _ ?hS (fun hHeld => ?_)
          case hS => ((try dsimp only); (first | (refine HK.out _ ?_; repeat' (first | assumption | exact Gr.rf _ | refine gr_alloc_of ?_ | refine gr_drew_of ?_))))
          clear hK K
          try simp only [Act.put, List.setIfInBounds_toArray, List.set_cons_zero, List.set_cons_succ]
          refine wpAnyH_take (i := 7) (v := ?vv5) rfl (by kernel_rfl) (by kernel_rfl) (by kernel_rfl) (fun _ _ _ h => h) (Or.inl ⟨by rfl, ?hy5⟩) (by assumption) ?_
          case hy5 => (intro w hSw; (try dsimp only at hSw); go_simp; try with_reducible rfl)
          try simp only [Act.put, List.setIfInBounds_toArray, List.set_cons_zero, List.set_cons_succ]
          refine wpAnyH_take (i := 8) (v := ?vv6) rfl (by kernel_rfl) (by kernel_rfl) (by kernel_rfl) (fun _ _ _ h => h) (Or.inl ⟨by rfl, ?hy6⟩) (by assumption) ?_
          case hy6 => (intro w hSw; (try dsimp only at hSw); go_simp; try with_reducible rfl)
          try simp only [Act.put, List.setIfInBounds_toArray, List.set_cons_zero, List.set_cons_succ]
          refine wpAnyH_take (i := 9) (v := ?vv7) rfl (by kernel_rfl) (by kernel_rfl) (by kernel_rfl) (fun _ _ _ h => h) (Or.inl ⟨by rfl, ?hy7⟩) (by assumption) ?_
          case hy7 => (intro w hSw; (try dsimp only at hSw); go_simp; try with_reducible rfl)
          try simp only [Act.put, List.setIfInBounds_toArray, List.set_cons_zero, List.set_cons_succ]
          refine wpAnyH_take (i := 10) (v := ?vv8) rfl (by kernel_rfl) (by kernel_rfl) (by kernel_rfl) (fun _ _ _ h => h) (Or.inl ⟨by rfl, ?hy8⟩) (by assumption) ?_
          case hy8 => (intro w hSw; (try dsimp only at hSw); go_simp; try with_reducible rfl)
          try simp only [Act.put, List.setIfInBounds_toArray, List.set_cons_zero, List.set_cons_succ]
          refine wpAnyH_take (i := 12) (v := ?vv9) rfl (by kernel_rfl) (by kernel_rfl) (by kernel_rfl) (fun _ _ _ h => h) (Or.inl ⟨by rfl, ?hy9⟩) (by assumption) ?_
          case hy9 => (intro w hSw; (try dsimp only at hSw); go_simp; try with_reducible rfl)
          try simp only [Act.put, List.setIfInBounds_toArray, List.set_cons_zero, List.set_cons_succ]
          refine wpAnyH_take (i := 13) (v := ?vv10) rfl (by kernel_rfl) (by kernel_rfl) (by kernel_rfl) (fun _ _ _ h => h) (Or.inl ⟨by rfl, ?hy10⟩) (by assumption) ?_
          case hy10 => (intro w hSw; (try dsimp only at hSw); go_simp; try with_reducible rfl)
          try simp only [Act.put, List.setIfInBounds_toArray, List.set_cons_zero, List.set_cons_succ]
          refine wpAnyH_take (i := 15) (v := ?vv11) rfl (by kernel_rfl) (by kernel_rfl) (by kernel_rfl) (fun _ _ _ h => h) (Or.inl ⟨by rfl, ?hy11⟩) (by assumption) ?_
          case hy11 => (intro w hSw; (try dsimp only at hSw); go_simp; try with_reducible rfl)
          try simp only [Act.put, List.setIfInBounds_toArray, List.set_cons_zero, List.set_cons_succ]
          refine wpAnyH_ready (rs := [11, 14]) (by kernel_rfl) (by simp) ?_
          refine AllReadyH.cons rfl (fun K hK => ?_) (AllReadyH.cons rfl (fun K hK => ?_) AllReadyH.nil)
          · go_simp
            (first | (go_at_call 22; (with_reducible refine (HRND.out.oA _ ?hh).mono ?_); (case hh => repeat' (first | assumption | exact Gr.rf _ | refine gr_alloc_of ?_ | refine gr_drew_of ?_)); rintro ev wz ⟨rfl, rfl⟩) | (go_at_call 22; (with_reducible refine (HRND.out.oJ _ ?hh).mono ?_); (case hh => repeat' (first | assumption | exact Gr.rf _ | refine gr_alloc_of ?_ | refine gr_drew_of ?_)); rintro ev wz ⟨rfl, rfl⟩) | (go_at_call 22; (with_reducible refine (HRND.out.oB _ ?hh).mono ?_); (case hh => repeat' (first | assumption | exact Gr.rf _ | refine gr_alloc_of ?_ | refine gr_drew_of ?_)); rintro ev wz ⟨rfl, rfl⟩) | (go_at_call 23; (with_reducible refine (HRND.out.ref1 _ _ ?hh ?hb).mono ?_); (case hb => exact heap_alloc_new _ _); (case hh => repeat' (first | assumption | exact Gr.rf _ | refine gr_alloc_of ?_ | refine gr_drew_of ?_)); rintro ev wz ⟨rfl, hgz⟩) | (go_at_call 23; (with_reducible refine (HRND.out.ref2 _ _ ?hh ?hb).mono ?_); (case hb => exact heap_alloc_new _ _); (case hh => repeat' (first | assumption | exact Gr.rf _ | refine gr_alloc_of ?_ | refine gr_drew_of ?_)); rintro ev wz ⟨rfl, hgz⟩) | (go_at_call 23; (with_reducible refine (HRND.out.ref0 _ ?hh).mono ?_); (case hh => repeat' (first | assumption | exact Gr.rf _ | refine gr_alloc_of ?_ | refine gr_drew_of ?_)); rintro ev wz ⟨rfl, hgz⟩) | (go_at_call 20; (with_reducible refine (HRND.out.join0 _ ?hh).mono ?_); (case hh => repeat' (first | assumption | exact Gr.rf _ | refine gr_alloc_of ?_ | refine gr_drew_of ?_)); rintro ev wz ⟨⟨pz, Sz, rfl, hcz, hez⟩, hgz⟩) | (go_at_call 22; (with_reducible refine (HRND.out.open0 _ _ _ (by assumption) (by assumption)).mono ?_); rintro ev wz ⟨rfl, rfl⟩))
            try (go_wp2_with fail)
            clear hHeld
            refine hK.out _ _ ?hS (fun hHeld => ?_)
            case hS => ((try dsimp only); (first | (refine HK.out _ ?_; repeat' (first | assumption | exact Gr.rf _ | refine gr_alloc_of ?_ | refine gr_drew_of ?_))))
            clear hK K
            try simp only [Act.put, List.setIfInBounds_toArray, List.set_cons_zero, List.set_cons_succ]
            refine wpAnyH_ready (rs := [14]) (by kernel_rfl) (by simp) ?_
            refine AllReadyH.cons rfl (fun K hK => ?_) AllReadyH.nil
            go_simp
            clear hHeld
            refine hK.out _ _ ?hS (fun hHeld => ?_)
            case hS => ((try dsimp only); (first | (refine HK.out _ ?_; repeat' (first | assumption | exact Gr.rf _ | refine gr_alloc_of ?_ | refine gr_drew_of ?_))))
            clear hK K
            try simp only [Act.put, List.setIfInBounds_toArray, List.set_cons_zero, List.set_cons_succ]
            refine wpAnyH_ready (rs := [16]) (by kernel_rfl) (by simp) ?_
            refine AllReadyH.cons rfl (fun K hK => ?_) AllReadyH.nil
            go_simp
            (first | (go_at_call 22; (with_reducible refine (HRND.out.oA _ ?hh).mono ?_); (case hh => repeat' (first | assumption | exact Gr.rf _ | refine gr_alloc_of ?_ | refine gr_drew_of ?_)); rintro ev wz ⟨rfl, rfl⟩) | (go_at_call 22; (with_reducible refine (HRND.out.oJ _ ?hh).mono ?_); (case hh => repeat' (first | assumption | exact Gr.rf _ | refine gr_alloc_of ?_ | refine gr_drew_of ?_)); rintro ev wz ⟨rfl, rfl⟩) | (go_at_call 22; (with_reducible refine (HRND.out.oB _ ?hh).mono ?_); (case hh => repeat' (first | assumption | exact Gr.rf _ | refine gr_alloc_of ?_ | refine gr_drew_of ?_)); rintro ev wz ⟨rfl, rfl⟩) | (go_at_call 23; (with_reducible refine (HRND.out.ref1 _ _ ?hh ?hb).mono ?_); (case hb => exact heap_alloc_new _ _); (case hh => repeat' (first | assumption | exact Gr.rf _ | refine gr_alloc_of ?_ | refine gr_drew_of ?_)); rintro ev wz ⟨rfl, hgz⟩) | (go_at_call 23; (with_reducible refine (HRND.out.ref2 _ _ ?hh ?hb).mono ?_); (case hb => exact heap_alloc_new _ _); (case hh => repeat' (first | assumption | exact Gr.rf _ | refine gr_alloc_of ?_ | refine gr_drew_of ?_)); rintro ev wz ⟨rfl, hgz⟩) | (go_at_call 23; (with_reducible refine (HRND.out.ref0 _ ?hh).mono ?_); (case hh => repeat' (first | assumption | exact Gr.rf _ | refine gr_alloc_of ?_ | refine gr_drew_of ?_)); rintro ev wz ⟨rfl, hgz⟩) | (go_at_call 20; (with_reducible refine (HRND.out.join0 _ ?hh).mono ?_); (case hh => repeat' (first | assumption | exact Gr.rf _ | refine gr_alloc_of ?_ | refine gr_drew_of ?_)); rintro ev wz ⟨⟨pz, Sz, rfl, hcz, hez⟩, hgz⟩) | (go_at_call 22; (with_reducible refine (HRND.out.open0 _ _ _ (by assumption) (by assumption)).mono ?_); rintro ev wz ⟨rfl, rfl⟩))
            try (go_wp2_with fail)
            clear hHeld
            refine hK.out _ _ ?hS (fun hHeld => ?_)
            case hS => ((try dsimp only); (first | (refine HK.out _ ?_; repeat' (first | assumption | exact Gr.rf _ | refine gr_alloc_of ?_ | refine gr_drew_of ?_))))
            clear hK K
            try simp only [Act.put, List.setIfInBounds_toArray, List.set_cons_zero, List.set_cons_succ]
            refine wpAnyH_take (i := 17) (v := ?vv12) rfl (by kernel_rfl) (by kernel_rfl) (by kernel_rfl) (fun _ _ _ h => h) (Or.inl ⟨by rfl, ?hy12⟩) (by assumption) ?_
            case hy12 => (intro w hSw; (try dsimp only at hSw); go_simp; try with_reducible rfl)
            try simp only [Act.put, List.setIfInBounds_toArray, List.set_cons_zero, List.set_cons_succ]
            refine wpAnyH_take (i := 18) (v := ?vv13) rfl (by kernel_rfl) (by kernel_rfl) (by kernel_rfl) (fun _ _ _ h => h) (Or.inl ⟨by rfl, ?hy13⟩) (by assumption) ?_
            case hy13 => (intro w hSw; (try dsimp only at hSw); go_simp; try with_reducible rfl)
            try simp only [Act.put, List.setIfInBounds_toArray, List.set_cons_zero, List.set_cons_succ]
            refine wpAnyH_take (i := 19) (v := ?vv14) rfl (by kernel_rfl) (by kernel_rfl) (by kernel_rfl) (fun _ _ _ h => h) (Or.inl ⟨by rfl, ?hy14⟩) (by assumption) ?_
            case hy14 => (intro w hSw; (try dsimp only at hSw); go_simp; try with_reducible rfl)
            try simp only [Act.put, List.setIfInBounds_toArray, List.set_cons_zero, List.set_cons_succ]
            refine wpAnyH_take (i := 21) (v := ?vv15) rfl (by kernel_rfl) (by kernel_rfl) (by kernel_rfl) (fun _ _ _ h => h) (Or.inl ⟨by rfl, ?hy15⟩) (by assumption) ?_
            case hy15 => (intro w hSw; (try dsimp only at hSw); go_simp; try with_reducible rfl)
            try simp only [Act.put, List.setIfInBounds_toArray, List.set_cons_zero, List.set_cons_succ]
            refine wpAnyH_take (i := 23) (v := ?vv16) rfl (by kernel_rfl) (by kernel_rfl) (by kernel_rfl) (fun _ _ _ h => h) (Or.inl ⟨by rfl, ?hy16⟩) (by assumption) ?_
            case hy16 => (intro w hSw; (try dsimp only at hSw); go_simp; try with_reducible rfl)
            try simp only [Act.put, List.setIfInBounds_toArray, List.set_cons_zero, List.set_cons_succ]
            refine wpAnyH_ready (rs := [20]) (by kernel_rfl) (by simp) ?_
            refine AllReadyH.cons rfl (fun K hK => ?_) AllReadyH.nil
            go_simp
            (first | (go_at_call 22; (with_reducible refine (HRND.out.oA _ ?hh).mono ?_); (case hh => repeat' (first | assumption | exact Gr.rf _ | refine gr_alloc_of ?_ | refine gr_drew_of ?_)); rintro ev wz ⟨rfl, rfl⟩) | (go_at_call 22; (with_reducible refine (HRND.out.oJ _ ?hh).mono ?_); (case hh => repeat' (first | assumption | exact Gr.rf _ | refine gr_alloc_of ?_ | refine gr_drew_of ?_)); rintro ev wz ⟨rfl, rfl⟩) | (go_at_call 22; (with_reducible refine (HRND.out.oB _ ?hh).mono ?_); (case hh => repeat' (first | assumption | exact Gr.rf _ | refine gr_alloc_of ?_ | refine gr_drew_of ?_)); rintro ev wz ⟨rfl, rfl⟩) | (go_at_call 23; (with_reducible refine (HRND.out.ref1 _ _ ?hh ?hb).mono ?_); (case hb => exact heap_alloc_new _ _); (case hh => repeat' (first | assumption | exact Gr.rf _ | refine gr_alloc_of ?_ | refine gr_drew_of ?_)); rintro ev wz ⟨rfl, hgz⟩) | (go_at_call 23; (with_reducible refine (HRND.out.ref2 _ _ ?hh ?hb).mono ?_); (case hb => exact heap_alloc_new _ _); (case hh => repeat' (first | assumption | exact Gr.rf _ | refine gr_alloc_of ?_ | refine gr_drew_of ?_)); rintro ev wz ⟨rfl, hgz⟩) | (go_at_call 23; (with_reducible refine (HRND.out.ref0 _ ?hh).mono ?_); (case hh => repeat' (first | assumption | exact Gr.rf _ | refine gr_alloc_of ?_ | refine gr_drew_of ?_)); rintro ev wz ⟨rfl, hgz⟩) | (go_at_call 20; (with_reducible refine (HRND.out.join0 _ ?hh).mono ?_); (case hh => repeat' (first | assumption | exact Gr.rf _ | refine gr_alloc_of ?_ | refine gr_drew_of ?_)); rintro ev wz ⟨⟨pz, Sz, rfl, hcz, hez⟩, hgz⟩) | (go_at_call 22; (with_reducible refine (HRND.out.open0 _ _ _ (by assumption) (by assumption)).mono ?_); rintro ev wz ⟨rfl, rfl⟩))
            try (go_wp2_with fail)
            clear hHeld
            refine hK.out _ _ ?hS (fun hHeld => ?_)
            case hS => ((try dsimp only); (first | (refine HK.out _ ?_; repeat' (first | assumption | exact Gr.rf _ | refine gr_alloc_of ?_ | refine gr_drew_of ?_))))
            clear hK K
            try simp only [Act.put, List.setIfInBounds_toArray, List.set_cons_zero, List.set_cons_succ]
            refine wpAnyH_ready (rs := [22]) (by kernel_rfl) (by simp) ?_
            refine AllReadyH.cons rfl (fun K hK => ?_) AllReadyH.nil
            go_simp
            (first | (go_at_call 22; (with_reducible refine (HRND.out.oA _ ?hh).mono ?_); (case hh => repeat' (first | assumption | exact Gr.rf _ | refine gr_alloc_of ?_ | refine gr_drew_of ?_)); rintro ev wz ⟨rfl, rfl⟩) | (go_at_call 22; (with_reducible refine (HRND.out.oJ _ ?hh).mono ?_); (case hh => repeat' (first | assumption | exact Gr.rf _ | refine gr_alloc_of ?_ | refine gr_drew_of ?_)); rintro ev wz ⟨rfl, rfl⟩) | (go_at_call 22; (with_reducible refine (HRND.out.oB _ ?hh).mono ?_); (case hh => repeat' (first | assumption | exact Gr.rf _ | refine gr_alloc_of ?_ | refine gr_drew_of ?_)); rintro ev wz ⟨rfl, rfl⟩) | (go_at_call 23; (with_reducible refine (HRND.out.ref1 _ _ ?hh ?hb).mono ?_); (case hb => exact heap_alloc_new _ _); (case hh => repeat' (first | assumption | exact Gr.rf _ | refine gr_alloc_of ?_ | refine gr_drew_of ?_)); rintro ev wz ⟨rfl, hgz⟩) | (go_at_call 23; (with_reducible refine (HRND.out.ref2 _ _ ?hh ?hb).mono ?_); (case hb => exact heap_alloc_new _ _); (case hh => repeat' (first | assumption | exact Gr.rf _ | refine gr_alloc_of ?_ | refine gr_drew_of ?_)); rintro ev wz ⟨rfl, hgz⟩) | (go_at_call 23; (with_reducible refine (HRND.out.ref0 _ ?hh).mono ?_); (case hh => repeat' (first | assumption | exact Gr.rf _ | refine gr_alloc_of ?_ | refine gr_drew_of ?_)); rintro ev wz ⟨rfl, hgz⟩) | (go_at_call 20; (with_reducible refine (HRND.out.join0 _ ?hh).mono ?_); (case hh => repeat' (first | assumption | exact Gr.rf _ | refine gr_alloc_of ?_ | refine gr_drew_of ?_)); rintro ev wz ⟨⟨pz, Sz, rfl, hcz, hez⟩, hgz⟩) | (go_at_call 22; (with_reducible refine (HRND.out.open0 _ _ _ (by assumption) (by assumption)).mono ?_); rintro ev wz ⟨rfl, rfl⟩))
            try (go_wp2_with fail)
            clear hHeld
            refine hK.out _ _ ?hS (fun hHeld => ?_)
            case hS => ((try dsimp only); (first | (refine HK.out _ ?_; repeat' (first | assumption | exact Gr.rf _ | refine gr_alloc_of ?_ | refine gr_drew_of ?_))))
            clear hK K
            try simp only [Act.put, List.setIfInBounds_toArray, List.set_cons_zero, List.set_cons_succ]
            refine wpAnyH_ready (rs := [24]) (by kernel_rfl) (by simp) ?_
            refine AllReadyH.cons rfl (fun K hK => ?_) AllReadyH.nil
            go_simp
            (first | (go_at_call 22; (with_reducible refine (HRND.out.oA _ ?hh).mono ?_); (case hh => repeat' (first | assumption | exact Gr.rf _ | refine gr_alloc_of ?_ | refine gr_drew_of ?_)); rintro ev wz ⟨rfl, rfl⟩) | (go_at_call 22; (with_reducible refine (HRND.out.oJ _ ?hh).mono ?_); (case hh => repeat' (first | assumption | exact Gr.rf _ | refine gr_alloc_of ?_ | refine gr_drew_of ?_)); rintro ev wz ⟨rfl, rfl⟩) | (go_at_call 22; (with_reducible refine (HRND.out.oB _ ?hh).mono ?_); (case hh => repeat' (first | assumption | exact Gr.rf _ | refine gr_alloc_of ?_ | refine gr_drew_of ?_)); rintro ev wz ⟨rfl, rfl⟩) | (go_at_call 23; (with_reducible refine (HRND.out.ref1 _ _ ?hh ?hb).mono ?_); (case hb => exact heap_alloc_new _ _); (case hh => repeat' (first | assumption | exact Gr.rf _ | refine gr_alloc_of ?_ | refine gr_drew_of ?_)); rintro ev wz ⟨rfl, hgz⟩) | (go_at_call 23; (with_reducible refine (HRND.out.ref2 _ _ ?hh ?hb).mono ?_); (case hb => exact heap_alloc_new _ _); (case hh => repeat' (first | assumption | exact Gr.rf _ | refine gr_alloc_of ?_ | refine gr_drew_of ?_)); rintro ev wz ⟨rfl, hgz⟩) | (go_at_call 23; (with_reducible refine (HRND.out.ref0 _ ?hh).mono ?_); (case hh => repeat' (first | assumption | exact Gr.rf _ | refine gr_alloc_of ?_ | refine gr_drew_of ?_)); rintro ev wz ⟨rfl, hgz⟩) | (go_at_call 20; (with_reducible refine (HRND.out.join0 _ ?hh).mono ?_); (case hh => repeat' (first | assumption | exact Gr.rf _ | refine gr_alloc_of ?_ | refine gr_drew_of ?_)); rintro ev wz ⟨⟨pz, Sz, rfl, hcz, hez⟩, hgz⟩) | (go_at_call 22; (with_reducible refine (HRND.out.open0 _ _ _ (by assumption) (by assumption)).mono ?_); rintro ev wz ⟨rfl, rfl⟩))
            try (go_wp2_with fail)
            clear hHeld
            refine hK.out _ _ ?hS (fun hHeld => ?_)
            case hS => ((try dsimp only); (first | (refine HK.out _ ?_; repeat' (first | assumption | exact Gr.rf _ | refine gr_alloc_of ?_ | refine gr_drew_of ?_))))
            clear hK K
            try simp only [Act.put, List.setIfInBounds_toArray, List.set_cons_zero, List.set_cons_succ]
            refine wpAnyH_take (i := 25) (v := ?vv17) rfl (by kernel_rfl) (by kernel_rfl) (by kernel_rfl) (fun _ _ _ h => h) (Or.inl ⟨by rfl, ?hy17⟩) (by assumption) ?_
            case hy17 => (intro w hSw; (try dsimp only at hSw); go_simp; try with_reducible rfl)
            try simp only [Act.put, List.setIfInBounds_toArray, List.set_cons_zero, List.set_cons_succ]
            refine wpAnyH_take (i := 26) (v := ?vv18) rfl (by kernel_rfl) (by kernel_rfl) (by kernel_rfl) (fun _ _ _ h => h) (Or.inl ⟨by rfl, ?hy18⟩) (by assumption) ?_
            case hy18 => (intro w hSw; (try dsimp only at hSw); go_simp; try with_reducible rfl)
            try simp only [Act.put, List.setIfInBounds_toArray, List.set_cons_zero, List.set_cons_succ]
            refine wpAnyH_take (i := 27) (v := ?vv19) rfl (by kernel_rfl) (by kernel_rfl) (by kernel_rfl) (fun _ _ _ h => h) (Or.inl ⟨by rfl, ?hy19⟩) (by assumption) ?_
            case hy19 => (intro w hSw; (try dsimp only at hSw); go_simp; try with_reducible rfl)
            try simp only [Act.put, List.setIfInBounds_toArray, List.set_cons_zero, List.set_cons_succ]
            refine wpAnyH_take (i := 28) (v := ?vv20) rfl (by kernel_rfl) (by kernel_rfl) (by kernel_rfl) (fun _ _ _ h => h) (Or.inl ⟨by rfl, ?hy20⟩) (by assumption) ?_
            case hy20 => (intro w hSw; (try dsimp only at hSw); go_simp; try with_reducible rfl)
            try simp only [Act.put, List.setIfInBounds_toArray, List.set_cons_zero, List.set_cons_succ]
            refine wpAnyH_take (i := 29) (v := ?vv21) rfl (by kernel_rfl) (by kernel_rfl) (by kernel_rfl) (fun _ _ _ h => h) (Or.inl ⟨by rfl, ?hy21⟩) (by assumption) ?_
            case hy21 => (intro w hSw; (try dsimp only at hSw); go_simp; try with_reducible rfl)
            try simp only [Act.put, List.setIfInBounds_toArray, List.set_cons_zero, List.set_cons_succ]
            refine wpAnyH_take (i := 31) (v := ?vv22) rfl (by kernel_rfl) (by kernel_rfl) (by kernel_rfl) (fun _ _ _ h => h) (Or.inl ⟨by rfl, ?hy22⟩) (by assumption) ?_
            case hy22 => (intro w hSw; (try dsimp only at hSw); go_simp; try with_reducible rfl)
            try simp only [Act.put, List.setIfInBounds_toArray, List.set_cons_zero, List.set_cons_succ]
            refine wpAnyH_take (i := 32) (v := ?vv23) rfl (by kernel_rfl) (by kernel_rfl) (by kernel_rfl) (fun _ _ _ h => h) (Or.inl ⟨by rfl, ?hy23⟩) (by assumption) ?_
            case hy23 => (intro w hSw; (try dsimp only at hSw); go_simp; try with_reducible rfl)
            try simp only [Act.put, List.setIfInBounds_toArray, List.set_cons_zero, List.set_cons_succ]
            refine wpAnyH_ready (rs := [30]) (by kernel_rfl) (by simp) ?_
            refine AllReadyH.cons rfl (fun K hK => ?_) AllReadyH.nil
            go_simp
            (first | (go_at_call 22; (with_reducible refine (HRND.out.oA _ ?hh).mono ?_); (case hh => repeat' (first | assumption | exact Gr.rf _ | refine gr_alloc_of ?_ | refine gr_drew_of ?_)); rintro ev wz ⟨rfl, rfl⟩) | (go_at_call 22; (with_reducible refine (HRND.out.oJ _ ?hh).mono ?_); (case hh => repeat' (first | assumption | exact Gr.rf _ | refine gr_alloc_of ?_ | refine gr_drew_of ?_)); rintro ev wz ⟨rfl, rfl⟩) | (go_at_call 22; (with_reducible refine (HRND.out.oB _ ?hh).mono ?_); (case hh => repeat' (first | assumption | exact Gr.rf _ | refine gr_alloc_of ?_ | refine gr_drew_of ?_)); rintro ev wz ⟨rfl, rfl⟩) | (go_at_call 23; (with_reducible refine (HRND.out.ref1 _ _ ?hh ?hb).mono ?_); (case hb => exact heap_alloc_new _ _); (case hh => repeat' (first | assumption | exact Gr.rf _ | refine gr_alloc_of ?_ | refine gr_drew_of ?_)); rintro ev wz ⟨rfl, hgz⟩) | (go_at_call 23; (with_reducible refine (HRND.out.ref2 _ _ ?hh ?hb).mono ?_); (case hb => exact heap_alloc_new _ _); (case hh => repeat' (first | assumption | exact Gr.rf _ | refine gr_alloc_of ?_ | refine gr_drew_of ?_)); rintro ev wz ⟨rfl, hgz⟩) | (go_at_call 23; (with_reducible refine (HRND.out.ref0 _ ?hh).mono ?_); (case hh => repeat' (first | assumption | exact Gr.rf _ | refine gr_alloc_of ?_ | refine gr_drew_of ?_)); rintro ev wz ⟨rfl, hgz⟩) | (go_at_call 20; (with_reducible refine (HRND.out.join0 _ ?hh).mono ?_); (case hh => repeat' (first | assumption | exact Gr.rf _ | refine gr_alloc_of ?_ | refine gr_drew_of ?_)); rintro ev wz ⟨⟨pz, Sz, rfl, hcz, hez⟩, hgz⟩) | (go_at_call 22; (with_reducible refine (HRND.out.open0 _ _ _ (by assumption) (by assumption)).mono ?_); rintro ev wz ⟨rfl, rfl⟩))
            try (go_wp2_with fail)
            clear hHeld
            refine hK.out _ _ ?hS (fun hHeld => ?_)
            case hS => ((try dsimp only); (first | (refine HK.out _ ?_; repeat' (first | assumption | exact Gr.rf _ | refine gr_alloc_of ?_ | refine gr_drew_of ?_))))
            clear hK K
            try simp only [Act.put, List.setIfInBounds_toArray, List.set_cons_zero, List.set_cons_succ]
            refine wpAnyH_ready (rs := [33]) (by kernel_rfl) (by simp) ?_
            refine AllReadyH.cons rfl (fun K hK => ?_) AllReadyH.nil
            go_simp
            (first | (go_at_call 22; (with_reducible refine (HRND.out.oA _ ?hh).mono ?_); (case hh => repeat' (first | assumption | exact Gr.rf _ | refine gr_alloc_of ?_ | refine gr_drew_of ?_)); rintro ev wz ⟨rfl, rfl⟩) | (go_at_call 22; (with_reducible refine (HRND.out.oJ _ ?hh).mono ?_); (case hh => repeat' (first | assumption | exact Gr.rf _ | refine gr_alloc_of ?_ | refine gr_drew_of ?_)); rintro ev wz ⟨rfl, rfl⟩) | (go_at_call 22; (with_reducible refine (HRND.out.oB _ ?hh).mono ?_); (case hh => repeat' (first | assumption | exact Gr.rf _ | refine gr_alloc_of ?_ | refine gr_drew_of ?_)); rintro ev wz ⟨rfl, rfl⟩) | (go_at_call 23; (with_reducible refine (HRND.out.ref1 _ _ ?hh ?hb).mono ?_); (case hb => exact heap_alloc_new _ _); (case hh => repeat' (first | assumption | exact Gr.rf _ | refine gr_alloc_of ?_ | refine gr_drew_of ?_)); rintro ev wz ⟨rfl, hgz⟩) | (go_at_call 23; (with_reducible refine (HRND.out.ref2 _ _ ?hh ?hb).mono ?_); (case hb => exact heap_alloc_new _ _); (case hh => repeat' (first | assumption | exact Gr.rf _ | refine gr_alloc_of ?_ | refine gr_drew_of ?_)); rintro ev wz ⟨rfl, hgz⟩) | (go_at_call 23; (with_reducible refine (HRND.out.ref0 _ ?hh).mono ?_); (case hh => repeat' (first | assumption | exact Gr.rf _ | refine gr_alloc_of ?_ | refine gr_drew_of ?_)); rintro ev wz ⟨rfl, hgz⟩) | (go_at_call 20; (with_reducible refine (HRND.out.join0 _ ?hh).mono ?_); (case hh => repeat' (first | assumption | exact Gr.rf _ | refine gr_alloc_of ?_ | refine gr_drew_of ?_)); rintro ev wz ⟨⟨pz, Sz, rfl, hcz, hez⟩, hgz⟩) | (go_at_call 22; (with_reducible refine (HRND.out.open0 _ _ _ (by assumption) (by assumption)).mono ?_); rintro ev wz ⟨rfl, rfl⟩))
            try (go_wp2_with fail)
            clear hHeld
            refine hK.out _ _ ?hS (fun hHeld => ?_)
            case hS => ((try dsimp only); (first | (refine HK.out _ ?_; repeat' (first | assumption | exact Gr.rf _ | refine gr_alloc_of ?_ | refine gr_drew_of ?_))))
            clear hK K
            try simp only [Act.put, List.setIfInBounds_toArray, List.set_cons_zero, List.set_cons_succ]
            refine wpAnyH_take (i := 34) (v := ?vv24) rfl (by kernel_rfl) (by kernel_rfl) (by kernel_rfl) (fun _ _ _ h => h) (Or.inl ⟨by rfl, ?hy24⟩) (by assumption) ?_
            case hy24 => (intro w hSw; (try dsimp only at hSw); go_simp; try with_reducible rfl)
            try simp only [Act.put, List.setIfInBounds_toArray, List.set_cons_zero, List.set_cons_succ]
            refine wpAnyH_take (i := 35) (v := undef) rfl (by kernel_rfl) (by kernel_rfl) (by kernel_rfl) (fun _ _ _ h => h) (Or.inr ⟨by rfl, rfl⟩) (by assumption) ?_
            try simp only [Act.put, List.setIfInBounds_toArray, List.set_cons_zero, List.set_cons_succ]
            refine wpAnyH_take (i := 36) (v := undef) rfl (by kernel_rfl) (by kernel_rfl) (by kernel_rfl) (fun _ _ _ h => h) (Or.inr ⟨by rfl, rfl⟩) (by assumption) ?_
            try simp only [Act.put, List.setIfInBounds_toArray, List.set_cons_zero, List.set_cons_succ]
            refine wpAnyH_take (i := 37) (v := undef) rfl (by kernel_rfl) (by kernel_rfl) (by kernel_rfl) (fun _ _ _ h => h) (Or.inr ⟨by rfl, rfl⟩) (by assumption) ?_
            try simp only [Act.put, List.setIfInBounds_toArray, List.set_cons_zero, List.set_cons_succ]
            refine wpAnyH_take (i := 38) (v := ?vv25) rfl (by kernel_rfl) (by kernel_rfl) (by kernel_rfl) (fun _ _ _ h => h) (Or.inl ⟨by rfl, ?hy25⟩) (by assumption) ?_
            case hy25 => (intro w hSw; (try dsimp only at hSw); go_simp; try with_reducible rfl)
            try simp only [Act.put, List.setIfInBounds_toArray, List.set_cons_zero, List.set_cons_succ]
            refine wpAnyH_take (i := 39) (v := ?vv26) rfl (by kernel_rfl) (by kernel_rfl) (by kernel_rfl) (fun _ _ _ h => h) (Or.inl ⟨by rfl, ?hy26⟩) (by assumption) ?_
            case hy26 => (intro w hSw; (try dsimp only at hSw); go_simp; try with_reducible rfl)
            try simp only [Act.put, List.setIfInBounds_toArray, List.set_cons_zero, List.set_cons_succ]
            refine wpAnyH_take (i := 40) (v := ?vv27) rfl (by kernel_rfl) (by kernel_rfl) (by kernel_rfl) (fun _ _ _ h => h) (Or.inl ⟨by rfl, ?hy27⟩) (by assumption) ?_
            case hy27 => (intro w hSw; (try dsimp only at hSw); go_simp; try with_reducible rfl)
            try simp only [Act.put, List.setIfInBounds_toArray, List.set_cons_zero, List.set_cons_succ]
            refine wpAnyH_done (by kernel_rfl) ?_ _
            refine NoPanic.normal ?_
            go_wp2
            go_roundg (gk - 1)
            case measure => have := HGX.out; omega
            case rel => exact ⟨x + 1, by have := HGX.out; omega, by omega, by omega, rfl, Lib.hid (by repeat' (first | assumption | exact Gr.rf _ | refine gr_alloc_of ?_ | refine gr_drew_of ?_))⟩
          · go_simp
            clear hHeld
            refine hK.out _ _ ?hS (fun hHeld => ?_)
            case hS => ((try dsimp only); (first | (refine HK.out _ ?_; repeat' (first | assumption | exact Gr.rf _ | refine gr_alloc_of ?_ | refine gr_drew_of ?_))))
            clear hK K
            try simp only [Act.put, List.setIfInBounds_toArray, List.set_cons_zero, List.set_cons_succ]
            refine wpAnyH_ready (rs := [11]) (by kernel_rfl) (by simp) ?_
            refine AllReadyH.cons rfl (fun K hK => ?_) AllReadyH.nil
            go_simp
            (first | (go_at_call 22; (with_reducible refine (HRND.out.oA _ ?hh).mono ?_); (case hh => repeat' (first | assumption | exact Gr.rf _ | refine gr_alloc_of ?_ | refine gr_drew_of ?_)); rintro ev wz ⟨rfl, rfl⟩) | (go_at_call 22; (with_reducible refine (HRND.out.oJ _ ?hh).mono ?_); (case hh => repeat' (first | assumption | exact Gr.rf _ | refine gr_alloc_of ?_ | refine gr_drew_of ?_)); rintro ev wz ⟨rfl, rfl⟩) | (go_at_call 22; (with_reducible refine (HRND.out.oB _ ?hh).mono ?_); (case hh => repeat' (first | assumption | exact Gr.rf _ | refine gr_alloc_of ?_ | refine gr_drew_of ?_)); rintro ev wz ⟨rfl, rfl⟩) | (go_at_call 23; (with_reducible refine (HRND.out.ref1 _ _ ?hh ?hb).mono ?_); (case hb => exact heap_alloc_new _ _); (case hh => repeat' (first | assumption | exact Gr.rf _ | refine gr_alloc_of ?_ | refine gr_drew_of ?_)); rintro ev wz ⟨rfl, hgz⟩) | (go_at_call 23; (with_reducible refine (HRND.out.ref2 _ _ ?hh ?hb).mono ?_); (case hb => exact heap_alloc_new _ _); (case hh => repeat' (first | assumption | exact Gr.rf _ | refine gr_alloc_of ?_ | refine gr_drew_of ?_)); rintro ev wz ⟨rfl, hgz⟩) | (go_at_call 23; (with_reducible refine (HRND.out.ref0 _ ?hh).mono ?_); (case hh => repeat' (first | assumption | exact Gr.rf _ | refine gr_alloc_of ?_ | refine gr_drew_of ?_)); rintro ev wz ⟨rfl, hgz⟩) | (go_at_call 20; (with_reducible refine (HRND.out.join0 _ ?hh).mono ?_); (case hh => repeat' (first | assumption | exact Gr.rf _ | refine gr_alloc_of ?_ | refine gr_drew_of ?_)); rintro ev wz ⟨⟨pz, Sz, rfl, hcz, hez⟩, hgz⟩) | (go_at_call 22; (with_reducible refine (HRND.out.open0 _ _ _ (by assumption) (by assumption)).mono ?_); rintro ev wz ⟨rfl, rfl⟩))
            try (go_wp2_with fail)
            clear hHeld
            refine hK.out _ _ ?hS (fun hHeld => ?_)
            case hS => ((try dsimp only); (first | (refine HK.out _ ?_; repeat' (first | assumption | exact Gr.rf _ | refine gr_alloc_of ?_ | refine gr_drew_of ?_))))
            clear hK K
            try simp only [Act.put, List.setIfInBounds_toArray, List.set_cons_zero, List.set_cons_succ]
            refine wpAnyH_ready (rs := [16]) (by kernel_rfl) (by simp) ?_
            refine AllReadyH.cons rfl (fun K hK => ?_) AllReadyH.nil
            go_simp
            (first | (go_at_call 22; (with_reducible refine (HRND.out.oA _ ?hh).mono ?_); (case hh => repeat' (first | assumption | exact Gr.rf _ | refine gr_alloc_of ?_ | refine gr_drew_of ?_)); rintro ev wz ⟨rfl, rfl⟩) | (go_at_call 22; (with_reducible refine (HRND.out.oJ _ ?hh).mono ?_); (case hh => repeat' (first | assumption | exact Gr.rf _ | refine gr_alloc_of ?_ | refine gr_drew_of ?_)); rintro ev wz ⟨rfl, rfl⟩) | (go_at_call 22; (with_reducible refine (HRND.out.oB _ ?hh).mono ?_); (case hh => repeat' (first | assumption | exact Gr.rf _ | refine gr_alloc_of ?_ | refine gr_drew_of ?_)); rintro ev wz ⟨rfl, rfl⟩) | (go_at_call 23; (with_reducible refine (HRND.out.ref1 _ _ ?hh ?hb).mono ?_); (case hb => exact heap_alloc_new _ _); (case hh => repeat' (first | assumption | exact Gr.rf _ | refine gr_alloc_of ?_ | refine gr_drew_of ?_)); rintro ev wz ⟨rfl, hgz⟩) | (go_at_call 23; (with_reducible refine (HRND.out.ref2 _ _ ?hh ?hb).mono ?_); (case hb => exact heap_alloc_new _ _); (case hh => repeat' (first | assumption | exact Gr.rf _ | refine gr_alloc_of ?_ | refine gr_drew_of ?_)); rintro ev wz ⟨rfl, hgz⟩) | (go_at_call 23; (with_reducible refine (HRND.out.ref0 _ ?hh).mono ?_); (case hh => repeat' (first | assumption | exact Gr.rf _ | refine gr_alloc_of ?_ | refine gr_drew_of ?_)); rintro ev wz ⟨rfl, hgz⟩) | (go_at_call 20; (with_reducible refine (HRND.out.join0 _ ?hh).mono ?_); (case hh => repeat' (first | assumption | exact Gr.rf _ | refine gr_alloc_of ?_ | refine gr_drew_of ?_)); rintro ev wz ⟨⟨pz, Sz, rfl, hcz, hez⟩, hgz⟩) | (go_at_call 22; (with_reducible refine (HRND.out.open0 _ _ _ (by assumption) (by assumption)).mono ?_); rintro ev wz ⟨rfl, rfl⟩))
            try (go_wp2_with fail)
            clear hHeld
            refine hK.out _ _ ?hS (fun hHeld => ?_)
            case hS => ((try dsimp only); (first | (refine HK.out _ ?_; repeat' (first | assumption | exact Gr.rf _ | refine gr_alloc_of ?_ | refine gr_drew_of ?_))))
            clear hK K
            try simp only [Act.put, List.setIfInBounds_toArray, List.set_cons_zero, List.set_cons_succ]
            refine wpAnyH_take (i := 17) (v := ?vv28) rfl (by kernel_rfl) (by kernel_rfl) (by kernel_rfl) (fun _ _ _ h => h) (Or.inl ⟨by rfl, ?hy28⟩) (by assumption) ?_
            case hy28 => (intro w hSw; (try dsimp only at hSw); go_simp; try with_reducible rfl)
            try simp only [Act.put, List.setIfInBounds_toArray, List.set_cons_zero, List.set_cons_succ]
            refine wpAnyH_take (i := 18) (v := ?vv29) rfl (by kernel_rfl) (by kernel_rfl) (by kernel_rfl) (fun _ _ _ h => h) (Or.inl ⟨by rfl, ?hy29⟩) (by assumption) ?_
            case hy29 => (intro w hSw; (try dsimp only at hSw); go_simp; try with_reducible rfl)
            try simp only [Act.put, List.setIfInBounds_toArray, List.set_cons_zero, List.set_cons_succ]
            refine wpAnyH_take (i := 19) (v := ?vv30) rfl (by kernel_rfl) (by kernel_rfl) (by kernel_rfl) (fun _ _ _ h => h) (Or.inl ⟨by rfl, ?hy30⟩) (by assumption) ?_
            case hy30 => (intro w hSw; (try dsimp only at hSw); go_simp; try with_reducible rfl)
            try simp only [Act.put, List.setIfInBounds_toArray, List.set_cons_zero, List.set_cons_succ]
            refine wpAnyH_take (i := 21) (v := ?vv31) rfl (by kernel_rfl) (by kernel_rfl) (by kernel_rfl) (fun _ _ _ h => h) (Or.inl ⟨by rfl, ?hy31⟩) (by assumption) ?_
            case hy31 => (intro w hSw; (try dsimp only at hSw); go_simp; try with_reducible rfl)
            try simp only [Act.put, List.setIfInBounds_toArray, List.set_cons_zero, List.set_cons_succ]
            refine wpAnyH_take (i := 23) (v := ?vv32) rfl (by kernel_rfl) (by kernel_rfl) (by kernel_rfl) (fun _ _ _ h => h) (Or.inl ⟨by rfl, ?hy32⟩) (by assumption) ?_
            case hy32 => (intro w hSw; (try dsimp only at hSw); go_simp; try with_reducible rfl)
            try simp only [Act.put, List.setIfInBounds_toArray, List.set_cons_zero, List.set_cons_succ]
            refine wpAnyH_ready (rs := [20]) (by kernel_rfl) (by simp) ?_
            refine AllReadyH.cons rfl (fun K hK => ?_) AllReadyH.nil
            go_simp
            (first | (go_at_call 22; (with_reducible refine (HRND.out.oA _ ?hh).mono ?_); (case hh => repeat' (first | assumption | exact Gr.rf _ | refine gr_alloc_of ?_ | refine gr_drew_of ?_)); rintro ev wz ⟨rfl, rfl⟩) | (go_at_call 22; (with_reducible refine (HRND.out.oJ _ ?hh).mono ?_); (case hh => repeat' (first | assumption | exact Gr.rf _ | refine gr_alloc_of ?_ | refine gr_drew_of ?_)); rintro ev wz ⟨rfl, rfl⟩) | (go_at_call 22; (with_reducible refine (HRND.out.oB _ ?hh).mono ?_); (case hh => repeat' (first | assumption | exact Gr.rf _ | refine gr_alloc_of ?_ | refine gr_drew_of ?_)); rintro ev wz ⟨rfl, rfl⟩) | (go_at_call 23; (with_reducible refine (HRND.out.ref1 _ _ ?hh ?hb).mono ?_); (case hb => exact heap_alloc_new _ _); (case hh => repeat' (first | assumption | exact Gr.rf _ | refine gr_alloc_of ?_ | refine gr_drew_of ?_)); rintro ev wz ⟨rfl, hgz⟩) | (go_at_call 23; (with_reducible refine (HRND.out.ref2 _ _ ?hh ?hb).mono ?_); (case hb => exact heap_alloc_new _ _); (case hh => repeat' (first | assumption | exact Gr.rf _ | refine gr_alloc_of ?_ | refine gr_drew_of ?_)); rintro ev wz ⟨rfl, hgz⟩) | (go_at_call 23; (with_reducible refine (HRND.out.ref0 _ ?hh).mono ?_); (case hh => repeat' (first | assumption | exact Gr.rf _ | refine gr_alloc_of ?_ | refine gr_drew_of ?_)); rintro ev wz ⟨rfl, hgz⟩) | (go_at_call 20; (with_reducible refine (HRND.out.join0 _ ?hh).mono ?_); (case hh => repeat' (first | assumption | exact Gr.rf _ | refine gr_alloc_of ?_ | refine gr_drew_of ?_)); rintro ev wz ⟨⟨pz, Sz, rfl, hcz, hez⟩, hgz⟩) | (go_at_call 22; (with_reducible refine (HRND.out.open0 _ _ _ (by assumption) (by assumption)).mono ?_); rintro ev wz ⟨rfl, rfl⟩))
            try (go_wp2_with fail)
            clear hHeld
            refine hK.out _ _ ?hS (fun hHeld => ?_)
            case hS => ((try dsimp only); (first | (refine HK.out _ ?_; repeat' (first | assumption | exact Gr.rf _ | refine gr_alloc_of ?_ | refine gr_drew_of ?_))))
            clear hK K
            try simp only [Act.put, List.setIfInBounds_toArray, List.set_cons_zero, List.set_cons_succ]
            refine wpAnyH_ready (rs := [22]) (by kernel_rfl) (by simp) ?_
            refine AllReadyH.cons rfl (fun K hK => ?_) AllReadyH.nil
            go_simp
            (first | (go_at_call 22; (with_reducible refine (HRND.out.oA _ ?hh).mono ?_); (case hh => repeat' (first | assumption | exact Gr.rf _ | refine gr_alloc_of ?_ | refine gr_drew_of ?_)); rintro ev wz ⟨rfl, rfl⟩) | (go_at_call 22; (with_reducible refine (HRND.out.oJ _ ?hh).mono ?_); (case hh => repeat' (first | assumption | exact Gr.rf _ | refine gr_alloc_of ?_ | refine gr_drew_of ?_)); rintro ev wz ⟨rfl, rfl⟩) | (go_at_call 22; (with_reducible refine (HRND.out.oB _ ?hh).mono ?_); (case hh => repeat' (first | assumption | exact Gr.rf _ | refine gr_alloc_of ?_ | refine gr_drew_of ?_)); rintro ev wz ⟨rfl, rfl⟩) | (go_at_call 23; (with_reducible refine (HRND.out.ref1 _ _ ?hh ?hb).mono ?_); (case hb => exact heap_alloc_new _ _); (case hh => repeat' (first | assumption | exact Gr.rf _ | refine gr_alloc_of ?_ | refine gr_drew_of ?_)); rintro ev wz ⟨rfl, hgz⟩) | (go_at_call 23; (with_reducible refine (HRND.out.ref2 _ _ ?hh ?hb).mono ?_); (case hb => exact heap_alloc_new _ _); (case hh => repeat' (first | assumption | exact Gr.rf _ | refine gr_alloc_of ?_ | refine gr_drew_of ?_)); rintro ev wz ⟨rfl, hgz⟩) | (go_at_call 23; (with_reducible refine (HRND.out.ref0 _ ?hh).mono ?_); (case hh => repeat' (first | assumption | exact Gr.rf _ | refine gr_alloc_of ?_ | refine gr_drew_of ?_)); rintro ev wz ⟨rfl, hgz⟩) | (go_at_call 20; (with_reducible refine (HRND.out.join0 _ ?hh).mono ?_); (case hh => repeat' (first | assumption | exact Gr.rf _ | refine gr_alloc_of ?_ | refine gr_drew_of ?_)); rintro ev wz ⟨⟨pz, Sz, rfl, hcz, hez⟩, hgz⟩) | (go_at_call 22; (with_reducible refine (HRND.out.open0 _ _ _ (by assumption) (by assumption)).mono ?_); rintro ev wz ⟨rfl, rfl⟩))
            try (go_wp2_with fail)
            clear hHeld
            refine hK.out _ _ ?hS (fun hHeld => ?_)
            case hS => ((try dsimp only); (first | (refine HK.out _ ?_; repeat' (first | assumption | exact Gr.rf _ | refine gr_alloc_of ?_ | refine gr_drew_of ?_))))
            clear hK K
            try simp only [Act.put, List.setIfInBounds_toArray, List.set_cons_zero, List.set_cons_succ]
            refine wpAnyH_ready (rs := [24]) (by kernel_rfl) (by simp) ?_
            refine AllReadyH.cons rfl (fun K hK => ?_) AllReadyH.nil
            go_simp
            (first | (go_at_call 22; (with_reducible refine (HRND.out.oA _ ?hh).mono ?_); (case hh => repeat' (first | assumption | exact Gr.rf _ | refine gr_alloc_of ?_ | refine gr_drew_of ?_)); rintro ev wz ⟨rfl, rfl⟩) | (go_at_call 22; (with_reducible refine (HRND.out.oJ _ ?hh).mono ?_); (case hh => repeat' (first | assumption | exact Gr.rf _ | refine gr_alloc_of ?_ | refine gr_drew_of ?_)); rintro ev wz ⟨rfl, rfl⟩) | (go_at_call 22; (with_reducible refine (HRND.out.oB _ ?hh).mono ?_); (case hh => repeat' (first | assumption | exact Gr.rf _ | refine gr_alloc_of ?_ | refine gr_drew_of ?_)); rintro ev wz ⟨rfl, rfl⟩) | (go_at_call 23; (with_reducible refine (HRND.out.ref1 _ _ ?hh ?hb).mono ?_); (case hb => exact heap_alloc_new _ _); (case hh => repeat' (first | assumption | exact Gr.rf _ | refine gr_alloc_of ?_ | refine gr_drew_of ?_)); rintro ev wz ⟨rfl, hgz⟩) | (go_at_call 23; (with_reducible refine (HRND.out.ref2 _ _ ?hh ?hb).mono ?_); (case hb => exact heap_alloc_new _ _); (case hh => repeat' (first | assumption | exact Gr.rf _ | refine gr_alloc_of ?_ | refine gr_drew_of ?_)); rintro ev wz ⟨rfl, hgz⟩) | (go_at_call 23; (with_reducible refine (HRND.out.ref0 _ ?hh).mono ?_); (case hh => repeat' (first | assumption | exact Gr.rf _ | refine gr_alloc_of ?_ | refine gr_drew_of ?_)); rintro ev wz ⟨rfl, hgz⟩) | (go_at_call 20; (with_reducible refine (HRND.out.join0 _ ?hh).mono ?_); (case hh => repeat' (first | assumption | exact Gr.rf _ | refine gr_alloc_of ?_ | refine gr_drew_of ?_)); rintro ev wz ⟨⟨pz, Sz, rfl, hcz, hez⟩, hgz⟩) | (go_at_call 22; (with_reducible refine (HRND.out.open0 _ _ _ (by assumption) (by assumption)).mono ?_); rintro ev wz ⟨rfl, rfl⟩))
            try (go_wp2_with fail)
            clear hHeld
            refine hK.out _ _ ?hS (fun hHeld => ?_)
            case hS => ((try dsimp only); (first | (refine HK.out _ ?_; repeat' (first | assumption | exact Gr.rf _ | refine gr_alloc_of ?_ | refine gr_drew_of ?_))))
            clear hK K
            try simp only [Act.put, List.setIfInBounds_toArray, List.set_cons_zero, List.set_cons_succ]
            refine wpAnyH_take (i := 25) (v := ?vv33) rfl (by kernel_rfl) (by kernel_rfl) (by kernel_rfl) (fun _ _ _ h => h) (Or.inl ⟨by rfl, ?hy33⟩) (by assumption) ?_
            case hy33 => (intro w hSw; (try dsimp only at hSw); go_simp; try with_reducible rfl)
            try simp only [Act.put, List.setIfInBounds_toArray, List.set_cons_zero, List.set_cons_succ]
            refine wpAnyH_take (i := 26) (v := ?vv34) rfl (by kernel_rfl) (by kernel_rfl) (by kernel_rfl) (fun _ _ _ h => h) (Or.inl ⟨by rfl, ?hy34⟩) (by assumption) ?_
            case hy34 => (intro w hSw; (try dsimp only at hSw); go_simp; try with_reducible rfl)
            try simp only [Act.put, List.setIfInBounds_toArray, List.set_cons_zero, List.set_cons_succ]
            refine wpAnyH_take (i := 27) (v := ?vv35) rfl (by kernel_rfl) (by kernel_rfl) (by kernel_rfl) (fun _ _ _ h => h) (Or.inl ⟨by rfl, ?hy35⟩) (by assumption) ?_
            case hy35 => (intro w hSw; (try dsimp only at hSw); go_simp; try with_reducible rfl)
            try simp only [Act.put, List.setIfInBounds_toArray, List.set_cons_zero, List.set_cons_succ]
            refine wpAnyH_take (i := 28) (v := ?vv36) rfl (by kernel_rfl) (by kernel_rfl) (by kernel_rfl) (fun _ _ _ h => h) (Or.inl ⟨by rfl, ?hy36⟩) (by assumption) ?_
            case hy36 => (intro w hSw; (try dsimp only at hSw); go_simp; try with_reducible rfl)
            try simp only [Act.put, List.setIfInBounds_toArray, List.set_cons_zero, List.set_cons_succ]
            refine wpAnyH_take (i := 29) (v := ?vv37) rfl (by kernel_rfl) (by kernel_rfl) (by kernel_rfl) (fun _ _ _ h => h) (Or.inl ⟨by rfl, ?hy37⟩) (by assumption) ?_
            case hy37 => (intro w hSw; (try dsimp only at hSw); go_simp; try with_reducible rfl)
            try simp only [Act.put, List.setIfInBounds_toArray, List.set_cons_zero, List.set_cons_succ]
            refine wpAnyH_take (i := 31) (v := ?vv38) rfl (by kernel_rfl) (by kernel_rfl) (by kernel_rfl) (fun _ _ _ h => h) (Or.inl ⟨by rfl, ?hy38⟩) (by assumption) ?_
            case hy38 => (intro w hSw; (try dsimp only at hSw); go_simp; try with_reducible rfl)
            try simp only [Act.put, List.setIfInBounds_toArray, List.set_cons_zero, List.set_cons_succ]
            refine wpAnyH_take (i := 32) (v := ?vv39) rfl (by kernel_rfl) (by kernel_rfl) (by kernel_rfl) (fun _ _ _ h => h) (Or.inl ⟨by rfl, ?hy39⟩) (by assumption) ?_
            case hy39 => (intro w hSw; (try dsimp only at hSw); go_simp; try with_reducible rfl)
            try simp only [Act.put, List.setIfInBounds_toArray, List.set_cons_zero, List.set_cons_succ]
            refine wpAnyH_ready (rs := [30]) (by kernel_rfl) (by simp) ?_
            refine AllReadyH.cons rfl (fun K hK => ?_) AllReadyH.nil
            go_simp
            (first | (go_at_call 22; (with_reducible refine (HRND.out.oA _ ?hh).mono ?_); (case hh => repeat' (first | assumption | exact Gr.rf _ | refine gr_alloc_of ?_ | refine gr_drew_of ?_)); rintro ev wz ⟨rfl, rfl⟩) | (go_at_call 22; (with_reducible refine (HRND.out.oJ _ ?hh).mono ?_); (case hh => repeat' (first | assumption | exact Gr.rf _ | refine gr_alloc_of ?_ | refine gr_drew_of ?_)); rintro ev wz ⟨rfl, rfl⟩) | (go_at_call 22; (with_reducible refine (HRND.out.oB _ ?hh).mono ?_); (case hh => repeat' (first | assumption | exact Gr.rf _ | refine gr_alloc_of ?_ | refine gr_drew_of ?_)); rintro ev wz ⟨rfl, rfl⟩) | (go_at_call 23; (with_reducible refine (HRND.out.ref1 _ _ ?hh ?hb).mono ?_); (case hb => exact heap_alloc_new _ _); (case hh => repeat' (first | assumption | exact Gr.rf _ | refine gr_alloc_of ?_ | refine gr_drew_of ?_)); rintro ev wz ⟨rfl, hgz⟩) | (go_at_call 23; (with_reducible refine (HRND.out.ref2 _ _ ?hh ?hb).mono ?_); (case hb => exact heap_alloc_new _ _); (case hh => repeat' (first | assumption | exact Gr.rf _ | refine gr_alloc_of ?_ | refine gr_drew_of ?_)); rintro ev wz ⟨rfl, hgz⟩) | (go_at_call 23; (with_reducible refine (HRND.out.ref0 _ ?hh).mono ?_); (case hh => repeat' (first | assumption | exact Gr.rf _ | refine gr_alloc_of ?_ | refine gr_drew_of ?_)); rintro ev wz ⟨rfl, hgz⟩) | (go_at_call 20; (with_reducible refine (HRND.out.join0 _ ?hh).mono ?_); (case hh => repeat' (first | assumption | exact Gr.rf _ | refine gr_alloc_of ?_ | refine gr_drew_of ?_)); rintro ev wz ⟨⟨pz, Sz, rfl, hcz, hez⟩, hgz⟩) | (go_at_call 22; (with_reducible refine (HRND.out.open0 _ _ _ (by assumption) (by assumption)).mono ?_); rintro ev wz ⟨rfl, rfl⟩))
            try (go_wp2_with fail)
            clear hHeld
            refine hK.out _ _ ?hS (fun hHeld => ?_)
            case hS => ((try dsimp only); (first | (refine HK.out _ ?_; repeat' (first | assumption | exact Gr.rf _ | refine gr_alloc_of ?_ | refine gr_drew_of ?_))))
            clear hK K
            try simp only [Act.put, List.setIfInBounds_toArray, List.set_cons_zero, List.set_cons_succ]
            refine wpAnyH_ready (rs := [33]) (by kernel_rfl) (by simp) ?_
            refine AllReadyH.cons rfl (fun K hK => ?_) AllReadyH.nil
            go_simp
            (first | (go_at_call 22; (with_reducible refine (HRND.out.oA _ ?hh).mono ?_); (case hh => repeat' (first | assumption | exact Gr.rf _ | refine gr_alloc_of ?_ | refine gr_drew_of ?_)); rintro ev wz ⟨rfl, rfl⟩) | (go_at_call 22; (with_reducible refine (HRND.out.oJ _ ?hh).mono ?_); (case hh => repeat' (first | assumption | exact Gr.rf _ | refine gr_alloc_of ?_ | refine gr_drew_of ?_)); rintro ev wz ⟨rfl, rfl⟩) | (go_at_call 22; (with_reducible refine (HRND.out.oB _ ?hh).mono ?_); (case hh => repeat' (first | assumption | exact Gr.rf _ | refine gr_alloc_of ?_ | refine gr_drew_of ?_)); rintro ev wz ⟨rfl, rfl⟩) | (go_at_call 23; (with_reducible refine (HRND.out.ref1 _ _ ?hh ?hb).mono ?_); (case hb => exact heap_alloc_new _ _); (case hh => repeat' (first | assumption | exact Gr.rf _ | refine gr_alloc_of ?_ | refine gr_drew_of ?_)); rintro ev wz ⟨rfl, hgz⟩) | (go_at_call 23; (with_reducible refine (HRND.out.ref2 _ _ ?hh ?hb).mono ?_); (case hb => exact heap_alloc_new _ _); (case hh => repeat' (first | assumption | exact Gr.rf _ | refine gr_alloc_of ?_ | refine gr_drew_of ?_)); rintro ev wz ⟨rfl, hgz⟩) | (go_at_call 23; (with_reducible refine (HRND.out.ref0 _ ?hh).mono ?_); (case hh => repeat' (first | assumption | exact Gr.rf _ | refine gr_alloc_of ?_ | refine gr_drew_of ?_)); rintro ev wz ⟨rfl, hgz⟩) | (go_at_call 20; (with_reducible refine (HRND.out.join0 _ ?hh).mono ?_); (case hh => repeat' (first | assumption | exact Gr.rf _ | refine gr_alloc_of ?_ | refine gr_drew_of ?_)); rintro ev wz ⟨⟨pz, Sz, rfl, hcz, hez⟩, hgz⟩) | (go_at_call 22; (with_reducible refine (HRND.out.open0 _ _ _ (by assumption) (by assumption)).mono ?_); rintro ev wz ⟨rfl, rfl⟩))
            try (go_wp2_with fail)
            clear hHeld
            refine hK.out _ _ ?hS (fun hHeld => ?_)
            case hS => ((try dsimp only); (first | (refine HK.out _ ?_; repeat' (first | assumption | exact Gr.rf _ | refine gr_alloc_of ?_ | refine gr_drew_of ?_))))
            clear hK K
            try simp only [Act.put, List.setIfInBounds_toArray, List.set_cons_zero, List.set_cons_succ]
            refine wpAnyH_take (i := 34) (v := ?vv40) rfl (by kernel_rfl) (by kernel_rfl) (by kernel_rfl) (fun _ _ _ h => h) (Or.inl ⟨by rfl, ?hy40⟩) (by assumption) ?_
            case hy40 => (intro w hSw; (try dsimp only at hSw); go_simp; try with_reducible rfl)
            try simp only [Act.put, List.setIfInBounds_toArray, List.set_cons_zero, List.set_cons_succ]
            refine wpAnyH_take (i := 35) (v := undef) rfl (by kernel_rfl) (by kernel_rfl) (by kernel_rfl) (fun _ _ _ h => h) (Or.inr ⟨by rfl, rfl⟩) (by assumption) ?_
            try simp only [Act.put, List.setIfInBounds_toArray, List.set_cons_zero, List.set_cons_succ]
            refine wpAnyH_take (i := 36) (v := undef) rfl (by kernel_rfl) (by kernel_rfl) (by kernel_rfl) (fun _ _ _ h => h) (Or.inr ⟨by rfl, rfl⟩) (by assumption) ?_
            try simp only [Act.put, List.setIfInBounds_toArray, List.set_cons_zero, List.set_cons_succ]
            refine wpAnyH_take (i := 37) (v := undef) rfl (by kernel_rfl) (by kernel_rfl) (by kernel_rfl) (fun _ _ _ h => h) (Or.inr ⟨by rfl, rfl⟩) (by assumption) ?_
            try simp only [Act.put, List.setIfInBounds_toArray, List.set_cons_zero, List.set_cons_succ]
            refine wpAnyH_take (i := 38) (v := ?vv41) rfl (by kernel_rfl) (by kernel_rfl) (by kernel_rfl) (fun _ _ _ h => h) (Or.inl ⟨by rfl, ?hy41⟩) (by assumption) ?_
            case hy41 => (intro w hSw; (try dsimp only at hSw); go_simp; try with_reducible rfl)
            try simp only [Act.put, List.setIfInBounds_toArray, List.set_cons_zero, List.set_cons_succ]
            refine wpAnyH_take (i := 39) (v := ?vv42) rfl (by kernel_rfl) (by kernel_rfl) (by kernel_rfl) (fun _ _ _ h => h) (Or.inl ⟨by rfl, ?hy42⟩) (by assumption) ?_
            case hy42 => (intro w hSw; (try dsimp only at hSw); go_simp; try with_reducible rfl)
            try simp only [Act.put, List.setIfInBounds_toArray, List.set_cons_zero, List.set_cons_succ]
            refine wpAnyH_take (i := 40) (v := ?vv43) rfl (by kernel_rfl) (by kernel_rfl) (by kernel_rfl) (fun _ _ _ h => h) (Or.inl ⟨by rfl, ?hy43⟩) (by assumption) ?_
            case hy43 => (intro w hSw; (try dsimp only at hSw); go_simp; try with_reducible rfl)
            try simp only [Act.put, List.setIfInBounds_toArray, List.set_cons_zero, List.set_cons_succ]
            refine wpAnyH_done (by kernel_rfl) ?_ _
            refine NoPanic.normal ?_
            go_wp2
            go_roundg (gk - 1)
            case measure => have := HGX.out; omega
            case rel => exact ⟨x + 1, by have := HGX.out; omega, by omega, by omega, rfl, Lib.hid (by repeat' (first | assumption | exact Gr.rf _ | refine gr_alloc_of ?_ | refine gr_drew_of ?_))⟩
        · go_simp
          clear hHeld
          refine hK.out _ _ ?hS (fun hHeld => ?_)
          case hS => ((try dsimp only); (first | (refine HK.out _ ?_; repeat' (first | assumption | exact Gr.rf _ | refine gr_alloc_of ?_ | refine gr_drew_of ?_))))
          clear hK K
          try simp only [Act.put, List.setIfInBounds_toArray, List.set_cons_zero, List.set_cons_succ]
          refine wpAnyH_ready (rs := [2]) (by kernel_rfl) (by simp) ?_
          refine AllReadyH.cons rfl (fun K hK => ?_) AllReadyH.nil
          go_simp
          (first | (go_at_call 22; (with_reducible refine (HRND.out.oA _ ?hh).mono ?_); (case hh => repeat' (first | assumption | exact Gr.rf _ | refine gr_alloc_of ?_ | refine gr_drew_of ?_)); rintro ev wz ⟨rfl, rfl⟩) | (go_at_call 22; (with_reducible refine (HRND.out.oJ _ ?hh).mono ?_); (case hh => repeat' (first | assumption | exact Gr.rf _ | refine gr_alloc_of ?_ | refine gr_drew_of ?_)); rintro ev wz ⟨rfl, rfl⟩) | (go_at_call 22; (with_reducible refine (HRND.out.oB _ ?hh).mono ?_); (case hh => repeat' (first | assumption | exact Gr.rf _ | refine gr_alloc_of ?_ | refine gr_drew_of ?_)); rintro ev wz ⟨rfl, rfl⟩) | (go_at_call 23; (with_reducible refine (HRND.out.ref1 _ _ ?hh ?hb).mono ?_); (case hb => exact heap_alloc_new _ _); (case hh => repeat' (first | assumption | exact Gr.rf _ | refine gr_alloc_of ?_ | refine gr_drew_of ?_)); rintro ev wz ⟨rfl, hgz⟩) | (go_at_call 23; (with_reducible refine (HRND.out.ref2 _ _ ?hh ?hb).mono ?_); (case hb => exact heap_alloc_new _ _); (case hh => repeat' (first | assumption | exact Gr.rf _ | refine gr_alloc_of ?_ | refine gr_drew_of ?_)); rintro ev wz ⟨rfl, hgz⟩) | (go_at_call 23; (with_reducible refine (HRND.out.ref0 _ ?hh).mono ?_); (case hh => repeat' (first | assumption | exact Gr.rf _ | refine gr_alloc_of ?_ | refine gr_drew_of ?_)); rintro ev wz ⟨rfl, hgz⟩) | (go_at_call 20; (with_reducible refine (HRND.out.join0 _ ?hh).mono ?_); (case hh => repeat' (first | assumption | exact Gr.rf _ | refine gr_alloc_of ?_ | refine gr_drew_of ?_)); rintro ev wz ⟨⟨pz, Sz, rfl, hcz, hez⟩, hgz⟩) | (go_at_call 22; (with_reducible refine (HRND.out.open0 _ _ _ (by assumption) (by assumption)).mono ?_); rintro ev wz ⟨rfl, rfl⟩))
          try (go_wp2_with fail)
          clear hHeld
          refine hK.out _ _ ?hS (fun hHeld => ?_)
          case hS => ((try dsimp only); (first | (refine HK.out _ ?_; repeat' (first | assumption | exact Gr.rf _ | refine gr_alloc_of ?_ | refine gr_drew_of ?_))))
          clear hK K
          try simp only [Act.put, List.setIfInBounds_toArray, List.set_cons_zero, List.set_cons_succ]
          refine wpAnyH_ready (rs := [6]) (by kernel_rfl) (by simp) ?_
          refine AllReadyH.cons rfl (fun K hK => ?_) AllReadyH.nil
          go_simp
          (first | (go_at_call 22; (with_reducible refine (HRND.out.oA _ ?hh).mono ?_); (case hh => repeat' (first | assumption | exact Gr.rf _ | refine gr_alloc_of ?_ | refine gr_drew_of ?_)); rintro ev wz ⟨rfl, rfl⟩) | (go_at_call 22; (with_reducible refine (HRND.out.oJ _ ?hh).mono ?_); (case hh => repeat' (first | assumption | exact Gr.rf _ | refine gr_alloc_of ?_ | refine gr_drew_of ?_)); rintro ev wz ⟨rfl, rfl⟩) | (go_at_call 22; (with_reducible refine (HRND.out.oB _ ?hh).mono ?_); (case hh => repeat' (first | assumption | exact Gr.rf _ | refine gr_alloc_of ?_ | refine gr_drew_of ?_)); rintro ev wz ⟨rfl, rfl⟩) | (go_at_call 23; (with_reducible refine (HRND.out.ref1 _ _ ?hh ?hb).mono ?_); (case hb => exact heap_alloc_new _ _); (case hh => repeat' (first | assumption | exact Gr.rf _ | refine gr_alloc_of ?_ | refine gr_drew_of ?_)); rintro ev wz ⟨rfl, hgz⟩) | (go_at_call 23; (with_reducible refine (HRND.out.ref2 _ _ ?hh ?hb).mono ?_); (case hb => exact heap_alloc_new _ _); (case hh => repeat' (first | assumption | exact Gr.rf _ | refine gr_alloc_of ?_ | refine gr_drew_of ?_)); rintro ev wz ⟨rfl, hgz⟩) | (go_at_call 23; (with_reducible refine (HRND.out.ref0 _ ?hh).mono ?_); (case hh => repeat' (first | assumption | exact Gr.rf _ | refine gr_alloc_of ?_ | refine gr_drew_of ?_)); rintro ev wz ⟨rfl, hgz⟩) | (go_at_call 20; (with_reducible refine (HRND.out.join0 _ ?hh).mono ?_); (case hh => repeat' (first | assumption | exact Gr.rf _ | refine gr_alloc_of ?_ | refine gr_drew_of ?_)); rintro ev wz ⟨⟨pz, Sz, rfl, hcz, hez⟩, hgz⟩) | (go_at_call 22; (with_reducible refine (HRND.out.open0 _ _ _ (by assumption) (by assumption)).mono ?_); rintro ev wz ⟨rfl, rfl⟩))
          try (go_wp2_with fail)
          clear hHeld
          refine hK.out _ _ ?hS (fun hHeld => ?_)
          case hS => ((try dsimp only); (first | (refine HK.out _ ?_; repeat' (first | assumption | exact Gr.rf _ | refine gr_alloc_of ?_ | refine gr_drew_of ?_))))
          clear hK K
          try simp only [Act.put, List.setIfInBounds_toArray, List.set_cons_zero, List.set_cons_succ]
          refine wpAnyH_take (i := 7) (v := ?vv44) rfl (by kernel_rfl) (by kernel_rfl) (by kernel_rfl) (fun _ _ _ h => h) (Or.inl ⟨by rfl, ?hy44⟩) (by assumption) ?_
          case hy44 => (intro w hSw; (try dsimp only at hSw); go_simp; try with_reducible rfl)
          try simp only [Act.put, List.setIfInBounds_toArray, List.set_cons_zero, List.set_cons_succ]
          refine wpAnyH_take (i := 8) (v := ?vv45) rfl (by kernel_rfl) (by kernel_rfl) (by kernel_rfl) (fun _ _ _ h => h) (Or.inl ⟨by rfl, ?hy45⟩) (by assumption) ?_
          case hy45 => (intro w hSw; (try dsimp only at hSw); go_simp; try with_reducible rfl)
          try simp only [Act.put, List.setIfInBounds_toArray, List.set_cons_zero, List.set_cons_succ]
          refine wpAnyH_take (i := 9) (v := ?vv46) rfl (by kernel_rfl) (by kernel_rfl) (by kernel_rfl) (fun _ _ _ h => h) (Or.inl ⟨by rfl, ?hy46⟩) (by assumption) ?_
          case hy46 => (intro w hSw; (try dsimp only at hSw); go_simp; try with_reducible rfl)
          try simp only [Act.put, List.setIfInBounds_toArray, List.set_cons_zero, List.set_cons_succ]
          refine wpAnyH_take (i := 10) (v := ?vv47) rfl (by kernel_rfl) (by kernel_rfl) (by kernel_rfl) (fun _ _ _ h => h) (Or.inl ⟨by rfl, ?hy47⟩) (by assumption) ?_
          case hy47 => (intro w hSw; (try dsimp only at hSw); go_simp; try with_reducible rfl)
          try simp only [Act.put, List.setIfInBounds_toArray, List.set_cons_zero, List.set_cons_succ]
          refine wpAnyH_take (i := 12) (v := ?vv48) rfl (by kernel_rfl) (by kernel_rfl) (by kernel_rfl) (fun _ _ _ h => h) (Or.inl ⟨by rfl, ?hy48⟩) (by assumption) ?_
          case hy48 => (intro w hSw; (try dsimp only at hSw); go_simp; try with_reducible rfl)
          try simp only [Act.put, List.setIfInBounds_toArray, List.set_cons_zero, List.set_cons_succ]
          refine wpAnyH_take (i := 13) (v := ?vv49) rfl (by kernel_rfl) (by kernel_rfl) (by kernel_rfl) (fun _ _ _ h => h) (Or.inl ⟨by rfl, ?hy49⟩) (by assumption) ?_
          case hy49 => (intro w hSw; (try dsimp only at hSw); go_simp; try with_reducible rfl)
          try simp only [Act.put, List.setIfInBounds_toArray, List.set_cons_zero, List.set_cons_succ]
          refine wpAnyH_take (i := 15) (v := ?vv50) rfl (by kernel_rfl) (by kernel_rfl) (by kernel_rfl) (fun _ _ _ h => h) (Or.inl ⟨by rfl, ?hy50⟩) (by assumption) ?_
          case hy50 => (intro w hSw; (try dsimp only at hSw); go_simp; try with_reducible rfl)
          try simp only [Act.put, List.setIfInBounds_toArray, List.set_cons_zero, List.set_cons_succ]
          refine wpAnyH_ready (rs := [11, 14]) (by kernel_rfl) (by simp) ?_
          refine AllReadyH.cons rfl (fun K hK => ?_) (AllReadyH.cons rfl (fun K hK => ?_) AllReadyH.nil)
          · go_simp
            (first | (go_at_call 22; (with_reducible refine (HRND.out.oA _ ?hh).mono ?_); (case hh => repeat' (first | assumption | exact Gr.rf _ | refine gr_alloc_of ?_ | refine gr_drew_of ?_)); rintro ev wz ⟨rfl, rfl⟩) | (go_at_call 22; (with_reducible refine (HRND.out.oJ _ ?hh).mono ?_); (case hh => repeat' (first | assumption | exact Gr.rf _ | refine gr_alloc_of ?_ | refine gr_drew_of ?_)); rintro ev wz ⟨rfl, rfl⟩) | (go_at_call 22; (with_reducible refine (HRND.out.oB _ ?hh).mono ?_); (case hh => repeat' (first | assumption | exact Gr.rf _ | refine gr_alloc_of ?_ | refine gr_drew_of ?_)); rintro ev wz ⟨rfl, rfl⟩) | (go_at_call 23; (with_reducible refine (HRND.out.ref1 _ _ ?hh ?hb).mono ?_); (case hb => exact heap_alloc_new _ _); (case hh => repeat' (first | assumption | exact Gr.rf _ | refine gr_alloc_of ?_ | refine gr_drew_of ?_)); rintro ev wz ⟨rfl, hgz⟩) | (go_at_call 23; (with_reducible refine (HRND.out.ref2 _ _ ?hh ?hb).mono ?_); (case hb => exact heap_alloc_new _ _); (case hh => repeat' (first | assumption | exact Gr.rf _ | refine gr_alloc_of ?_ | refine gr_drew_of ?_)); rintro ev wz ⟨rfl, hgz⟩) | (go_at_call 23; (with_reducible refine (HRND.out.ref0 _ ?hh).mono ?_); (case hh => repeat' (first | assumption | exact Gr.rf _ | refine gr_alloc_of ?_ | refine gr_drew_of ?_)); rintro ev wz ⟨rfl, hgz⟩) | (go_at_call 20; (with_reducible refine (HRND.out.join0 _ ?hh).mono ?_); (case hh => repeat' (first | assumption | exact Gr.rf _ | refine gr_alloc_of ?_ | refine gr_drew_of ?_)); rintro ev wz ⟨⟨pz, Sz, rfl, hcz, hez⟩, hgz⟩) | (go_at_call 22; (with_reducible refine (HRND.out.open0 _ _ _ (by assumption) (by assumption)).mono ?_); rintro ev wz ⟨rfl, rfl⟩))
            try (go_wp2_with fail)
            clear hHeld
            refine hK.out _ _ ?hS (fun hHeld => ?_)
            case hS => ((try dsimp only); (first | (refine HK.out _ ?_; repeat' (first | assumption | exact Gr.rf _ | refine gr_alloc_of ?_ | refine gr_drew_of ?_))))
            clear hK K
            try simp only [Act.put, List.setIfInBounds_toArray, List.set_cons_zero, List.set_cons_succ]
            refine wpAnyH_ready (rs := [14]) (by kernel_rfl) (by simp) ?_
            refine AllReadyH.cons rfl (fun K hK => ?_) AllReadyH.nil
            go_simp
            clear hHeld
            refine hK.out _ _ ?hS (fun hHeld => ?_)
            case hS => ((try dsimp only); (first | (refine HK.out _ ?_; repeat' (first | assumption | exact Gr.rf _ | refine gr_alloc_of ?_ | refine gr_drew_of ?_))))
            clear hK K
            try simp only [Act.put, List.setIfInBounds_toArray, List.set_cons_zero, List.set_cons_succ]
            refine wpAnyH_ready (rs := [16]) (by kernel_rfl) (by simp) ?_
            refine AllReadyH.cons rfl (fun K hK => ?_) AllReadyH.nil
            go_simp
            (first | (go_at_call 22; (with_reducible refine (HRND.out.oA _ ?hh).mono ?_); (case hh => repeat' (first | assumption | exact Gr.rf _ | refine gr_alloc_of ?_ | refine gr_drew_of ?_)); rintro ev wz ⟨rfl, rfl⟩) | (go_at_call 22; (with_reducible refine (HRND.out.oJ _ ?hh).mono ?_); (case hh => repeat' (first | assumption | exact Gr.rf _ | refine gr_alloc_of ?_ | refine gr_drew_of ?_)); rintro ev wz ⟨rfl, rfl⟩) | (go_at_call 22; (with_reducible refine (HRND.out.oB _ ?hh).mono ?_); (case hh => repeat' (first | assumption | exact Gr.rf _ | refine gr_alloc_of ?_ | refine gr_drew_of ?_)); rintro ev wz ⟨rfl, rfl⟩) | (go_at_call 23; (with_reducible refine (HRND.out.ref1 _ _ ?hh ?hb).mono ?_); (case hb => exact heap_alloc_new _ _); (case hh => repeat' (first | assumption | exact Gr.rf _ | refine gr_alloc_of ?_ | refine gr_drew_of ?_)); rintro ev wz ⟨rfl, hgz⟩) | (go_at_call 23; (with_reducible refine (HRND.out.ref2 _ _ ?hh ?hb).mono ?_); (case hb => exact heap_alloc_new _ _); (case hh => repeat' (first | assumption | exact Gr.rf _ | refine gr_alloc_of ?_ | refine gr_drew_of ?_)); rintro ev wz ⟨rfl, hgz⟩) | (go_at_call 23; (with_reducible refine (HRND.out.ref0 _ ?hh).mono ?_); (case hh => repeat' (first | assumption | exact Gr.rf _ | refine gr_alloc_of ?_ | refine gr_drew_of ?_)); rintro ev wz ⟨rfl, hgz⟩) | (go_at_call 20; (with_reducible refine (HRND.out.join0 _ ?hh).mono ?_); (case hh => repeat' (first | assumption | exact Gr.rf _ | refine gr_alloc_of ?_ | refine gr_drew_of ?_)); rintro ev wz ⟨⟨pz, Sz, rfl, hcz, hez⟩, hgz⟩) | (go_at_call 22; (with_reducible refine (HRND.out.open0 _ _ _ (by assumption) (by assumption)).mono ?_); rintro ev wz ⟨rfl, rfl⟩))
            try (go_wp2_with fail)
            clear hHeld
            refine hK.out _ _ ?hS (fun hHeld => ?_)
            case hS => ((try dsimp only); (first | (refine HK.out _ ?_; repeat' (first | assumption | exact Gr.rf _ | refine gr_alloc_of ?_ | refine gr_drew_of ?_))))
            clear hK K
            try simp only [Act.put, List.setIfInBounds_toArray, List.set_cons_zero, List.set_cons_succ]
            refine wpAnyH_take (i := 17) (v := ?vv51) rfl (by kernel_rfl) (by kernel_rfl) (by kernel_rfl) (fun _ _ _ h => h) (Or.inl ⟨by rfl, ?hy51⟩) (by assumption) ?_
            case hy51 => (intro w hSw; (try dsimp only at hSw); go_simp; try with_reducible rfl)
            try simp only [Act.put, List.setIfInBounds_toArray, List.set_cons_zero, List.set_cons_succ]
            refine wpAnyH_take (i := 18) (v := ?vv52) rfl (by kernel_rfl) (by kernel_rfl) (by kernel_rfl) (fun _ _ _ h => h) (Or.inl ⟨by rfl, ?hy52⟩) (by assumption) ?_
            case hy52 => (intro w hSw; (try dsimp only at hSw); go_simp; try with_reducible rfl)
            try simp only [Act.put, List.setIfInBounds_toArray, List.set_cons_zero, List.set_cons_succ]
            refine wpAnyH_take (i := 19) (v := ?vv53) rfl (by kernel_rfl) (by kernel_rfl) (by kernel_rfl) (fun _ _ _ h => h) (Or.inl ⟨by rfl, ?hy53⟩) (by assumption) ?_
            case hy53 => (intro w hSw; (try dsimp only at hSw); go_simp; try with_reducible rfl)
            try simp only [Act.put, List.setIfInBounds_toArray, List.set_cons_zero, List.set_cons_succ]
            refine wpAnyH_take (i := 21) (v := ?vv54) rfl (by kernel_rfl) (by kernel_rfl) (by kernel_rfl) (fun _ _ _ h => h) (Or.inl ⟨by rfl, ?hy54⟩) (by assumption) ?_
            case hy54 => (intro w hSw; (try dsimp only at hSw); go_simp; try with_reducible rfl)
            try simp only [Act.put, List.setIfInBounds_toArray, List.set_cons_zero, List.set_cons_succ]
            refine wpAnyH_take (i := 23) (v := ?vv55) rfl (by kernel_rfl) (by kernel_rfl) (by kernel_rfl) (fun _ _ _ h => h) (Or.inl ⟨by rfl, ?hy55⟩) (by assumption) ?_
            case hy55 => (intro w hSw; (try dsimp only at hSw); go_simp; try with_reducible rfl)
            try simp only [Act.put, List.setIfInBounds_toArray, List.set_cons_zero, List.set_cons_succ]
            refine wpAnyH_ready (rs := [20]) (by kernel_rfl) (by simp) ?_
            refine AllReadyH.cons rfl (fun K hK => ?_) AllReadyH.nil
            go_simp
            (first | (go_at_call 22; (with_reducible refine (HRND.out.oA _ ?hh).mono ?_); (case hh => repeat' (first | assumption | exact Gr.rf _ | refine gr_alloc_of ?_ | refine gr_drew_of ?_)); rintro ev wz ⟨rfl, rfl⟩) | (go_at_call 22; (with_reducible refine (HRND.out.oJ _ ?hh).mono ?_); (case hh => repeat' (first | assumption | exact Gr.rf _ | refine gr_alloc_of ?_ | refine gr_drew_of ?_)); rintro ev wz ⟨rfl, rfl⟩) | (go_at_call 22; (with_reducible refine (HRND.out.oB _ ?hh).mono ?_); (case hh => repeat' (first | assumption | exact Gr.rf _ | refine gr_alloc_of ?_ | refine gr_drew_of ?_)); rintro ev wz ⟨rfl, rfl⟩) | (go_at_call 23; (with_reducible refine (HRND.out.ref1 _ _ ?hh ?hb).mono ?_); (case hb => exact heap_alloc_new _ _); (case hh => repeat' (first | assumption | exact Gr.rf _ | refine gr_alloc_of ?_ | refine gr_drew_of ?_)); rintro ev wz ⟨rfl, hgz⟩) | (go_at_call 23; (with_reducible refine (HRND.out.ref2 _ _ ?hh ?hb).mono ?_); (case hb => exact heap_alloc_new _ _); (case hh => repeat' (first | assumption | exact Gr.rf _ | refine gr_alloc_of ?_ | refine gr_drew_of ?_)); rintro ev wz ⟨rfl, hgz⟩) | (go_at_call 23; (with_reducible refine (HRND.out.ref0 _ ?hh).mono ?_); (case hh => repeat' (first | assumption | exact Gr.rf _ | refine gr_alloc_of ?_ | refine gr_drew_of ?_)); rintro ev wz ⟨rfl, hgz⟩) | (go_at_call 20; (with_reducible refine (HRND.out.join0 _ ?hh).mono ?_); (case hh => repeat' (first | assumption | exact Gr.rf _ | refine gr_alloc_of ?_ | refine gr_drew_of ?_)); rintro ev wz ⟨⟨pz, Sz, rfl, hcz, hez⟩, hgz⟩) | (go_at_call 22; (with_reducible refine (HRND.out.open0 _ _ _ (by assumption) (by assumption)).mono ?_); rintro ev wz ⟨rfl, rfl⟩))
            try (go_wp2_with fail)
            clear hHeld
            refine hK.out _ _ ?hS (fun hHeld => ?_)
            case hS => ((try dsimp only); (first | (refine HK.out _ ?_; repeat' (first | assumption | exact Gr.rf _ | refine gr_alloc_of ?_ | refine gr_drew_of ?_))))
            clear hK K
            try simp only [Act.put, List.setIfInBounds_toArray, List.set_cons_zero, List.set_cons_succ]
            refine wpAnyH_ready (rs := [22]) (by kernel_rfl) (by simp) ?_
            refine AllReadyH.cons rfl (fun K hK => ?_) AllReadyH.nil
            go_simp
            (first | (go_at_call 22; (with_reducible refine (HRND.out.oA _ ?hh).mono ?_); (case hh => repeat' (first | assumption | exact Gr.rf _ | refine gr_alloc_of ?_ | refine gr_drew_of ?_)); rintro ev wz ⟨rfl, rfl⟩) | (go_at_call 22; (with_reducible refine (HRND.out.oJ _ ?hh).mono ?_); (case hh => repeat' (first | assumption | exact Gr.rf _ | refine gr_alloc_of ?_ | refine gr_drew_of ?_)); rintro ev wz ⟨rfl, rfl⟩) | (go_at_call 22; (with_reducible refine (HRND.out.oB _ ?hh).mono ?_); (case hh => repeat' (first | assumption | exact Gr.rf _ | refine gr_alloc_of ?_ | refine gr_drew_of ?_)); rintro ev wz ⟨rfl, rfl⟩) | (go_at_call 23; (with_reducible refine (HRND.out.ref1 _ _ ?hh ?hb).mono ?_); (case hb => exact heap_alloc_new _ _); (case hh => repeat' (first | assumption | exact Gr.rf _ | refine gr_alloc_of ?_ | refine gr_drew_of ?_)); rintro ev wz ⟨rfl, hgz⟩) | (go_at_call 23; (with_reducible refine (HRND.out.ref2 _ _ ?hh ?hb).mono ?_); (case hb => exact heap_alloc_new _ _); (case hh => repeat' (first | assumption | exact Gr.rf _ | refine gr_alloc_of ?_ | refine gr_drew_of ?_)); rintro ev wz ⟨rfl, hgz⟩) | (go_at_call 23; (with_reducible refine (HRND.out.ref0 _ ?hh).mono ?_); (case hh => repeat' (first | assumption | exact Gr.rf _ | refine gr_alloc_of ?_ | refine gr_drew_of ?_)); rintro ev wz ⟨rfl, hgz⟩) | (go_at_call 20; (with_reducible refine (HRND.out.join0 _ ?hh).mono ?_); (case hh => repeat' (first | assumption | exact Gr.rf _ | refine gr_alloc_of ?_ | refine gr_drew_of ?_)); rintro ev wz ⟨⟨pz, Sz, rfl, hcz, hez⟩, hgz⟩) | (go_at_call 22; (with_reducible refine (HRND.out.open0 _ _ _ (by assumption) (by assumption)).mono ?_); rintro ev wz ⟨rfl, rfl⟩))
            try (go_wp2_with fail)
            clear hHeld
            refine hK.out _ _ ?hS (fun hHeld => ?_)
            case hS => ((try dsimp only); (first | (refine HK.out _ ?_; repeat' (first | assumption | exact Gr.rf _ | refine gr_alloc_of ?_ | refine gr_drew_of ?_))))
            clear hK K
            try simp only [Act.put, List.setIfInBounds_toArray, List.set_cons_zero, List.set_cons_succ]
            refine wpAnyH_ready (rs := [24]) (by kernel_rfl) (by simp) ?_
            refine AllReadyH.cons rfl (fun K hK => ?_) AllReadyH.nil
            go_simp
            (first | (go_at_call 22; (with_reducible refine (HRND.out.oA _ ?hh).mono ?_); (case hh => repeat' (first | assumption | exact Gr.rf _ | refine gr_alloc_of ?_ | refine gr_drew_of ?_)); rintro ev wz ⟨rfl, rfl⟩) | (go_at_call 22; (with_reducible refine (HRND.out.oJ _ ?hh).mono ?_); (case hh => repeat' (first | assumption | exact Gr.rf _ | refine gr_alloc_of ?_ | refine gr_drew_of ?_)); rintro ev wz ⟨rfl, rfl⟩) | (go_at_call 22; (with_reducible refine (HRND.out.oB _ ?hh).mono ?_); (case hh => repeat' (first | assumption | exact Gr.rf _ | refine gr_alloc_of ?_ | refine gr_drew_of ?_)); rintro ev wz ⟨rfl, rfl⟩) | (go_at_call 23; (with_reducible refine (HRND.out.ref1 _ _ ?hh ?hb).mono ?_); (case hb => exact heap_alloc_new _ _); (case hh => repeat' (first | assumption | exact Gr.rf _ | refine gr_alloc_of ?_ | refine gr_drew_of ?_)); rintro ev wz ⟨rfl, hgz⟩) | (go_at_call 23; (with_reducible refine (HRND.out.ref2 _ _ ?hh ?hb).mono ?_); (case hb => exact heap_alloc_new _ _); (case hh => repeat' (first | assumption | exact Gr.rf _ | refine gr_alloc_of ?_ | refine gr_drew_of ?_)); rintro ev wz ⟨rfl, hgz⟩) | (go_at_call 23; (with_reducible refine (HRND.out.ref0 _ ?hh).mono ?_); (case hh => repeat' (first | assumption | exact Gr.rf _ | refine gr_alloc_of ?_ | refine gr_drew_of ?_)); rintro ev wz ⟨rfl, hgz⟩) | (go_at_call 20; (with_reducible refine (HRND.out.join0 _ ?hh).mono ?_); (case hh => repeat' (first | assumption | exact Gr.rf _ | refine gr_alloc_of ?_ | refine gr_drew_of ?_)); rintro ev wz ⟨⟨pz, Sz, rfl, hcz, hez⟩, hgz⟩) | (go_at_call 22; (with_reducible refine (HRND.out.open0 _ _ _ (by assumption) (by assumption)).mono ?_); rintro ev wz ⟨rfl, rfl⟩))
            try (go_wp2_with fail)
            clear hHeld
            refine hK.out _ _ ?hS (fun hHeld => ?_)
            case hS => ((try dsimp only); (first | (refine HK.out _ ?_; repeat' (first | assumption | exact Gr.rf _ | refine gr_alloc_of ?_ | refine gr_drew_of ?_))))
            clear hK K
            try simp only [Act.put, List.setIfInBounds_toArray, List.set_cons_zero, List.set_cons_succ]
            refine wpAnyH_take (i := 25) (v := ?vv56) rfl (by kernel_rfl) (by kernel_rfl) (by kernel_rfl) (fun _ _ _ h => h) (Or.inl ⟨by rfl, ?hy56⟩) (by assumption) ?_
            case hy56 => (intro w hSw; (try dsimp only at hSw); go_simp; try with_reducible rfl)
            try simp only [Act.put, List.setIfInBounds_toArray, List.set_cons_zero, List.set_cons_succ]
            refine wpAnyH_take (i := 26) (v := ?vv57) rfl (by kernel_rfl) (by kernel_rfl) (by kernel_rfl) (fun _ _ _ h => h) (Or.inl ⟨by rfl, ?hy57⟩) (by assumption) ?_
            case hy57 => (intro w hSw; (try dsimp only at hSw); go_simp; try with_reducible rfl)
            try simp only [Act.put, List.setIfInBounds_toArray, List.set_cons_zero, List.set_cons_succ]
            refine wpAnyH_take (i := 27) (v := ?vv58) rfl (by kernel_rfl) (by kernel_rfl) (by kernel_rfl) (fun _ _ _ h => h) (Or.inl ⟨by rfl, ?hy58⟩) (by assumption) ?_
            case hy58 => (intro w hSw; (try dsimp only at hSw); go_simp; try with_reducible rfl)
            try simp only [Act.put, List.setIfInBounds_toArray, List.set_cons_zero, List.set_cons_succ]
            refine wpAnyH_take (i := 28) (v := ?vv59) rfl (by kernel_rfl) (by kernel_rfl) (by kernel_rfl) (fun _ _ _ h => h) (Or.inl ⟨by rfl, ?hy59⟩) (by assumption) ?_
            case hy59 => (intro w hSw; (try dsimp only at hSw); go_simp; try with_reducible rfl)
            try simp only [Act.put, List.setIfInBounds_toArray, List.set_cons_zero, List.set_cons_succ]
            refine wpAnyH_take (i := 29) (v := ?vv60) rfl (by kernel_rfl) (by kernel_rfl) (by kernel_rfl) (fun _ _ _ h => h) (Or.inl ⟨by rfl, ?hy60⟩) (by assumption) ?_
            case hy60 => (intro w hSw; (try dsimp only at hSw); go_simp; try with_reducible rfl)
            try simp only [Act.put, List.setIfInBounds_toArray, List.set_cons_zero, List.set_cons_succ]
            refine wpAnyH_take (i := 31) (v := ?vv61) rfl (by kernel_rfl) (by kernel_rfl) (by kernel_rfl) (fun _ _ _ h => h) (Or.inl ⟨by rfl, ?hy61⟩) (by assumption) ?_
            case hy61 => (intro w hSw; (try dsimp only at hSw); go_simp; try with_reducible rfl)
            try simp only [Act.put, List.setIfInBounds_toArray, List.set_cons_zero, List.set_cons_succ]
            refine wpAnyH_take (i := 32) (v := ?vv62) rfl (by kernel_rfl) (by kernel_rfl) (by kernel_rfl) (fun _ _ _ h => h) (Or.inl ⟨by rfl, ?hy62⟩) (by assumption) ?_
            case hy62 => (intro w hSw; (try dsimp only at hSw); go_simp; try with_reducible rfl)
            try simp only [Act.put, List.setIfInBounds_toArray, List.set_cons_zero, List.set_cons_succ]
            refine wpAnyH_ready (rs := [30]) (by kernel_rfl) (by simp) ?_
            refine AllReadyH.cons rfl (fun K hK => ?_) AllReadyH.nil
            go_simp
            (first | (go_at_call 22; (with_reducible refine (HRND.out.oA _ ?hh).mono ?_); (case hh => repeat' (first | assumption | exact Gr.rf _ | refine gr_alloc_of ?_ | refine gr_drew_of ?_)); rintro ev wz ⟨rfl, rfl⟩) | (go_at_call 22; (with_reducible refine (HRND.out.oJ _ ?hh).mono ?_); (case hh => repeat' (first | assumption | exact Gr.rf _ | refine gr_alloc_of ?_ | refine gr_drew_of ?_)); rintro ev wz ⟨rfl, rfl⟩) | (go_at_call 22; (with_reducible refine (HRND.out.oB _ ?hh).mono ?_); (case hh => repeat' (first | assumption | exact Gr.rf _ | refine gr_alloc_of ?_ | refine gr_drew_of ?_)); rintro ev wz ⟨rfl, rfl⟩) | (go_at_call 23; (with_reducible refine (HRND.out.ref1 _ _ ?hh ?hb).mono ?_); (case hb => exact heap_alloc_new _ _); (case hh => repeat' (first | assumption | exact Gr.rf _ | refine gr_alloc_of ?_ | refine gr_drew_of ?_)); rintro ev wz ⟨rfl, hgz⟩) | (go_at_call 23; (with_reducible refine (HRND.out.ref2 _ _ ?hh ?hb).mono ?_); (case hb => exact heap_alloc_new _ _); (case hh => repeat' (first | assumption | exact Gr.rf _ | refine gr_alloc_of ?_ | refine gr_drew_of ?_)); rintro ev wz ⟨rfl, hgz⟩) | (go_at_call 23; (with_reducible refine (HRND.out.ref0 _ ?hh).mono ?_); (case hh => repeat' (first | assumption | exact Gr.rf _ | refine gr_alloc_of ?_ | refine gr_drew_of ?_)); rintro ev wz ⟨rfl, hgz⟩) | (go_at_call 20; (with_reducible refine (HRND.out.join0 _ ?hh).mono ?_); (case hh => repeat' (first | assumption | exact Gr.rf _ | refine gr_alloc_of ?_ | refine gr_drew_of ?_)); rintro ev wz ⟨⟨pz, Sz, rfl, hcz, hez⟩, hgz⟩) | (go_at_call 22; (with_reducible refine (HRND.out.open0 _ _ _ (by assumption) (by assumption)).mono ?_); rintro ev wz ⟨rfl, rfl⟩))
            try (go_wp2_with fail)
            clear hHeld
            refine hK.out _ _ ?hS (fun hHeld => ?_)
            case hS => ((try dsimp only); (first | (refine HK.out _ ?_; repeat' (first | assumption | exact Gr.rf _ | refine gr_alloc_of ?_ | refine gr_drew_of ?_))))
            clear hK K
            try simp only [Act.put, List.setIfInBounds_toArray, List.set_cons_zero, List.set_cons_succ]
            refine wpAnyH_ready (rs := [33]) (by kernel_rfl) (by simp) ?_
            refine AllReadyH.cons rfl (fun K hK => ?_) AllReadyH.nil
            go_simp
            (first | (go_at_call 22; (with_reducible refine (HRND.out.oA _ ?hh).mono ?_); (case hh => repeat' (first | assumption | exact Gr.rf _ | refine gr_alloc_of ?_ | refine gr_drew_of ?_)); rintro ev wz ⟨rfl, rfl⟩) | (go_at_call 22; (with_reducible refine (HRND.out.oJ _ ?hh).mono ?_); (case hh => repeat' (first | assumption | exact Gr.rf _ | refine gr_alloc_of ?_ | refine gr_drew_of ?_)); rintro ev wz ⟨rfl, rfl⟩) | (go_at_call 22; (with_reducible refine (HRND.out.oB _ ?hh).mono ?_); (case hh => repeat' (first | assumption | exact Gr.rf _ | refine gr_alloc_of ?_ | refine gr_drew_of ?_)); rintro ev wz ⟨rfl, rfl⟩) | (go_at_call 23; (with_reducible refine (HRND.out.ref1 _ _ ?hh ?hb).mono ?_); (case hb => exact heap_alloc_new _ _); (case hh => repeat' (first | assumption | exact Gr.rf _ | refine gr_alloc_of ?_ | refine gr_drew_of ?_)); rintro ev wz ⟨rfl, hgz⟩) | (go_at_call 23; (with_reducible refine (HRND.out.ref2 _ _ ?hh ?hb).mono ?_); (case hb => exact heap_alloc_new _ _); (case hh => repeat' (first | assumption | exact Gr.rf _ | refine gr_alloc_of ?_ | refine gr_drew_of ?_)); rintro ev wz ⟨rfl, hgz⟩) | (go_at_call 23; (with_reducible refine (HRND.out.ref0 _ ?hh).mono ?_); (case hh => repeat' (first | assumption | exact Gr.rf _ | refine gr_alloc_of ?_ | refine gr_drew_of ?_)); rintro ev wz ⟨rfl, hgz⟩) | (go_at_call 20; (with_reducible refine (HRND.out.join0 _ ?hh).mono ?_); (case hh => repeat' (first | assumption | exact Gr.rf _ | refine gr_alloc_of ?_ | refine gr_drew_of ?_)); rintro ev wz ⟨⟨pz, Sz, rfl, hcz, hez⟩, hgz⟩) | (go_at_call 22; (with_reducible refine (HRND.out.open0 _ _ _ (by assumption) (by assumption)).mono ?_); rintro ev wz ⟨rfl, rfl⟩))
            try (go_wp2_with fail)
            clear hHeld
            refine hK.out _ _ ?hS (fun hHeld => ?_)
            case hS => ((try dsimp only); (first | (refine HK.out _ ?_; repeat' (first | assumption | exact Gr.rf _ | refine gr_alloc_of ?_ | refine gr_drew_of ?_))))
            clear hK K
            try simp only [Act.put, List.setIfInBounds_toArray, List.set_cons_zero, List.set_cons_succ]
            refine wpAnyH_take (i := 34) (v := ?vv63) rfl (by kernel_rfl) (by kernel_rfl) (by kernel_rfl) (fun _ _ _ h => h) (Or.inl ⟨by rfl, ?hy63⟩) (by assumption) ?_
            case hy63 => (intro w hSw; (try dsimp only at hSw); go_simp; try with_reducible rfl)
            try simp only [Act.put, List.setIfInBounds_toArray, List.set_cons_zero, List.set_cons_succ]
            refine wpAnyH_take (i := 35) (v := undef) rfl (by kernel_rfl) (by kernel_rfl) (by kernel_rfl) (fun _ _ _ h => h) (Or.inr ⟨by rfl, rfl⟩) (by assumption) ?_
            try simp only [Act.put, List.setIfInBounds_toArray, List.set_cons_zero, List.set_cons_succ]
            refine wpAnyH_take (i := 36) (v := undef) rfl (by kernel_rfl) (by kernel_rfl) (by kernel_rfl) (fun _ _ _ h => h) (Or.inr ⟨by rfl, rfl⟩) (by assumption) ?_
            try simp only [Act.put, List.setIfInBounds_toArray, List.set_cons_zero, List.set_cons_succ]
            refine wpAnyH_take (i := 37) (v := undef) rfl (by kernel_rfl) (by kernel_rfl) (by kernel_rfl) (fun _ _ _ h => h) (Or.inr ⟨by rfl, rfl⟩) (by assumption) ?_
            try simp only [Act.put, List.setIfInBounds_toArray, List.set_cons_zero, List.set_cons_succ]
            refine wpAnyH_take (i := 38) (v := ?vv64) rfl (by kernel_rfl) (by kernel_rfl) (by kernel_rfl) (fun _ _ _ h => h) (Or.inl ⟨by rfl, ?hy64⟩) (by assumption) ?_
            case hy64 => (intro w hSw; (try dsimp only at hSw); go_simp; try with_reducible rfl)
            try simp only [Act.put, List.setIfInBounds_toArray, List.set_cons_zero, List.set_cons_succ]
            refine wpAnyH_take (i := 39) (v := ?vv65) rfl (by kernel_rfl) (by kernel_rfl) (by kernel_rfl) (fun _ _ _ h => h) (Or.inl ⟨by rfl, ?hy65⟩) (by assumption) ?_
            case hy65 => (intro w hSw; (try dsimp only at hSw); go_simp; try with_reducible rfl)
            try simp only [Act.put, List.setIfInBounds_toArray, List.set_cons_zero, List.set_cons_succ]
            refine wpAnyH_take (i := 40) (v := ?vv66) rfl (by kernel_rfl) (by kernel_rfl) (by kernel_rfl) (fun _ _ _ h => h) (Or.inl ⟨by rfl, ?hy66⟩) (by assumption) ?_
            case hy66 => (intro w hSw; (try dsimp only at hSw); go_simp; try with_reducible rfl)
            try simp only [Act.put, List.setIfInBounds_toArray, List.set_cons_zero, List.set_cons_succ]
            refine wpAnyH_done (by kernel_rfl) ?_ _
            refine NoPanic.normal ?_
            go_wp2
            go_roundg (gk - 1)
            case measure => have := HGX.out; omega
            case rel => exact ⟨x + 1, by have := HGX.out; omega, by omega, by omega, rfl, Lib.hid (by repeat' (first | assumption | exact Gr.rf _ | refine gr_alloc_of ?_ | refine gr_drew_of ?_))⟩
          · go_simp
            clear hHeld
            refine hK.out _ _ ?hS (fun hHeld => ?_)
            case hS => ((try dsimp only); (first | (refine HK.out _ ?_; repeat' (first | assumption | exact Gr.rf _ | refine gr_alloc_of ?_ | refine gr_drew_of ?_))))
            clear hK K
            try simp only [Act.put, List.setIfInBounds_toArray, List.set_cons_zero, List.set_cons_succ]
            refine wpAnyH_ready (rs := [11]) (by kernel_rfl) (by simp) ?_
            refine AllReadyH.cons rfl (fun K hK => ?_) AllReadyH.nil
            go_simp
            (first | (go_at_call 22; (with_reducible refine (HRND.out.oA _ ?hh).mono ?_); (case hh => repeat' (first | assumption | exact Gr.rf _ | refine gr_alloc_of ?_ | refine gr_drew_of ?_)); rintro ev wz ⟨rfl, rfl⟩) | (go_at_call 22; (with_reducible refine (HRND.out.oJ _ ?hh).mono ?_); (case hh => repeat' (first | assumption | exact Gr.rf _ | refine gr_alloc_of ?_ | refine gr_drew_of ?_)); rintro ev wz ⟨rfl, rfl⟩) | (go_at_call 22; (with_reducible refine (HRND.out.oB _ ?hh).mono ?_); (case hh => repeat' (first | assumption | exact Gr.rf _ | refine gr_alloc_of ?_ | refine gr_drew_of ?_)); rintro ev wz ⟨rfl, rfl⟩) | (go_at_call 23; (with_reducible refine (HRND.out.ref1 _ _ ?hh ?hb).mono ?_); (case hb => exact heap_alloc_new _ _); (case hh => repeat' (first | assumption | exact Gr.rf _ | refine gr_alloc_of ?_ | refine gr_drew_of ?_)); rintro ev wz ⟨rfl, hgz⟩) | (go_at_call 23; (with_reducible refine (HRND.out.ref2 _ _ ?hh ?hb).mono ?_); (case hb => exact heap_alloc_new _ _); (case hh => repeat' (first | assumption | exact Gr.rf _ | refine gr_alloc_of ?_ | refine gr_drew_of ?_)); rintro ev wz ⟨rfl, hgz⟩) | (go_at_call 23; (with_reducible refine (HRND.out.ref0 _ ?hh).mono ?_); (case hh => repeat' (first | assumption | exact Gr.rf _ | refine gr_alloc_of ?_ | refine gr_drew_of ?_)); rintro ev wz ⟨rfl, hgz⟩) | (go_at_call 20; (with_reducible refine (HRND.out.join0 _ ?hh).mono ?_); (case hh => repeat' (first | assumption | exact Gr.rf _ | refine gr_alloc_of ?_ | refine gr_drew_of ?_)); rintro ev wz ⟨⟨pz, Sz, rfl, hcz, hez⟩, hgz⟩) | (go_at_call 22; (with_reducible refine (HRND.out.open0 _ _ _ (by assumption) (by assumption)).mono ?_); rintro ev wz ⟨rfl, rfl⟩))
            try (go_wp2_with fail)
            clear hHeld
            refine hK.out _ _ ?hS (fun hHeld => ?_)
            case hS => ((try dsimp only); (first | (refine HK.out _ ?_; repeat' (first | assumption | exact Gr.rf _ | refine gr_alloc_of ?_ | refine gr_drew_of ?_))))
            clear hK K
            try simp only [Act.put, List.setIfInBounds_toArray, List.set_cons_zero, List.set_cons_succ]
            refine wpAnyH_ready (rs := [16]) (by kernel_rfl) (by simp) ?_
            refine AllReadyH.cons rfl (fun K hK => ?_) AllReadyH.nil
            go_simp
            (first | (go_at_call 22; (with_reducible refine (HRND.out.oA _ ?hh).mono ?_); (case hh => repeat' (first | assumption | exact Gr.rf _ | refine gr_alloc_of ?_ | refine gr_drew_of ?_)); rintro ev wz ⟨rfl, rfl⟩) | (go_at_call 22; (with_reducible refine (HRND.out.oJ _ ?hh).mono ?_); (case hh => repeat' (first | assumption | exact Gr.rf _ | refine gr_alloc_of ?_ | refine gr_drew_of ?_)); rintro ev wz ⟨rfl, rfl⟩) | (go_at_call 22; (with_reducible refine (HRND.out.oB _ ?hh).mono ?_); (case hh => repeat' (first | assumption | exact Gr.rf _ | refine gr_alloc_of ?_ | refine gr_drew_of ?_)); rintro ev wz ⟨rfl, rfl⟩) | (go_at_call 23; (with_reducible refine (HRND.out.ref1 _ _ ?hh ?hb).mono ?_); (case hb => exact heap_alloc_new _ _); (case hh => repeat' (first | assumption | exact Gr.rf _ | refine gr_alloc_of ?_ | refine gr_drew_of ?_)); rintro ev wz ⟨rfl, hgz⟩) | (go_at_call 23; (with_reducible refine (HRND.out.ref2 _ _ ?hh ?hb).mono ?_); (case hb => exact heap_alloc_new _ _); (case hh => repeat' (first | assumption | exact Gr.rf _ | refine gr_alloc_of ?_ | refine gr_drew_of ?_)); rintro ev wz ⟨rfl, hgz⟩) | (go_at_call 23; (with_reducible refine (HRND.out.ref0 _ ?hh).mono ?_); (case hh => repeat' (first | assumption | exact Gr.rf _ | refine gr_alloc_of ?_ | refine gr_drew_of ?_)); rintro ev wz ⟨rfl, hgz⟩) | (go_at_call 20; (with_reducible refine (HRND.out.join0 _ ?hh).mono ?_); (case hh => repeat' (first | assumption | exact Gr.rf _ | refine gr_alloc_of ?_ | refine gr_drew_of ?_)); rintro ev wz ⟨⟨pz, Sz, rfl, hcz, hez⟩, hgz⟩) | (go_at_call 22; (with_reducible refine (HRND.out.open0 _ _ _ (by assumption) (by assumption)).mono ?_); rintro ev wz ⟨rfl, rfl⟩))
            try (go_wp2_with fail)
            clear hHeld
            refine hK.out _ _ ?hS (fun hHeld => ?_)
            case hS => ((try dsimp only); (first | (refine HK.out _ ?_; repeat' (first | assumption | exact Gr.rf _ | refine gr_alloc_of ?_ | refine gr_drew_of ?_))))
            clear hK K
            try simp only [Act.put, List.setIfInBounds_toArray, List.set_cons_zero, List.set_cons_succ]
            refine wpAnyH_take (i := 17) (v := ?vv67) rfl (by kernel_rfl) (by kernel_rfl) (by kernel_rfl) (fun _ _ _ h => h) (Or.inl ⟨by rfl, ?hy67⟩) (by assumption) ?_
            case hy67 => (intro w hSw; (try dsimp only at hSw); go_simp; try with_reducible rfl)
            try simp only [Act.put, List.setIfInBounds_toArray, List.set_cons_zero, List.set_cons_succ]
            refine wpAnyH_take (i := 18) (v := ?vv68) rfl (by kernel_rfl) (by kernel_rfl) (by kernel_rfl) (fun _ _ _ h => h) (Or.inl ⟨by rfl, ?hy68⟩) (by assumption) ?_
            case hy68 => (intro w hSw; (try dsimp only at hSw); go_simp; try with_reducible rfl)
            try simp only [Act.put, List.setIfInBounds_toArray, List.set_cons_zero, List.set_cons_succ]
            refine wpAnyH_take (i := 19) (v := ?vv69) rfl (by kernel_rfl) (by kernel_rfl) (by kernel_rfl) (fun _ _ _ h => h) (Or.inl ⟨by rfl, ?hy69⟩) (by assumption) ?_
            case hy69 => (intro w hSw; (try dsimp only at hSw); go_simp; try with_reducible rfl)
            try simp only [Act.put, List.setIfInBounds_toArray, List.set_cons_zero, List.set_cons_succ]
            refine wpAnyH_take (i := 21) (v := ?vv70) rfl (by kernel_rfl) (by kernel_rfl) (by kernel_rfl) (fun _ _ _ h => h) (Or.inl ⟨by rfl, ?hy70⟩) (by assumption) ?_
            case hy70 => (intro w hSw; (try dsimp only at hSw); go_simp; try with_reducible rfl)
            try simp only [Act.put, List.setIfInBounds_toArray, List.set_cons_zero, List.set_cons_succ]
            refine wpAnyH_take (i := 23) (v := ?vv71) rfl (by kernel_rfl) (by kernel_rfl) (by kernel_rfl) (fun _ _ _ h => h) (Or.inl ⟨by rfl, ?hy71⟩) (by assumption) ?_
            case hy71 => (intro w hSw; (try dsimp only at hSw); go_simp; try with_reducible rfl)
            try simp only [Act.put, List.setIfInBounds_toArray, List.set_cons_zero, List.set_cons_succ]
            refine wpAnyH_ready (rs := [20]) (by kernel_rfl) (by simp) ?_
            refine AllReadyH.cons rfl (fun K hK => ?_) AllReadyH.nil
            go_simp
            (first | (go_at_call 22; (with_reducible refine (HRND.out.oA _ ?hh).mono ?_); (case hh => repeat' (first | assumption | exact Gr.rf _ | refine gr_alloc_of ?_ | refine gr_drew_of ?_)); rintro ev wz ⟨rfl, rfl⟩) | (go_at_call 22; (with_reducible refine (HRND.out.oJ _ ?hh).mono ?_); (case hh => repeat' (first | assumption | exact Gr.rf _ | refine gr_alloc_of ?_ | refine gr_drew_of ?_)); rintro ev wz ⟨rfl, rfl⟩) | (go_at_call 22; (with_reducible refine (HRND.out.oB _ ?hh).mono ?_); (case hh => repeat' (first | assumption | exact Gr.rf _ | refine gr_alloc_of ?_ | refine gr_drew_of ?_)); rintro ev wz ⟨rfl, rfl⟩) | (go_at_call 23; (with_reducible refine (HRND.out.ref1 _ _ ?hh ?hb).mono ?_); (case hb => exact heap_alloc_new _ _); (case hh => repeat' (first | assumption | exact Gr.rf _ | refine gr_alloc_of ?_ | refine gr_drew_of ?_)); rintro ev wz ⟨rfl, hgz⟩) | (go_at_call 23; (with_reducible refine (HRND.out.ref2 _ _ ?hh ?hb).mono ?_); (case hb => exact heap_alloc_new _ _); (case hh => repeat' (first | assumption | exact Gr.rf _ | refine gr_alloc_of ?_ | refine gr_drew_of ?_)); rintro ev wz ⟨rfl, hgz⟩) | (go_at_call 23; (with_reducible refine (HRND.out.ref0 _ ?hh).mono ?_); (case hh => repeat' (first | assumption | exact Gr.rf _ | refine gr_alloc_of ?_ | refine gr_drew_of ?_)); rintro ev wz ⟨rfl, hgz⟩) | (go_at_call 20; (with_reducible refine (HRND.out.join0 _ ?hh).mono ?_); (case hh => repeat' (first | assumption | exact Gr.rf _ | refine gr_alloc_of ?_ | refine gr_drew_of ?_)); rintro ev wz ⟨⟨pz, Sz, rfl, hcz, hez⟩, hgz⟩) | (go_at_call 22; (with_reducible refine (HRND.out.open0 _ _ _ (by assumption) (by assumption)).mono ?_); rintro ev wz ⟨rfl, rfl⟩))
            try (go_wp2_with fail)
            clear hHeld
            refine hK.out _ _ ?hS (fun hHeld => ?_)
            case hS => ((try dsimp only); (first | (refine HK.out _ ?_; repeat' (first | assumption | exact Gr.rf _ | refine gr_alloc_of ?_ | refine gr_drew_of ?_))))
            clear hK K
            try simp only [Act.put, List.setIfInBounds_toArray, List.set_cons_zero, List.set_cons_succ]
            refine wpAnyH_ready (rs := [22]) (by kernel_rfl) (by simp) ?_
            refine AllReadyH.cons rfl (fun K hK => ?_) AllReadyH.nil
            go_simp
            (first | (go_at_call 22; (with_reducible refine (HRND.out.oA _ ?hh).mono ?_); (case hh => repeat' (first | assumption | exact Gr.rf _ | refine gr_alloc_of ?_ | refine gr_drew_of ?_)); rintro ev wz ⟨rfl, rfl⟩) | (go_at_call 22; (with_reducible refine (HRND.out.oJ _ ?hh).mono ?_); (case hh => repeat' (first | assumption | exact Gr.rf _ | refine gr_alloc_of ?_ | refine gr_drew_of ?_)); rintro ev wz ⟨rfl, rfl⟩) | (go_at_call 22; (with_reducible refine (HRND.out.oB _ ?hh).mono ?_); (case hh => repeat' (first | assumption | exact Gr.rf _ | refine gr_alloc_of ?_ | refine gr_drew_of ?_)); rintro ev wz ⟨rfl, rfl⟩) | (go_at_call 23; (with_reducible refine (HRND.out.ref1 _ _ ?hh ?hb).mono ?_); (case hb => exact heap_alloc_new _ _); (case hh => repeat' (first | assumption | exact Gr.rf _ | refine gr_alloc_of ?_ | refine gr_drew_of ?_)); rintro ev wz ⟨rfl, hgz⟩) | (go_at_call 23; (with_reducible refine (HRND.out.ref2 _ _ ?hh ?hb).mono ?_); (case hb => exact heap_alloc_new _ _); (case hh => repeat' (first | assumption | exact Gr.rf _ | refine gr_alloc_of ?_ | refine gr_drew_of ?_)); rintro ev wz ⟨rfl, hgz⟩) | (go_at_call 23; (with_reducible refine (HRND.out.ref0 _ ?hh).mono ?_); (case hh => repeat' (first | assumption | exact Gr.rf _ | refine gr_alloc_of ?_ | refine gr_drew_of ?_)); rintro ev wz ⟨rfl, hgz⟩) | (go_at_call 20; (with_reducible refine (HRND.out.join0 _ ?hh).mono ?_); (case hh => repeat' (first | assumption | exact Gr.rf _ | refine gr_alloc_of ?_ | refine gr_drew_of ?_)); rintro ev wz ⟨⟨pz, Sz, rfl, hcz, hez⟩, hgz⟩) | (go_at_call 22; (with_reducible refine (HRND.out.open0 _ _ _ (by assumption) (by assumption)).mono ?_); rintro ev wz ⟨rfl, rfl⟩))
            try (go_wp2_with fail)
            clear hHeld
            refine hK.out _ _ ?hS (fun hHeld => ?_)
            case hS => ((try dsimp only); (first | (refine HK.out _ ?_; repeat' (first | assumption | exact Gr.rf _ | refine gr_alloc_of ?_ | refine gr_drew_of ?_))))
            clear hK K
            try simp only [Act.put, List.setIfInBounds_toArray, List.set_cons_zero, List.set_cons_succ]
            refine wpAnyH_ready (rs := [24]) (by kernel_rfl) (by simp) ?_
            refine AllReadyH.cons rfl (fun K hK => ?_) AllReadyH.nil
            go_simp
            (first | (go_at_call 22; (with_reducible refine (HRND.out.oA _ ?hh).mono ?_); (case hh => repeat' (first | assumption | exact Gr.rf _ | refine gr_alloc_of ?_ | refine gr_drew_of ?_)); rintro ev wz ⟨rfl, rfl⟩) | (go_at_call 22; (with_reducible refine (HRND.out.oJ _ ?hh).mono ?_); (case hh => repeat' (first | assumption | exact Gr.rf _ | refine gr_alloc_of ?_ | refine gr_drew_of ?_)); rintro ev wz ⟨rfl, rfl⟩) | (go_at_call 22; (with_reducible refine (HRND.out.oB _ ?hh).mono ?_); (case hh => repeat' (first | assumption | exact Gr.rf _ | refine gr_alloc_of ?_ | refine gr_drew_of ?_)); rintro ev wz ⟨rfl, rfl⟩) | (go_at_call 23; (with_reducible refine (HRND.out.ref1 _ _ ?hh ?hb).mono ?_); (case hb => exact heap_alloc_new _ _); (case hh => repeat' (first | assumption | exact Gr.rf _ | refine gr_alloc_of ?_ | refine gr_drew_of ?_)); rintro ev wz ⟨rfl, hgz⟩) | (go_at_call 23; (with_reducible refine (HRND.out.ref2 _ _ ?hh ?hb).mono ?_); (case hb => exact heap_alloc_new _ _); (case hh => repeat' (first | assumption | exact Gr.rf _ | refine gr_alloc_of ?_ | refine gr_drew_of ?_)); rintro ev wz ⟨rfl, hgz⟩) | (go_at_call 23; (with_reducible refine (HRND.out.ref0 _ ?hh).mono ?_); (case hh => repeat' (first | assumption | exact Gr.rf _ | refine gr_alloc_of ?_ | refine gr_drew_of ?_)); rintro ev wz ⟨rfl, hgz⟩) | (go_at_call 20; (with_reducible refine (HRND.out.join0 _ ?hh).mono ?_); (case hh => repeat' (first | assumption | exact Gr.rf _ | refine gr_alloc_of ?_ | refine gr_drew_of ?_)); rintro ev wz ⟨⟨pz, Sz, rfl, hcz, hez⟩, hgz⟩) | (go_at_call 22; (with_reducible refine (HRND.out.open0 _ _ _ (by assumption) (by assumption)).mono ?_); rintro ev wz ⟨rfl, rfl⟩))
            try (go_wp2_with fail)
            clear hHeld
            refine hK.out _ _ ?hS (fun hHeld => ?_)
            case hS => ((try dsimp only); (first | (refine HK.out _ ?_; repeat' (first | assumption | exact Gr.rf _ | refine gr_alloc_of ?_ | refine gr_drew_of ?_))))
            clear hK K
            try simp only [Act.put, List.setIfInBounds_toArray, List.set_cons_zero, List.set_cons_succ]
            refine wpAnyH_take (i := 25) (v := ?vv72) rfl (by kernel_rfl) (by kernel_rfl) (by kernel_rfl) (fun _ _ _ h => h) (Or.inl ⟨by rfl, ?hy72⟩) (by assumption) ?_
            case hy72 => (intro w hSw; (try dsimp only at hSw); go_simp; try with_reducible rfl)
            try simp only [Act.put, List.setIfInBounds_toArray, List.set_cons_zero, List.set_cons_succ]
            refine wpAnyH_take (i := 26) (v := ?vv73) rfl (by kernel_rfl) (by kernel_rfl) (by kernel_rfl) (fun _ _ _ h => h) (Or.inl ⟨by rfl, ?hy73⟩) (by assumption) ?_
            case hy73 => (intro w hSw; (try dsimp only at hSw); go_simp; try with_reducible rfl)
            try simp only [Act.put, List.setIfInBounds_toArray, List.set_cons_zero, List.set_cons_succ]
            refine wpAnyH_take (i := 27) (v := ?vv74) rfl (by kernel_rfl) (by kernel_rfl) (by kernel_rfl) (fun _ _ _ h => h) (Or.inl ⟨by rfl, ?hy74⟩) (by assumption) ?_
            case hy74 => (intro w hSw; (try dsimp only at hSw); go_simp; try with_reducible rfl)
            try simp only [Act.put, List.setIfInBounds_toArray, List.set_cons_zero, List.set_cons_succ]
            refine wpAnyH_take (i := 28) (v := ?vv75) rfl (by kernel_rfl) (by kernel_rfl) (by kernel_rfl) (fun _ _ _ h => h) (Or.inl ⟨by rfl, ?hy75⟩) (by assumption) ?_
            case hy75 => (intro w hSw; (try dsimp only at hSw); go_simp; try with_reducible rfl)
            try simp only [Act.put, List.setIfInBounds_toArray, List.set_cons_zero, List.set_cons_succ]
            refine wpAnyH_take (i := 29) (v := ?vv76) rfl (by kernel_rfl) (by kernel_rfl) (by kernel_rfl) (fun _ _ _ h => h) (Or.inl ⟨by rfl, ?hy76⟩) (by assumption) ?_
            case hy76 => (intro w hSw; (try dsimp only at hSw); go_simp; try with_reducible rfl)
            try simp only [Act.put, List.setIfInBounds_toArray, List.set_cons_zero, List.set_cons_succ]
            refine wpAnyH_take (i := 31) (v := ?vv77) rfl (by kernel_rfl) (by kernel_rfl) (by kernel_rfl) (fun _ _ _ h => h) (Or.inl ⟨by rfl, ?hy77⟩) (by assumption) ?_
            case hy77 => (intro w hSw; (try dsimp only at hSw); go_simp; try with_reducible rfl)
            try simp only [Act.put, List.setIfInBounds_toArray, List.set_cons_zero, List.set_cons_succ]
            refine wpAnyH_take (i := 32) (v := ?vv78) rfl (by kernel_rfl) (by kernel_rfl) (by kernel_rfl) (fun _ _ _ h => h) (Or.inl ⟨by rfl, ?hy78⟩) (by assumption) ?_
            case hy78 => (intro w hSw; (try dsimp only at hSw); go_simp; try with_reducible rfl)
            try simp only [Act.put, List.setIfInBounds_toArray, List.set_cons_zero, List.set_cons_succ]
            refine wpAnyH_ready (rs := [30]) (by kernel_rfl) (by simp) ?_
            refine AllReadyH.cons rfl (fun K hK => ?_) AllReadyH.nil
            go_simp
            (first | (go_at_call 22; (with_reducible refine (HRND.out.oA _ ?hh).mono ?_); (case hh => repeat' (first | assumption | exact Gr.rf _ | refine gr_alloc_of ?_ | refine gr_drew_of ?_)); rintro ev wz ⟨rfl, rfl⟩) | (go_at_call 22; (with_reducible refine (HRND.out.oJ _ ?hh).mono ?_); (case hh => repeat' (first | assumption | exact Gr.rf _ | refine gr_alloc_of ?_ | refine gr_drew_of ?_)); rintro ev wz ⟨rfl, rfl⟩) | (go_at_call 22; (with_reducible refine (HRND.out.oB _ ?hh).mono ?_); (case hh => repeat' (first | assumption | exact Gr.rf _ | refine gr_alloc_of ?_ | refine gr_drew_of ?_)); rintro ev wz ⟨rfl, rfl⟩) | (go_at_call 23; (with_reducible refine (HRND.out.ref1 _ _ ?hh ?hb).mono ?_); (case hb => exact heap_alloc_new _ _); (case hh => repeat' (first | assumption | exact Gr.rf _ | refine gr_alloc_of ?_ | refine gr_drew_of ?_)); rintro ev wz ⟨rfl, hgz⟩) | (go_at_call 23; (with_reducible refine (HRND.out.ref2 _ _ ?hh ?hb).mono ?_); (case hb => exact heap_alloc_new _ _); (case hh => repeat' (first | assumption | exact Gr.rf _ | refine gr_alloc_of ?_ | refine gr_drew_of ?_)); rintro ev wz ⟨rfl, hgz⟩) | (go_at_call 23; (with_reducible refine (HRND.out.ref0 _ ?hh).mono ?_); (case hh => repeat' (first | assumption | exact Gr.rf _ | refine gr_alloc_of ?_ | refine gr_drew_of ?_)); rintro ev wz ⟨rfl, hgz⟩) | (go_at_call 20; (with_reducible refine (HRND.out.join0 _ ?hh).mono ?_); (case hh => repeat' (first | assumption | exact Gr.rf _ | refine gr_alloc_of ?_ | refine gr_drew_of ?_)); rintro ev wz ⟨⟨pz, Sz, rfl, hcz, hez⟩, hgz⟩) | (go_at_call 22; (with_reducible refine (HRND.out.open0 _ _ _ (by assumption) (by assumption)).mono ?_); rintro ev wz ⟨rfl, rfl⟩))
            try (go_wp2_with fail)
            clear hHeld
            refine hK.out _ _ ?hS (fun hHeld => ?_)
            case hS => ((try dsimp only); (first | (refine HK.out _ ?_; repeat' (first | assumption | exact Gr.rf _ | refine gr_alloc_of ?_ | refine gr_drew_of ?_))))
            clear hK K
            try simp only [Act.put, List.setIfInBounds_toArray, List.set_cons_zero, List.set_cons_succ]
            refine wpAnyH_ready (rs := [33]) (by kernel_rfl) (by simp) ?_
            refine AllReadyH.cons rfl (fun K hK => ?_) AllReadyH.nil
            go_simp
            (first | (go_at_call 22; (with_reducible refine (HRND.out.oA _ ?hh).mono ?_); (case hh => repeat' (first | assumption | exact Gr.rf _ | refine gr_alloc_of ?_ | refine gr_drew_of ?_)); rintro ev wz ⟨rfl, rfl⟩) | (go_at_call 22; (with_reducible refine (HRND.out.oJ _ ?hh).mono ?_); (case hh => repeat' (first | assumption | exact Gr.rf _ | refine gr_alloc_of ?_ | refine gr_drew_of ?_)); rintro ev wz ⟨rfl, rfl⟩) | (go_at_call 22; (with_reducible refine (HRND.out.oB _ ?hh).mono ?_); (case hh => repeat' (first | assumption | exact Gr.rf _ | refine gr_alloc_of ?_ | refine gr_drew_of ?_)); rintro ev wz ⟨rfl, rfl⟩) | (go_at_call 23; (with_reducible refine (HRND.out.ref1 _ _ ?hh ?hb).mono ?_); (case hb => exact heap_alloc_new _ _); (case hh => repeat' (first | assumption | exact Gr.rf _ | refine gr_alloc_of ?_ | refine gr_drew_of ?_)); rintro ev wz ⟨rfl, hgz⟩) | (go_at_call 23; (with_reducible refine (HRND.out.ref2 _ _ ?hh ?hb).mono ?_); (case hb => exact heap_alloc_new _ _); (case hh => repeat' (first | assumption | exact Gr.rf _ | refine gr_alloc_of ?_ | refine gr_drew_of ?_)); rintro ev wz ⟨rfl, hgz⟩) | (go_at_call 23; (with_reducible refine (HRND.out.ref0 _ ?hh).mono ?_); (case hh => repeat' (first | assumption | exact Gr.rf _ | refine gr_alloc_of ?_ | refine gr_drew_of ?_)); rintro ev wz ⟨rfl, hgz⟩) | (go_at_call 20; (with_reducible refine (HRND.out.join0 _ ?hh).mono ?_); (case hh => repeat' (first | assumption | exact Gr.rf _ | refine gr_alloc_of ?_ | refine gr_drew_of ?_)); rintro ev wz ⟨⟨pz, Sz, rfl, hcz, hez⟩, hgz⟩) | (go_at_call 22; (with_reducible refine (HRND.out.open0 _ _ _ (by assumption) (by assumption)).mono ?_); rintro ev wz ⟨rfl, rfl⟩))
            try (go_wp2_with fail)
            clear hHeld
            refine hK.out _ _ ?hS (fun hHeld => ?_)
            case hS => ((try dsimp only); (first | (refine HK.out _ ?_; repeat' (first | assumption | exact Gr.rf _ | refine gr_alloc_of ?_ | refine gr_drew_of ?_))))
            clear hK K
            try simp only [Act.put, List.setIfInBounds_toArray, List.set_cons_zero, List.set_cons_succ]
            refine wpAnyH_take (i := 34) (v := ?vv79) rfl (by kernel_rfl) (by kernel_rfl) (by kernel_rfl) (fun _ _ _ h => h) (Or.inl ⟨by rfl, ?hy79⟩) (by assumption) ?_
            case hy79 => (intro w hSw; (try dsimp only at hSw); go_simp; try with_reducible rfl)
            try simp only [Act.put, List.setIfInBounds_toArray, List.set_cons_zero, List.set_cons_succ]
            refine wpAnyH_take (i := 35) (v := undef) rfl (by kernel_rfl) (by kernel_rfl) (by kernel_rfl) (fun _ _ _ h => h) (Or.inr ⟨by rfl, rfl⟩) (by assumption) ?_
            try simp only [Act.put, List.setIfInBounds_toArray, List.set_cons_zero, List.set_cons_succ]
            refine wpAnyH_take (i := 36) (v := undef) rfl (by kernel_rfl) (by kernel_rfl) (by kernel_rfl) (fun _ _ _ h => h) (Or.inr ⟨by rfl, rfl⟩) (by assumption) ?_
            try simp only [Act.put, List.setIfInBounds_toArray, List.set_cons_zero, List.set_cons_succ]
            refine wpAnyH_take (i := 37) (v := undef) rfl (by kernel_rfl) (by kernel_rfl) (by kernel_rfl) (fun _ _ _ h => h) (Or.inr ⟨by rfl, rfl⟩) (by assumption) ?_
            try simp only [Act.put, List.setIfInBounds_toArray, List.set_cons_zero, List.set_cons_succ]
            refine wpAnyH_take (i := 38) (v := ?vv80) rfl (by kernel_rfl) (by kernel_rfl) (by kernel_rfl) (fun _ _ _ h => h) (Or.inl ⟨by rfl, ?hy80⟩) (by assumption) ?_
            case hy80 => (intro w hSw; (try dsimp only at hSw); go_simp; try with_reducible rfl)
            try simp only [Act.put, List.setIfInBounds_toArray, List.set_cons_zero, List.set_cons_succ]
            refine wpAnyH_take (i := 39) (v := ?vv81) rfl (by kernel_rfl) (by kernel_rfl) (by kernel_rfl) (fun _ _ _ h => h) (Or.inl ⟨by rfl, ?hy81⟩) (by assumption) ?_
            case hy81 => (intro w hSw; (try dsimp only at hSw); go_simp; try with_reducible rfl)
            try simp only [Act.put, List.setIfInBounds_toArray, List.set_cons_zero, List.set_cons_succ]
            refine wpAnyH_take (i := 40) (v := ?vv82) rfl (by kernel_rfl) (by kernel_rfl) (by kernel_rfl) (fun _ _ _ h => h) (Or.inl ⟨by rfl, ?hy82⟩) (by assumption) ?_
            case hy82 => (intro w hSw; (try dsimp only at hSw); go_simp; try with_reducible rfl)
            try simp only [Act.put, List.setIfInBounds_toArray, List.set_cons_zero, List.set_cons_succ]
            refine wpAnyH_done (by kernel_rfl) ?_ _
            refine NoPanic.normal ?_
            go_wp2
            go_roundg (gk - 1)
            case measure => have := HGX.out; omega
            case rel => exact ⟨x + 1, by have := HGX.out; omega, by omega, by omega, rfl, Lib.hid (by repeat' (first | assumption | exact Gr.rf _ | refine gr_alloc_of ?_ | refine gr_drew_of ?_))⟩
    · have bl : decide (x < d + 8) = false := decide_eq_false hlt
      go_wp2
      go_ret
      exact ⟨by first | rfl | simp, HG0.out.tr HGR.out⟩
end Go.Proofs.YtglbdafcfcmffaaGreatDoor
