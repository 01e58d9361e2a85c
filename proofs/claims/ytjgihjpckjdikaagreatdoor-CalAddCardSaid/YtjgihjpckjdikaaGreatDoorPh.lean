/- Layer 6: 'so many open days on, or back: as one counts them', walked. -/
import Derived.Test.YtjgihjpckjdikaaGreatDoorPi
namespace Go.Proofs.YtjgihjpckjdikaaGreatDoor
open Go.RowKit Go.Extern.Stop Go.Stop Go.Extern
set_option linter.unusedVariables false
set_option linter.unusedSimpArgs false

def LoopU (S : Int → Bool) (d n i x : Int) (ok : Bool) : Prop := (ok = true ∧ 0 ≤ x ∧ x ≤ 109572 ∧ UpI S d n i x) ∨ (ok = false ∧ AddR S d n (-1))
def LoopD (S : Int → Bool) (d n i x : Int) (ok : Bool) : Prop := (ok = true ∧ 0 ≤ x ∧ x ≤ 109572 ∧ DnI S d (-n) (-i) x) ∨ (ok = false ∧ AddR S d n (-1))
theorem loopU_next {S : Int → Bool} {d n i x r : Int} (h : LoopU S d n i x true) (hi : 0 < i) (hr : UpR S (x + 1) r) : (r = -1 ∧ LoopU S d n (i - 1) 0 false) ∨ (r ≠ -1 ∧ LoopU S d n (i - 1) r true) := by
  rcases h with ⟨_, h0, h1, h2⟩ | ⟨h, _⟩
  · rcases hr with ⟨h3, h4⟩ | ⟨h3, h4, h5, h6⟩
    · exact .inl ⟨h3, .inr ⟨rfl, upI_none (upI_out h2 h1 h4) (by omega)⟩⟩
    · exact .inr ⟨by omega, .inl ⟨rfl, by omega, h4, upI_open h2 h1 (by omega) h5 h6⟩⟩
  · cases h
theorem loopD_next {S : Int → Bool} {d n i x r : Int} (h : LoopD S d n i x true) (hi : i < 0) (hr : DnR S (x - 1) r) : (r = -1 ∧ LoopD S d n (i + 1) 0 false) ∨ (r ≠ -1 ∧ LoopD S d n (i + 1) r true) := by
  rcases h with ⟨_, h0, h1, h2⟩ | ⟨h, _⟩
  · rw [DnR, show x - 1 + 1 = x by omega] at hr
    rcases hr with ⟨h3, h4⟩ | ⟨h3, h4, h5, h6⟩
    · refine .inl ⟨h3, .inr ⟨rfl, ?_⟩⟩
      have h7 := dnI_out h2 h0 (by rw [opU_zero S (-1 + 1) (by omega), h4])
      have h8 := dnI_none h7 (by omega) (by rcases h2 with ⟨_, _, ⟨a, _⟩ | ⟨a, _⟩⟩ | ⟨_, a, _⟩ <;> omega)
      rw [Int.neg_neg] at h8
      exact h8
    · refine .inr ⟨by omega, .inl ⟨rfl, h3, by omega, ?_⟩⟩
      rw [show -(i + 1) = -i - 1 by omega]
      exact dnI_open h2 h0 (by omega) h5 h6
  · cases h
theorem loopU_done {S : Int → Bool} {d n x : Int} (h : LoopU S d n 0 x true) (hn : 0 ≤ n) : AddR S d n x ∧ x ≠ -1 := by
  rcases h with ⟨_, h0, h1, h2⟩ | ⟨h, _⟩
  · exact ⟨upI_done h2 h1 hn, by omega⟩
  · cases h
theorem loopD_done {S : Int → Bool} {d n x : Int} (h : LoopD S d n 0 x true) (hn : n < 0) : AddR S d n x ∧ x ≠ -1 := by
  rcases h with ⟨_, h0, h1, h2⟩ | ⟨h, _⟩
  · have h3 := dnI_done (n := -n) (by rw [Int.neg_zero] at h2; exact h2) h0 (by omega)
    rw [Int.neg_neg] at h3
    exact ⟨h3, by omega⟩
  · cases h
set_option maxRecDepth 100000 in
set_option maxHeartbeats 32000000 in
theorem calAdd_core (rs : List Ru) (v : Value) (ms : List Int) (v2 : Value) (n k d K : Int) (hK : k.tmod 40 = K) (K0 : -40 < K) (K1 : K < 40) (hd0 : 0 ≤ d) (hd1 : d ≤ 109572) (hdy : ∀ w, Calls Tryz.prog 26 #[.int .i64 n] w fun e w' => e = .returned (.int .i64 d) ∧ w = w')
    (n0 : -9223372036854775808 ≤ n) (n1 : n ≤ 9223372036854775807) (k0 : -9223372036854775808 ≤ k) (k1 : k ≤ 9223372036854775807) (w : World) (hM : Met2 w)
    (hr : RulesAt w v rs) (hl : rs.length ≤ 9223372036854775807) (hr2 : DaysAt w v2 ms) (hl2 : ms.length ≤ 9223372036854775807) :
    Calls Tryz.prog 13 #[v, v2, .int .i64 n, .int .i64 k] w fun e w' => e = .returned (.bool true) ∧ Gr w w' := by
  have HBG := Lib.hid (begun6_calls w hM)
  have HM := Lib.hid hM
  have HR := Lib.hid hr
  have HR2 := Lib.hid hr2
  have HL := Lib.hid hl
  have HL2 := Lib.hid hl2
  have HDY := Lib.hid hdy
  clear hdy hM hr hl hr2 hl2
  go_enter Tryz.func13, Tryz.ntmps13
  go_wp2_with (go_at_call 18; (with_reducible refine HBG.out.mono ?_); rintro ev w1 ⟨rfl, hg1⟩)
  refine (rules_calls rs v w1 (HR.out.gr hg1) HL.out).mono ?_
  rintro ev w2 ⟨⟨u, rfl, hu⟩, hg2⟩
  have HU := Lib.hid hu
  have HG2 := Lib.hid (hg1.tr hg2)
  clear hu hg1 hg2
  go_wp2_with fail
  refine (days_calls ms v2 w2 (HR2.out.gr HG2.out) HL2.out).mono ?_
  rintro ev w3 ⟨⟨u3, rfl, hu3⟩, hg3⟩
  have hu2 := HU.out.gr hg3
  obtain ⟨ao, uc, hue, _⟩ := hu2.view
  obtain ⟨ao3, uc3, hue3, _⟩ := hu3.view
  subst hue hue3
  have HU3 := Lib.hid hu3
  have HU2 := Lib.hid hu2
  have HG3 := Lib.hid (HG2.out.tr hg3)
  clear hu3 hg3 hu2
  go_wp2_with fail
  refine (newL_calls rs ms _ _ w3 HU2.out HU3.out).mono ?_
  rintro ev w4 ⟨⟨p, bc, nc, S, rfl, hci, hsb, hnc⟩, hg4⟩
  have HG4 := Lib.hid (HG3.out.tr hg4)
  have HCA := Lib.hid hci.at_
  have HSH := Lib.hid (shutC_one hsb)
  have HAD := Lib.hid (cadd_calls (.pointer (some ⟨p, 0, none⟩)) S d K hd0 hd1 (by omega) (by omega) w4 hci.at_)
  have HU4 := Lib.hid (HU2.out.gr hg4)
  have HV4 := Lib.hid (HU3.out.gr hg4)
  clear hci hsb hnc hg4
  go_wp2_with (go_at_call 26; (with_reducible refine (HDY.out _).mono ?_); rintro ev w7 ⟨rfl, rfl⟩)
  refine HAD.out.mono ?_
  rintro ev w5 ⟨⟨r, hra, he⟩, rfl⟩
  have HRA := Lib.hid hra
  have hrc := rcal_one w4 HU4.out HV4.out (by have := rulesL_le rs; omega) (by have := daysL_le ms; omega)
  have hgc : Gr w4 (w4.alloc (.cells #[.slice ao (rulesL rs).length uc, .slice ao3 (daysL ms).length uc3] 48)) := (Gr.rf w4).alloc (Nat.le_refl _) _
  have hrr := addR_range hd0 hd1 hra
  by_cases hne : r = -1
  · have hrm1 := hne
    rw [hne, atE_no] at he
    subst he
    rcases (by omega : 0 < K ∨ K < 0 ∨ K = 0) with hs | hs | hs
    · have bs : decide (K < 0) = false := decide_eq_false (by omega)
      go_wp2_with fail
      generalize w4.alloc (.cells #[.slice ao (rulesL rs).length uc, .slice ao3 (daysL ms).length uc3] 48) = W4 at hrc hgc ⊢
      generalize w4.heap.size = rb at hrc ⊢
      have HRC := Lib.hid hrc
      have HGC := Lib.hid hgc
      clear hrc hgc
      go_loopg [16, 18, 19] K.toNat (fun g s16 s18 s19 wr => ∃ (x i : Int) (ok : Bool), 0 ≤ i ∧ i ≤ K ∧ 0 ≤ x ∧ x ≤ 109572 ∧ g = i.toNat ∧ s16 = .int .i64 x ∧ s18 = .bool ok ∧ s19 = .int .i64 i ∧ Hid (LoopU S d K i x ok) ∧ Hid (Gr W4 wr))
      case atStart => exact ⟨d, K, true, by omega, by omega, hd0, hd1, rfl, rfl, rfl, rfl, Lib.hid (.inl ⟨rfl, hd0, hd1, .inl ⟨hd0, hd1, .inl ⟨rfl, rfl⟩⟩⟩), Lib.hid (Gr.rf W4)⟩
      case round =>
        obtain ⟨x, i, ok, hi0, hi1, hx0, hx1, hg, rfl, rfl, rfl, HI, HGQ⟩ := hrel
        have HGL := Lib.hid (HGC.out.tr HGQ.out)
        have HGG := Lib.hid hg
        clear hg
        cases ok with
        | false =>
          have hrm : r = -1 := by
            rcases HI.out with ⟨h, _⟩ | ⟨_, h⟩
            · cases h
            · exact addR_uniq HRA.out h
          by_cases hiz : i = 0
          · have bi : (i != 0) = false := by simp [hiz]
            have hx00 : True := trivial
            go_wp2_with fail
            refine (sameDate_calls _ (HM.out.keep (HG4.out.tr HGL.out)).1).mono ?_
            rintro ev w9 ⟨rfl, hg9⟩
            have HG9 := Lib.hid (HGL.out.tr hg9)
            clear hg9
            go_wp2
            go_ret
            exact ⟨by first | rfl | simp, HG4.out.tr HG9.out⟩
          · have bi : (i != 0) = true := by simp [hiz]
            go_wp2_with fail
            refine (sameDate_calls _ (HM.out.keep (HG4.out.tr HGL.out)).1).mono ?_
            rintro ev w9 ⟨rfl, hg9⟩
            have HG9 := Lib.hid (HGL.out.tr hg9)
            clear hg9
            go_wp2
            go_ret
            exact ⟨by first | rfl | simp, HG4.out.tr HG9.out⟩
        | true =>
          by_cases hiz : i = 0
          · subst hiz
            have hdn := loopU_done HI.out (by omega)
            have hrx := addR_uniq HRA.out hdn.1
            exact absurd (hrx.symm.trans hrm1) hdn.2
          · have bi : (i != 0) = true := by simp [hiz]
            have hip : 0 < i := by omega
            have HNX := Lib.hid (rnext_up _ _ S HSH.out (x + 1) (by omega) (by omega) wr (HRC.out.gr HGQ.out) (by simp))
            clear hiz
            go_wp2_with fail
            refine HNX.out.mono ?_
            rintro ev w8 ⟨⟨r2, he2, hr2⟩, hg8⟩
            have hst := loopU_next HI.out (by omega) hr2
            rcases hst with ⟨h1, h2⟩ | ⟨h1, h2⟩
            · rw [h1, nextE_no] at he2
              subst he2
              have HI2 := Lib.hid h2
              have HG8 := Lib.hid (HGQ.out.tr hg8)
              clear h1 h2 hr2 hg8
              go_wp2
              go_roundg (i - 1).toNat
              case measure => have := HGG.out; omega
              case rel => exact ⟨0, i - 1, false, by omega, by omega, by omega, by omega, rfl, rfl, rfl, rfl, HI2, HG8⟩
            · rw [nextE_ok h1] at he2
              subst he2
              have hrr2 := openB_range (upR_open hr2 h1)
              have HI2 := Lib.hid h2
              have HG8 := Lib.hid (HGQ.out.tr hg8)
              clear h1 h2 hr2 hg8
              go_wp2
              go_roundg (i - 1).toNat
              case measure => have := HGG.out; omega
              case rel => exact ⟨r2, i - 1, true, by omega, by omega, hrr2.1, hrr2.2, rfl, rfl, rfl, rfl, HI2, HG8⟩
    · have bs : decide (K < 0) = true := decide_eq_true hs
      go_wp2_with fail
      generalize w4.alloc (.cells #[.slice ao (rulesL rs).length uc, .slice ao3 (daysL ms).length uc3] 48) = W4 at hrc hgc ⊢
      generalize w4.heap.size = rb at hrc ⊢
      have HRC := Lib.hid hrc
      have HGC := Lib.hid hgc
      clear hrc hgc
      go_loopg [16, 18, 19] (-K).toNat (fun g s16 s18 s19 wr => ∃ (x i : Int) (ok : Bool), K ≤ i ∧ i ≤ 0 ∧ 0 ≤ x ∧ x ≤ 109572 ∧ g = (-i).toNat ∧ s16 = .int .i64 x ∧ s18 = .bool ok ∧ s19 = .int .i64 i ∧ Hid (LoopD S d K i x ok) ∧ Hid (Gr W4 wr))
      case atStart => exact ⟨d, K, true, by omega, by omega, hd0, hd1, rfl, rfl, rfl, rfl, Lib.hid (.inl ⟨rfl, hd0, hd1, .inl ⟨hd0, hd1, .inl ⟨rfl, rfl⟩⟩⟩), Lib.hid (Gr.rf W4)⟩
      case round =>
        obtain ⟨x, i, ok, hi0, hi1, hx0, hx1, hg, rfl, rfl, rfl, HI, HGQ⟩ := hrel
        have HGL := Lib.hid (HGC.out.tr HGQ.out)
        have HGG := Lib.hid hg
        clear hg
        cases ok with
        | false =>
          have hrm : r = -1 := by
            rcases HI.out with ⟨h, _⟩ | ⟨_, h⟩
            · cases h
            · exact addR_uniq HRA.out h
          by_cases hiz : i = 0
          · have bi : (i != 0) = false := by simp [hiz]
            have hx00 : True := trivial
            go_wp2_with fail
            refine (sameDate_calls _ (HM.out.keep (HG4.out.tr HGL.out)).1).mono ?_
            rintro ev w9 ⟨rfl, hg9⟩
            have HG9 := Lib.hid (HGL.out.tr hg9)
            clear hg9
            go_wp2
            go_ret
            exact ⟨by first | rfl | simp, HG4.out.tr HG9.out⟩
          · have bi : (i != 0) = true := by simp [hiz]
            go_wp2_with fail
            refine (sameDate_calls _ (HM.out.keep (HG4.out.tr HGL.out)).1).mono ?_
            rintro ev w9 ⟨rfl, hg9⟩
            have HG9 := Lib.hid (HGL.out.tr hg9)
            clear hg9
            go_wp2
            go_ret
            exact ⟨by first | rfl | simp, HG4.out.tr HG9.out⟩
        | true =>
          by_cases hiz : i = 0
          · subst hiz
            have hdn := loopD_done HI.out (by omega)
            have hrx := addR_uniq HRA.out hdn.1
            exact absurd (hrx.symm.trans hrm1) hdn.2
          · have bi : (i != 0) = true := by simp [hiz]
            have hip : i < 0 := by omega
            have HNX := Lib.hid (rnext_dn _ _ S HSH.out (x - 1) (by omega) (by omega) wr (HRC.out.gr HGQ.out) (by simp))
            clear hiz
            go_wp2_with fail
            refine HNX.out.mono ?_
            rintro ev w8 ⟨⟨r2, he2, hr2⟩, hg8⟩
            have hst := loopD_next HI.out (by omega) hr2
            rcases hst with ⟨h1, h2⟩ | ⟨h1, h2⟩
            · rw [h1, nextE_no] at he2
              subst he2
              have HI2 := Lib.hid h2
              have HG8 := Lib.hid (HGQ.out.tr hg8)
              clear h1 h2 hr2 hg8
              go_wp2
              go_roundg (-(i + 1)).toNat
              case measure => have := HGG.out; omega
              case rel => exact ⟨0, i + 1, false, by omega, by omega, by omega, by omega, rfl, rfl, rfl, rfl, HI2, HG8⟩
            · rw [nextE_ok h1] at he2
              subst he2
              have hrr2 := openB_range (dnR_open hr2 h1)
              have HI2 := Lib.hid h2
              have HG8 := Lib.hid (HGQ.out.tr hg8)
              clear h1 h2 hr2 hg8
              go_wp2
              go_roundg (-(i + 1)).toNat
              case measure => have := HGG.out; omega
              case rel => exact ⟨r2, i + 1, true, by omega, by omega, hrr2.1, hrr2.2, rfl, rfl, rfl, rfl, HI2, HG8⟩
    · exfalso
      rcases hra with ⟨a, b⟩ | ⟨a, b, c, e⟩ | ⟨a, b, c⟩ | ⟨a, b, c, e⟩ | ⟨a, b, c⟩ <;> omega
  · rw [atE_ok hne] at he
    subst he
    have HNE := Lib.hid hne
    have hr0 := hrr.resolve_left hne
    have hr00 := hr0.1
    have hr01 := hr0.2
    rcases (by omega : 0 < K ∨ K < 0 ∨ K = 0) with hs | hs | hs
    · have bs : decide (K < 0) = false := decide_eq_false (by omega)
      have bkp : decide (K ≤ 0) = false := decide_eq_false (by omega)
      clear hne hr0 hra hrr
      go_wp2_with fail
      generalize w4.alloc (.cells #[.slice ao (rulesL rs).length uc, .slice ao3 (daysL ms).length uc3] 48) = W4 at hrc hgc ⊢
      generalize w4.heap.size = rb at hrc ⊢
      have HRC := Lib.hid hrc
      have HGC := Lib.hid hgc
      clear hrc hgc
      go_loopg [16, 18, 19] K.toNat (fun g s16 s18 s19 wr => ∃ (x i : Int) (ok : Bool), 0 ≤ i ∧ i ≤ K ∧ 0 ≤ x ∧ x ≤ 109572 ∧ g = i.toNat ∧ s16 = .int .i64 x ∧ s18 = .bool ok ∧ s19 = .int .i64 i ∧ Hid (LoopU S d K i x ok) ∧ Hid (Gr W4 wr))
      case atStart => exact ⟨d, K, true, by omega, by omega, hd0, hd1, rfl, rfl, rfl, rfl, Lib.hid (.inl ⟨rfl, hd0, hd1, .inl ⟨hd0, hd1, .inl ⟨rfl, rfl⟩⟩⟩), Lib.hid (Gr.rf W4)⟩
      case round =>
        obtain ⟨x, i, ok, hi0, hi1, hx0, hx1, hg, rfl, rfl, rfl, HI, HGQ⟩ := hrel
        have HGL := Lib.hid (HGC.out.tr HGQ.out)
        have HGG := Lib.hid hg
        clear hg
        cases ok with
        | false =>
          have hrm : r = -1 := by
            rcases HI.out with ⟨h, _⟩ | ⟨_, h⟩
            · cases h
            · exact addR_uniq HRA.out h
          exact absurd hrm HNE.out
        | true =>
          by_cases hiz : i = 0
          · subst hiz
            have hdn := loopU_done HI.out (by omega)
            have hrx := addR_uniq HRA.out hdn.1
            subst hrx
            clear hdn
            go_wp2_with fail
            refine (cadd_far (.pointer (some ⟨p, 0, none⟩)) d 1001 (by decide) _).mono ?_
            rintro ev w8 ⟨rfl, rfl⟩
            go_wp2_with fail
            refine (cadd_no (.pointer (some ⟨p, 0, none⟩)) (-1) (by decide) _).mono ?_
            rintro ev w8 ⟨rfl, rfl⟩
            go_wp2_with fail
            refine (same6_calls (.iface 97 (.int .i64 2)) _ 2 _ (HM.out.keep (HG4.out.tr HGL.out)).1 (.plain 2)).mono ?_
            rintro ev w8 ⟨rfl, hg8⟩
            have HG8 := Lib.hid (HGL.out.tr hg8)
            clear hg8
            go_wp2_with fail
            refine (sameDate_calls _ (HM.out.keep (HG4.out.tr HG8.out)).1).mono ?_
            rintro ev w9 ⟨rfl, hg9⟩
            have HG9 := Lib.hid (HG8.out.tr hg9)
            clear hg9
            have hk0 := count_calls (.pointer (some ⟨p, 0, none⟩)) S d d (by omega) (by omega) (by omega) (by omega) w9 (HCA.out.gr HG9.out)
            rw [cntV_ge (Int.le_refl _)] at hk0
            have HK0 := Lib.hid hk0
            clear hk0
            have hkk := count_calls (.pointer (some ⟨p, 0, none⟩)) S (d + 1) (r + 1) (by omega) (by omega) (by omega) (by omega) w9 (HCA.out.gr HG9.out)
            rw [show cntV S (d + 1) (r + 1) = K by
              rcases HRA.out with ⟨a, b⟩ | ⟨a, b, c, e⟩ | ⟨a, b, c⟩ | ⟨a, b, c, e⟩ | ⟨a, b, c⟩
              · omega
              · rw [cntV_lt (by omega)]; exact e
              · exact absurd b HNE.out
              · omega
              · omega] at hkk
            have HKK := Lib.hid hkk
            clear hkk
            go_wp2_with (first | (go_at_call 36; (with_reducible refine HKK.out.mono ?_); rintro ev w10 ⟨rfl, rfl⟩) | (go_at_call 36; (with_reducible refine HK0.out.mono ?_); rintro ev w10 ⟨rfl, rfl⟩))
            go_ret
            exact ⟨by first | rfl | simp, HG4.out.tr HG9.out⟩
          · have bi : (i != 0) = true := by simp [hiz]
            have hip : 0 < i := by omega
            have HNX := Lib.hid (rnext_up _ _ S HSH.out (x + 1) (by omega) (by omega) wr (HRC.out.gr HGQ.out) (by simp))
            clear hiz
            go_wp2_with fail
            refine HNX.out.mono ?_
            rintro ev w8 ⟨⟨r2, he2, hr2⟩, hg8⟩
            have hst := loopU_next HI.out (by omega) hr2
            rcases hst with ⟨h1, h2⟩ | ⟨h1, h2⟩
            · rw [h1, nextE_no] at he2
              subst he2
              have HI2 := Lib.hid h2
              have HG8 := Lib.hid (HGQ.out.tr hg8)
              clear h1 h2 hr2 hg8
              go_wp2
              go_roundg (i - 1).toNat
              case measure => have := HGG.out; omega
              case rel => exact ⟨0, i - 1, false, by omega, by omega, by omega, by omega, rfl, rfl, rfl, rfl, HI2, HG8⟩
            · rw [nextE_ok h1] at he2
              subst he2
              have hrr2 := openB_range (upR_open hr2 h1)
              have HI2 := Lib.hid h2
              have HG8 := Lib.hid (HGQ.out.tr hg8)
              clear h1 h2 hr2 hg8
              go_wp2
              go_roundg (i - 1).toNat
              case measure => have := HGG.out; omega
              case rel => exact ⟨r2, i - 1, true, by omega, by omega, hrr2.1, hrr2.2, rfl, rfl, rfl, rfl, HI2, HG8⟩
    · have bs : decide (K < 0) = true := decide_eq_true hs
      clear hne hr0 hra hrr
      go_wp2_with fail
      generalize w4.alloc (.cells #[.slice ao (rulesL rs).length uc, .slice ao3 (daysL ms).length uc3] 48) = W4 at hrc hgc ⊢
      generalize w4.heap.size = rb at hrc ⊢
      have HRC := Lib.hid hrc
      have HGC := Lib.hid hgc
      clear hrc hgc
      go_loopg [16, 18, 19] (-K).toNat (fun g s16 s18 s19 wr => ∃ (x i : Int) (ok : Bool), K ≤ i ∧ i ≤ 0 ∧ 0 ≤ x ∧ x ≤ 109572 ∧ g = (-i).toNat ∧ s16 = .int .i64 x ∧ s18 = .bool ok ∧ s19 = .int .i64 i ∧ Hid (LoopD S d K i x ok) ∧ Hid (Gr W4 wr))
      case atStart => exact ⟨d, K, true, by omega, by omega, hd0, hd1, rfl, rfl, rfl, rfl, Lib.hid (.inl ⟨rfl, hd0, hd1, .inl ⟨hd0, hd1, .inl ⟨rfl, rfl⟩⟩⟩), Lib.hid (Gr.rf W4)⟩
      case round =>
        obtain ⟨x, i, ok, hi0, hi1, hx0, hx1, hg, rfl, rfl, rfl, HI, HGQ⟩ := hrel
        have HGL := Lib.hid (HGC.out.tr HGQ.out)
        have HGG := Lib.hid hg
        clear hg
        cases ok with
        | false =>
          have hrm : r = -1 := by
            rcases HI.out with ⟨h, _⟩ | ⟨_, h⟩
            · cases h
            · exact addR_uniq HRA.out h
          exact absurd hrm HNE.out
        | true =>
          by_cases hiz : i = 0
          · subst hiz
            have hdn := loopD_done HI.out (by omega)
            have hrx := addR_uniq HRA.out hdn.1
            subst hrx
            clear hdn
            go_wp2_with fail
            refine (cadd_far (.pointer (some ⟨p, 0, none⟩)) d 1001 (by decide) _).mono ?_
            rintro ev w8 ⟨rfl, rfl⟩
            go_wp2_with fail
            refine (cadd_no (.pointer (some ⟨p, 0, none⟩)) (-1) (by decide) _).mono ?_
            rintro ev w8 ⟨rfl, rfl⟩
            go_wp2_with fail
            refine (same6_calls (.iface 97 (.int .i64 2)) _ 2 _ (HM.out.keep (HG4.out.tr HGL.out)).1 (.plain 2)).mono ?_
            rintro ev w8 ⟨rfl, hg8⟩
            have HG8 := Lib.hid (HGL.out.tr hg8)
            clear hg8
            go_wp2_with fail
            refine (sameDate_calls _ (HM.out.keep (HG4.out.tr HG8.out)).1).mono ?_
            rintro ev w9 ⟨rfl, hg9⟩
            have HG9 := Lib.hid (HG8.out.tr hg9)
            clear hg9
            have hk0 := count_calls (.pointer (some ⟨p, 0, none⟩)) S d d (by omega) (by omega) (by omega) (by omega) w9 (HCA.out.gr HG9.out)
            rw [cntV_ge (Int.le_refl _)] at hk0
            have HK0 := Lib.hid hk0
            clear hk0
            have bk0 : decide (K ≤ 0) = true := decide_eq_true (by omega)
            go_wp2_with (go_at_call 36; (with_reducible refine HK0.out.mono ?_); rintro ev w10 ⟨rfl, rfl⟩)
            go_ret
            exact ⟨by first | rfl | simp, HG4.out.tr HG9.out⟩
          · have bi : (i != 0) = true := by simp [hiz]
            have hip : i < 0 := by omega
            have HNX := Lib.hid (rnext_dn _ _ S HSH.out (x - 1) (by omega) (by omega) wr (HRC.out.gr HGQ.out) (by simp))
            clear hiz
            go_wp2_with fail
            refine HNX.out.mono ?_
            rintro ev w8 ⟨⟨r2, he2, hr2⟩, hg8⟩
            have hst := loopD_next HI.out (by omega) hr2
            rcases hst with ⟨h1, h2⟩ | ⟨h1, h2⟩
            · rw [h1, nextE_no] at he2
              subst he2
              have HI2 := Lib.hid h2
              have HG8 := Lib.hid (HGQ.out.tr hg8)
              clear h1 h2 hr2 hg8
              go_wp2
              go_roundg (-(i + 1)).toNat
              case measure => have := HGG.out; omega
              case rel => exact ⟨0, i + 1, false, by omega, by omega, by omega, by omega, rfl, rfl, rfl, rfl, HI2, HG8⟩
            · rw [nextE_ok h1] at he2
              subst he2
              have hrr2 := openB_range (dnR_open hr2 h1)
              have HI2 := Lib.hid h2
              have HG8 := Lib.hid (HGQ.out.tr hg8)
              clear h1 h2 hr2 hg8
              go_wp2
              go_roundg (-(i + 1)).toNat
              case measure => have := HGG.out; omega
              case rel => exact ⟨r2, i + 1, true, by omega, by omega, hrr2.1, hrr2.2, rfl, rfl, rfl, rfl, HI2, HG8⟩
    · have bs : decide (K < 0) = false := decide_eq_false (by omega)
      have hs0 : 0 ≤ K := by omega
      have hs1 : K ≤ 0 := by omega
      clear hne hr0 hra hrr hs
      go_wp2_with fail
      generalize w4.alloc (.cells #[.slice ao (rulesL rs).length uc, .slice ao3 (daysL ms).length uc3] 48) = W4 at hrc hgc ⊢
      generalize w4.heap.size = rb at hrc ⊢
      have HRC := Lib.hid hrc
      have HGC := Lib.hid hgc
      clear hrc hgc
      go_loopg [16, 18, 19] K.toNat (fun g s16 s18 s19 wr => ∃ (x i : Int) (ok : Bool), 0 ≤ i ∧ i ≤ K ∧ 0 ≤ x ∧ x ≤ 109572 ∧ g = i.toNat ∧ s16 = .int .i64 x ∧ s18 = .bool ok ∧ s19 = .int .i64 i ∧ Hid (LoopU S d K i x ok) ∧ Hid (Gr W4 wr))
      case atStart => exact ⟨d, K, true, by omega, by omega, hd0, hd1, rfl, rfl, rfl, rfl, Lib.hid (.inl ⟨rfl, hd0, hd1, .inl ⟨hd0, hd1, .inl ⟨rfl, rfl⟩⟩⟩), Lib.hid (Gr.rf W4)⟩
      case round =>
        obtain ⟨x, i, ok, hi0, hi1, hx0, hx1, hg, rfl, rfl, rfl, HI, HGQ⟩ := hrel
        have HGL := Lib.hid (HGC.out.tr HGQ.out)
        have HGG := Lib.hid hg
        clear hg
        cases ok with
        | false =>
          have hrm : r = -1 := by
            rcases HI.out with ⟨h, _⟩ | ⟨_, h⟩
            · cases h
            · exact addR_uniq HRA.out h
          exact absurd hrm HNE.out
        | true =>
          by_cases hiz : i = 0
          · subst hiz
            have hdn := loopU_done HI.out (by omega)
            have hrx := addR_uniq HRA.out hdn.1
            subst hrx
            clear hdn
            go_wp2_with fail
            refine (cadd_far (.pointer (some ⟨p, 0, none⟩)) d 1001 (by decide) _).mono ?_
            rintro ev w8 ⟨rfl, rfl⟩
            go_wp2_with fail
            refine (cadd_no (.pointer (some ⟨p, 0, none⟩)) (-1) (by decide) _).mono ?_
            rintro ev w8 ⟨rfl, rfl⟩
            go_wp2_with fail
            refine (same6_calls (.iface 97 (.int .i64 2)) _ 2 _ (HM.out.keep (HG4.out.tr HGL.out)).1 (.plain 2)).mono ?_
            rintro ev w8 ⟨rfl, hg8⟩
            have HG8 := Lib.hid (HGL.out.tr hg8)
            clear hg8
            go_wp2_with fail
            refine (sameDate_calls _ (HM.out.keep (HG4.out.tr HG8.out)).1).mono ?_
            rintro ev w9 ⟨rfl, hg9⟩
            have HG9 := Lib.hid (HG8.out.tr hg9)
            clear hg9
            have hk0 := count_calls (.pointer (some ⟨p, 0, none⟩)) S d d (by omega) (by omega) (by omega) (by omega) w9 (HCA.out.gr HG9.out)
            rw [cntV_ge (Int.le_refl _)] at hk0
            have HK0 := Lib.hid hk0
            clear hk0
            have bk0 : decide (K ≤ 0) = true := decide_eq_true (by omega)
            go_wp2_with (go_at_call 36; (with_reducible refine HK0.out.mono ?_); rintro ev w10 ⟨rfl, rfl⟩)
            go_ret
            exact ⟨by first | rfl | simp, HG4.out.tr HG9.out⟩
          · exfalso; omega
theorem calAdd_calls (rs : List Ru) (v : Value) (ms : List Int) (v2 : Value) (n k : Int) (n0 : -9223372036854775808 ≤ n) (n1 : n ≤ 9223372036854775807) (k0 : -9223372036854775808 ≤ k) (k1 : k ≤ 9223372036854775807) (w : World) (hM : Met2 w)
    (hr : RulesAt w v rs) (hi : ∀ r ∈ rs, RuIn r) (hl : rs.length ≤ 9223372036854775807) (hr2 : DaysAt w v2 ms) (hi2 : ∀ x ∈ ms, in64 x) (hl2 : ms.length ≤ 9223372036854775807) :
    Calls Tryz.prog 13 #[v, v2, .int .i64 n, .int .i64 k] w fun e w' => e = .returned (.bool true) ∧ Gr w w' :=
  calAdd_core rs v ms v2 n k _ _ rfl (tmod_bd k 40 (by decide)).1 (tmod_bd k 40 (by decide)).2 (day6_bd n).1 (day6_bd n).2 (fun w => day6_calls n w) n0 n1 k0 k1 w hM hr hl hr2 hl2
end Go.Proofs.YtjgihjpckjdikaaGreatDoor
