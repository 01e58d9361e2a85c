/- Layer 6: the reference's AddMonths by contract. -/
import Derived.Test.YtgejadnfeeoknaaGreatDoorMc
namespace Go.Proofs.YtgejadnfeeoknaaGreatDoor
open Go.RowKit Go.Extern.Stop Go.Stop Go.Extern
set_option linter.unusedVariables false
set_option linter.unusedSimpArgs false

/-- A civil day's block. -/
def CivAt (w : World) (b : Nat) (y m q : Int) : Prop := w.heap[b]? = some (.cells #[.int .i64 y, .int .i64 m, .int .i64 q] 24 (0, 0))
theorem CivAt.y {w : World} {b : Nat} {y m q : Int} (h : CivAt w b y m q) (v : Int) : CivAt (w.setCell ⟨b, 0, none⟩ (.int .i64 v)) b v m q := heap_setCell_same _ _ _ _ _ _ h
theorem CivAt.m {w : World} {b : Nat} {y m q : Int} (h : CivAt w b y m q) (v : Int) : CivAt (w.setCell ⟨b, 1, none⟩ (.int .i64 v)) b y v q := heap_setCell_same _ _ _ _ _ _ h
theorem CivAt.q {w : World} {b : Nat} {y m q : Int} (h : CivAt w b y m q) (v : Int) : CivAt (w.setCell ⟨b, 2, none⟩ (.int .i64 v)) b y m v := heap_setCell_same _ _ _ _ _ _ h
set_option maxRecDepth 100000 in
set_option maxHeartbeats 16000000 in
theorem refAdd_core (d y m q k D : Int) (en st : Bool) (h : IsDay d y m q) (hk : -3600 ≤ k) (hk' : k ≤ 3600) (hst : st = (en && decide (q = lenM y m)))
    (hD : (st = true ∧ D = lenM (monY y m k) (monM y m k)) ∨ (st = false ∧ lenM (monY y m k) (monM y m k) < q ∧ D = lenM (monY y m k) (monM y m k)) ∨ (st = false ∧ q ≤ lenM (monY y m k) (monM y m k) ∧ D = q)) (w : World) :
    Calls Tryz.prog 32 #[.int .i64 d, .int .i64 k, .bool en] w fun e w' => e = .returned (.tuple #[.int .i64 (ofD (monY y m k) (monM y m k) D), .bool (decide (OkC (monY y m k) (monM y m k) D))]) ∧ Gr w w' := by
  have hr := isDay_range h
  have hi1 := fun w => refIs_calls d w
  simp only [decide_eq_true (And.intro hr.1 hr.2)] at hi1
  have HI1 := Lib.hid hi1
  have HC := Lib.hid (fun w => refCivil_calls d y m q h w)
  have hla := fun w => refLast_calls d y m q h w
  have hy0 := h.1
  have hy1 := h.2.1
  have hm1 := h.2.2.1
  have hm2 := h.2.2.2.1
  have hm0 := mon_zero y m hm1 hm2
  have hq0 := h.2.2.2.2.1
  have hq31 : q ≤ 31 := by have := h.2.2.2.2.2.1; have := (lenM_bd y m).2; omega
  have HM0 := Lib.hid hm0
  clear hi1 h hr hm0
  rcases hD with ⟨rfl, hD⟩ | ⟨rfl, hq, hD⟩ | ⟨rfl, hq, hD⟩
  all_goals
    have HDD := Lib.hid hD
    clear hD
    cases en
  all_goals first | (exfalso; simp at hst; done) | skip
  all_goals
    simp only [Bool.false_and, Bool.true_and] at hst
    try rw [← hst] at hla
    have HLA := Lib.hid hla
    clear hla hst
    go_enter Tryz.func32, Tryz.ntmps32
    go_wp2_with (first | (go_at_call 62; (with_reducible refine (HI1.out _).mono ?_); rintro ev w1 ⟨rfl, rfl⟩))
    refine (HC.out _).mono ?_
    rintro ev w1 ⟨rfl, hg1⟩
    have hblk : CivAt (w1.alloc (.cells #[.int .i64 y, .int .i64 m, .int .i64 q] 24)) w1.heap.size y m q := heap_alloc_new w1 _
    have hga : Gr w (w1.alloc (.cells #[.int .i64 y, .int .i64 m, .int .i64 q] 24)) := hg1.tr ((Gr.rf w1).alloc (Nat.le_refl _) _)
    have HSZ := Lib.hid hg1.size
    go_wp2_with fail
    generalize w1.alloc (.cells #[.int .i64 y, .int .i64 m, .int .i64 q] 24) = W1 at hblk hga ⊢
    generalize w1.heap.size = cb at hblk HSZ ⊢
    first
      | (refine (HLA.out _).mono ?_
         rintro ev w2 ⟨rfl, hg2⟩
         have HB0 : Hid (CivAt w2 cb y m q) := Lib.hid (hg2.heap hblk)
         have HG0 := Lib.hid (hga.tr hg2)
         clear hblk hga hg1 hg2
         go_wp2)
      | (have HB0 : Hid (CivAt W1 cb y m q) := Lib.hid hblk
         have HG0 := Lib.hid hga
         clear hblk hga hg1)
    go_loopg [1] k.toNat (fun g s1 wr => ∃ i : Int, 0 ≤ i ∧ (i ≤ k ∨ i = 0) ∧ g = (k - i).toNat ∧ s1 = .int .i64 (k - i) ∧ Hid (CivAt wr cb (monY y m i) (monM y m i) q) ∧ Hid (Gr w wr))
    case atStart => exact ⟨0, by omega, by omega, by omega, by rw [Int.sub_zero], Lib.hid (by rw [HM0.out.1, HM0.out.2]; exact HB0.out), HG0⟩
    case round =>
      clear HB0 HG0
      obtain ⟨i, hi0, hi1, hgi, rfl, HB, HG⟩ := hrel
      have HGI := Lib.hid hgi
      clear hgi
      by_cases hlt : 0 < k - i
      · have bc : decide (0 < k - i) = true := decide_eq_true hlt
        have hs := monS y m i
        have hyb := monY_bd y m i hy0 hy1 hm1 hm2 (by omega) (by omega)
        have hmb := mon_bd y m i
        have c0 := heap_cell HB.out 0
        have c1 := heap_cell HB.out 1
        have f0 := heap_free HB.out 0
        have f1 := heap_free HB.out 1
        generalize hY1 : monY y m (i + 1) = Y1 at hs
        generalize hM1 : monM y m (i + 1) = M1 at hs
        have HY1 := Lib.hid hY1
        have HM1 := Lib.hid hM1
        clear hY1 hM1
        generalize monY y m i = Y0 at hs hyb HB c0
        generalize monM y m i = M0 at hs hmb HB c1
        rcases hs with ⟨e0, e1, e2⟩ | ⟨e0, e1, e2⟩
        · subst e0
          subst e1
          subst e2
          clear hmb
          go_wp2
          go_roundg (gk - 1)
          case measure => have := HGI.out; omega
          case rel => exact ⟨i + 1, by omega, by omega, by have := HGI.out; omega, by congr 1; omega, Lib.hid (by rw [HY1.out, HM1.out]; exact (((HB.out.m _).y _).m _)), Lib.hid (grSet (grSet (grSet HG.out HSZ.out _) HSZ.out _) HSZ.out _)⟩
        · subst e1
          subst e2
          have bm : decide (12 < M0 + 1) = false := decide_eq_false (by omega)
          clear e0
          go_wp2
          go_roundg (gk - 1)
          case measure => have := HGI.out; omega
          case rel => exact ⟨i + 1, by omega, by omega, by have := HGI.out; omega, by congr 1; omega, Lib.hid (by rw [HY1.out, HM1.out]; exact (HB.out.m _)), Lib.hid (grSet HG.out HSZ.out _)⟩
      · have bc : decide (0 < k - i) = false := decide_eq_false hlt
        go_wp2
        go_loopg [1] (i - k).toNat (fun g s1 wr => ∃ i : Int, k ≤ i ∧ (i ≤ 0 ∨ i = k) ∧ g = (i - k).toNat ∧ s1 = .int .i64 (k - i) ∧ Hid (CivAt wr cb (monY y m i) (monM y m i) q) ∧ Hid (Gr w wr))
        case atStart => exact ⟨i, by omega, by omega, rfl, rfl, HB, HG⟩
        case round =>
          clear HB HG HGI
          obtain ⟨i, hi0, hi1, hgi, rfl, HB, HG⟩ := hrel
          have HGI := Lib.hid hgi
          clear hgi
          by_cases hlt : k - i < 0
          · have bc : decide (k - i < 0) = true := decide_eq_true hlt
            have hs := monP y m i
            have hyb := monY_bd y m i hy0 hy1 hm1 hm2 (by omega) (by omega)
            have hmb := mon_bd y m i
            have c0 := heap_cell HB.out 0
            have c1 := heap_cell HB.out 1
            have f0 := heap_free HB.out 0
            have f1 := heap_free HB.out 1
            generalize hY1 : monY y m (i - 1) = Y1 at hs
            generalize hM1 : monM y m (i - 1) = M1 at hs
            have HY1 := Lib.hid hY1
            have HM1 := Lib.hid hM1
            clear hY1 hM1
            generalize monY y m i = Y0 at hs hyb HB c0
            generalize monM y m i = M0 at hs hmb HB c1
            rcases hs with ⟨e0, e1, e2⟩ | ⟨e0, e1, e2⟩
            · subst e0
              subst e1
              subst e2
              clear hmb
              go_wp2
              go_roundg (gk - 1)
              case measure => have := HGI.out; omega
              case rel => exact ⟨i - 1, by omega, by omega, by have := HGI.out; omega, by congr 1; omega, Lib.hid (by rw [HY1.out, HM1.out]; exact (((HB.out.m _).y _).m _)), Lib.hid (grSet (grSet (grSet HG.out HSZ.out _) HSZ.out _) HSZ.out _)⟩
            · subst e1
              subst e2
              have bm : decide (M0 - 1 < 1) = false := decide_eq_false (by omega)
              clear e0
              go_wp2
              go_roundg (gk - 1)
              case measure => have := HGI.out; omega
              case rel => exact ⟨i - 1, by omega, by omega, by have := HGI.out; omega, by congr 1; omega, Lib.hid (by rw [HY1.out, HM1.out]; exact (HB.out.m _)), Lib.hid (grSet HG.out HSZ.out _)⟩
          · have bc : decide (k - i < 0) = false := decide_eq_false hlt
            have hik : i = k := by omega
            subst hik
            have hlb := lenM_bd (monY y m i) (monM y m i)
            have hyb := monY_bd y m i hy0 hy1 hm1 hm2 hk hk'
            have hmb := mon_bd y m i
            have hL := fun w => lengthR_calls (monY y m i) (monM y m i) (by omega) (by omega) w
            have hO := fun w => refOf_calls (monY y m i) (monM y m i) D w
            have c0 := heap_cell HB.out 0
            have c1 := heap_cell HB.out 1
            have c2 := heap_cell HB.out 2
            have f2 := heap_free HB.out 2
            have HDE := Lib.hid HDD.out
            have HO2 := Lib.hid hO
            clear hO
            generalize lenM (monY y m i) (monM y m i) = L at *
            generalize hYe : monY y m i = Y0 at *
            generalize hMe : monM y m i = M0 at *
            have HYE := Lib.hid hYe
            have HME := Lib.hid hMe
            clear hYe hMe
            have HL := Lib.hid hL
            have hdl := HDE.out
            subst hdl
            clear hL HDE HDD
            first | (have bq : decide (D < q) = true := decide_eq_true hq; clear hq) | (have bq : decide (L < D) = false := decide_eq_false (by omega); clear hq) | skip
            go_wp2
            go_quiet ((go_at_call 24; exact qsame HL.out))
            have HGQ := Lib.hid (grDrew HG.out nq)
            have hgq := HGQ.out
            have hbq : CivAt (wr.drewN nq) cb Y0 M0 _ := HB.out
            generalize wr.drewN nq = W9 at hgq hbq ⊢
            have HBQ := Lib.hid hbq
            clear c0 c1 c2 f2
            have c0 := heap_cell hbq 0
            have c1 := heap_cell hbq 1
            have c2 := heap_cell hbq 2
            have f2 := heap_free hbq 2
            have HG9 := Lib.hid hgq
            clear hbq hgq
            go_wp2_with (first | (go_at_call 24; (with_reducible refine (HL.out _).mono ?_); rintro ev w8 ⟨rfl, rfl⟩) | (go_at_call 34; (with_reducible refine (HO2.out _).mono ?_); rintro ev w8 ⟨rfl, hg8⟩))
            go_ret2
            first | exact ⟨by rw [HYE.out, HME.out]; rfl, HG9.out.tr hg8⟩ | exact ⟨by rw [HYE.out, HME.out]; rfl, (grSet (a := ⟨cb, 2, none⟩) HG9.out HSZ.out _).tr hg8⟩
theorem refAdd_calls (d y m q k : Int) (en : Bool) (h : IsDay d y m q) (hk : -3600 ≤ k) (hk' : k ≤ 3600) (w : World) :
    Calls Tryz.prog 32 #[.int .i64 d, .int .i64 k, .bool en] w fun e w' => e = .returned (.tuple #[.int .i64 (ofD (monY y m k) (monM y m k) (monD y m q k en)), .bool (decide (OkC (monY y m k) (monM y m k) (monD y m q k en)))]) ∧ Gr w w' := by
  refine refAdd_core d y m q k _ en _ h hk hk' rfl ?_ w
  by_cases hq : en = true ∧ q = lenM y m
  · refine .inl ⟨by rw [hq.1, decide_eq_true hq.2]; rfl, ?_⟩
    unfold monD; rw [if_pos hq]
  · have hs : (en && decide (q = lenM y m)) = false := by
      cases en with
      | false => rfl
      | true => rw [decide_eq_false (fun e => hq ⟨rfl, e⟩)]; rfl
    rw [hs, monD_noend hq]
    by_cases hl : lenM (monY y m k) (monM y m k) < q
    · exact .inr (.inl ⟨rfl, hl, by omega⟩)
    · exact .inr (.inr ⟨rfl, by omega, by omega⟩)
end Go.Proofs.YtgejadnfeeoknaaGreatDoor
