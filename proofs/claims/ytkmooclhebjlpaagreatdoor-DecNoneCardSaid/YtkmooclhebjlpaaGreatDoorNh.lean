/- Layer 2: Mul, by contract. -/
import Derived.Test.YtkmooclhebjlpaaGreatDoorNg
namespace Go.Proofs.YtkmooclhebjlpaaGreatDoor
open Go.RowKit Go.Extern.Stop Go.Stop Go.Extern
set_option linter.unusedVariables false
set_option linter.unusedSimpArgs false

set_option maxRecDepth 100000 in
set_option maxHeartbeats 4000000 in
/-- (*Nat).Mul. -/
theorem mul_calls (x y : Value) (a b : Nat) (w : World) (hx : NatAt w x a) (hy : NatAt w y b) (k : Nat) (ha : a < B ^ k) (hb : b < B ^ k) (hk : k ≤ 1000000) :
    Calls Tryz.prog 13 #[x, y] w fun e w' => (∃ r, e = .returned r ∧ NatP w' r (a * b)) ∧ Gr w w' := by
  obtain ⟨sa, p, sc, hl, hn, hv, hcl⟩ := limbs_ex x a w hx
  obtain ⟨ta, q, tc, hl2, hn2, hv2, hcl2⟩ := limbs_ex y b w hy
  have h1 := norm_length p hn k (by rw [hv]; exact ha)
  have h2 := norm_length q hn2 k (by rw [hv2]; exact hb)
  subst hv
  subst hv2
  have HL := Lib.hid hcl
  have HM := Lib.hid hcl2
  have HP := Lib.hid hl
  have HQ := Lib.hid hl2
  have hpk : p.length ≤ 1000000 := by omega
  have hqk : q.length ≤ 1000000 := by omega
  have hmk := make64 (p.length + q.length) (by omega)
  have ec : ((p.length + q.length : Nat) : Int) = (p.length : Int) + (q.length : Int) := by omega
  rw [ec] at hmk
  clear hx hy ha hb hn hn2 hcl hcl2 hl hl2 h1 h2 ec
  go_enter Tryz.func13, Tryz.ntmps13
  go_wp2_with (go_at_call 42; (with_reducible refine HL.out.mono ?_); rintro ev w1 ⟨rfl, rfl⟩)
  go_wp2_with (go_at_call 42; (with_reducible refine HM.out.mono ?_); rintro ev w1 ⟨rfl, rfl⟩)
  clear HL HM hmk
  go_loopg [28] p.length (fun n i wr => ∃ ii F, n = p.length - ii ∧ ii ≤ p.length ∧ i = .int .i64 (ii : Int) ∧ RowU wr w.heap.size (p.length + q.length) F ∧ (∀ j, F j < B) ∧
    val ((List.range (ii + q.length)).map F) = val (p.take ii) * val q ∧ Gr w wr)
  case atStart => exact ⟨0, fun _ => 0, by omega, by omega, rfl, rowU_made w _, fun _ => B_pos, by
    rw [show (List.range (0 + q.length)).map (fun _ => 0) = List.replicate (0 + q.length) 0 by simp [List.map_const'], val_replicate]; simp [val], (Gr.rf w).alloc (Nat.le_refl _) _⟩
  case round =>
    obtain ⟨ii, F, hn, hii, rfl, hrow, hFb, hF, hgr⟩ := hrel
    have HN := Lib.hid hn
    have HW := Lib.hid hrow
    have HF := Lib.hid hF
    have HFB := Lib.hid hFb
    clear hn hrow hF hFb
    by_cases hlt : ii < p.length
    · have b2 : decide (ii < p.length) = true := decide_eq_true hlt
      obtain ⟨g1, o1, c1, e1, hc1⟩ := HP.out.get hgr ii hlt
      cases e1
      have hxB := getD_lt HP.out.1 ii
      generalize hxx : p.getD ii 0 = xx at hc1 hxB
      have HXX := Lib.hid hxx
      clear hxx
      go_wp2
      go_loopg [10, 35] q.length (fun n c kx wr2 => ∃ (kk : Nat) (F2 : Nat → Nat) (cc : Nat), n = q.length - kk ∧ kk ≤ q.length ∧ c = .int .u64 (cc : Int) ∧ cc < B ∧ kx = .int .i64 (kk : Int) ∧ RowU wr2 w.heap.size (p.length + q.length) F2 ∧ (∀ j, F2 j < B) ∧
        (∀ j, ii + kk ≤ j → F2 j = F j) ∧ val ((List.range (ii + kk)).map F2) + B ^ (ii + kk) * cc = val ((List.range (ii + kk)).map F) + B ^ ii * (xx * val (q.take kk)) ∧ Gr w wr2)
      case atStart => exact ⟨0, F, 0, by omega, by omega, rfl, B_pos, rfl, HW.out, HFB.out, fun _ _ => rfl, by simp [val], hgr⟩
      case round =>
        obtain ⟨kk, F2, cc, hn2, hkk, rfl, hcB, rfl, hrow2, hF2b, hF2e, hF2, hgr2⟩ := hrel
        have HN2 := Lib.hid hn2
        have HW2 := Lib.hid hrow2
        have HF2 := Lib.hid hF2
        have HF2B := Lib.hid hF2b
        have HF2E := Lib.hid hF2e
        clear hn2 hrow2 hF2 hF2b hF2e
        by_cases hlq : kk < q.length
        · have b3 : decide (kk < q.length) = true := decide_eq_true hlq
          obtain ⟨g2, o2, c2', e2, hc2⟩ := HQ.out.get hgr2 kk hlq
          cases e2
          have hyB := getD_lt HQ.out.1 kk
          have hcell := HW2.out.cell (i := ii + kk) (by omega)
          have hfr := World.rowIs.frozen HW2.out (ii + kk)
          have ht : ((ii : Int) + (kk : Int)).toNat = ii + kk := by omega
          have hst := mul_step F F2 ii kk cc
          have hF0 := HF2E.out (ii + kk) (Nat.le_refl _)
          have hfB := HF2B.out (ii + kk)
          rw [← hF0] at hst
          generalize hyy : q.getD kk 0 = yy at hc2 hyB
          generalize F2 (ii + kk) = ff at hcell hfB hst
          obtain ⟨hi, lo, lo1, c1', lo2, c2, hm, ha1, ha2, hs1, hs2, hl2, hsum⟩ := mul_round xx yy ff cc hxB hyB hfB hcB
          have HM := Lib.hid hm
          have HYY := Lib.hid hyy
          have HS := Lib.hid hsum
          have HST := Lib.hid hst
          clear hm hyy hsum hst hF0
          have hcB2 : hi + c1' + c2 < B := by have := B_eq; omega
          have HL2 := Lib.hid hl2
          have HCB := Lib.hid hcB2
          clear hyB hfB hcB hl2 hcB2
          go_wp2_with (go_at_call 58; (with_reducible refine (HM.out _).mono ?_); rintro ev w1 ⟨rfl, rfl⟩)
          go_roundg (q.length - (kk + 1))
          case measure => have := HN2.out; omega
          case rel =>
            exact ⟨kk + 1, (fun j => if j = ii + kk then lo2 else F2 j), hi + c1' + c2, rfl, by omega, by first | rfl | go_num, HCB.out, by first | rfl | go_num, HW2.out.set (ii + kk) lo2,
              fun j => by dsimp only; split; exact HL2.out; exact HF2B.out j,
              fun j hj => (if_neg (by omega : ¬ j = ii + kk)).trans (HF2E.out j (by omega)),
              HST.out (hi + c1' + c2) lo2 xx q HF2.out (by rw [HYY.out]; exact HS.out), hgr2.setCell (Nat.le_refl _) _⟩
        · have b3 : decide (kk < q.length) = false := decide_eq_false hlq
          have hke : kk = q.length := by omega
          subst hke
          have hcell := HW2.out.cell (i := ii + q.length) (by omega)
          have hfr := World.rowIs.frozen HW2.out (ii + q.length)
          have ht : ((ii : Int) + (q.length : Int)).toNat = ii + q.length := by omega
          generalize F2 (ii + q.length) = ff at hcell
          have HCB := Lib.hid hcB
          clear hcB hxB
          go_wp2
          go_roundg (p.length - (ii + 1))
          case measure => have := HN.out; omega
          case rel =>
            exact ⟨ii + 1, (fun j => if j = ii + q.length then cc else F2 j), rfl, by omega, by first | rfl | go_num, HW2.out.set (ii + q.length) cc,
              fun j => by dsimp only; split; exact HCB.out; exact HF2B.out j,
              mul_next F F2 ii cc p q HF.out (by rw [HXX.out]; exact HF2.out), hgr2.setCell (Nat.le_refl _) _⟩
    · have b2 : decide (ii < p.length) = false := decide_eq_false hlt
      have hke : ii = p.length := by omega
      subst hke
      have hmd := made_calls _ _ _ (HW.out.lim (fun j _ => HFB.out j) (by omega)) (by rw [List.length_map, List.length_range]; omega)
      rw [HF.out, List.take_of_length_le (Nat.le_refl _)] at hmd
      have HMD := Lib.hid hmd
      clear hmd
      go_wp2_with (go_at_call 44; (with_reducible refine HMD.out.mono ?_); rintro ev w1 ⟨⟨r, rfl, hr⟩, hg⟩; have HR := Lib.hid hr; clear hr)
      go_ret
      exact ⟨⟨_, rfl, HR.out⟩, hgr.tr hg⟩
end Go.Proofs.YtkmooclhebjlpaaGreatDoor
