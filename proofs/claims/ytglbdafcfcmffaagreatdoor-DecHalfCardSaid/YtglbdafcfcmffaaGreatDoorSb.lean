/- Layer 2's reference: Cmp, Add by contract. -/
import Derived.Test.YtglbdafcfcmffaaGreatDoorSa
import Derived.Test.YtglbdafcfcmffaaGreatDoorQe
namespace Go.Proofs.YtglbdafcfcmffaaGreatDoor
open Go.RowKit Go.Extern.Stop Go.Stop Go.Extern Go.Sort
set_option linter.unusedVariables false
set_option linter.unusedSimpArgs false

set_option maxRecDepth 100000 in
set_option maxHeartbeats 4000000 in
/-- The reference's Cmp. -/
theorem rcmp_calls (x y : Value) (a b : Nat) (w : World) (hx : RN w x a) (hy : RN w y b) (k : Nat) (hka : a < Dg.D ^ k) (hkb : b < Dg.D ^ k) (hk : k ≤ 1000000) :
    Calls Tryz.prog 65 #[x, y] w fun e w' => e = .returned (.int .i64 (cmpN a b)) ∧ Gr w w' := by
  have hla := Dg.digs_len a k hka
  have hlb := Dg.digs_len b k hkb
  have HPL := Lib.hid (Dg.digs_limbs a)
  have HQL := Lib.hid (Dg.digs_limbs b)
  have HPN := Lib.hid (Dg.digs_norm a)
  have HQN := Lib.hid (Dg.digs_norm b)
  have hav := Dg.val_digs a
  have hbv := Dg.val_digs b
  unfold RN at hx hy
  generalize Dg.digs a = p at *
  generalize Dg.digs b = q at *
  subst hav
  subst hbv
  have HX := Lib.hid hx
  have HY := Lib.hid hy
  obtain ⟨xa, xc, rfl⟩ := hx.slice
  obtain ⟨ya, yc, rfl⟩ := hy.slice
  clear hka hkb hx hy
  by_cases hl : p.length = q.length
  · have hne : ((p.length : Int) != q.length) = false := by rw [hl]; simp
    have HL := Lib.hid hl
    clear hl
    go_enter Tryz.func65, Tryz.ntmps65
    go_wp2
    go_loopg [5] p.length (fun k i wr => k ≤ p.length ∧ i = .int .i64 ((k : Int) - 1) ∧ p.drop k = q.drop k ∧ Gr w wr)
    case atStart => exact ⟨Nat.le_refl _, rfl, by rw [List.drop_of_length_le (Nat.le_refl _), List.drop_of_length_le (by have := HL.out; omega)], Gr.rf w⟩
    case round =>
      obtain ⟨hk, rfl, hd, hgr⟩ := hrel
      have HD := Lib.hid hd
      clear hd
      by_cases h0 : 0 < gk
      · obtain ⟨j, rfl⟩ : ∃ j, gk = j + 1 := ⟨gk - 1, by omega⟩
        obtain ⟨g1, o1, c1, e1, hc1, hl1, hcell1⟩ := HX.out.at (by omega)
        obtain ⟨g2, o2, c2, e2, hc2, hl2, hcell2⟩ := HY.out.at (by have := HL.out; omega)
        cases e1; cases e2
        have hjb : j < q.length := by have := HL.out; omega
        have d1 := hcell1 wr hgr j (by omega)
        have d2 := hcell2 wr hgr j hjb
        generalize hp : p[j]'(by omega) = u at d1
        generalize hq : q[j]'hjb = v at d2
        have hji : ((j + 1 : Nat) : Int) - 1 = (j : Int) := by omega
        have hjn : (j : Int).toNat = j := by omega
        rw [hji]
        have HP := Lib.hid hp
        have HQ := Lib.hid hq
        clear hp hq hcell1 hcell2 hji
        by_cases hpq : u < v
        · have b1 : decide ((u : Int) < (v : Int)) = true := decide_eq_true (by omega)
          have b1n : decide (u < v) = true := decide_eq_true hpq
          go_wp2_with fail
          go_quiet (fail)
          go_wp2
          go_ret
          refine ⟨ret_int ?_, Gr.drew hgr _⟩
          have := Dg.val_lt_of_limb p q HPL.out j (by omega) hjb HD.out (by rw [HP.out, HQ.out]; exact hpq)
          unfold cmpN; rw [if_pos this]
        · have b1 : decide ((u : Int) < (v : Int)) = false := decide_eq_false (by omega)
          have b1n : decide (u < v) = false := decide_eq_false hpq
          by_cases hqp : v < u
          · have b2 : decide ((v : Int) < (u : Int)) = true := decide_eq_true (by omega)
            have b2n : decide (v < u) = true := decide_eq_true hqp
            go_wp2_with fail
            go_quiet (fail)
            go_wp2
            go_quiet (fail)
            go_wp2
            go_ret
            refine ⟨ret_int ?_, by first | exact Gr.drew hgr _ | exact Gr.drew (Gr.drew hgr _) _⟩
            have := Dg.val_lt_of_limb q p HQL.out j hjb (by omega) HD.out.symm (by rw [HP.out, HQ.out]; exact hqp)
            unfold cmpN; rw [if_neg (by omega), if_pos this]
          · have b2 : decide ((v : Int) < (u : Int)) = false := decide_eq_false (by omega)
            have b2n : decide (v < u) = false := decide_eq_false hqp
            have hpe : u = v := by omega
            have HPE := Lib.hid hpe
            clear hpe
            go_wp2_with fail
            go_quiet (fail)
            go_wp2
            go_quiet (fail)
            go_wp2
            go_roundg j
            case measure => omega
            case rel => exact ⟨by omega, by first | rfl | go_num, by rw [List.drop_eq_getElem_cons (by omega : j < p.length), List.drop_eq_getElem_cons hjb, HP.out, HQ.out, HPE.out, HD.out], by first | exact Gr.drew hgr _ | exact Gr.drew (Gr.drew hgr _) _⟩
      · obtain rfl : gk = 0 := by omega
        go_wp2
        go_ret
        refine ⟨ret_int ?_, hgr⟩
        have hab : p = q := by simpa using HD.out
        subst hab
        unfold cmpN; rw [if_neg (by omega), if_neg (by omega)]
  · have hne : ((p.length : Int) != q.length) = true := bne_iff_ne.2 (by omega)
    rcases Nat.lt_or_ge p.length q.length with h | h
    · have b1 : decide ((p.length : Int) < (q.length : Int)) = true := decide_eq_true (by omega)
      have b1n : decide (p.length < q.length) = true := decide_eq_true h
      have HV := Lib.hid (Dg.val_lt_of_length p q HPL.out HQN.out h)
      clear hl h
      go_enter Tryz.func65, Tryz.ntmps65
      go_wp2
      go_ret
      refine ⟨ret_int ?_, Gr.rf w⟩
      have := HV.out
      unfold cmpN; rw [if_pos this]
    · have b1 : decide ((p.length : Int) < (q.length : Int)) = false := decide_eq_false (by omega)
      have b1n : decide (p.length < q.length) = false := decide_eq_false (by omega)
      have HV := Lib.hid (Dg.val_lt_of_length q p HQL.out HPN.out (by omega))
      clear hl h
      go_enter Tryz.func65, Tryz.ntmps65
      go_wp2
      go_ret
      refine ⟨ret_int ?_, Gr.rf w⟩
      have := HV.out
      unfold cmpN; rw [if_neg (by omega), if_pos this]

set_option maxRecDepth 100000 in
set_option maxHeartbeats 8000000 in
/-- The reference's Add. -/
theorem radd_calls (x y : Value) (a b : Nat) (w : World) (hx : RN w x a) (hy : RN w y b) (k : Nat) (hka : a < Dg.D ^ k) (hkb : b < Dg.D ^ k) (hk : k ≤ 1000000) :
    Calls Tryz.prog 68 #[x, y] w fun e w' => (∃ r, e = .returned r ∧ RN w' r (a + b)) ∧ Gr w w' := by
  obtain ⟨i0, hi, hz0, hz1, hz2⟩ := info_parts info45
  have hla := Dg.digs_len a k hka
  have hlb := Dg.digs_len b k hkb
  have HPL := Lib.hid (Dg.digs_limbs a)
  have HQL := Lib.hid (Dg.digs_limbs b)
  have HPN := Lib.hid (Dg.digs_norm a)
  have HQN := Lib.hid (Dg.digs_norm b)
  have hav := Dg.val_digs a
  have hbv := Dg.val_digs b
  unfold RN at hx hy
  generalize Dg.digs a = p at *
  generalize Dg.digs b = q at *
  subst hav
  subst hbv
  have HP := Lib.hid hx
  have HQ := Lib.hid hy
  obtain ⟨xa, xc, rfl⟩ := hx.slice
  obtain ⟨ya, yc, rfl⟩ := hy.slice
  clear hka hkb hx hy
  go_enter Tryz.func68, Tryz.ntmps68
  go_wp2
  go_loopg [5, 6, 7] (p.length + q.length + 2) (fun g so sc si wr => ∃ (i c : Nat) (r : List Nat), g = p.length + q.length + 2 - i ∧ i ≤ p.length + q.length + 1 ∧ sc = .int .u64 (c : Int) ∧ si = .int .i64 (i : Int) ∧ c ≤ 1 ∧ Hid (r.length = i) ∧ Hid (Dg.Limbs r) ∧
    Hid (Dg.val r + Dg.D ^ i * c = Dg.val (p.take i) + Dg.val (q.take i)) ∧ Hid (r.length ≤ max p.length q.length ∨ (c = 0 ∧ Dg.D ^ (r.length - 1) ≤ Dg.val r)) ∧ Hid (wr.ownsRow w.heap.size 60 1 so r.length (r.map U)) ∧ Hid (Gr w wr))
  case atStart => exact ⟨0, 0, [], rfl, by omega, rfl, rfl, by omega, Lib.hid rfl, Lib.hid (fun x hx => by cases hx), Lib.hid (by simp [Dg.val]), Lib.hid (.inl (Nat.zero_le _)), Lib.hid (World.ownsRow_nil _ _ _ _), Lib.hid (Gr.rf w)⟩
  case round =>
    obtain ⟨i, c, r, hg, hile, rfl, rfl, hc1, HRL, HRM, HRV, HRX, HOW, HG⟩ := hrel
    have HGG := Lib.hid hg
    clear hg
    by_cases hend : p.length ≤ i ∧ q.length ≤ i ∧ c = 0
    · obtain ⟨hpi, hqi, rfl⟩ := hend
      have b1 : decide ((i : Int) < (p.length : Int)) = false := decide_eq_false (by omega)
      have b1n : decide (i < p.length) = false := decide_eq_false (by omega)
      have b2 : decide ((i : Int) < (q.length : Int)) = false := decide_eq_false (by omega)
      have b2n : decide (i < q.length) = false := decide_eq_false (by omega)
      have HV := Lib.hid (show Dg.val r = Dg.val p + Dg.val q by
        have h := HRV.out
        rw [List.take_of_length_le hpi, List.take_of_length_le hqi, Nat.mul_zero, Nat.add_zero] at h
        exact h)
      have HN := Lib.hid (Dg.norm_of_ge r HRM.out (Dg.add_norm r p q HPN.out HQN.out (by rw [HRL.out]; exact hpi) (by rw [HRL.out]; exact hqi) HV.out (HRX.out.imp id (fun h => h.2))))
      have HLL := Lib.hid (lim_own HOW.out (Dg.limbs_B HRM.out))
      rw [show ((0 : Nat) : Int) = 0 from rfl]
      go_wp2
      go_ret
      exact ⟨⟨_, rfl, RN.mk HLL.out HRM.out HN.out HV.out⟩, HG.out⟩
    · have hgo : i < p.length ∨ i < q.length ∨ 0 < c := by omega
      have hx9 := Dg.getD_lt HPL.out i
      have hy9 := Dg.getD_lt HQL.out i
      have hx0 : ¬ i < p.length → p.getD i 0 = 0 := fun h => by rw [List.getD_eq_getElem?_getD, List.getElem?_eq_none (by omega)]; rfl
      have hy0 : ¬ i < q.length → q.getD i 0 = 0 := fun h => by rw [List.getD_eq_getElem?_getD, List.getElem?_eq_none (by omega)]; rfl
      have HST := Lib.hid (Dg.add_step r (Dg.val (p.take i)) (Dg.val (q.take i)) i c (p.getD i 0) (q.getD i 0) HRL.out HRV.out)
      have HCA := Lib.hid (Dg.add_carry c (p.getD i 0) (q.getD i 0) hc1 hx9 hy9)
      have HMO := Lib.hid (Dg.add_more r p.length q.length c (p.getD i 0) (q.getD i 0) hc1 (fun h => hx0 (by rw [HRL.out] at h; omega)) (fun h => hy0 (by rw [HRL.out] at h; omega)) (by rw [HRL.out]; exact hgo) HRX.out)
      have HTP := Lib.hid (Dg.val_take_getD p i)
      have HTQ := Lib.hid (Dg.val_take_getD q i)
      have hgp := fun h => HP.out.get HG.out i h
      have hgq := fun h => HQ.out.get HG.out i h
      rw [Dg.D_eq] at hx9 hy9
      generalize p.getD i 0 = u at *
      generalize q.getD i 0 = v at *
      have hq9 : (c + u + v) % Dg.D < Dg.D := Nat.mod_lt _ Dg.D_pos
      have hqd : (c + u + v) % Dg.D = (c + u + v) % 1000000000 := rfl
      have hzd : (c + u + v) / Dg.D = (c + u + v) / 1000000000 := rfl
      obtain ⟨d, hd⟩ : ∃ d, (c + u + v) % Dg.D = d := ⟨_, rfl⟩
      obtain ⟨z, hz⟩ : ∃ z, (c + u + v) / Dg.D = z := ⟨_, rfl⟩
      have e1 : ((c : Int) + (u : Int) + (v : Int)) % 1000000000 = (d : Int) := by omega
      have e2 : ((c : Int) + (u : Int) + (v : Int)) / 1000000000 = (z : Int) := by omega
      rw [hd] at HST HMO hq9
      rw [hz] at HST HMO HCA
      have hdB : d < B := Nat.lt_trans hq9 (by decide)
      have HQ9 := Lib.hid hq9
      have hs := HG.out.size
      have hrl := HRL.out
      have HZ1 := HCA.out
      clear hqd hzd hq9 hend
      have fin : ∀ (wz : World) (v' : Value), Gr w wz → wz.ownsRow w.heap.size 60 1 v' ((r ++ [d]).length) ((r ++ [d]).map U) →
          ∃ (i2 c2 : Nat) (r2 : List Nat), p.length + q.length + 2 - (i + 1) = p.length + q.length + 2 - i2 ∧ i2 ≤ p.length + q.length + 1 ∧ Value.int .u64 (z : Int) = .int .u64 (c2 : Int) ∧ Value.int .i64 ((i + 1 : Nat) : Int) = .int .i64 (i2 : Int) ∧ c2 ≤ 1 ∧ Hid (r2.length = i2) ∧ Hid (Dg.Limbs r2) ∧
            Hid (Dg.val r2 + Dg.D ^ i2 * c2 = Dg.val (p.take i2) + Dg.val (q.take i2)) ∧ Hid (r2.length ≤ max p.length q.length ∨ (c2 = 0 ∧ Dg.D ^ (r2.length - 1) ≤ Dg.val r2)) ∧ Hid (wz.ownsRow w.heap.size 60 1 v' r2.length (r2.map U)) ∧ Hid (Gr w wz) := fun wz v' hgz how =>
        ⟨i + 1, z, r ++ [d], rfl, by
          rcases HRX.out with h | h
          · rw [HRL.out] at h; omega
          · omega, rfl, rfl, HZ1, Lib.hid (by rw [List.length_append, HRL.out]; rfl),
          Lib.hid (fun x hx => by
            rcases List.mem_append.1 hx with hx | hx
            · exact HRM.out x hx
            · rw [List.mem_singleton.1 hx]; exact HQ9.out),
          Lib.hid (by rw [HTP.out, HTQ.out]; exact HST.out),
          Lib.hid (by rw [List.length_append, List.length_singleton, Nat.add_sub_cancel]; exact HMO.out), Lib.hid how, Lib.hid hgz⟩
      have FIN := Lib.hid fin
      clear fin hd hz
      have ei : ((i + 1 : Nat) : Int) = (i : Int) + 1 := by omega
      by_cases h1 : i < p.length
      case' pos =>
        have b1 : decide ((i : Int) < (p.length : Int)) = true := decide_eq_true (by omega)
        have b1n : decide (i < p.length) = true := decide_eq_true h1
        obtain ⟨g1, o1, c1, e3, hcl1⟩ := hgp h1
        cases e3
        clear hx0 hgp hgo
      case' neg =>
        have b1 : decide ((i : Int) < (p.length : Int)) = false := decide_eq_false (by omega)
        have b1n : decide (i < p.length) = false := decide_eq_false h1
        have hu0 := hx0 h1
        subst hu0
        clear hx0 hgp
      all_goals
        by_cases h2 : i < q.length
        case' pos =>
          have b2 : decide ((i : Int) < (q.length : Int)) = true := decide_eq_true (by omega)
          have b2n : decide (i < q.length) = true := decide_eq_true h2
          obtain ⟨g2, o2, c2, e4, hcl2⟩ := hgq h2
          cases e4
          clear hy0 hgq
        case' neg =>
          have b2 : decide ((i : Int) < (q.length : Int)) = false := decide_eq_false (by omega)
          have b2n : decide (i < q.length) = false := decide_eq_false h2
          have hv0 := hy0 h2
          subst hv0
          clear hy0 hgq
          try (have hc0 : 0 < c := by omega
               have b3 : decide ((0 : Int) < (c : Int)) = true := decide_eq_true (by omega)
               have b3n : decide (0 < c) = true := decide_eq_true hc0)
        all_goals
          try simp only [show ((0 : Nat) : Int) = 0 from rfl, Int.add_zero] at e1 e2
          go_wp2_with (at_builtin; refine wpList_append_own _ rfl _ _ 48 rfl w.heap.size 60 i0 (.int .u64 0) 1 8 underN hi hz0 hz1 hz2 rfl (by decide) _ _ _ rfl (HOW.out.alloc _) ⟨wr.heap.size, 0, none⟩ 1 1 [.int .u64 (d : Int)] rfl rfl (cell_one_new _ _ _) (fun x hx => by simp at hx; subst hx; rfl) (by simp only [maxLen]; omega) (by omega) (by simp; omega) ?_; intro v' w2 hown1 hgrow _)
          have HOW2 := Lib.hid hown1
          have HG2 := Lib.hid (show Gr w w2 from Below.grown (HG.out.tr ((Gr.rf wr).alloc (Nat.le_refl _) _)) hgrow (by have := HG.out.size; simp; omega) (fun j hj => (HOW.out.lt j hj).1))
          clear hown1 hgrow
          have hfin := FIN.out w2 v' HG2.out (by rw [List.map_append, List.length_append]; exact HOW2.out)
          rw [ei] at hfin
          have HFIN := Lib.hid hfin
          clear hfin ei
          go_wp2
          go_roundg (p.length + q.length + 2 - (i + 1))
          case measure => have := HGG.out; omega
          case rel =>
            obtain ⟨i2, c2, r2, f1, f2, f3, f4, f5⟩ := HFIN.out
            exact ⟨i2, c2, r2, f1, f2, by first | exact f3 | (rw [e2]; exact f3), by first | exact f4 | (rw [← f4]), f5⟩
end Go.Proofs.YtglbdafcfcmffaaGreatDoor
