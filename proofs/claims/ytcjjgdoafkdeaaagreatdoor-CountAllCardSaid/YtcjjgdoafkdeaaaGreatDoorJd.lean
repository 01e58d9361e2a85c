/- Layer 2's reference: Cmp, Add by contract; Layer 2: the reference's Sub by contract; Layer 2's reference: Mul by contract; Layer 2's reference: most, Div, Gcd, Pow by contract; Layer 2's reference: Div, Gcd by contract. -/
import Derived.Test.YtcjjgdoafkdeaaaGreatDoorJb
import Derived.Test.YtcjjgdoafkdeaaaGreatDoorJa
import Derived.Test.YtcjjgdoafkdeaaaGreatDoorJc
import Derived.Laws.AppendOwnNone
import Derived.StillTailTactics
namespace Go.Proofs.YtcjjgdoafkdeaaaGreatDoor
section
open Go.RowKit Go.Extern.Stop Go.Stop Go.Extern Go.Sort
set_option linter.unusedVariables false
set_option linter.unusedSimpArgs false

set_option maxRecDepth 100000 in
set_option maxHeartbeats 4000000 in
/-- The reference's Cmp. -/
theorem rcmp_calls (x y : Value) (a b : Nat) (w : World) (hx : RN w x a) (hy : RN w y b) (k : Nat) (hka : a < Dg.D ^ k) (hkb : b < Dg.D ^ k) (hk : k ≤ 1000000) :
    Calls Tryz.prog 37 #[x, y] w fun e w' => e = .returned (.int .i64 (cmpN a b)) ∧ Gr w w' := by
  have hla := Dg.digs_len a k hka
  have hlb := Dg.digs_len b k hkb
  have HPL := Lib.hid (Dg.digs_limbs a)
  have HQL := Lib.hid (Dg.digs_limbs b)
  have HPN := Lib.hid (Dg.digs_norm a)
  have HQN := Lib.hid (Dg.digs_norm b)
  have hav := Dg.val_digs a
  have hbv := Dg.val_digs b
  unfold RN at hx hy
  generalize Dg.digs a = p at *
  generalize Dg.digs b = q at *
  subst hav
  subst hbv
  have HX := Lib.hid hx
  have HY := Lib.hid hy
  obtain ⟨xa, xc, rfl⟩ := hx.slice
  obtain ⟨ya, yc, rfl⟩ := hy.slice
  clear hka hkb hx hy
  by_cases hl : p.length = q.length
  · have hne : ((p.length : Int) != q.length) = false := by rw [hl]; simp
    have HL := Lib.hid hl
    clear hl
    go_enter Tryz.func37, Tryz.ntmps37
    go_wp2
    go_loopg [5] p.length (fun k i wr => k ≤ p.length ∧ i = .int .i64 ((k : Int) - 1) ∧ p.drop k = q.drop k ∧ Gr w wr)
    case atStart => exact ⟨Nat.le_refl _, rfl, by rw [List.drop_of_length_le (Nat.le_refl _), List.drop_of_length_le (by have := HL.out; omega)], Gr.rf w⟩
    case round =>
      obtain ⟨hk, rfl, hd, hgr⟩ := hrel
      have HD := Lib.hid hd
      clear hd
      by_cases h0 : 0 < gk
      · obtain ⟨j, rfl⟩ : ∃ j, gk = j + 1 := ⟨gk - 1, by omega⟩
        obtain ⟨g1, o1, c1, e1, hc1, hl1, hcell1⟩ := HX.out.at (by omega)
        obtain ⟨g2, o2, c2, e2, hc2, hl2, hcell2⟩ := HY.out.at (by have := HL.out; omega)
        cases e1; cases e2
        have hjb : j < q.length := by have := HL.out; omega
        have d1 := hcell1 wr hgr j (by omega)
        have d2 := hcell2 wr hgr j hjb
        generalize hp : p[j]'(by omega) = u at d1
        generalize hq : q[j]'hjb = v at d2
        have hji : ((j + 1 : Nat) : Int) - 1 = (j : Int) := by omega
        have hjn : (j : Int).toNat = j := by omega
        rw [hji]
        have HP := Lib.hid hp
        have HQ := Lib.hid hq
        clear hp hq hcell1 hcell2 hji
        by_cases hpq : u < v
        · have b1 : decide ((u : Int) < (v : Int)) = true := decide_eq_true (by omega)
          have b1n : decide (u < v) = true := decide_eq_true hpq
          go_wp2_with fail
          go_quiet (fail)
          go_wp2
          go_ret
          refine ⟨ret_int ?_, Gr.drew hgr _⟩
          have := Dg.val_lt_of_limb p q HPL.out j (by omega) hjb HD.out (by rw [HP.out, HQ.out]; exact hpq)
          unfold cmpN; rw [if_pos this]
        · have b1 : decide ((u : Int) < (v : Int)) = false := decide_eq_false (by omega)
          have b1n : decide (u < v) = false := decide_eq_false hpq
          by_cases hqp : v < u
          · have b2 : decide ((v : Int) < (u : Int)) = true := decide_eq_true (by omega)
            have b2n : decide (v < u) = true := decide_eq_true hqp
            go_wp2_with fail
            go_quiet (fail)
            go_wp2
            go_quiet (fail)
            go_wp2
            go_ret
            refine ⟨ret_int ?_, by first | exact Gr.drew hgr _ | exact Gr.drew (Gr.drew hgr _) _⟩
            have := Dg.val_lt_of_limb q p HQL.out j hjb (by omega) HD.out.symm (by rw [HP.out, HQ.out]; exact hqp)
            unfold cmpN; rw [if_neg (by omega), if_pos this]
          · have b2 : decide ((v : Int) < (u : Int)) = false := decide_eq_false (by omega)
            have b2n : decide (v < u) = false := decide_eq_false hqp
            have hpe : u = v := by omega
            have HPE := Lib.hid hpe
            clear hpe
            go_wp2_with fail
            go_quiet (fail)
            go_wp2
            go_quiet (fail)
            go_wp2
            go_roundg j
            case measure => omega
            case rel => exact ⟨by omega, by first | rfl | go_num, by rw [List.drop_eq_getElem_cons (by omega : j < p.length), List.drop_eq_getElem_cons hjb, HP.out, HQ.out, HPE.out, HD.out], by first | exact Gr.drew hgr _ | exact Gr.drew (Gr.drew hgr _) _⟩
      · obtain rfl : gk = 0 := by omega
        go_wp2
        go_ret
        refine ⟨ret_int ?_, hgr⟩
        have hab : p = q := by simpa using HD.out
        subst hab
        unfold cmpN; rw [if_neg (by omega), if_neg (by omega)]
  · have hne : ((p.length : Int) != q.length) = true := bne_iff_ne.2 (by omega)
    rcases Nat.lt_or_ge p.length q.length with h | h
    · have b1 : decide ((p.length : Int) < (q.length : Int)) = true := decide_eq_true (by omega)
      have b1n : decide (p.length < q.length) = true := decide_eq_true h
      have HV := Lib.hid (Dg.val_lt_of_length p q HPL.out HQN.out h)
      clear hl h
      go_enter Tryz.func37, Tryz.ntmps37
      go_wp2
      go_ret
      refine ⟨ret_int ?_, Gr.rf w⟩
      have := HV.out
      unfold cmpN; rw [if_pos this]
    · have b1 : decide ((p.length : Int) < (q.length : Int)) = false := decide_eq_false (by omega)
      have b1n : decide (p.length < q.length) = false := decide_eq_false (by omega)
      have HV := Lib.hid (Dg.val_lt_of_length q p HQL.out HPN.out (by omega))
      clear hl h
      go_enter Tryz.func37, Tryz.ntmps37
      go_wp2
      go_ret
      refine ⟨ret_int ?_, Gr.rf w⟩
      have := HV.out
      unfold cmpN; rw [if_neg (by omega), if_pos this]

set_option maxRecDepth 100000 in
set_option maxHeartbeats 8000000 in
/-- The reference's Add. -/
theorem radd_calls (x y : Value) (a b : Nat) (w : World) (hx : RN w x a) (hy : RN w y b) (k : Nat) (hka : a < Dg.D ^ k) (hkb : b < Dg.D ^ k) (hk : k ≤ 1000000) :
    Calls Tryz.prog 79 #[x, y] w fun e w' => (∃ r, e = .returned r ∧ RN w' r (a + b)) ∧ Gr w w' := by
  obtain ⟨i0, hi, hz0, hz1, hz2⟩ := info_parts info45
  have hla := Dg.digs_len a k hka
  have hlb := Dg.digs_len b k hkb
  have HPL := Lib.hid (Dg.digs_limbs a)
  have HQL := Lib.hid (Dg.digs_limbs b)
  have HPN := Lib.hid (Dg.digs_norm a)
  have HQN := Lib.hid (Dg.digs_norm b)
  have hav := Dg.val_digs a
  have hbv := Dg.val_digs b
  unfold RN at hx hy
  generalize Dg.digs a = p at *
  generalize Dg.digs b = q at *
  subst hav
  subst hbv
  have HP := Lib.hid hx
  have HQ := Lib.hid hy
  obtain ⟨xa, xc, rfl⟩ := hx.slice
  obtain ⟨ya, yc, rfl⟩ := hy.slice
  clear hka hkb hx hy
  go_enter Tryz.func79, Tryz.ntmps79
  go_wp2
  go_loopg [5, 6, 7] (p.length + q.length + 2) (fun g so sc si wr => ∃ (i c : Nat) (r : List Nat), g = p.length + q.length + 2 - i ∧ i ≤ p.length + q.length + 1 ∧ sc = .int .u64 (c : Int) ∧ si = .int .i64 (i : Int) ∧ c ≤ 1 ∧ Hid (r.length = i) ∧ Hid (Dg.Limbs r) ∧
    Hid (Dg.val r + Dg.D ^ i * c = Dg.val (p.take i) + Dg.val (q.take i)) ∧ Hid (r.length ≤ max p.length q.length ∨ (c = 0 ∧ Dg.D ^ (r.length - 1) ≤ Dg.val r)) ∧ Hid (wr.ownsRow w.heap.size 56 1 so r.length (r.map U)) ∧ Hid (Gr w wr))
  case atStart => exact ⟨0, 0, [], rfl, by omega, rfl, rfl, by omega, Lib.hid rfl, Lib.hid (fun x hx => by cases hx), Lib.hid (by simp [Dg.val]), Lib.hid (.inl (Nat.zero_le _)), Lib.hid (World.ownsRow_nil _ _ _ _), Lib.hid (Gr.rf w)⟩
  case round =>
    obtain ⟨i, c, r, hg, hile, rfl, rfl, hc1, HRL, HRM, HRV, HRX, HOW, HG⟩ := hrel
    have HGG := Lib.hid hg
    clear hg
    by_cases hend : p.length ≤ i ∧ q.length ≤ i ∧ c = 0
    · obtain ⟨hpi, hqi, rfl⟩ := hend
      have b1 : decide ((i : Int) < (p.length : Int)) = false := decide_eq_false (by omega)
      have b1n : decide (i < p.length) = false := decide_eq_false (by omega)
      have b2 : decide ((i : Int) < (q.length : Int)) = false := decide_eq_false (by omega)
      have b2n : decide (i < q.length) = false := decide_eq_false (by omega)
      have HV := Lib.hid (show Dg.val r = Dg.val p + Dg.val q by
        have h := HRV.out
        rw [List.take_of_length_le hpi, List.take_of_length_le hqi, Nat.mul_zero, Nat.add_zero] at h
        exact h)
      have HN := Lib.hid (Dg.norm_of_ge r HRM.out (Dg.add_norm r p q HPN.out HQN.out (by rw [HRL.out]; exact hpi) (by rw [HRL.out]; exact hqi) HV.out (HRX.out.imp id (fun h => h.2))))
      have HLL := Lib.hid (lim_own HOW.out (Dg.limbs_B HRM.out))
      rw [show ((0 : Nat) : Int) = 0 from rfl]
      go_wp2
      go_ret
      exact ⟨⟨_, rfl, RN.mk HLL.out HRM.out HN.out HV.out⟩, HG.out⟩
    · have hgo : i < p.length ∨ i < q.length ∨ 0 < c := by omega
      have hx9 := Dg.getD_lt HPL.out i
      have hy9 := Dg.getD_lt HQL.out i
      have hx0 : ¬ i < p.length → p.getD i 0 = 0 := fun h => by rw [List.getD_eq_getElem?_getD, List.getElem?_eq_none (by omega)]; rfl
      have hy0 : ¬ i < q.length → q.getD i 0 = 0 := fun h => by rw [List.getD_eq_getElem?_getD, List.getElem?_eq_none (by omega)]; rfl
      have HST := Lib.hid (Dg.add_step r (Dg.val (p.take i)) (Dg.val (q.take i)) i c (p.getD i 0) (q.getD i 0) HRL.out HRV.out)
      have HCA := Lib.hid (Dg.add_carry c (p.getD i 0) (q.getD i 0) hc1 hx9 hy9)
      have HMO := Lib.hid (Dg.add_more r p.length q.length c (p.getD i 0) (q.getD i 0) hc1 (fun h => hx0 (by rw [HRL.out] at h; omega)) (fun h => hy0 (by rw [HRL.out] at h; omega)) (by rw [HRL.out]; exact hgo) HRX.out)
      have HTP := Lib.hid (Dg.val_take_getD p i)
      have HTQ := Lib.hid (Dg.val_take_getD q i)
      have hgp := fun h => HP.out.get HG.out i h
      have hgq := fun h => HQ.out.get HG.out i h
      rw [Dg.D_eq] at hx9 hy9
      generalize p.getD i 0 = u at *
      generalize q.getD i 0 = v at *
      have hq9 : (c + u + v) % Dg.D < Dg.D := Nat.mod_lt _ Dg.D_pos
      have hqd : (c + u + v) % Dg.D = (c + u + v) % 1000000000 := rfl
      have hzd : (c + u + v) / Dg.D = (c + u + v) / 1000000000 := rfl
      obtain ⟨d, hd⟩ : ∃ d, (c + u + v) % Dg.D = d := ⟨_, rfl⟩
      obtain ⟨z, hz⟩ : ∃ z, (c + u + v) / Dg.D = z := ⟨_, rfl⟩
      have e1 : ((c : Int) + (u : Int) + (v : Int)) % 1000000000 = (d : Int) := by omega
      have e2 : ((c : Int) + (u : Int) + (v : Int)) / 1000000000 = (z : Int) := by omega
      rw [hd] at HST HMO hq9
      rw [hz] at HST HMO HCA
      have hdB : d < B := Nat.lt_trans hq9 (by decide)
      have HQ9 := Lib.hid hq9
      have hs := HG.out.size
      have hrl := HRL.out
      have HZ1 := HCA.out
      clear hqd hzd hq9 hend
      have fin : ∀ (wz : World) (v' : Value), Gr w wz → wz.ownsRow w.heap.size 56 1 v' ((r ++ [d]).length) ((r ++ [d]).map U) →
          ∃ (i2 c2 : Nat) (r2 : List Nat), p.length + q.length + 2 - (i + 1) = p.length + q.length + 2 - i2 ∧ i2 ≤ p.length + q.length + 1 ∧ Value.int .u64 (z : Int) = .int .u64 (c2 : Int) ∧ Value.int .i64 ((i + 1 : Nat) : Int) = .int .i64 (i2 : Int) ∧ c2 ≤ 1 ∧ Hid (r2.length = i2) ∧ Hid (Dg.Limbs r2) ∧
            Hid (Dg.val r2 + Dg.D ^ i2 * c2 = Dg.val (p.take i2) + Dg.val (q.take i2)) ∧ Hid (r2.length ≤ max p.length q.length ∨ (c2 = 0 ∧ Dg.D ^ (r2.length - 1) ≤ Dg.val r2)) ∧ Hid (wz.ownsRow w.heap.size 56 1 v' r2.length (r2.map U)) ∧ Hid (Gr w wz) := fun wz v' hgz how =>
        ⟨i + 1, z, r ++ [d], rfl, by
          rcases HRX.out with h | h
          · rw [HRL.out] at h; omega
          · omega, rfl, rfl, HZ1, Lib.hid (by rw [List.length_append, HRL.out]; rfl),
          Lib.hid (fun x hx => by
            rcases List.mem_append.1 hx with hx | hx
            · exact HRM.out x hx
            · rw [List.mem_singleton.1 hx]; exact HQ9.out),
          Lib.hid (by rw [HTP.out, HTQ.out]; exact HST.out),
          Lib.hid (by rw [List.length_append, List.length_singleton, Nat.add_sub_cancel]; exact HMO.out), Lib.hid how, Lib.hid hgz⟩
      have FIN := Lib.hid fin
      clear fin hd hz
      have ei : ((i + 1 : Nat) : Int) = (i : Int) + 1 := by omega
      by_cases h1 : i < p.length
      case' pos =>
        have b1 : decide ((i : Int) < (p.length : Int)) = true := decide_eq_true (by omega)
        have b1n : decide (i < p.length) = true := decide_eq_true h1
        obtain ⟨g1, o1, c1, e3, hcl1⟩ := hgp h1
        cases e3
        clear hx0 hgp hgo
      case' neg =>
        have b1 : decide ((i : Int) < (p.length : Int)) = false := decide_eq_false (by omega)
        have b1n : decide (i < p.length) = false := decide_eq_false h1
        have hu0 := hx0 h1
        subst hu0
        clear hx0 hgp
      all_goals
        by_cases h2 : i < q.length
        case' pos =>
          have b2 : decide ((i : Int) < (q.length : Int)) = true := decide_eq_true (by omega)
          have b2n : decide (i < q.length) = true := decide_eq_true h2
          obtain ⟨g2, o2, c2, e4, hcl2⟩ := hgq h2
          cases e4
          clear hy0 hgq
        case' neg =>
          have b2 : decide ((i : Int) < (q.length : Int)) = false := decide_eq_false (by omega)
          have b2n : decide (i < q.length) = false := decide_eq_false h2
          have hv0 := hy0 h2
          subst hv0
          clear hy0 hgq
          try (have hc0 : 0 < c := by omega
               have b3 : decide ((0 : Int) < (c : Int)) = true := decide_eq_true (by omega)
               have b3n : decide (0 < c) = true := decide_eq_true hc0)
        all_goals
          try simp only [show ((0 : Nat) : Int) = 0 from rfl, Int.add_zero] at e1 e2
          go_wp2_with (at_builtin; refine wpList_append_own _ rfl _ _ 25 rfl w.heap.size 56 i0 (.int .u64 0) 1 8 underN hi hz0 hz1 hz2 rfl (by decide) _ _ _ rfl (HOW.out.alloc _) ⟨wr.heap.size, 0, none⟩ 1 1 [.int .u64 (d : Int)] rfl rfl (cell_one_new _ _ _) (fun x hx => by simp at hx; subst hx; rfl) (by simp only [maxLen]; omega) (by omega) (by simp; omega) ?_; intro v' w2 hown1 hgrow _)
          have HOW2 := Lib.hid hown1
          have HG2 := Lib.hid (show Gr w w2 from Below.grown (HG.out.tr ((Gr.rf wr).alloc (Nat.le_refl _) _)) hgrow (by have := HG.out.size; simp; omega) (fun j hj => (HOW.out.lt j hj).1))
          clear hown1 hgrow
          have hfin := FIN.out w2 v' HG2.out (by rw [List.map_append, List.length_append]; exact HOW2.out)
          rw [ei] at hfin
          have HFIN := Lib.hid hfin
          clear hfin ei
          go_wp2
          go_roundg (p.length + q.length + 2 - (i + 1))
          case measure => have := HGG.out; omega
          case rel =>
            obtain ⟨i2, c2, r2, f1, f2, f3, f4, f5⟩ := HFIN.out
            exact ⟨i2, c2, r2, f1, f2, by first | exact f3 | (rw [e2]; exact f3), by first | exact f4 | (rw [← f4]), f5⟩
end
section
open Go.RowKit Go.Extern.Stop Go.Stop Go.Extern Go.Sort
set_option linter.unusedVariables false
set_option linter.unusedSimpArgs false

theorem digs_nil {w : World} {v : Value} (h : Lim w v []) : RN w v 0 := by unfold RN; rw [Dg.digs_zero]; exact h

set_option maxRecDepth 100000 in
set_option maxHeartbeats 8000000 in
/-- The reference's Sub. -/
theorem rsub_calls (x y : Value) (a b : Nat) (w : World) (hx : RN w x a) (hy : RN w y b) (hle : b ≤ a) (k : Nat) (hka : a < Dg.D ^ k) (hk : k ≤ 1000000) :
    Calls Tryz.prog 145 #[x, y] w fun e w' => (∃ r, e = .returned r ∧ RN w' r (a - b)) ∧ Gr w w' := by
  obtain ⟨i0, hi, hz0, hz1, hz2⟩ := info_parts info45
  have hla := Dg.digs_len a k hka
  have hnb := Dg.digs_norm b
  have hPL := Dg.digs_limbs a
  have hQL := Dg.digs_limbs b
  have hav := Dg.val_digs a
  have hbv := Dg.val_digs b
  unfold RN at hx hy
  generalize Dg.digs a = p at *
  generalize Dg.digs b = q at *
  have hlq : q.length ≤ p.length := by
    rcases Nat.lt_or_ge p.length q.length with h | h
    · have := Dg.val_lt_of_length p q hPL hnb h; omega
    · exact h
  have HLE := Lib.hid hle
  have HAV := Lib.hid hav
  have HBV := Lib.hid hbv
  have HPL := Lib.hid hPL
  have HQL := Lib.hid hQL
  have HP := Lib.hid hx
  have HQ := Lib.hid hy
  obtain ⟨ya, yc, rfl⟩ := hy.slice
  have hxx : (x = .slice none 0 0 ∧ p = []) ∨ ∃ g o c, x = .slice (some ⟨g, o, none⟩) p.length c ∧ ∀ j u, (p.map U)[j]? = some u → w.cell? ((⟨g, o, none⟩ : Addr).add j) = some u := by
    rcases hx.2 with h | ⟨g, o, c, h1, _, _, _, h5⟩
    · exact .inl h
    · refine .inr ⟨g, o, c, h1, fun j u hj => ?_⟩
      have hl := (List.getElem?_eq_some_iff.1 hj).1
      have hl' : j < p.length := by simpa using hl
      rw [Go.WideShapes.add_plain, h5 j hl']
      rw [List.getElem?_map, List.getElem?_eq_getElem hl'] at hj
      exact hj
  have HH := Lib.hid hnb
  clear hx hy hav hbv hnb hPL hQL hle hka
  rcases hxx with ⟨rfl, hpn⟩ | ⟨gx, ox, cx, rfl, hcx⟩
  · subst hpn
    have hq0 : q.length = 0 := by simpa using hlq
    have ha0 : a - b = 0 := by rw [← HAV.out]; exact Nat.zero_sub _
    have HT := Lib.hid (rtrim_calls (.slice none 0 0) [] w ⟨fun x hx => (by cases hx), .inl ⟨rfl, rfl⟩⟩ (fun x hx => by cases hx) (by simp))
    rw [ha0]
    rw [hq0] at HQ
    rw [hq0]
    clear hlq hq0 ha0 hla
    go_enter Tryz.func145, Tryz.ntmps145
    go_wp2_with (at_builtin; refine wpList_append_own_none rfl _ _ 25 rfl w.heap.size 56 i0 1 underN hi _ 0 [] rfl (World.ownsRow_nil _ _ _ _) rfl ?_)
    go_loopg [6] 0 (fun g si wr => g = 0 ∧ si = .int .i64 0 ∧ w = wr)
    case atStart => exact ⟨rfl, rfl, rfl⟩
    case round =>
      obtain ⟨rfl, rfl, rfl⟩ := hrel
      go_wp2_with (go_at_call 131; (with_reducible refine HT.out.mono ?_); rintro ev w1 ⟨⟨r, rfl, hr⟩, rfl⟩; have HR := Lib.hid hr; clear hr)
      go_ret
      exact ⟨⟨_, rfl, HR.out⟩, Gr.rf w⟩
  · by_cases h0 : p.length = 0
    · have hpn : p = [] := List.eq_nil_of_length_eq_zero h0
      subst hpn
      have hq0 : q.length = 0 := by simpa using hlq
      have ha0 : a - b = 0 := by rw [← HAV.out]; exact Nat.zero_sub _
      rw [ha0]
      rw [hq0] at HQ
      rw [hq0]
      clear hlq hq0 ha0 hla h0
      go_enter Tryz.func145, Tryz.ntmps145
      go_wp2_with (at_builtin; refine wpList_append_own _ rfl _ _ 25 rfl w.heap.size 56 i0 (.int .u64 0) 1 8 underN hi hz0 hz1 hz2 rfl (by decide) (.slice none 0 0) 0 [] rfl (World.ownsRow_nil _ _ _ _) ⟨gx, ox, none⟩ 0 cx [] rfl rfl (fun j u h => by cases h) (fun u hu => by cases hu) (by decide) (by decide) (Nat.le_refl _) ?_; intro v' w2 hown hgrow hnl; have HNL := Lib.hid (hnl.2 ⟨rfl, rfl⟩); have HG := Lib.hid (show Gr w w2 from Below.grown (Gr.rf w) hgrow (Nat.le_refl _) (fun j hj => by cases hj)); clear hown hgrow hnl; obtain rfl := HNL.out)
      go_loopg [6] 0 (fun g si wr => g = 0 ∧ si = .int .i64 0 ∧ w2 = wr)
      case atStart => exact ⟨rfl, rfl, rfl⟩
      case round =>
        obtain ⟨rfl, rfl, rfl⟩ := hrel
        have HT := Lib.hid (rtrim_calls (.slice none 0 0) [] w2 ⟨fun x hx => (by cases hx), .inl ⟨rfl, rfl⟩⟩ (fun x hx => by cases hx) (by simp))
        go_wp2_with (go_at_call 131; (with_reducible refine HT.out.mono ?_); rintro ev w1 ⟨⟨r, rfl, hr⟩, rfl⟩; have HR := Lib.hid hr; clear hr)
        go_ret
        exact ⟨⟨_, rfl, HR.out⟩, HG.out⟩
    · have hp0 : 0 < p.length := by omega
      clear h0
      go_enter Tryz.func145, Tryz.ntmps145
      go_wp2_with (at_builtin; refine wpList_append_own _ rfl _ _ 25 rfl w.heap.size 56 i0 (.int .u64 0) 1 8 underN hi hz0 hz1 hz2 rfl (by decide) (.slice none 0 0) 0 [] rfl (World.ownsRow_nil _ _ _ _) ⟨gx, ox, none⟩ p.length cx (p.map U) rfl (by simp) hcx (fun u hu => by obtain ⟨z, _, rfl⟩ := List.mem_map.1 hu; rfl) (by simp only [maxLen]; omega) (by omega) (Nat.le_refl _) ?_; intro v' w2 hown hgrow _; have HG := Lib.hid (show Gr w w2 from Below.grown (Gr.rf w) hgrow (Nat.le_refl _) (fun j hj => by cases hj)); rw [Nat.zero_add, List.nil_append] at hown; obtain ⟨g, c, rfl, hwg, hc1, hc2, hO⟩ := ownF_of hown hp0; have HO := Lib.hid hO; clear hown hgrow hO)
      clear hcx
      go_loopg [6] q.length (fun k si wr => ∃ (i : Nat) (F : Nat → Nat), k = q.length - i ∧ i ≤ q.length ∧ si = .int .i64 (i : Int) ∧ Hid (OwnF wr g p.length F) ∧ Hid (∀ j, F j < Dg.D) ∧ Hid (rv Dg.D F p.length + Dg.val (q.take i) = a) ∧ Hid (Gr w wr))
      case atStart => exact ⟨0, (p.getD · 0), rfl, Nat.zero_le _, rfl, HO, Lib.hid (Dg.getD_lt HPL.out), Lib.hid (by rw [Dg.rv_list p _ (Nat.le_refl _), HAV.out]; simp [Dg.val]), HG⟩
      case round =>
        obtain ⟨i, F, hk, hi, rfl, HF, HFD, HFV, HGR⟩ := hrel
        have HK := Lib.hid hk
        clear hk
        by_cases hlt : i < q.length
        · have b1 : decide ((i : Int) < (q.length : Int)) = true := decide_eq_true (by omega)
          have b1n : decide (i < q.length) = true := decide_eq_true hlt
          obtain ⟨g2, o2, c2, e2, _⟩ := HQ.out.get HGR.out i hlt
          cases e2
          have HQG := Lib.hid (fun w' hg => by have h := HQ.out.get (w' := w') hg i hlt; obtain ⟨g, o, c, e, h2⟩ := h; cases e; exact h2)
          have hcq := HQG.out wr HGR.out
          have hcell := HF.out.cell (i := i) (by omega)
          have hfr := HF.out.frozen i
          have hxD := Dg.getD_lt HQL.out i
          have hfD := HFD.out i
          have hip : (i : Int) < (p.length : Int) := by omega
          have HNX := Lib.hid (fun G hG => Dg.sub_next F G p.length i a q HFV.out hG)
          have HRO := Lib.hid (fun G kk (h1 : kk ≤ p.length) h2 h3 => Dg.sub_room F G p.length i kk (q.getD i 0) a q h1 h2 h3 HFV.out rfl (by rw [HBV.out]; exact HLE.out))
          have hpl := Dg.sub_plain F p.length i (q.getD i 0) (by omega)
          have hfi := fun h => Dg.sub_first F p.length i (q.getD i 0) (by omega) h hxD
          generalize hqx : q.getD i 0 = x at *
          generalize hff : F i = f at *
          have HQX := Lib.hid hqx
          have HFF := Lib.hid hff
          have hx9 : x < 1000000000 := by rw [Dg.D_eq] at hxD; exact hxD
          have hf9 : f < 1000000000 := by rw [Dg.D_eq] at hfD; exact hfD
          clear hqx hff
          by_cases hxle : x ≤ f
          · have b2 : decide ((x : Int) ≤ (f : Int)) = true := decide_eq_true (by omega)
            have b2n : decide (x ≤ f) = true := decide_eq_true hxle
            have HPLN := Lib.hid (hpl hxle)
            obtain ⟨d, hd⟩ : ∃ d, f - x = d := ⟨_, rfl⟩
            have hd1 : (f : Int) - (x : Int) = (d : Int) := by omega
            have hdw : IntKind.u64.wrap (d : Int) = (d : Int) := wrapN d (by rw [B_eq]; omega)
            have hdD : d < Dg.D := by omega
            rw [hd] at HPLN
            have HDD := Lib.hid hdD
            clear hpl hfi hd hdD
            go_wp2_with fail
            go_quiet (fail)
            go_wp2_with fail
            generalize hW1 : wr.drewN nq = W1
            have HW1 := Lib.hid hW1
            have hcd : W1.drew.cell? ⟨g, i, none⟩ = some (.int .u64 (f : Int)) := by rw [← hW1]; exact hcell
            have hqd : W1.drew.cell? ⟨g2, o2 + i, none⟩ = some (.int .u64 (x : Int)) := by rw [← hW1]; exact hcq
            have hfd : W1.frozen? ⟨g, i, none⟩ = false := by rw [← hW1]; exact hfr
            have hc1 : W1.cell? ⟨g, i, none⟩ = some (.int .u64 (f : Int)) := by rw [← hW1]; exact hcell
            clear hW1 hcell hcq hfr
            refine wp_region_still_tail 10 (by kernel_rfl) (by kernel_rfl) ?_
            simp only [List.take_succ_cons, List.take_zero, List.drop_succ_cons, List.drop_zero]
            change wpStill _ _ W1.drew _ _ _
            generalize W1.drew = W2 at hcd hqd ⊢
            repeat still_step
            refine wpStill_nil ?_
            go_wp2
            go_roundg (q.length - (i + 1))
            case measure => have := HK.out; omega
            case rel => exact ⟨i + 1, (fun j => if j = i then d else F j), rfl, by omega, by first | rfl | go_num, Lib.hid (by rw [← HW1.out]; exact HF.out.set i d), Lib.hid (fun j => by dsimp only; split; exact HDD.out; exact HFD.out j), Lib.hid (HNX.out _ HPLN.out), Lib.hid (by rw [← HW1.out]; exact gr_drew1 ((Gr.drew HGR.out nq).setCell (a := ⟨g, i, none⟩) hwg _))⟩
          · have b2 : decide ((x : Int) ≤ (f : Int)) = false := decide_eq_false (by omega)
            have b2n : decide (x ≤ f) = false := decide_eq_false hxle
            have HFIR := Lib.hid (hfi (by omega))
            obtain ⟨z, hz⟩ : ∃ z, Dg.D - x = z := ⟨_, rfl⟩
            obtain ⟨d, hd⟩ : ∃ d, f + z = d := ⟨_, rfl⟩
            have hz9 : z = 1000000000 - x := by rw [← hz]; rfl
            have hz1 : (1000000000 : Int) - (x : Int) = (z : Int) := by omega
            have hzw : IntKind.u64.wrap (z : Int) = (z : Int) := wrapN z (by rw [B_eq]; omega)
            have hd1 : (f : Int) + (z : Int) = (d : Int) := by omega
            have hdw : IntKind.u64.wrap (d : Int) = (d : Int) := wrapN d (by rw [B_eq]; omega)
            have hdD : d < Dg.D := by rw [Dg.D_eq]; omega
            rw [hz, hd] at HFIR
            have HDD := Lib.hid hdD
            clear hpl hfi hz hd hdD hz9
            go_wp2_with fail
            go_quiet (fail)
            go_wp2_with fail
            generalize hW1 : wr.drewN nq = W1
            have HW1 := Lib.hid hW1
            have hcd : W1.drew.cell? ⟨g, i, none⟩ = some (.int .u64 (f : Int)) := by rw [← hW1]; exact hcell
            have hqd : W1.drew.cell? ⟨g2, o2 + i, none⟩ = some (.int .u64 (x : Int)) := by rw [← hW1]; exact hcq
            have hfd : W1.frozen? ⟨g, i, none⟩ = false := by rw [← hW1]; exact hfr
            have hc1 : W1.cell? ⟨g, i, none⟩ = some (.int .u64 (f : Int)) := by rw [← hW1]; exact hcell
            clear hW1 hcell hcq hfr
            refine wp_region_still_tail 11 (by kernel_rfl) (by kernel_rfl) ?_
            simp only [List.take_succ_cons, List.take_zero, List.drop_succ_cons, List.drop_zero]
            change wpStill _ _ W1.drew _ _ _
            generalize W1.drew = W2 at hcd hqd ⊢
            repeat still_step
            refine wpStill_nil ?_
            go_wp2
            go_loopg [7] (p.length - (i + 1)) (fun n sk wr2 => ∃ (kk : Nat) (G : Nat → Nat), n = p.length - kk ∧ sk = .int .i64 (kk : Int) ∧ kk ≤ p.length ∧ Hid (OwnF wr2 g p.length G) ∧ Hid (∀ j, G j < Dg.D) ∧ Hid (rv Dg.D G p.length + Dg.D ^ i * x = rv Dg.D F p.length + Dg.D ^ kk) ∧ Hid (Gr w wr2))
            case atStart => exact ⟨i + 1, (fun j => if j = i then d else F j), by omega, by first | rfl | go_num, by omega, Lib.hid (by rw [← HW1.out]; exact HF.out.set i d), Lib.hid (fun j => by dsimp only; split; exact HDD.out; exact HFD.out j), HFIR, Lib.hid (by rw [← HW1.out]; exact gr_drew1 ((Gr.drew HGR.out nq).setCell (a := ⟨g, i, none⟩) hwg _))⟩
            case round =>
              obtain ⟨kk, G, hkk, rfl, hkp, HG2, HGD, HGV, HGR2⟩ := hrel
              have HKK := Lib.hid hkk
              clear hkk
              have hkl := HRO.out G kk hkp HGD.out HGV.out
              have hck := HG2.out.cell (i := kk) hkl
              have hfk := HG2.out.frozen kk
              have hkl1 : (kk : Int) < (p.length : Int) := by omega
              have hgD := HGD.out kk
              have hon := Dg.sub_on F G p.length i kk x hkl
              have hof := Dg.sub_off F G p.length i kk x hkl
              generalize hgg : G kk = y at *
              by_cases hy0 : y = 0
              · have HON := Lib.hid (hon hy0 HGV.out)
                subst hy0
                rw [show ((0 : Nat) : Int) = 0 from rfl] at hck
                clear hon hof hgg
                go_wp2
                go_roundg (p.length - (kk + 1))
                case measure => have := HKK.out; omega
                case rel => exact ⟨kk + 1, (fun j => if j = kk then Dg.D - 1 else G j), by omega, by first | rfl | go_num, by omega, Lib.hid (HG2.out.set kk (Dg.D - 1)), Lib.hid (fun j => by dsimp only; split; decide; exact HGD.out j), HON, Lib.hid (HGR2.out.setCell (a := ⟨g, kk, none⟩) hwg _)⟩
              · have HOF := Lib.hid (hof hy0 HGV.out)
                have hb : ((y : Int) == 0) = false := beq_eq_false_iff_ne.2 (by omega)
                obtain ⟨e, he⟩ : ∃ e, y - 1 = e := ⟨_, rfl⟩
                have he1 : (y : Int) - 1 = (e : Int) := by omega
                have hew : IntKind.u64.wrap (e : Int) = (e : Int) := wrapN e (by rw [B_eq]; rw [Dg.D_eq] at hgD; omega)
                have heD : e < Dg.D := by omega
                rw [he] at HOF
                have HED := Lib.hid heD
                clear hon hof hgg he heD
                go_wp2
                go_roundg (q.length - (i + 1))
                case measure => have := HK.out; omega
                case rel => exact ⟨i + 1, (fun j => if j = kk then e else G j), by first | rfl | omega, by omega, by first | rfl | go_num, Lib.hid (HG2.out.set kk e), Lib.hid (fun j => by dsimp only; split; exact HED.out; exact HGD.out j), Lib.hid (HNX.out _ HOF.out), Lib.hid (HGR2.out.setCell (a := ⟨g, kk, none⟩) hwg _)⟩
        · have hie : i = q.length := by omega
          subst hie
          have b1 : decide ((q.length : Int) < (q.length : Int)) = false := decide_eq_false (by omega)
          have b1n : decide (q.length < q.length) = false := decide_eq_false (by omega)
          have hlim := HF.out.lim 0 p.length c (fun j _ => Nat.lt_trans (HFD.out _) (by decide)) (by omega) hc1 hc2
          have hll : ((List.range p.length).map fun j => F (0 + j)).length = p.length := by simp
          have hdl : Dg.Limbs ((List.range p.length).map fun j => F (0 + j)) := fun x hx => by
            obtain ⟨j, _, rfl⟩ := List.mem_map.1 hx
            exact HFD.out _
          have hvl : Dg.val ((List.range p.length).map fun j => F (0 + j)) = a - b := by
            have h := HFV.out
            rw [List.take_of_length_le (Nat.le_refl _), HBV.out] at h
            have h2 : Dg.val ((List.range p.length).map fun j => F (0 + j)) = rv Dg.D F p.length := by
              rw [Dg.rv_val]
              exact rv_congr _ fun j _ => by rw [Nat.zero_add]
            omega
          have hT := rtrim_calls _ _ wr hlim hdl (by rw [hll]; omega)
          rw [hvl] at hT
          have HT := Lib.hid hT
          clear hlim hll hdl hvl hT
          go_wp2_with (go_at_call 131; (with_reducible refine HT.out.mono ?_); rintro ev w1 ⟨⟨r, rfl, hr⟩, rfl⟩; have HR := Lib.hid hr; clear hr)
          go_ret
          exact ⟨⟨_, rfl, HR.out⟩, HGR.out⟩
end
section
open Go.RowKit Go.Extern.Stop Go.Stop Go.Extern Go.Sort
set_option linter.unusedVariables false
set_option linter.unusedSimpArgs false

theorem makeN (n : Nat) (h : n ≤ 2000000000) (w : World) : (Instr.makeSlice 25 (.int .i64 (n : Int)) (.int .i64 (n : Int))).run Tryz.prog w = .ok (.slice (some ⟨w.heap.size, 0, none⟩) n n) (w.alloc (.cells (madeCells #[.int .u64 0] n) 56)) :=
  run_make_row' 25 56 (.int .u64 0) 8 underN info45 rfl .i64 .i64 n (by omega) (by omega) w

set_option maxRecDepth 100000 in
set_option maxHeartbeats 8000000 in
/-- The reference's Mul. -/
theorem rmul_calls (x y : Value) (a b : Nat) (w : World) (hx : RN w x a) (hy : RN w y b) (k : Nat) (hka : a < Dg.D ^ k) (hkb : b < Dg.D ^ k) (hk : k ≤ 1000000) :
    Calls Tryz.prog 80 #[x, y] w fun e w' => (∃ r, e = .returned r ∧ RN w' r (a * b)) ∧ Gr w w' := by
  have hla := Dg.digs_len a k hka
  have hlb := Dg.digs_len b k hkb
  have HPL := Lib.hid (Dg.digs_limbs a)
  have HQL := Lib.hid (Dg.digs_limbs b)
  have hav := Dg.val_digs a
  have hbv := Dg.val_digs b
  unfold RN at hx hy
  generalize Dg.digs a = p at *
  generalize Dg.digs b = q at *
  subst hav
  subst hbv
  have HP := Lib.hid hx
  have HQ := Lib.hid hy
  obtain ⟨xa, xc, rfl⟩ := hx.slice
  obtain ⟨ya, yc, rfl⟩ := hy.slice
  clear hka hkb hx hy
  by_cases h0 : p.length = 0 ∨ q.length = 0
  · have hz : Dg.val p * Dg.val q = 0 := by
      rcases h0 with h | h
      · rw [List.eq_nil_of_length_eq_zero h]; exact Nat.zero_mul _
      · rw [List.eq_nil_of_length_eq_zero h]; exact Nat.mul_zero _
    rw [hz]
    have hnil : RN w (.slice none 0 0) 0 := digs_nil ⟨fun x hx => (by cases hx), .inl ⟨rfl, rfl⟩⟩
    have HNIL := Lib.hid hnil
    clear hz hnil
    rcases Nat.eq_zero_or_pos p.length with h1 | h1
    · have b1 : ((p.length : Int) == 0) = true := beq_iff_eq.2 (by omega)
      have b1n : (p.length == 0) = true := beq_iff_eq.2 h1
      clear h0
      go_enter Tryz.func80, Tryz.ntmps80
      go_wp2
      go_ret
      exact ⟨⟨_, rfl, HNIL.out⟩, Gr.rf w⟩
    · have b1 : ((p.length : Int) == 0) = false := beq_eq_false_iff_ne.2 (by omega)
      have b1n : (p.length == 0) = false := beq_eq_false_iff_ne.2 (by omega)
      have b2 : ((q.length : Int) == 0) = true := beq_iff_eq.2 (by omega)
      have b2n : (q.length == 0) = true := beq_iff_eq.2 (by omega)
      clear h0
      go_enter Tryz.func80, Tryz.ntmps80
      go_wp2
      go_ret
      exact ⟨⟨_, rfl, HNIL.out⟩, Gr.rf w⟩
  · have b1 : ((p.length : Int) == 0) = false := beq_eq_false_iff_ne.2 (by omega)
    have b1n : (p.length == 0) = false := beq_eq_false_iff_ne.2 (by omega)
    have b2 : ((q.length : Int) == 0) = false := beq_eq_false_iff_ne.2 (by omega)
    have b2n : (q.length == 0) = false := beq_eq_false_iff_ne.2 (by omega)
    have hmk := makeN (p.length + q.length) (by omega)
    have ec : ((p.length + q.length : Nat) : Int) = (p.length : Int) + (q.length : Int) := by omega
    rw [ec] at hmk
    have hn0 : 0 < p.length + q.length := by omega
    clear h0 ec
    go_enter Tryz.func80, Tryz.ntmps80
    go_wp2
    clear hmk
    go_loopg [6] p.length (fun g si wr => ∃ (i : Nat) (F : Nat → Nat), g = p.length - i ∧ i ≤ p.length ∧ si = .int .i64 (i : Int) ∧ Hid (OwnF wr w.heap.size (p.length + q.length) F) ∧ Hid (∀ j, F j < Dg.D) ∧ Hid (∀ j, i + q.length ≤ j → F j = 0) ∧
      Hid (rv Dg.D F (p.length + q.length) = Dg.val (p.take i) * Dg.val q) ∧ Hid (Gr w wr))
    case atStart => exact ⟨0, fun _ => 0, rfl, Nat.zero_le _, rfl, Lib.hid ((rowU_made w _).own hn0), Lib.hid (fun _ => Dg.D_pos), Lib.hid (fun _ _ => rfl), Lib.hid (by rw [rv_nil _ _ _ (fun _ _ => rfl)]; simp [Dg.val]), Lib.hid ((Gr.rf w).alloc (Nat.le_refl _) _)⟩
    case round =>
      obtain ⟨i, F, hg, hi, rfl, HO, HFD, HF0, HFV, HG⟩ := hrel
      have HGG := Lib.hid hg
      clear hg
      by_cases hlt : i < p.length
      · have b3 : decide ((i : Int) < (p.length : Int)) = true := decide_eq_true (by omega)
        have b3n : decide (i < p.length) = true := decide_eq_true hlt
        have hxD := Dg.getD_lt HPL.out i
        obtain ⟨g1, o1, c1, e1, _⟩ := HP.out.get HG.out i hlt
        cases e1
        have HPG := Lib.hid (fun w' hg => by have h := HP.out.get (w' := w') hg i hlt; obtain ⟨g, o, c, e, h2⟩ := h; cases e; exact h2)
        generalize hxx : p.getD i 0 = xx at *
        have HXX := Lib.hid hxx
        clear hxx
        go_wp2
        go_loopg [7, 8] (q.length + 2) (fun g2 sc sk wr2 => ∃ (kk cc : Nat) (F2 : Nat → Nat), g2 = q.length + 2 - kk ∧ kk ≤ q.length + 1 ∧ sc = .int .u64 (cc : Int) ∧ sk = .int .i64 (kk : Int) ∧ cc < Dg.D ∧ (kk ≤ q.length ∨ cc = 0) ∧ Hid (OwnF wr2 w.heap.size (p.length + q.length) F2) ∧ Hid (∀ j, F2 j < Dg.D) ∧ Hid (∀ j, i + q.length + 1 ≤ j → F2 j = 0) ∧ Hid (kk ≤ q.length → F2 (i + q.length) = 0) ∧
          Hid (rv Dg.D F2 (p.length + q.length) + Dg.D ^ (i + kk) * cc = rv Dg.D F (p.length + q.length) + Dg.D ^ i * (xx * Dg.val (q.take kk))) ∧ Hid (Gr w wr2))
        case atStart => exact ⟨0, 0, F, rfl, by omega, rfl, rfl, Dg.D_pos, .inl (Nat.zero_le _), HO, HFD, Lib.hid (fun j hj => HF0.out j (by omega)), Lib.hid (fun _ => HF0.out _ (Nat.le_refl _)), Lib.hid (by simp [Dg.val]), HG⟩
        case round =>
          obtain ⟨kk, cc, F2, hg2, hkk, rfl, rfl, hcD, hkc, HO2, HFD2, HFZ, HFK, HFV2, HG2⟩ := hrel
          have HGG2 := Lib.hid hg2
          clear hg2
          by_cases hend : q.length ≤ kk ∧ cc = 0
          · obtain ⟨he1, rfl⟩ := hend
            have b4 : decide ((kk : Int) < (q.length : Int)) = false := decide_eq_false (by omega)
            have b4n : decide (kk < q.length) = false := decide_eq_false (by omega)
            have HNX := Lib.hid (Dg.mul_outer F F2 (p.length + q.length) i p q HFV.out (by
              have h := HFV2.out
              rw [List.take_of_length_le he1, Nat.mul_zero, Nat.add_zero] at h
              rw [HXX.out]
              exact h))
            rw [show ((0 : Nat) : Int) = 0 from rfl]
            go_wp2
            go_roundg (p.length - (i + 1))
            case measure => have := HGG.out; omega
            case rel => exact ⟨i + 1, F2, rfl, by omega, by first | rfl | go_num, HO2, HFD2, Lib.hid (fun j hj => HFZ.out j (by omega)), HNX, HG2⟩
          · have hkq : kk ≤ q.length := by omega
            have hyD := Dg.getD_lt HQL.out kk
            have hy0 : ¬ kk < q.length → q.getD kk 0 = 0 := fun h => by rw [List.getD_eq_getElem?_getD, List.getElem?_eq_none (by omega)]; rfl
            have hcell := HO2.out.cell (i := i + kk) (by omega)
            have hfr := HO2.out.frozen (i + kk)
            have ht : ((i : Int) + (kk : Int)).toNat = i + kk := by omega
            have hfD := HFD2.out (i + kk)
            have hdg := Dg.mul_digit F F2 (p.length + q.length) i kk cc xx (F2 (i + kk) + cc + xx * q.getD kk 0) q (by omega) rfl HFV2.out
            obtain ⟨hb1, hb2⟩ := Dg.mul_bound (F2 (i + kk)) cc xx (q.getD kk 0) hfD hcD hxD hyD
            have hxq := HPG.out wr HG2.out
            have hz2 : kk = q.length → (F2 (i + kk) + cc + xx * q.getD kk 0) / Dg.D = 0 := fun h => by
              rw [hy0 (by omega), Nat.mul_zero, h, HFK.out (by omega), Nat.zero_add, Nat.add_zero]
              exact Nat.div_eq_of_lt hcD
            have HZ2 := Lib.hid hz2
            clear hz2
            generalize hff : F2 (i + kk) = f at *
            have hxx9 : xx < 1000000000 := hxD
            have hcc9 : cc < 1000000000 := hcD
            have hf9 : f < 1000000000 := hfD
            have hfc : IntKind.u64.wrap ((f : Int) + (cc : Int)) = ((f + cc : Nat) : Int) := by
              rw [← Int.natCast_add]; exact wrapN _ (by rw [B_eq]; omega)
            obtain ⟨t1, ht1⟩ : ∃ t1, f + cc = t1 := ⟨_, rfl⟩
            have ht1i : (f : Int) + (cc : Int) = (t1 : Int) := by omega
            have ht1w : IntKind.u64.wrap (t1 : Int) = (t1 : Int) := wrapN t1 (by rw [B_eq]; omega)
            by_cases hlq : kk < q.length
            · have b4 : decide ((kk : Int) < (q.length : Int)) = true := decide_eq_true (by omega)
              have b4n : decide (kk < q.length) = true := decide_eq_true hlq
              obtain ⟨g2, o2, c2, e2, hcq⟩ := HQ.out.get HG2.out kk hlq
              cases e2
              clear hy0
              generalize q.getD kk 0 = yy at *
              obtain ⟨pr, hpr⟩ : ∃ pr, xx * yy = pr := ⟨_, rfl⟩
              have hpri : (xx : Int) * (yy : Int) = (pr : Int) := by rw [← hpr, Int.natCast_mul]
              obtain ⟨s, hs⟩ : ∃ s, f + cc + xx * yy = s := ⟨_, rfl⟩
              rw [hs] at hdg hb1 hb2 HZ2
              have hsi : (t1 : Int) + (pr : Int) = (s : Int) := by omega
              have hprw : IntKind.u64.wrap (pr : Int) = (pr : Int) := wrapN pr (by omega)
              have hsw : IntKind.u64.wrap (s : Int) = (s : Int) := wrapN s hb1
              obtain ⟨d, hd⟩ : ∃ d, s % Dg.D = d := ⟨_, rfl⟩
              obtain ⟨z, hz⟩ : ∃ z, s / Dg.D = z := ⟨_, rfl⟩
              have hdD : d < Dg.D := by rw [← hd]; exact Nat.mod_lt _ Dg.D_pos
              have hdi : (s : Int) % 1000000000 = (d : Int) := by rw [← hd, Dg.D_eq]; omega
              have hzi : (s : Int) / 1000000000 = (z : Int) := by rw [← hz, Dg.D_eq]; omega
              rw [hd, hz] at hdg
              rw [hz] at hb2 HZ2
              have HDG := Lib.hid hdg
              have HDD := Lib.hid hdD
              have HZD := Lib.hid hb2
              have hzw : IntKind.u64.wrap (z : Int) = (z : Int) := wrapN z (Nat.lt_trans hb2 (by decide))
              clear hdg hdD hb2 hb1 hd hz hs hpr ht1 hfc hyD
              go_wp2_with fail
              go_quiet (fail)
              generalize hW1 : wr.drewN nq = W1
              have HW1 := Lib.hid hW1
              have hc1 : W1.cell? ⟨w.heap.size, i + kk, none⟩ = some (.int .u64 (f : Int)) := by rw [← hW1]; exact hcell
              have hf1 : W1.frozen? ⟨w.heap.size, i + kk, none⟩ = false := by rw [← hW1]; exact hfr
              clear hW1 hcell hfr hcq hxq
              go_wp2
              go_roundg (q.length + 2 - (kk + 1))
              case measure => have := HGG2.out; omega
              case rel => exact ⟨kk + 1, z, (fun j => if j = i + kk then d else F2 j), rfl, by omega, by first | rfl | (rw [hzw]) | (rw [hzi]), by first | rfl | go_num, HZD.out, .inl (by omega), Lib.hid (by rw [← HW1.out]; exact HO2.out.set (i + kk) d), Lib.hid (fun j => by dsimp only; split; exact HDD.out; exact HFD2.out j), Lib.hid (fun j hj => by dsimp only; rw [if_neg (by omega)]; exact HFZ.out j hj), Lib.hid (fun _ => by dsimp only; rw [if_neg (by omega)]; exact HFK.out (by omega)), HDG, Lib.hid (by rw [← HW1.out]; exact (Gr.drew HG2.out nq).setCell (a := ⟨w.heap.size, i + kk, none⟩) (Nat.le_refl _) _)⟩
            · have b4 : decide ((kk : Int) < (q.length : Int)) = false := decide_eq_false (by omega)
              have b4n : decide (kk < q.length) = false := decide_eq_false hlq
              have b5 : decide ((0 : Int) < (cc : Int)) = true := decide_eq_true (by omega)
              have b5n : decide (0 < cc) = true := decide_eq_true (by omega)
              have hy := hy0 hlq
              rw [hy] at hdg hb1 hb2 HZ2
              clear hy0
              rw [Nat.mul_zero, Nat.add_zero, ht1] at hdg hb1 hb2 HZ2
              have hkq2 : kk = q.length := by omega
              have HZ3 := Lib.hid (HZ2.out hkq2)
              obtain ⟨d, hd⟩ : ∃ d, t1 % Dg.D = d := ⟨_, rfl⟩
              obtain ⟨z, hz⟩ : ∃ z, t1 / Dg.D = z := ⟨_, rfl⟩
              have hdD : d < Dg.D := by rw [← hd]; exact Nat.mod_lt _ Dg.D_pos
              have hdi : (t1 : Int) % 1000000000 = (d : Int) := by rw [← hd, Dg.D_eq]; omega
              have hzi : (t1 : Int) / 1000000000 = (z : Int) := by rw [← hz, Dg.D_eq]; omega
              rw [hd, hz] at hdg
              rw [hz] at hb2 HZ3
              have HDG := Lib.hid hdg
              have HDD := Lib.hid hdD
              have HZD := Lib.hid hb2
              have hzw : IntKind.u64.wrap (z : Int) = (z : Int) := wrapN z (Nat.lt_trans hb2 (by decide))
              clear hdg hdD hb2 hb1 hd hz ht1 hfc hyD hy hkq2 HZ2
              go_wp2
              go_roundg (q.length + 2 - (kk + 1))
              case measure => have := HGG2.out; omega
              case rel => exact ⟨kk + 1, z, (fun j => if j = i + kk then d else F2 j), rfl, by omega, by first | rfl | (rw [hzw]) | (rw [hzi]), by first | rfl | go_num, HZD.out, .inr HZ3.out, Lib.hid (HO2.out.set (i + kk) d), Lib.hid (fun j => by dsimp only; split; exact HDD.out; exact HFD2.out j), Lib.hid (fun j hj => by dsimp only; rw [if_neg (by omega)]; exact HFZ.out j hj), Lib.hid (fun h => absurd h (by omega)), HDG, Lib.hid (HG2.out.setCell (a := ⟨w.heap.size, i + kk, none⟩) (Nat.le_refl _) _)⟩
      · have hie : i = p.length := by omega
        subst hie
        have b3 : decide ((p.length : Int) < (p.length : Int)) = false := decide_eq_false (by omega)
        have b3n : decide (p.length < p.length) = false := decide_eq_false (by omega)
        have hlim := HO.out.lim 0 (p.length + q.length) (p.length + q.length) (fun j _ => Nat.lt_trans (HFD.out _) (by decide)) (by omega) (Nat.le_refl _) (by omega)
        have hll : ((List.range (p.length + q.length)).map fun j => F (0 + j)).length = p.length + q.length := by simp
        have hdl : Dg.Limbs ((List.range (p.length + q.length)).map fun j => F (0 + j)) := fun x hx => by
          obtain ⟨j, _, rfl⟩ := List.mem_map.1 hx
          exact HFD.out _
        have hvl : Dg.val ((List.range (p.length + q.length)).map fun j => F (0 + j)) = Dg.val p * Dg.val q := by
          have h := HFV.out
          rw [List.take_of_length_le (Nat.le_refl _)] at h
          rw [← h, Dg.rv_val]
          exact rv_congr _ fun j _ => by rw [Nat.zero_add]
        have hT := rtrim_calls _ _ wr hlim hdl (by rw [hll]; omega)
        rw [hvl] at hT
        have HT := Lib.hid hT
        clear hlim hll hdl hvl hT
        go_wp2_with (go_at_call 131; (with_reducible refine HT.out.mono ?_); rintro ev w1 ⟨⟨r, rfl, hr⟩, rfl⟩; have HR := Lib.hid hr; clear hr)
        go_ret
        exact ⟨⟨_, rfl, HR.out⟩, HG.out⟩
end
section
open Go.RowKit Go.Extern.Stop Go.Stop Go.Extern Go.Sort
set_option linter.unusedVariables false
set_option linter.unusedSimpArgs false

theorem digs_len_iff (a b : Nat) (h : (Dg.digs a).length < (Dg.digs b).length) : a < b := by
  have := Dg.val_lt_of_length _ _ (Dg.digs_limbs a) (Dg.digs_norm b) h
  rwa [Dg.val_digs, Dg.val_digs] at this
/-- The bounds of the greatest digit. -/
theorem most_high (a c : Nat) (h : a < Dg.D * c) (hl : ¬ (Dg.digs a).length < (Dg.digs c).length) (he : (Dg.digs a).length = (Dg.digs c).length) (hc : 0 < c) :
    (Dg.digs c).getD ((Dg.digs c).length - 1) 0 ≠ 0 ∧ 0 < (Dg.digs c).length ∧ a < ((Dg.digs a).getD ((Dg.digs a).length - 1) 0 / (Dg.digs c).getD ((Dg.digs c).length - 1) 0 + 1) * c ∧
    (Dg.digs a).getD ((Dg.digs a).length - 1) 0 / (Dg.digs c).getD ((Dg.digs c).length - 1) 0 + 1 ≤ Dg.D := by
  have hn := Dg.digs_norm c
  have hv := Dg.val_digs c
  have hne : Dg.digs c ≠ [] := by intro e; rw [e] at hv; simp [Dg.val] at hv; omega
  have hpos := List.length_pos_iff.2 hne
  have ht : (Dg.digs c).getD ((Dg.digs c).length - 1) 0 ≠ 0 := by
    intro e
    apply hn
    rw [List.getLast?_eq_getElem?, List.getElem?_eq_getElem (by omega)]
    rw [List.getD_eq_getElem?_getD, List.getElem?_eq_getElem (by omega)] at e
    rw [← e]; rfl
  have h2 := Dg.most_top _ _ (Dg.digs_limbs a) (Dg.digs_limbs c) he (by omega) ht
  rw [Dg.val_digs, Dg.val_digs] at h2
  exact ⟨ht, hpos, h2.1, h2.2⟩

set_option maxRecDepth 100000 in
set_option maxHeartbeats 8000000 in
/-- most. -/
theorem rmost_calls (x y : Value) (a c : Nat) (w : World) (hx : RN w x a) (hy : RN w y c) (hc : 0 < c) (h : a < Dg.D * c) (k : Nat) (hka : a < Dg.D ^ k) (hkc : c < Dg.D ^ k) (hk : k ≤ 100000) (hk1 : 1 ≤ k) :
    Calls Tryz.prog 144 #[x, y] w fun e w' => e = .returned (.int .u64 ((a / c : Nat) : Int)) ∧ Gr w w' := by
  have hla := Dg.digs_len a k hka
  have hlc := Dg.digs_len c k hkc
  have HX := Lib.hid hx
  have HY := Lib.hid hy
  have HH := Lib.hid h
  have HCK := Lib.hid hkc
  have HAK := Lib.hid hka
  have HC := Lib.hid hc
  have hlim := hx
  have hlim2 := hy
  unfold RN at hlim hlim2
  obtain ⟨xa, xc, rfl⟩ := hlim.slice
  obtain ⟨ya, yc, rfl⟩ := hlim2.slice
  -- the loop, from any bounds
  have loop : ∀ (low high : Nat), low < high → high ≤ Dg.D → low * c ≤ a → a < high * c → True := fun _ _ _ _ _ _ => trivial
  clear loop
  by_cases hl : (Dg.digs a).length < (Dg.digs c).length
  · have b1 : decide (((Dg.digs a).length : Int) < ((Dg.digs c).length : Int)) = true := decide_eq_true (by omega)
    have b1n : decide ((Dg.digs a).length < (Dg.digs c).length) = true := decide_eq_true hl
    rw [Nat.div_eq_of_lt (digs_len_iff a c hl)]
    generalize Dg.digs a = p at *
    generalize Dg.digs c = q at *
    clear hx hy h hka hkc hc hlim hlim2
    go_enter Tryz.func144, Tryz.ntmps144
    go_wp2
    go_ret
    exact ⟨rfl, Gr.rf w⟩
  · have b1 : decide (((Dg.digs a).length : Int) < ((Dg.digs c).length : Int)) = false := decide_eq_false (by omega)
    have b1n : decide ((Dg.digs a).length < (Dg.digs c).length) = false := decide_eq_false hl
    by_cases he : (Dg.digs a).length = (Dg.digs c).length
    case' pos =>
      have b2 : (((Dg.digs a).length : Int) == ((Dg.digs c).length : Int)) = true := beq_iff_eq.2 (by omega)
      have b2n : ((Dg.digs a).length == (Dg.digs c).length) = true := beq_iff_eq.2 he
      obtain ⟨m1, m2, m3, m4⟩ := most_high a c h hl he hc
      obtain ⟨g1, o1, c1, e1, hcx⟩ := hlim.get (Gr.rf w) ((Dg.digs a).length - 1) (by omega)
      cases e1
      obtain ⟨g2, o2, c2, e2, hcy⟩ := hlim2.get (Gr.rf w) ((Dg.digs c).length - 1) (by omega)
      cases e2
      have i1 : (((Dg.digs a).length : Int) - 1).toNat = (Dg.digs a).length - 1 := by omega
      have i2 : (((Dg.digs c).length : Int) - 1).toNat = (Dg.digs c).length - 1 := by omega
      have hu9 := Dg.getD_lt (Dg.digs_limbs a) ((Dg.digs a).length - 1)
      generalize (Dg.digs a).getD ((Dg.digs a).length - 1) 0 = u at *
      generalize (Dg.digs c).getD ((Dg.digs c).length - 1) 0 = v at *
      have ev : (u : Int) / (v : Int) = ((u / v : Nat) : Int) := (Int.natCast_ediv u v).symm
      have hv0 : ((v : Int) == 0) = false := beq_eq_false_iff_ne.2 (by omega)
      have hv1 : ¬ (v : Int) = 0 := by omega
      have hv2 : ¬ v = 0 := by omega
      generalize u / v = t at *
      have hhigh : a < (t + 1) * c ∧ t + 1 ≤ Dg.D := ⟨m3, m4⟩
      have ht9 : t < 1000000000 := by rw [Dg.D_eq] at m4; omega
      obtain ⟨H, hH⟩ : ∃ H, t + 1 = H := ⟨_, rfl⟩
      rw [hH] at hhigh
      have hHi : (t : Int) + 1 = (H : Int) := by omega
      have htw : IntKind.u64.wrap (t : Int) = (t : Int) := wrapN t (by rw [B_eq]; omega)
      have hHw : IntKind.u64.wrap (H : Int) = (H : Int) := wrapN H (by rw [B_eq]; omega)
      have hp1 : (1 : Int) ≤ ((Dg.digs a).length : Int) := by omega
      have hp2 : (1 : Int) ≤ ((Dg.digs c).length : Int) := by omega
      clear m1 m3 m4 he
    case' neg =>
      have b2 : (((Dg.digs a).length : Int) == ((Dg.digs c).length : Int)) = false := beq_eq_false_iff_ne.2 (by omega)
      have b2n : ((Dg.digs a).length == (Dg.digs c).length) = false := beq_eq_false_iff_ne.2 he
      have hhigh : a < Dg.D * c ∧ Dg.D ≤ Dg.D := ⟨h, Nat.le_refl _⟩
      obtain ⟨H, hH⟩ : ∃ H, Dg.D = H := ⟨_, rfl⟩
      have hHi : (1000000000 : Int) = (H : Int) := by rw [← hH]; rfl
      have hhigh : a < H * c ∧ H ≤ Dg.D := by rw [← hH]; exact hhigh
    all_goals
      have HHI := Lib.hid hhigh
      generalize Dg.digs a = p at *
      generalize Dg.digs c = q at *
      clear hx hy h hka hkc hc hlim hlim2 hhigh
      go_enter Tryz.func144, Tryz.ntmps144
      go_wp2_with fail
      first
        | (go_quiet (fail)
           go_wp2_with fail)
        | skip
      go_loopg [5, 6] H (fun g slo shi wr => ∃ low high : Nat, g = high - low ∧ slo = .int .u64 (low : Int) ∧ shi = .int .u64 (high : Int) ∧ low < high ∧ high ≤ 1000000000 ∧ Hid (low * c ≤ a) ∧ Hid (a < high * c) ∧ Hid (Gr w wr))
      case atStart => exact ⟨0, H, by omega, rfl, by first | rfl | rw [hHi], by
        rcases Nat.eq_zero_or_pos H with h0 | h0
        · have := HHI.out.1
          rw [h0, Nat.zero_mul] at this
          omega
        · exact h0, by have := HHI.out.2; rw [Dg.D_eq] at this; exact this, Lib.hid (by rw [Nat.zero_mul]; exact Nat.zero_le _), Lib.hid HHI.out.1, Lib.hid (by first | exact Gr.rf w | exact Gr.drew (Gr.rf w) _)⟩
      case round =>
        obtain ⟨low, high, hg, rfl, rfl, hlh, hh9, HLO, HHG, HG⟩ := hrel
        have HGG := Lib.hid hg
        clear hg
        by_cases hgo : high ≤ low + 1
        · have b3 : decide ((1 : Int) < (high : Int) - (low : Int)) = false := decide_eq_false (by omega)
          have HD := Lib.hid (Dg.most_done a c low high HLO.out HHG.out hgo hlh)
          go_wp2
          go_ret
          exact ⟨ret_int (by rw [← HD.out]), HG.out⟩
        · have b3 : decide ((1 : Int) < (high : Int) - (low : Int)) = true := decide_eq_true (by omega)
          obtain ⟨mid, hmid⟩ : ∃ mid, (low + high) / 2 = mid := ⟨_, rfl⟩
          have em : ((low : Int) + (high : Int)) / 2 = (mid : Int) := by omega
          have hm1 : low < mid := by omega
          have hm2 : mid < high := by omega
          have hmB : mid < B := by rw [B_eq]; omega
          clear hmid
          have HOU := Lib.hid (fun w' => ofU_calls mid hmB w')
          have hmD : mid < Dg.D ^ k := Nat.lt_of_lt_of_le (show mid < Dg.D by rw [Dg.D_eq]; omega) (by
            calc Dg.D = Dg.D ^ 1 := (Nat.pow_one _).symm
              _ ≤ Dg.D ^ k := Nat.pow_le_pow_right Dg.D_pos hk1)
          have hcm : c * mid < Dg.D ^ (k + k) := by rw [Nat.pow_add]; exact Nat.mul_lt_mul'' HCK.out hmD
          have hak : a < Dg.D ^ (k + k) := Nat.lt_of_lt_of_le HAK.out (Nat.pow_le_pow_right Dg.D_pos (by omega))
          have HMD := Lib.hid hmD
          have HCM := Lib.hid hcm
          have HAK2 := Lib.hid hak
          clear hmD hcm hak
          go_wp2_with (go_at_call 27; (with_reducible refine (HOU.out _).mono ?_); rintro ev w2 ⟨⟨r2, rfl, hr2⟩, hg2⟩; have HR2 := Lib.hid hr2; clear hr2)
          have HMU := Lib.hid (rmul_calls _ _ c mid w2 (HY.out.gr (HG.out.tr hg2)) HR2.out k HCK.out HMD.out (by omega))
          go_wp2_with (go_at_call 80; (with_reducible refine HMU.out.mono ?_); rintro ev w3 ⟨⟨r3, rfl, hr3⟩, hg3⟩; have HR3 := Lib.hid hr3; clear hr3)
          have HCP := Lib.hid (rcmp_calls _ _ (c * mid) a w3 HR3.out (HX.out.gr (HG.out.tr (hg2.tr hg3))) (k + k) HCM.out HAK2.out (by omega))
          by_cases hle : c * mid ≤ a
          · have b4 : decide (cmpN (c * mid) a ≤ 0) = true := decide_eq_true (cmpN_le.2 hle)
            have HLE := Lib.hid hle
            generalize cmpN (c * mid) a = cc at *
            clear hle
            go_wp2_with (go_at_call 37; (with_reducible refine HCP.out.mono ?_); rintro ev w4 ⟨rfl, hg4⟩)
            go_roundg (high - mid)
            case measure => have := HGG.out; omega
            case rel => exact ⟨mid, high, rfl, rfl, rfl, hm2, hh9, Lib.hid (by rw [Nat.mul_comm]; exact HLE.out), HHG, Lib.hid (HG.out.tr (hg2.tr (hg3.tr hg4)))⟩
          · have b4 : decide (cmpN (c * mid) a ≤ 0) = false := decide_eq_false (fun h => hle (cmpN_le.1 h))
            have HLE := Lib.hid hle
            generalize cmpN (c * mid) a = cc at *
            clear hle
            go_wp2_with (go_at_call 37; (with_reducible refine HCP.out.mono ?_); rintro ev w4 ⟨rfl, hg4⟩)
            go_roundg (mid - low)
            case measure => have := HGG.out; omega
            case rel => exact ⟨low, mid, rfl, rfl, rfl, hm1, by omega, HLO, Lib.hid (by have := HLE.out; rw [Nat.mul_comm]; omega), Lib.hid (HG.out.tr (hg2.tr (hg3.tr hg4)))⟩

set_option maxRecDepth 100000 in
set_option maxHeartbeats 8000000 in
/-- The reference's Gcd, from its Div. -/
theorem rpow_calls (x : Value) (a K : Nat) (w : World) (hx : RN w x a) (k : Nat) (hp : a ^ (K + 1) < Dg.D ^ k) (ha : a < Dg.D ^ k) (h1 : 1 < Dg.D ^ k) (hk : k ≤ 100000) (hK : K ≤ 1000000) :
    Calls Tryz.prog 26 #[x, .int .i64 (K : Int)] w fun e w' => (∃ r, e = .returned r ∧ RN w' r (a ^ K)) ∧ Gr w w' := by
  have HX := Lib.hid hx
  have HP := Lib.hid hp
  have HA := Lib.hid ha
  have H1 := Lib.hid h1
  have HOU : Hid (∀ w', Calls Tryz.prog 27 #[.int .u64 1] w' fun e w2 => (∃ r, e = .returned r ∧ RN w2 r 1) ∧ Gr w' w2) := Lib.hid (fun w' => ofU_calls 1 (by decide) w')
  clear hx hp ha h1
  go_enter Tryz.func26, Tryz.ntmps26
  go_wp2_with (go_at_call 27; (with_reducible refine (HOU.out _).mono ?_); rintro ev w1 ⟨⟨r1, rfl, hr1⟩, hg1⟩; have HR1 := Lib.hid hr1; clear hr1)
  go_loopg [5, 6] K (fun g so si wr => ∃ i : Nat, g = K - i ∧ i ≤ K ∧ si = .int .i64 (i : Int) ∧ Hid (RN wr so (a ^ i)) ∧ Hid (Gr w wr))
  case atStart => exact ⟨0, rfl, Nat.zero_le _, rfl, Lib.hid (by rw [Nat.pow_zero]; exact HR1.out), Lib.hid hg1⟩
  case round =>
    obtain ⟨i, hg, hi, rfl, HO, HG⟩ := hrel
    have HGG := Lib.hid hg
    clear hg
    by_cases hlt : i < K
    · have b1 : decide ((i : Int) < (K : Int)) = true := decide_eq_true (by omega)
      have b1n : decide (i < K) = true := decide_eq_true hlt
      have hpi : a ^ i < Dg.D ^ k := by
        rcases Nat.eq_zero_or_pos a with h0 | h0
        · subst h0
          rcases Nat.eq_zero_or_pos i with h2 | h2
          · subst h2; rw [Nat.pow_zero]; exact H1.out
          · rw [Nat.zero_pow h2]; have := H1.out; omega
        · exact Nat.lt_of_le_of_lt (Nat.pow_le_pow_right h0 (by omega)) HP.out
      have HMU := Lib.hid (rmul_calls _ _ (a ^ i) a wr HO.out (HX.out.gr HG.out) k hpi HA.out (by omega))
      clear hpi
      go_wp2_with (go_at_call 80; (with_reducible refine HMU.out.mono ?_); rintro ev w2 ⟨⟨r2, rfl, hr2⟩, hg2⟩; have HR2 := Lib.hid hr2; clear hr2)
      go_roundg (K - (i + 1))
      case measure => have := HGG.out; omega
      case rel => exact ⟨i + 1, rfl, by omega, by first | rfl | go_num, Lib.hid (by rw [Nat.pow_succ]; exact HR2.out), Lib.hid (HG.out.tr hg2)⟩
    · have hie : i = K := by omega
      subst hie
      have b1 : decide ((i : Int) < (i : Int)) = false := decide_eq_false (by omega)
      have b1n : decide (i < i) = false := decide_eq_false (by omega)
      go_wp2
      go_ret
      exact ⟨⟨_, rfl, HO.out⟩, HG.out⟩
end
section
open Go.RowKit Go.Extern.Stop Go.Stop Go.Extern Go.Sort
set_option linter.unusedVariables false
set_option linter.unusedSimpArgs false

/-- A slice of one, laid by the function itself. -/
theorem own_one (w : World) (x : Nat) (t : TypeId) : (w.alloc (.cells #[.int .u64 (x : Int)] t)).ownsRow w.heap.size t 1 (.slice (some ⟨w.heap.size, 0, none⟩) 1 1) 1 [U x] :=
  ⟨rfl, .inr ⟨w.heap.size, 1, #[.int .u64 (x : Int)], rfl, Nat.le_refl _, heap_alloc_new w _, Nat.le_refl _, by decide, rfl, rfl⟩⟩
theorem lim_any {w : World} {x : Value} {p : List Nat} (h : Lim w x p) : (x = .slice none 0 0 ∧ p = []) ∨ ∃ g o c, x = .slice (some ⟨g, o, none⟩) p.length c ∧ g < w.heap.size ∧ ∀ j u, (p.map U)[j]? = some u → w.cell? ((⟨g, o, none⟩ : Addr).add j) = some u := by
  rcases h.2 with h | ⟨g, o, c, h1, _, _, hg, h5⟩
  · exact .inl h
  · refine .inr ⟨g, o, c, h1, hg, fun j u hj => ?_⟩
    have hl := (List.getElem?_eq_some_iff.1 hj).1
    have hl' : j < p.length := by simpa using hl
    rw [Go.WideShapes.add_plain, h5 j hl']
    rw [List.getElem?_map, List.getElem?_eq_getElem hl'] at hj
    exact hj
theorem cons_limbs {d : Nat} {p : List Nat} (hd : d < Dg.D) (hp : Dg.Limbs p) : Dg.Limbs (d :: p) := fun x hx => by
  rcases List.mem_cons.1 hx with h | h
  · rw [h]; exact hd
  · exact hp x h

theorem rn_own {w : World} {g n m c : Nat} {F : Nat → Nat} {T : Nat} (h : OwnF w g n F) (hm : m ≤ n) (hc : m ≤ c) (hc2 : c ≤ 9223372036854775807) (hF : ∀ j, F j < Dg.D) (hn : m = 0 ∨ F (m - 1) ≠ 0) (hv : rv Dg.D F m = T) : RN w (.slice (some ⟨g, 0, none⟩) m c) T := by
  refine RN.mk (h.lim 0 m c (fun j _ => Nat.lt_trans (hF _) (by decide)) (by omega) hc hc2) (fun x hx => ?_) ?_ ?_
  · obtain ⟨j, _, rfl⟩ := List.mem_map.1 hx
    exact hF _
  · have e : ((List.range m).map fun j => F (0 + j)) = (List.range m).map F := List.map_congr_left fun j _ => by rw [Nat.zero_add]
    rw [e]
    unfold Norm
    cases m with
    | zero => simp
    | succ m =>
      rw [List.range_succ, List.map_append, List.map_cons, List.map_nil, List.getLast?_concat]
      intro e2
      injection e2 with e2
      rcases hn with h | h
      · omega
      · exact h e2
  · rw [← hv, Dg.rv_val]
    exact rv_congr _ fun j _ => by rw [Nat.zero_add]
set_option maxRecDepth 100000 in
set_option maxHeartbeats 2000000 in
/-- trim at digits of a block: the slice's own memory is kept. -/
theorem rtrimOwn_calls (g c n N : Nat) (F : Nat → Nat) (w : World) (h : OwnF w g N F) (hN : n ≤ N) (hn : n ≤ 1000000) (hc : n ≤ c) :
    Calls Tryz.prog 131 #[.slice (some ⟨g, 0, none⟩) n c] w fun e w' => (∃ m, m ≤ n ∧ (m = 0 ∨ F (m - 1) ≠ 0) ∧ rv Dg.D F m = rv Dg.D F n ∧ e = .returned (.slice (some ⟨g, 0, none⟩) m c)) ∧ w = w' := by
  have HC := Lib.hid h
  clear h
  go_enter Tryz.func131, Tryz.ntmps131
  go_wp2
  go_loopg [0] n (fun k v wr => k ≤ n ∧ v = .slice (some ⟨g, 0, none⟩) k c ∧ Hid (rv Dg.D F k = rv Dg.D F n) ∧ w = wr)
  case atStart => exact ⟨Nat.le_refl _, rfl, Lib.hid rfl, rfl⟩
  case round =>
    obtain ⟨hk, rfl, HV, rfl⟩ := hrel
    by_cases h0 : 0 < gk
    · obtain ⟨j, rfl⟩ : ∃ j, gk = j + 1 := ⟨gk - 1, by omega⟩
      have hc := HC.out.cell (i := j) (by omega)
      have hji : ((j + 1 : Nat) : Int) - 1 = (j : Int) := by omega
      have hjn : (j : Int).toNat = j := by omega
      have hpos : decide ((0 : Int) < ((j + 1 : Nat) : Int)) = true := decide_eq_true (by omega)
      by_cases hx : F j = 0
      · have HX := Lib.hid hx
        rw [hx, show ((0 : Nat) : Int) = 0 from rfl] at hc
        clear hx
        go_wp2
        go_roundg j
        case measure => omega
        case rel => exact ⟨by omega, by first | rfl | go_num, Lib.hid (by rw [← HV.out, rv_succ, HX.out, Nat.mul_zero, Nat.add_zero]), rfl⟩
      · have hb : ((F j : Int) == 0) = false := beq_eq_false_iff_ne.2 (by omega)
        have HX := Lib.hid hx
        clear hx
        generalize hf : F j = x at *
        have HF := Lib.hid hf
        clear hf
        go_wp2
        go_ret
        exact ⟨⟨j + 1, hk, .inr (by rw [Nat.add_sub_cancel, HF.out]; exact HX.out), HV.out, rfl⟩, rfl⟩
    · obtain rfl : gk = 0 := by omega
      go_wp2
      go_ret
      exact ⟨⟨0, by omega, .inl rfl, HV.out, rfl⟩, rfl⟩

set_option maxRecDepth 100000 in
set_option maxHeartbeats 8000000 in
/-- The reference's Div. -/
theorem rdiv_calls (x y : Value) (a c : Nat) (w : World) (hx : RN w x a) (hy : RN w y c) (hc : 0 < c) (k : Nat) (hka : a < Dg.D ^ k) (hkc : c < Dg.D ^ k) (hk : k ≤ 10000) (hk1 : 1 ≤ k) :
    Calls Tryz.prog 84 #[x, y] w fun e w' => (∃ q r, e = .returned (.tuple #[q, r]) ∧ RN w' q (a / c) ∧ RN w' r (a % c)) ∧ Gr w w' := by
  obtain ⟨i0, hi, hz0, hz1, hz2⟩ := info_parts info45
  have hla := Dg.digs_len a k hka
  have HX := Lib.hid hx
  have HY := Lib.hid hy
  have hlim := hx
  unfold RN at hlim
  obtain ⟨xa, xc, rfl⟩ := hlim.slice
  have HP := Lib.hid hlim
  have HPL := Lib.hid (Dg.digs_limbs a)
  have HDG := Lib.hid (fun i => Dg.digs_get a i)
  have HAL := Lib.hid (show a < Dg.D ^ (Dg.digs a).length by have h := Dg.val_lt _ (Dg.digs_limbs a); rwa [Dg.val_digs] at h)
  have HC := Lib.hid hc
  have HKC := Lib.hid hkc
  have HKA := Lib.hid hka
  generalize Dg.digs a = p at *
  have hmk := makeN p.length (by omega)
  clear hx hy hlim hc hka hkc
  go_enter Tryz.func84, Tryz.ntmps84
  go_wp2
  clear hmk
  go_loopg [6, 8] p.length (fun n sr si wr => ∃ F : Nat → Nat, n ≤ p.length ∧ si = .int .i64 ((n : Int) - 1) ∧ Hid (RN wr sr (a / Dg.D ^ n % c)) ∧ Hid (p.length = 0 ∨ OwnF wr w.heap.size p.length F) ∧ Hid (w.heap.size + 1 ≤ wr.heap.size) ∧ Hid (∀ j, F j < Dg.D) ∧ Hid (∀ j, n ≤ j → j < p.length → F j = a / c / Dg.D ^ j % Dg.D) ∧ Hid (Gr w wr))
  case atStart => exact ⟨fun _ => 0, Nat.le_refl _, by first | rfl | go_num, Lib.hid (by
      rw [Nat.div_eq_of_lt HAL.out, Nat.zero_mod]
      exact digs_nil ⟨fun x hx => (by cases hx), .inl ⟨rfl, rfl⟩⟩), Lib.hid (by
      rcases Nat.eq_zero_or_pos p.length with h | h
      · exact .inl h
      · exact .inr ((rowU_made w _).own h)), Lib.hid (by simp), Lib.hid (fun _ => Dg.D_pos), Lib.hid (fun j h1 h2 => absurd h2 (by omega)), Lib.hid ((Gr.rf w).alloc (Nat.le_refl _) _)⟩
  case round =>
    obtain ⟨F, hn, rfl, HR, HO, HGZ, HFD, HFE, HG⟩ := hrel
    by_cases h0 : 0 < gk
    · obtain ⟨j, rfl⟩ : ∃ j, gk = j + 1 := ⟨gk - 1, by omega⟩
      have hji : ((j + 1 : Nat) : Int) - 1 = (j : Int) := by omega
      have hjn : (j : Int).toNat = j := by omega
      rw [hji]
      have HOO := Lib.hid (HO.out.resolve_left (by omega))
      obtain ⟨g1, o1, c1, e1, hcx⟩ := HP.out.get HG.out j (by omega)
      cases e1
      have hd9 := Dg.getD_lt HPL.out j
      have hdg := HDG.out j
      obtain ⟨d1, d2, d3⟩ := Dg.div_digit a c j HC.out
      rw [← hdg] at d1 d2 d3
      generalize p.getD j 0 = d at *
      have hrl := HR.out
      unfold RN at hrl
      have hrd := Dg.digs_limbs (a / Dg.D ^ (j + 1) % c)
      have hrv := Dg.val_digs (a / Dg.D ^ (j + 1) % c)
      have hrk := Dg.digs_len (a / Dg.D ^ (j + 1) % c) k (Nat.lt_trans (Nat.mod_lt _ HC.out) HKC.out)
      generalize hrr : Dg.digs (a / Dg.D ^ (j + 1) % c) = r at hrl hrd hrv hrk
      have hTV : Dg.val (d :: r) = d + Dg.D * (a / Dg.D ^ (j + 1) % c) := by rw [Dg.val_cons, hrv]
      have HTV := Lib.hid hTV
      have HTL := Lib.hid (cons_limbs hd9 hrd)
      have D1 := Lib.hid d1
      have D2 := Lib.hid d2
      have D3 := Lib.hid d3
      have hany := lim_any hrl
      have hdB : d < B := Nat.lt_trans hd9 (by decide)
      have hsz := HG.out.size
      clear hji hdg d1 d2 d3 hrr hTV hrl hrd hrv hd9
      rcases hany with ⟨rfl, hrn⟩ | ⟨gr, or, cr, rfl, hgr, hcr⟩
      case' inl =>
        have hTV1 : Dg.val [d] = d + Dg.D * (a / Dg.D ^ (j + 1) % c) := by rw [← HTV.out, hrn]
        have hTL1 : Dg.Limbs [d] := by have h := HTL.out; rw [hrn] at h; exact h
        clear HTV HTL hrn
        go_wp2_with (at_builtin; refine wpList_append_own_none rfl _ _ 25 rfl wr.heap.size 56 i0 1 underN hi _ 1 [U d] rfl (own_one wr d _) rfl ?_)
        obtain ⟨gg, cg, hge, hgg, hcg1, hcg2, hOG⟩ := ownF_of (l := [d]) (own_one wr d 56) (by decide)
        have HGA := Lib.hid (show Gr wr (wr.alloc (.cells #[.int .u64 (d : Int)] 56)) from (Gr.rf wr).alloc (Nat.le_refl _) _)
        rw [hge]
        have HVT := Lib.hid ((Dg.rv_list [d] 1 (by simp)).trans hTV1)
        have HLD := Lib.hid (Dg.getD_lt hTL1)
        have hN : 1 ≤ 100000 := by decide
        generalize wr.alloc (.cells #[.int .u64 (d : Int)] 56) = w2 at hOG HGA ⊢
        obtain ⟨F9, hF9⟩ : ∃ F9 : Nat → Nat, F9 = ([d].getD · 0) := ⟨_, rfl⟩
        rw [← hF9] at HVT hOG
        have HLD9 : Hid (∀ j, F9 j < Dg.D) := Lib.hid (by rw [hF9]; exact HLD.out)
        clear hge hTV1 hTL1 hF9 HLD
      case' inr =>
        go_wp2_with (at_builtin; refine wpList_append_own _ rfl _ _ 25 rfl wr.heap.size 56 i0 (.int .u64 0) 1 8 underN hi hz0 hz1 hz2 rfl (by decide) _ 1 [U d] rfl (own_one wr d _) ⟨gr, or, none⟩ r.length cr (r.map U) rfl (by simp) (fun j u h => (((Gr.rf wr).alloc (Nat.le_refl _) _).cell (by rw [Go.WideShapes.add_plain]; exact hgr)).trans (hcr j u h)) (fun u hu => by obtain ⟨z, _, rfl⟩ := List.mem_map.1 hu; rfl) (by simp only [maxLen]; omega) (by omega) (by simp) ?_; intro v' w2 hown hgrow _; obtain ⟨gg, cg, rfl, hgg, hcg1, hcg2, hOG⟩ := ownF_of (l := d :: r) (by rw [List.map_cons]; exact hown) (by omega); have HGA := Lib.hid (show Gr wr w2 from Below.grown ((Gr.rf wr).alloc (Nat.le_refl _) _) hgrow (by simp) (fun j hj => by cases hj; exact Nat.le_refl _)); clear hown hgrow)
        have HVT := Lib.hid ((Dg.rv_list (d :: r) (1 + r.length) (by rw [List.length_cons]; omega)).trans HTV.out)
        have HLD := Lib.hid (Dg.getD_lt HTL.out)
        have hN : 1 + r.length ≤ 100000 := by omega
        obtain ⟨F9, hF9⟩ : ∃ F9 : Nat → Nat, F9 = ((d :: r).getD · 0) := ⟨_, rfl⟩
        rw [← hF9] at HVT hOG
        have HLD9 : Hid (∀ j, F9 j < Dg.D) := Lib.hid (by rw [hF9]; exact HLD.out)
        clear hF9 HLD
      all_goals
        have HT := Lib.hid (rtrimOwn_calls gg cg _ _ F9 w2 hOG (Nat.le_refl _) (by omega) hcg1)
        have HOG := Lib.hid hOG
        clear hOG
        generalize htt : d + Dg.D * (a / Dg.D ^ (j + 1) % c) = T at *
        have HG2 := Lib.hid (HG.out.tr HGA.out)
        have HO2 := Lib.hid (HOO.out.gr HGA.out)
        go_wp2_with fail
        refine HT.out.mono ?_
        rintro ev w3 ⟨⟨m, hm1, hm2, hm3, rfl⟩, rfl⟩
        have HM := Lib.hid (And.intro hm2 (hm3.trans HVT.out))
        have HRA := Lib.hid (fun W (h : OwnF W gg _ F9) => rn_own h hm1 (by omega) hcg2 HLD9.out HM.out.1 HM.out.2)
        have HR3 := Lib.hid (HRA.out w2 HOG.out)
        clear hm2 hm3
        have hTk : T < Dg.D ^ (k + 1) := by
          have h1 := D1.out
          have h2 : Dg.D * c < Dg.D * Dg.D ^ k := Nat.mul_lt_mul_of_pos_left HKC.out Dg.D_pos
          rw [Nat.pow_succ, Nat.mul_comm (Dg.D ^ k)]
          omega
        have hck : c < Dg.D ^ (k + 1) := Nat.lt_of_lt_of_le HKC.out (Nat.pow_le_pow_right Dg.D_pos (by omega))
        have HTK := Lib.hid hTk
        have HCK := Lib.hid hck
        clear hTk hck
        have HMO := Lib.hid (rmost_calls _ _ T c w2 HR3.out (HY.out.gr HG2.out) HC.out D1.out (k + 1) HTK.out HCK.out (by omega) (by omega))
        go_wp2_with fail
        refine HMO.out.mono ?_
        rintro ev w4 ⟨rfl, hg4⟩
        have hqD : T / c < Dg.D := (Nat.div_lt_iff_lt_mul HC.out).2 D1.out
        have hd2 := D2.out
        have hd3 := D3.out
        have hsm := Dg.sub_mod T c
        have hml : c * (T / c) ≤ T := Nat.mul_div_le T c
        generalize hqq : T / c = qd at *
        have HO4 := Lib.hid (HO2.out.gr hg4)
        have HOG4 := Lib.hid (HOG.out.gr hg4)
        have HG4 := Lib.hid (HG2.out.tr hg4)
        have HR4 := Lib.hid (HR3.out.gr hg4)
        have hcell := HO4.out.cell (i := j) (by omega)
        have hfr := HO4.out.frozen j
        have HO5 := Lib.hid (HO4.out.set j qd)
        have HG5 := Lib.hid (HG4.out.setCell (a := ⟨w.heap.size, j, none⟩) (Nat.le_refl _) (.int .u64 (qd : Int)))
        have HR5 := Lib.hid (HRA.out _ (HOG4.out.setOther ⟨w.heap.size, j, none⟩ (.int .u64 (qd : Int)) (by show gg ≠ w.heap.size; have := HG.out.size; have := HOO.out.lt; omega)))
        have hcell5 := HO5.out.cell (i := j) (by omega)
        try dsimp only at hcell5
        rw [if_pos rfl] at hcell5
        have HQD := Lib.hid hqD
        have HD2 := Lib.hid hd2
        have HD3 := Lib.hid hd3
        have HSM := Lib.hid hsm
        have HML := Lib.hid hml
        generalize hfo : F j = old at hcell
        clear hg4 hqD hd2 hd3 hsm hml hqq hfo
        have HOF := Lib.hid (fun w' => ofU_calls qd (Nat.lt_trans HQD.out (by decide)) w')
        go_wp2_with fail
        refine (HOF.out _).mono ?_
        rintro ev w6 ⟨⟨r6, rfl, hr6⟩, hg6⟩
        have HMU := Lib.hid (rmul_calls _ _ c qd w6 (HY.out.gr (HG5.out.tr hg6)) hr6 (k + 1) HCK.out (Nat.lt_of_lt_of_le HQD.out (by
          calc Dg.D = Dg.D ^ 1 := (Nat.pow_one _).symm
            _ ≤ Dg.D ^ (k + 1) := Nat.pow_le_pow_right Dg.D_pos (by omega))) (by omega))
        have HG6 := Lib.hid (HG5.out.tr hg6)
        have HR6 := Lib.hid (HR5.out.gr hg6)
        have HO6 := Lib.hid (HO5.out.gr hg6)
        clear hr6 hg6
        go_wp2_with fail
        refine HMU.out.mono ?_
        rintro ev w7 ⟨⟨r7, rfl, hr7⟩, hg7⟩
        have HSU := Lib.hid (rsub_calls _ _ T (c * qd) w7 (HR6.out.gr hg7) hr7 HML.out (k + 1) HTK.out (by omega))
        have HG7 := Lib.hid (HG6.out.tr hg7)
        have HO7 := Lib.hid (HO6.out.gr hg7)
        clear hr7 hg7
        rw [HSM.out, HD3.out] at HSU
        go_wp2_with fail
        refine HSU.out.mono ?_
        rintro ev w8 ⟨⟨r8, rfl, hr8⟩, hg8⟩
        have HR8 := Lib.hid hr8
        have HG8 := Lib.hid (HG7.out.tr hg8)
        have HO8 := Lib.hid (HO7.out.gr hg8)
        clear hr8 hg8
        go_wp2
        go_roundg j
        case measure => omega
        case rel => exact ⟨(fun i => if i = j then qd else F i), by omega, by first | rfl | go_num, HR8, Lib.hid (.inr HO8.out), Lib.hid HO8.out.lt, Lib.hid (fun i => by dsimp only; split; exact HQD.out; exact HFD.out i), Lib.hid (fun i h1 h2 => by
          dsimp only
          by_cases e : i = j
          · rw [if_pos e, e]; exact HD2.out
          · rw [if_neg e]; exact HFE.out i (by omega) h2), HG8⟩
    · obtain rfl : gk = 0 := by omega
      have hqv : rv Dg.D F p.length = a / c := by
        rw [rv_digit Dg.D (a / c) p.length F (fun j hj => HFE.out j (by omega) hj), Nat.mod_eq_of_lt]
        exact Nat.lt_of_le_of_lt (Nat.div_le_self _ _) HAL.out
      have hrz : ∀ sr, RN wr sr (a / Dg.D ^ 0 % c) → RN wr sr (a % c) := fun sr h => by rwa [Nat.pow_zero, Nat.div_one] at h
      have HRZ := Lib.hid (hrz _ HR.out)
      have HQV := Lib.hid hqv
      have hT : Calls Tryz.prog 131 #[.slice (some ⟨w.heap.size, 0, none⟩) p.length p.length] wr fun e w' => (∃ r, e = .returned r ∧ RN w' r (a / c)) ∧ wr = w' := by
        rcases HO.out with h | h
        · have hpn : p = [] := List.eq_nil_of_length_eq_zero h
          subst hpn
          have hac : a / c = 0 := by rw [← hqv]; rfl
          rw [hac]
          exact rtrim_calls _ [] wr ⟨fun x hx => (by cases hx), .inr ⟨w.heap.size, 0, 0, rfl, Nat.le_refl _, by decide, Nat.lt_of_lt_of_le (by simp) HGZ.out, fun i hi => absurd hi (by simp)⟩⟩ (fun x hx => by cases hx) (by simp)
        · refine (rtrimOwn_calls w.heap.size p.length p.length p.length F wr h (Nat.le_refl _) (by omega) (Nat.le_refl _)).mono ?_
          rintro e w' ⟨⟨m, hm1, hm2, hm3, rfl⟩, rfl⟩
          exact ⟨⟨_, rfl, rn_own h hm1 hm1 (by omega) HFD.out hm2 (hm3.trans hqv)⟩, rfl⟩
      have HT := Lib.hid hT
      clear hqv hrz hT
      go_wp2_with (go_at_call 131; (with_reducible refine HT.out.mono ?_); rintro ev w1 ⟨⟨r, rfl, hr⟩, rfl⟩; have HR1 := Lib.hid hr; clear hr)
      go_ret2
      exact ⟨⟨_, _, rfl, HR1.out, HRZ.out⟩, HG.out⟩

theorem rn_len {w : World} {v : Value} {n : Nat} (h : RN w v n) : ∃ a c, v = .slice a (Dg.digs n).length c := by
  unfold RN at h
  exact h.slice
theorem digs_len_pos (n : Nat) (h : 0 < n) : 0 < (Dg.digs n).length := by
  rw [Dg.digs_pos n h]; exact Nat.succ_pos _
set_option maxRecDepth 100000 in
set_option maxHeartbeats 4000000 in
/-- The reference's Gcd. -/
theorem rgcd_calls (x y : Value) (a b : Nat) (w : World) (hx : RN w x a) (hy : RN w y b) (k : Nat) (hka : a < Dg.D ^ k) (hkb : b < Dg.D ^ k) (hk : k ≤ 10000) (hk1 : 1 ≤ k) :
    Calls Tryz.prog 93 #[x, y] w fun e w' => (∃ r, e = .returned r ∧ RN w' r (Nat.gcd a b)) ∧ Gr w w' := by
  have HX := Lib.hid hx
  have HY := Lib.hid hy
  have HK := Lib.hid (And.intro hka hkb)
  clear hx hy hka hkb
  go_enter Tryz.func93, Tryz.ntmps93
  go_wp2
  go_loopg [0, 1] b (fun n s0 s1 wr => ∃ (u v : Nat), n = v ∧ Hid (RN wr s0 u) ∧ Hid (RN wr s1 v) ∧ Hid (u < Dg.D ^ k ∧ v < Dg.D ^ k) ∧ Hid (Nat.gcd u v = Nat.gcd a b) ∧ Hid (Gr w wr))
  case atStart => exact ⟨a, b, rfl, HX, HY, HK, Lib.hid rfl, Lib.hid (Gr.rf w)⟩
  case round =>
    obtain ⟨u, v, hn, HU, HV, HB, HGC, HG⟩ := hrel
    have HN := Lib.hid hn
    clear hn
    obtain ⟨av, cv, hve⟩ := rn_len HV.out
    have HVE := Lib.hid hve
    rw [hve]
    clear hve
    by_cases hv0 : v = 0
    · have hl : (Dg.digs v).length = 0 := by rw [hv0, Dg.digs_zero]; rfl
      have HGE := Lib.hid (show Nat.gcd a b = u by rw [← HGC.out, hv0, Nat.gcd_zero_right])
      rw [hl]
      clear hl hv0
      go_wp2
      go_ret
      exact ⟨⟨_, rfl, by rw [HGE.out]; exact HU.out⟩, HG.out⟩
    · have hpos : 0 < v := Nat.pos_of_ne_zero hv0
      have hl := digs_len_pos v hpos
      have hd := rdiv_calls _ _ u v wr HU.out HV.out hpos k HB.out.1 HB.out.2 hk hk1
      rw [HVE.out] at hd
      have HD := Lib.hid hd
      have HVS : Hid (RN wr (.slice av (Dg.digs v).length cv) v) := Lib.hid (by rw [← HVE.out]; exact HV.out)
      generalize (Dg.digs v).length = lv at hl HD HVS HVE ⊢
      have b1 : decide ((0 : Int) < (lv : Int)) = true := decide_eq_true (by omega)
      have b1n : decide (0 < lv) = true := decide_eq_true hl
      have HP := Lib.hid hpos
      clear hd hv0 hpos
      go_wp2_with (go_at_call 84; (with_reducible refine HD.out.mono ?_); rintro ev w2 ⟨⟨q, r, rfl, hq, hr⟩, hg2⟩; have HR := Lib.hid hr; have HG2 := Lib.hid (HG.out.tr hg2); have HV2 := Lib.hid (HVS.out.gr hg2); clear hq hr hg2)
      go_roundg (u % v)
      case measure => have := HN.out; have := Nat.mod_lt u HP.out; omega
      case rel => exact ⟨v, u % v, rfl, HV2, HR, Lib.hid ⟨HB.out.2, Nat.lt_of_le_of_lt (Nat.mod_le _ _) HB.out.1⟩, Lib.hid (by rw [← HGC.out, Nat.gcd_comm u v, Nat.gcd_rec v u, Nat.gcd_comm]), HG2⟩
end
end Go.Proofs.YtcjjgdoafkdeaaaGreatDoor
