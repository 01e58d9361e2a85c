/- Layer 2's reference: Div, Gcd by contract. -/
import Derived.Test.YtglbdafcfcmffaaGreatDoorSe
import Derived.Test.YtglbdafcfcmffaaGreatDoorTc
namespace Go.Proofs.YtglbdafcfcmffaaGreatDoor
open Go.RowKit Go.Extern.Stop Go.Stop Go.Extern Go.Sort
set_option linter.unusedVariables false
set_option linter.unusedSimpArgs false

/-- A slice of one, laid by the function itself. -/
theorem own_one (w : World) (x : Nat) (t : TypeId) : (w.alloc (.cells #[.int .u64 (x : Int)] t)).ownsRow w.heap.size t 1 (.slice (some ⟨w.heap.size, 0, none⟩) 1 1) 1 [U x] :=
  ⟨rfl, .inr ⟨w.heap.size, 1, #[.int .u64 (x : Int)], rfl, Nat.le_refl _, heap_alloc_new w _, Nat.le_refl _, by decide, rfl, rfl⟩⟩
theorem lim_any {w : World} {x : Value} {p : List Nat} (h : Lim w x p) : (x = .slice none 0 0 ∧ p = []) ∨ ∃ g o c, x = .slice (some ⟨g, o, none⟩) p.length c ∧ g < w.heap.size ∧ ∀ j u, (p.map U)[j]? = some u → w.cell? ((⟨g, o, none⟩ : Addr).add j) = some u := by
  rcases h.2 with h | ⟨g, o, c, h1, _, _, hg, h5⟩
  · exact .inl h
  · refine .inr ⟨g, o, c, h1, hg, fun j u hj => ?_⟩
    have hl := (List.getElem?_eq_some_iff.1 hj).1
    have hl' : j < p.length := by simpa using hl
    rw [Go.WideShapes.add_plain, h5 j hl']
    rw [List.getElem?_map, List.getElem?_eq_getElem hl'] at hj
    exact hj
theorem cons_limbs {d : Nat} {p : List Nat} (hd : d < Dg.D) (hp : Dg.Limbs p) : Dg.Limbs (d :: p) := fun x hx => by
  rcases List.mem_cons.1 hx with h | h
  · rw [h]; exact hd
  · exact hp x h

theorem rn_own {w : World} {g n m c : Nat} {F : Nat → Nat} {T : Nat} (h : OwnF w g n F) (hm : m ≤ n) (hc : m ≤ c) (hc2 : c ≤ 9223372036854775807) (hF : ∀ j, F j < Dg.D) (hn : m = 0 ∨ F (m - 1) ≠ 0) (hv : rv Dg.D F m = T) : RN w (.slice (some ⟨g, 0, none⟩) m c) T := by
  refine RN.mk (h.lim 0 m c (fun j _ => Nat.lt_trans (hF _) (by decide)) (by omega) hc hc2) (fun x hx => ?_) ?_ ?_
  · obtain ⟨j, _, rfl⟩ := List.mem_map.1 hx
    exact hF _
  · have e : ((List.range m).map fun j => F (0 + j)) = (List.range m).map F := List.map_congr_left fun j _ => by rw [Nat.zero_add]
    rw [e]
    unfold Norm
    cases m with
    | zero => simp
    | succ m =>
      rw [List.range_succ, List.map_append, List.map_cons, List.map_nil, List.getLast?_concat]
      intro e2
      injection e2 with e2
      rcases hn with h | h
      · omega
      · exact h e2
  · rw [← hv, Dg.rv_val]
    exact rv_congr _ fun j _ => by rw [Nat.zero_add]
set_option maxRecDepth 100000 in
set_option maxHeartbeats 2000000 in
/-- trim at digits of a block: the slice's own memory is kept. -/
theorem rtrimOwn_calls (g c n N : Nat) (F : Nat → Nat) (w : World) (h : OwnF w g N F) (hN : n ≤ N) (hn : n ≤ 1000000) (hc : n ≤ c) :
    Calls Tryz.prog 124 #[.slice (some ⟨g, 0, none⟩) n c] w fun e w' => (∃ m, m ≤ n ∧ (m = 0 ∨ F (m - 1) ≠ 0) ∧ rv Dg.D F m = rv Dg.D F n ∧ e = .returned (.slice (some ⟨g, 0, none⟩) m c)) ∧ w = w' := by
  have HC := Lib.hid h
  clear h
  go_enter Tryz.func124, Tryz.ntmps124
  go_wp2
  go_loopg [0] n (fun k v wr => k ≤ n ∧ v = .slice (some ⟨g, 0, none⟩) k c ∧ Hid (rv Dg.D F k = rv Dg.D F n) ∧ w = wr)
  case atStart => exact ⟨Nat.le_refl _, rfl, Lib.hid rfl, rfl⟩
  case round =>
    obtain ⟨hk, rfl, HV, rfl⟩ := hrel
    by_cases h0 : 0 < gk
    · obtain ⟨j, rfl⟩ : ∃ j, gk = j + 1 := ⟨gk - 1, by omega⟩
      have hc := HC.out.cell (i := j) (by omega)
      have hji : ((j + 1 : Nat) : Int) - 1 = (j : Int) := by omega
      have hjn : (j : Int).toNat = j := by omega
      have hpos : decide ((0 : Int) < ((j + 1 : Nat) : Int)) = true := decide_eq_true (by omega)
      by_cases hx : F j = 0
      · have HX := Lib.hid hx
        rw [hx, show ((0 : Nat) : Int) = 0 from rfl] at hc
        clear hx
        go_wp2
        go_roundg j
        case measure => omega
        case rel => exact ⟨by omega, by first | rfl | go_num, Lib.hid (by rw [← HV.out, rv_succ, HX.out, Nat.mul_zero, Nat.add_zero]), rfl⟩
      · have hb : ((F j : Int) == 0) = false := beq_eq_false_iff_ne.2 (by omega)
        have HX := Lib.hid hx
        clear hx
        generalize hf : F j = x at *
        have HF := Lib.hid hf
        clear hf
        go_wp2
        go_ret
        exact ⟨⟨j + 1, hk, .inr (by rw [Nat.add_sub_cancel, HF.out]; exact HX.out), HV.out, rfl⟩, rfl⟩
    · obtain rfl : gk = 0 := by omega
      go_wp2
      go_ret
      exact ⟨⟨0, by omega, .inl rfl, HV.out, rfl⟩, rfl⟩

set_option maxRecDepth 100000 in
set_option maxHeartbeats 8000000 in
/-- The reference's Div. -/
theorem rdiv_calls (x y : Value) (a c : Nat) (w : World) (hx : RN w x a) (hy : RN w y c) (hc : 0 < c) (k : Nat) (hka : a < Dg.D ^ k) (hkc : c < Dg.D ^ k) (hk : k ≤ 10000) (hk1 : 1 ≤ k) :
    Calls Tryz.prog 67 #[x, y] w fun e w' => (∃ q r, e = .returned (.tuple #[q, r]) ∧ RN w' q (a / c) ∧ RN w' r (a % c)) ∧ Gr w w' := by
  obtain ⟨i0, hi, hz0, hz1, hz2⟩ := info_parts info45
  have hla := Dg.digs_len a k hka
  have HX := Lib.hid hx
  have HY := Lib.hid hy
  have hlim := hx
  unfold RN at hlim
  obtain ⟨xa, xc, rfl⟩ := hlim.slice
  have HP := Lib.hid hlim
  have HPL := Lib.hid (Dg.digs_limbs a)
  have HDG := Lib.hid (fun i => Dg.digs_get a i)
  have HAL := Lib.hid (show a < Dg.D ^ (Dg.digs a).length by have h := Dg.val_lt _ (Dg.digs_limbs a); rwa [Dg.val_digs] at h)
  have HC := Lib.hid hc
  have HKC := Lib.hid hkc
  have HKA := Lib.hid hka
  generalize Dg.digs a = p at *
  have hmk := makeN p.length (by omega)
  clear hx hy hlim hc hka hkc
  go_enter Tryz.func67, Tryz.ntmps67
  go_wp2
  clear hmk
  go_loopg [6, 8] p.length (fun n sr si wr => ∃ F : Nat → Nat, n ≤ p.length ∧ si = .int .i64 ((n : Int) - 1) ∧ Hid (RN wr sr (a / Dg.D ^ n % c)) ∧ Hid (p.length = 0 ∨ OwnF wr w.heap.size p.length F) ∧ Hid (w.heap.size + 1 ≤ wr.heap.size) ∧ Hid (∀ j, F j < Dg.D) ∧ Hid (∀ j, n ≤ j → j < p.length → F j = a / c / Dg.D ^ j % Dg.D) ∧ Hid (Gr w wr))
  case atStart => exact ⟨fun _ => 0, Nat.le_refl _, by first | rfl | go_num, Lib.hid (by
      rw [Nat.div_eq_of_lt HAL.out, Nat.zero_mod]
      exact digs_nil ⟨fun x hx => (by cases hx), .inl ⟨rfl, rfl⟩⟩), Lib.hid (by
      rcases Nat.eq_zero_or_pos p.length with h | h
      · exact .inl h
      · exact .inr ((rowU_made w _).own h)), Lib.hid (by simp), Lib.hid (fun _ => Dg.D_pos), Lib.hid (fun j h1 h2 => absurd h2 (by omega)), Lib.hid ((Gr.rf w).alloc (Nat.le_refl _) _)⟩
  case round =>
    obtain ⟨F, hn, rfl, HR, HO, HGZ, HFD, HFE, HG⟩ := hrel
    by_cases h0 : 0 < gk
    · obtain ⟨j, rfl⟩ : ∃ j, gk = j + 1 := ⟨gk - 1, by omega⟩
      have hji : ((j + 1 : Nat) : Int) - 1 = (j : Int) := by omega
      have hjn : (j : Int).toNat = j := by omega
      rw [hji]
      have HOO := Lib.hid (HO.out.resolve_left (by omega))
      obtain ⟨g1, o1, c1, e1, hcx⟩ := HP.out.get HG.out j (by omega)
      cases e1
      have hd9 := Dg.getD_lt HPL.out j
      have hdg := HDG.out j
      obtain ⟨d1, d2, d3⟩ := Dg.div_digit a c j HC.out
      rw [← hdg] at d1 d2 d3
      generalize p.getD j 0 = d at *
      have hrl := HR.out
      unfold RN at hrl
      have hrd := Dg.digs_limbs (a / Dg.D ^ (j + 1) % c)
      have hrv := Dg.val_digs (a / Dg.D ^ (j + 1) % c)
      have hrk := Dg.digs_len (a / Dg.D ^ (j + 1) % c) k (Nat.lt_trans (Nat.mod_lt _ HC.out) HKC.out)
      generalize hrr : Dg.digs (a / Dg.D ^ (j + 1) % c) = r at hrl hrd hrv hrk
      have hTV : Dg.val (d :: r) = d + Dg.D * (a / Dg.D ^ (j + 1) % c) := by rw [Dg.val_cons, hrv]
      have HTV := Lib.hid hTV
      have HTL := Lib.hid (cons_limbs hd9 hrd)
      have D1 := Lib.hid d1
      have D2 := Lib.hid d2
      have D3 := Lib.hid d3
      have hany := lim_any hrl
      have hdB : d < B := Nat.lt_trans hd9 (by decide)
      have hsz := HG.out.size
      clear hji hdg d1 d2 d3 hrr hTV hrl hrd hrv hd9
      rcases hany with ⟨rfl, hrn⟩ | ⟨gr, or, cr, rfl, hgr, hcr⟩
      case' inl =>
        have hTV1 : Dg.val [d] = d + Dg.D * (a / Dg.D ^ (j + 1) % c) := by rw [← HTV.out, hrn]
        have hTL1 : Dg.Limbs [d] := by have h := HTL.out; rw [hrn] at h; exact h
        clear HTV HTL hrn
        go_wp2_with (at_builtin; refine wpList_append_own_none rfl _ _ 48 rfl wr.heap.size 60 i0 1 underN hi _ 1 [U d] rfl (own_one wr d _) rfl ?_)
        obtain ⟨gg, cg, hge, hgg, hcg1, hcg2, hOG⟩ := ownF_of (l := [d]) (own_one wr d 60) (by decide)
        have HGA := Lib.hid (show Gr wr (wr.alloc (.cells #[.int .u64 (d : Int)] 60)) from (Gr.rf wr).alloc (Nat.le_refl _) _)
        rw [hge]
        have HVT := Lib.hid ((Dg.rv_list [d] 1 (by simp)).trans hTV1)
        have HLD := Lib.hid (Dg.getD_lt hTL1)
        have hN : 1 ≤ 100000 := by decide
        generalize wr.alloc (.cells #[.int .u64 (d : Int)] 60) = w2 at hOG HGA ⊢
        obtain ⟨F9, hF9⟩ : ∃ F9 : Nat → Nat, F9 = ([d].getD · 0) := ⟨_, rfl⟩
        rw [← hF9] at HVT hOG
        have HLD9 : Hid (∀ j, F9 j < Dg.D) := Lib.hid (by rw [hF9]; exact HLD.out)
        clear hge hTV1 hTL1 hF9 HLD
      case' inr =>
        go_wp2_with (at_builtin; refine wpList_append_own _ rfl _ _ 48 rfl wr.heap.size 60 i0 (.int .u64 0) 1 8 underN hi hz0 hz1 hz2 rfl (by decide) _ 1 [U d] rfl (own_one wr d _) ⟨gr, or, none⟩ r.length cr (r.map U) rfl (by simp) (fun j u h => (((Gr.rf wr).alloc (Nat.le_refl _) _).cell (by rw [Go.WideShapes.add_plain]; exact hgr)).trans (hcr j u h)) (fun u hu => by obtain ⟨z, _, rfl⟩ := List.mem_map.1 hu; rfl) (by simp only [maxLen]; omega) (by omega) (by simp) ?_; intro v' w2 hown hgrow _; obtain ⟨gg, cg, rfl, hgg, hcg1, hcg2, hOG⟩ := ownF_of (l := d :: r) (by rw [List.map_cons]; exact hown) (by omega); have HGA := Lib.hid (show Gr wr w2 from Below.grown ((Gr.rf wr).alloc (Nat.le_refl _) _) hgrow (by simp) (fun j hj => by cases hj; exact Nat.le_refl _)); clear hown hgrow)
        have HVT := Lib.hid ((Dg.rv_list (d :: r) (1 + r.length) (by rw [List.length_cons]; omega)).trans HTV.out)
        have HLD := Lib.hid (Dg.getD_lt HTL.out)
        have hN : 1 + r.length ≤ 100000 := by omega
        obtain ⟨F9, hF9⟩ : ∃ F9 : Nat → Nat, F9 = ((d :: r).getD · 0) := ⟨_, rfl⟩
        rw [← hF9] at HVT hOG
        have HLD9 : Hid (∀ j, F9 j < Dg.D) := Lib.hid (by rw [hF9]; exact HLD.out)
        clear hF9 HLD
      all_goals
        have HT := Lib.hid (rtrimOwn_calls gg cg _ _ F9 w2 hOG (Nat.le_refl _) (by omega) hcg1)
        have HOG := Lib.hid hOG
        clear hOG
        generalize htt : d + Dg.D * (a / Dg.D ^ (j + 1) % c) = T at *
        have HG2 := Lib.hid (HG.out.tr HGA.out)
        have HO2 := Lib.hid (HOO.out.gr HGA.out)
        go_wp2_with fail
        refine HT.out.mono ?_
        rintro ev w3 ⟨⟨m, hm1, hm2, hm3, rfl⟩, rfl⟩
        have HM := Lib.hid (And.intro hm2 (hm3.trans HVT.out))
        have HRA := Lib.hid (fun W (h : OwnF W gg _ F9) => rn_own h hm1 (by omega) hcg2 HLD9.out HM.out.1 HM.out.2)
        have HR3 := Lib.hid (HRA.out w2 HOG.out)
        clear hm2 hm3
        have hTk : T < Dg.D ^ (k + 1) := by
          have h1 := D1.out
          have h2 : Dg.D * c < Dg.D * Dg.D ^ k := Nat.mul_lt_mul_of_pos_left HKC.out Dg.D_pos
          rw [Nat.pow_succ, Nat.mul_comm (Dg.D ^ k)]
          omega
        have hck : c < Dg.D ^ (k + 1) := Nat.lt_of_lt_of_le HKC.out (Nat.pow_le_pow_right Dg.D_pos (by omega))
        have HTK := Lib.hid hTk
        have HCK := Lib.hid hck
        clear hTk hck
        have HMO := Lib.hid (rmost_calls _ _ T c w2 HR3.out (HY.out.gr HG2.out) HC.out D1.out (k + 1) HTK.out HCK.out (by omega) (by omega))
        go_wp2_with fail
        refine HMO.out.mono ?_
        rintro ev w4 ⟨rfl, hg4⟩
        have hqD : T / c < Dg.D := (Nat.div_lt_iff_lt_mul HC.out).2 D1.out
        have hd2 := D2.out
        have hd3 := D3.out
        have hsm := Dg.sub_mod T c
        have hml : c * (T / c) ≤ T := Nat.mul_div_le T c
        generalize hqq : T / c = qd at *
        have HO4 := Lib.hid (HO2.out.gr hg4)
        have HOG4 := Lib.hid (HOG.out.gr hg4)
        have HG4 := Lib.hid (HG2.out.tr hg4)
        have HR4 := Lib.hid (HR3.out.gr hg4)
        have hcell := HO4.out.cell (i := j) (by omega)
        have hfr := HO4.out.frozen j
        have HO5 := Lib.hid (HO4.out.set j qd)
        have HG5 := Lib.hid (HG4.out.setCell (a := ⟨w.heap.size, j, none⟩) (Nat.le_refl _) (.int .u64 (qd : Int)))
        have HR5 := Lib.hid (HRA.out _ (HOG4.out.setOther ⟨w.heap.size, j, none⟩ (.int .u64 (qd : Int)) (by show gg ≠ w.heap.size; have := HG.out.size; have := HOO.out.lt; omega)))
        have hcell5 := HO5.out.cell (i := j) (by omega)
        try dsimp only at hcell5
        rw [if_pos rfl] at hcell5
        have HQD := Lib.hid hqD
        have HD2 := Lib.hid hd2
        have HD3 := Lib.hid hd3
        have HSM := Lib.hid hsm
        have HML := Lib.hid hml
        generalize hfo : F j = old at hcell
        clear hg4 hqD hd2 hd3 hsm hml hqq hfo
        have HOF := Lib.hid (fun w' => ofU_calls qd (Nat.lt_trans HQD.out (by decide)) w')
        go_wp2_with fail
        refine (HOF.out _).mono ?_
        rintro ev w6 ⟨⟨r6, rfl, hr6⟩, hg6⟩
        have HMU := Lib.hid (rmul_calls _ _ c qd w6 (HY.out.gr (HG5.out.tr hg6)) hr6 (k + 1) HCK.out (Nat.lt_of_lt_of_le HQD.out (by
          calc Dg.D = Dg.D ^ 1 := (Nat.pow_one _).symm
            _ ≤ Dg.D ^ (k + 1) := Nat.pow_le_pow_right Dg.D_pos (by omega))) (by omega))
        have HG6 := Lib.hid (HG5.out.tr hg6)
        have HR6 := Lib.hid (HR5.out.gr hg6)
        have HO6 := Lib.hid (HO5.out.gr hg6)
        clear hr6 hg6
        go_wp2_with fail
        refine HMU.out.mono ?_
        rintro ev w7 ⟨⟨r7, rfl, hr7⟩, hg7⟩
        have HSU := Lib.hid (rsub_calls _ _ T (c * qd) w7 (HR6.out.gr hg7) hr7 HML.out (k + 1) HTK.out (by omega))
        have HG7 := Lib.hid (HG6.out.tr hg7)
        have HO7 := Lib.hid (HO6.out.gr hg7)
        clear hr7 hg7
        rw [HSM.out, HD3.out] at HSU
        go_wp2_with fail
        refine HSU.out.mono ?_
        rintro ev w8 ⟨⟨r8, rfl, hr8⟩, hg8⟩
        have HR8 := Lib.hid hr8
        have HG8 := Lib.hid (HG7.out.tr hg8)
        have HO8 := Lib.hid (HO7.out.gr hg8)
        clear hr8 hg8
        go_wp2
        go_roundg j
        case measure => omega
        case rel => exact ⟨(fun i => if i = j then qd else F i), by omega, by first | rfl | go_num, HR8, Lib.hid (.inr HO8.out), Lib.hid HO8.out.lt, Lib.hid (fun i => by dsimp only; split; exact HQD.out; exact HFD.out i), Lib.hid (fun i h1 h2 => by
          dsimp only
          by_cases e : i = j
          · rw [if_pos e, e]; exact HD2.out
          · rw [if_neg e]; exact HFE.out i (by omega) h2), HG8⟩
    · obtain rfl : gk = 0 := by omega
      have hqv : rv Dg.D F p.length = a / c := by
        rw [rv_digit Dg.D (a / c) p.length F (fun j hj => HFE.out j (by omega) hj), Nat.mod_eq_of_lt]
        exact Nat.lt_of_le_of_lt (Nat.div_le_self _ _) HAL.out
      have hrz : ∀ sr, RN wr sr (a / Dg.D ^ 0 % c) → RN wr sr (a % c) := fun sr h => by rwa [Nat.pow_zero, Nat.div_one] at h
      have HRZ := Lib.hid (hrz _ HR.out)
      have HQV := Lib.hid hqv
      have hT : Calls Tryz.prog 124 #[.slice (some ⟨w.heap.size, 0, none⟩) p.length p.length] wr fun e w' => (∃ r, e = .returned r ∧ RN w' r (a / c)) ∧ wr = w' := by
        rcases HO.out with h | h
        · have hpn : p = [] := List.eq_nil_of_length_eq_zero h
          subst hpn
          have hac : a / c = 0 := by rw [← hqv]; rfl
          rw [hac]
          exact rtrim_calls _ [] wr ⟨fun x hx => (by cases hx), .inr ⟨w.heap.size, 0, 0, rfl, Nat.le_refl _, by decide, Nat.lt_of_lt_of_le (by simp) HGZ.out, fun i hi => absurd hi (by simp)⟩⟩ (fun x hx => by cases hx) (by simp)
        · refine (rtrimOwn_calls w.heap.size p.length p.length p.length F wr h (Nat.le_refl _) (by omega) (Nat.le_refl _)).mono ?_
          rintro e w' ⟨⟨m, hm1, hm2, hm3, rfl⟩, rfl⟩
          exact ⟨⟨_, rfl, rn_own h hm1 hm1 (by omega) HFD.out hm2 (hm3.trans hqv)⟩, rfl⟩
      have HT := Lib.hid hT
      clear hqv hrz hT
      go_wp2_with (go_at_call 124; (with_reducible refine HT.out.mono ?_); rintro ev w1 ⟨⟨r, rfl, hr⟩, rfl⟩; have HR1 := Lib.hid hr; clear hr)
      go_ret2
      exact ⟨⟨_, _, rfl, HR1.out, HRZ.out⟩, HG.out⟩

theorem rn_len {w : World} {v : Value} {n : Nat} (h : RN w v n) : ∃ a c, v = .slice a (Dg.digs n).length c := by
  unfold RN at h
  exact h.slice
theorem digs_len_pos (n : Nat) (h : 0 < n) : 0 < (Dg.digs n).length := by
  rw [Dg.digs_pos n h]; exact Nat.succ_pos _
set_option maxRecDepth 100000 in
set_option maxHeartbeats 4000000 in
/-- The reference's Gcd. -/
theorem rgcd_calls (x y : Value) (a b : Nat) (w : World) (hx : RN w x a) (hy : RN w y b) (k : Nat) (hka : a < Dg.D ^ k) (hkb : b < Dg.D ^ k) (hk : k ≤ 10000) (hk1 : 1 ≤ k) :
    Calls Tryz.prog 70 #[x, y] w fun e w' => (∃ r, e = .returned r ∧ RN w' r (Nat.gcd a b)) ∧ Gr w w' := by
  have HX := Lib.hid hx
  have HY := Lib.hid hy
  have HK := Lib.hid (And.intro hka hkb)
  clear hx hy hka hkb
  go_enter Tryz.func70, Tryz.ntmps70
  go_wp2
  go_loopg [0, 1] b (fun n s0 s1 wr => ∃ (u v : Nat), n = v ∧ Hid (RN wr s0 u) ∧ Hid (RN wr s1 v) ∧ Hid (u < Dg.D ^ k ∧ v < Dg.D ^ k) ∧ Hid (Nat.gcd u v = Nat.gcd a b) ∧ Hid (Gr w wr))
  case atStart => exact ⟨a, b, rfl, HX, HY, HK, Lib.hid rfl, Lib.hid (Gr.rf w)⟩
  case round =>
    obtain ⟨u, v, hn, HU, HV, HB, HGC, HG⟩ := hrel
    have HN := Lib.hid hn
    clear hn
    obtain ⟨av, cv, hve⟩ := rn_len HV.out
    have HVE := Lib.hid hve
    rw [hve]
    clear hve
    by_cases hv0 : v = 0
    · have hl : (Dg.digs v).length = 0 := by rw [hv0, Dg.digs_zero]; rfl
      have HGE := Lib.hid (show Nat.gcd a b = u by rw [← HGC.out, hv0, Nat.gcd_zero_right])
      rw [hl]
      clear hl hv0
      go_wp2
      go_ret
      exact ⟨⟨_, rfl, by rw [HGE.out]; exact HU.out⟩, HG.out⟩
    · have hpos : 0 < v := Nat.pos_of_ne_zero hv0
      have hl := digs_len_pos v hpos
      have hd := rdiv_calls _ _ u v wr HU.out HV.out hpos k HB.out.1 HB.out.2 hk hk1
      rw [HVE.out] at hd
      have HD := Lib.hid hd
      have HVS : Hid (RN wr (.slice av (Dg.digs v).length cv) v) := Lib.hid (by rw [← HVE.out]; exact HV.out)
      generalize (Dg.digs v).length = lv at hl HD HVS HVE ⊢
      have b1 : decide ((0 : Int) < (lv : Int)) = true := decide_eq_true (by omega)
      have b1n : decide (0 < lv) = true := decide_eq_true hl
      have HP := Lib.hid hpos
      clear hd hv0 hpos
      go_wp2_with (go_at_call 67; (with_reducible refine HD.out.mono ?_); rintro ev w2 ⟨⟨q, r, rfl, hq, hr⟩, hg2⟩; have HR := Lib.hid hr; have HG2 := Lib.hid (HG.out.tr hg2); have HV2 := Lib.hid (HVS.out.gr hg2); clear hq hr hg2)
      go_roundg (u % v)
      case measure => have := HN.out; have := Nat.mod_lt u HP.out; omega
      case rel => exact ⟨v, u % v, rfl, HV2, HR, Lib.hid ⟨HB.out.2, Nat.lt_of_le_of_lt (Nat.mod_le _ _) HB.out.1⟩, Lib.hid (by rw [← HGC.out, Nat.gcd_comm u v, Nat.gcd_rec v u, Nat.gcd_comm]), HG2⟩
end Go.Proofs.YtglbdafcfcmffaaGreatDoor
